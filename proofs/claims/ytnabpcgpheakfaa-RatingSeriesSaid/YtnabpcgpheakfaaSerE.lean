/- RatingSeries: the walk where all is allowed. -/
import Derived.Test.YtnabpcgpheakfaaSerC
namespace Go.Proofs.Ytnabpcgpheakfaa
open Go.RowKit Plain
set_option linter.unusedVariables false
set_option linter.unusedSimpArgs false

set_option maxRecDepth 100000 in
set_option maxHeartbeats 2000000 in
theorem ser6_ok_eq (v gv sv : Value) (f : Int) (xs : List Int) (rows : List (List Int)) (scs : List Int) (w : World) (hs : Seg w .i64 v xs) (hg : SRow [.i64, .i64] w gv rows) (hc : Seg w .i64 sv scs) (l1 : xs.length ≤ 20) (l2 : rows.length ≤ 60) (l3 : scs.length ≤ 60) (hf0 : 1 ≤ f) (hf : f ≤ 64) (q : rows.length = scs.length) : Calls Try.prog 6 #[v, .int .i64 f, gv, sv] w fun e w' => e = .returned (.bool true) ∧ Below w.heap.size w w' := by
  obtain ⟨m1, a1, c1, rfl, f1⟩ := seg_form hs
  obtain ⟨m2, a2, c2, rfl, f2⟩ := srow_form hg
  obtain ⟨m3, a3, c3, rfl, f3⟩ := seg_form hc
  have HSX := Lib.hid hs
  have HGX := Lib.hid hg
  have F2 := Lib.hid f2
  have F3 := Lib.hid f3
  have HCX := Lib.hid hc
  clear hs hg hc f1 f2 f3

  have HFB : Hid (fB f = true) := Lib.hid (by simp [fB] <;> omega)
  have q1 : ((rows.length : Int) != (scs.length : Int)) = false := by simp; omega
  obtain ⟨b0, hb0⟩ : ∃ b0, b0 = decide (rows.length ≠ scs.length) := ⟨_, rfl⟩
  have HB0 : Hid (b0 = false) := Lib.hid (by rw [hb0]; simp; omega)
  have HQ := Lib.hid q
  obtain ⟨N1, hN1⟩ : ∃ N1, N1 = sel (xs.any fun z => !vB z) 3 0 := ⟨_, rfl⟩
  obtain ⟨N2, hN2⟩ : ∃ N2, N2 = sel (!fB f || scs.any (fun s => !sB s)) 3 N1 := ⟨_, rfl⟩
  obtain ⟨N3, hN3⟩ : ∃ N3, N3 = sel (b0 || rows.any (badR xs.length)) 2 N2 := ⟨_, rfl⟩
  have HNO : Hid (serNo f xs rows scs = N3) := Lib.hid (by rw [hN3, hN2, hN1, hb0]; rfl)
  have HN1 := Lib.hid hN1
  have HN2 := Lib.hid hN2
  have HN3 := Lib.hid hN3
  clear q hb0 hN1 hN2 hN3
  go_enter Try.func6, Try.ntmps6
  go_wp2_with (at_builtin; refine wpList_copy_out rfl _ _ rfl rfl _ xs rfl HSX.out (by omega) ?_; intro v1 w1 ho_w1 hb_w1)
  have S1 := Lib.hid ho_w1.seg
  clear ho_w1
  have z1 := hb_w1.size
  go_wp2_with fail
  with_reducible refine (series19_all v1 _ _ f xs rows scs _ S1.out (HGX.out.below hb_w1) (HCX.out.below hb_w1) (by omega) (by omega)).mono ?_
  rintro e w2 ⟨ov, rfl, hne, heq, hb_w2⟩
  rw [HNO.out] at hne heq ⊢
  have z2 := hb_w2.size
  have HNE := Lib.hid hne
  have HEQ := Lib.hid heq
  clear hne heq
  replace S1 := Lib.hid (S1.out.below hb_w2)
  replace hb_w2 := below_via hb_w1 hb_w2
  clear hb_w1
  go_wp2_with fail
  with_reducible refine (ints20t v1 _ xs xs _ S1.out (HSX.out.below hb_w2) rfl).mono ?_
  rintro e w3 ⟨rfl, hb_w3⟩
  replace HEQ : Hid (N3 = 0 → Out w3 w1.heap.size ov (plK f xs rows scs rows.length)) := Lib.hid (fun h => (HEQ.out h).below hb_w3)
  replace hb_w3 := below_via hb_w2 hb_w3
  have z3 := hb_w3.size
  clear hb_w2 S1
  go_wp2_with (at_builtin; refine wpList_copy_out rfl _ _ rfl rfl _ xs rfl (HSX.out.below hb_w3) (by omega) ?_; intro v3 w4 ho_w4 hb_w4)
  obtain ⟨a4, c4, rfl⟩ := ho_w4.form
  have HO := Lib.hid ho_w4
  have z4 := hb_w4.size
  clear ho_w4
  go_wp2_with fail
  go_loop [12, 14] (fun n i => R1 xs n i) (fun _ i => xs.length - (intOf i).toNat)
  case atStart => exact ⟨0, Nat.zero_le _, rfl, rfl⟩
  case round =>
    obtain ⟨k, hk, rfl, rfl⟩ := hrel
    by_cases hlt : k < xs.length
    · obtain ⟨g, ex, rfl, hg1, hg2, hg3, _⟩ := HO.out.get (by omega)
      obtain ⟨z, hz⟩ : ∃ z, xs[k]? = some z := ⟨xs[k], List.getElem?_eq_getElem hlt⟩
      have e1 := hg3.cell hz
      have i1 : (0 : Int) ≤ (k : Int) := by omega
      have i2 : (k : Int) < (xs.length : Int) := by omega
      have HA := Lib.hid (any_snoc (f := fun z => !vB z) hz)
      clear hg3 hz
      go_wp2_with fail
      with_reducible refine (valid9 z _).mono ?_
      rintro e w' ⟨rfl, rfl⟩
      cases hv : vB z
      · have HS := Lib.hid (sel_true (b := (xs.take (k + 1)).any fun z => !vB z) (c := 3) (d := 0) (by rw [HA.out]; simp [hv]))
        go_wp2_with fail
        go_round
        case rel => exact ⟨k + 1, by omega, by go_num, val_int HS.out.symm⟩
        case measure => simp [intOf]; omega
      · have HS := Lib.hid (sel_same (b := (xs.take (k + 1)).any fun z => !vB z) (b' := (xs.take k).any fun z => !vB z) (c := 3) (d := 0) (by rw [HA.out]; simp [hv]))
        go_wp2_with fail
        go_round
        case rel => exact ⟨k + 1, by omega, by go_num, val_int HS.out.symm⟩
        case measure => simp [intOf]; omega
    · have hx : sel ((xs.take k).any fun z => !vB z) 3 0 = N1 := by rw [HN1.out, List.take_of_length_le (by omega)]
      have hn1 : decide ((k : Int) < (xs.length : Int)) = false := by simp; omega
      rw [hx]
      clear hx
      go_wp2_with fail
      go_loop [12, 15] (fun n i => R2 f scs N1 n i) (fun _ i => scs.length - (intOf i).toNat)
      case atStart => exact ⟨0, Nat.zero_le _, rfl, val_int (by rw [HFB.out]; rfl)⟩
      case round =>
        clear hn1 hk hlt
        obtain ⟨k, hk, rfl, rfl⟩ := hrel
        by_cases hlt : k < scs.length
        · obtain ⟨b3, o3, rfl, hb3, hc3⟩ := F3.out (by omega)
          obtain ⟨sc, hs⟩ : ∃ sc, scs[k]? = some sc := ⟨scs[k], List.getElem?_eq_getElem hlt⟩
          have e3 := (hb_w4.cell (p := ⟨b3, o3 + k, none⟩) (by show b3 < _; omega)).trans ((hb_w3.cell (p := ⟨b3, o3 + k, none⟩) hb3).trans (hc3 k sc hs))
          have i1 : (0 : Int) ≤ (k : Int) := by omega
          have i2 : (k : Int) < (scs.length : Int) := by omega
          have HA := Lib.hid (any_snoc (f := fun s => !sB s) hs)
          clear hc3 hs
          by_cases u1 : sc < 0
          · have HS := Lib.hid (sel_true (b := !fB f || (scs.take (k + 1)).any fun s => !sB s) (c := 3) (d := N1) (by rw [HA.out]; simp [sB]; omega))
            go_wp2_with fail
            go_round
            case rel => exact ⟨k + 1, by omega, by go_num, val_int HS.out.symm⟩
            case measure => simp [intOf]; omega
          · by_cases u2 : 2 < sc
            · have HS := Lib.hid (sel_true (b := !fB f || (scs.take (k + 1)).any fun s => !sB s) (c := 3) (d := N1) (by rw [HA.out]; simp [sB]; omega))
              go_wp2_with fail
              go_round
              case rel => exact ⟨k + 1, by omega, by go_num, val_int HS.out.symm⟩
              case measure => simp [intOf]; omega
            · have HS := Lib.hid (sel_same (b := !fB f || (scs.take (k + 1)).any fun s => !sB s) (b' := !fB f || (scs.take k).any fun s => !sB s) (c := 3) (d := N1) (by rw [HA.out, show sB sc = true by simp [sB]; omega]; simp))
              go_wp2_with fail
              go_round
              case rel => exact ⟨k + 1, by omega, by go_num, val_int HS.out.symm⟩
              case measure => simp [intOf]; omega
        · have hx : sel (!fB f || (scs.take k).any fun s => !sB s) 3 N1 = N2 := by rw [HN2.out, List.take_of_length_le (by omega)]
          have hn1 : decide ((k : Int) < (scs.length : Int)) = false := by simp; omega
          rw [hx]
          clear hx
          go_wp2_with fail
          go_loopw [12, 16] (fun n i wr => R3 w3 b0 xs.length xs rows N2 (.slice a4 xs.length c4) n i wr) (fun _ i _ => rows.length - (intOf i).toNat)
          case atStart => exact ⟨0, Nat.zero_le _, rfl, val_int (by rw [HB0.out]; rfl), HO.out, hb_w4⟩
          case round =>
            clear hn1 hk hlt HO
            obtain ⟨k, hk, rfl, rfl, ho, hb⟩ := hrel
            have HO := Lib.hid ho
            have hzr := hb.size
            clear ho hb_w4 z4
            by_cases hlt : k < rows.length
            · obtain ⟨b2, o2, rfl, hb2, hc2⟩ := F2.out (by omega)
              obtain ⟨r, hr⟩ : ∃ r, rows[k]? = some r := ⟨rows[k], List.getElem?_eq_getElem hlt⟩
              obtain ⟨hrl, hcl⟩ := hc2 k r hr
              obtain ⟨x, y, rfl⟩ : ∃ x y, r = [x, y] := by
                match r, hrl with
                | [x, y], _ => exact ⟨x, y, rfl⟩
              have e1 := (hb.cell (p := ⟨b2, o2 + k * 2, none⟩) (by show b2 < _; omega)).trans ((hb_w3.cell (p := ⟨b2, o2 + k * 2, none⟩) hb2).trans (hcl 0 _ _ rfl rfl).1)
              have e2 := (hb.cell (p := ⟨b2, o2 + k * 2 + 1, none⟩) (by show b2 < _; omega)).trans ((hb_w3.cell (p := ⟨b2, o2 + k * 2 + 1, none⟩) hb2).trans (hcl 1 _ _ rfl rfl).1)
              have i1 : (0 : Int) ≤ (k : Int) := by omega
              have i2 : (k : Int) < (rows.length : Int) := by omega
              have HA := Lib.hid (any_snoc (f := badR xs.length) hr)
              have hg2 : Below wr.heap.size wr (wr.alloc (.cells #[.int .i64 x, .int .i64 y] 46)) := (Below.refl _ _).alloc (Nat.le_refl _) _
              have HO2 := Lib.hid (HO.out.below hg2)
              have hb5 := below_via hb hg2
              clear hc2 hr hcl hrl hg2
              by_cases u0 : x < 0
              · skip
                have HS := Lib.hid (sel_true (b := b0 || (rows.take (k + 1)).any (badR xs.length)) (c := 2) (d := N2) (by rw [HA.out, show badR xs.length [x, y] = true by simp [badR, dB, inB]; omega]; simp))
                go_wp2_with fail
                go_roundw
                case rel => exact ⟨k + 1, by omega, by go_num, val_int HS.out.symm, HO2.out, hb5⟩
                case measure => simp [intOf]; omega
              · skip
                by_cases u1 : (xs.length : Int) ≤ x
                · skip
                  have HS := Lib.hid (sel_true (b := b0 || (rows.take (k + 1)).any (badR xs.length)) (c := 2) (d := N2) (by rw [HA.out, show badR xs.length [x, y] = true by simp [badR, dB, inB]; omega]; simp))
                  go_wp2_with fail
                  go_roundw
                  case rel => exact ⟨k + 1, by omega, by go_num, val_int HS.out.symm, HO2.out, hb5⟩
                  case measure => simp [intOf]; omega
                · skip
                  by_cases u2 : y < 0
                  · skip
                    have HS := Lib.hid (sel_true (b := b0 || (rows.take (k + 1)).any (badR xs.length)) (c := 2) (d := N2) (by rw [HA.out, show badR xs.length [x, y] = true by simp [badR, dB, inB]; omega]; simp))
                    go_wp2_with fail
                    go_roundw
                    case rel => exact ⟨k + 1, by omega, by go_num, val_int HS.out.symm, HO2.out, hb5⟩
                    case measure => simp [intOf]; omega
                  · skip
                    by_cases u3 : (xs.length : Int) ≤ y
                    · skip
                      have HS := Lib.hid (sel_true (b := b0 || (rows.take (k + 1)).any (badR xs.length)) (c := 2) (d := N2) (by rw [HA.out, show badR xs.length [x, y] = true by simp [badR, dB, inB]; omega]; simp))
                      go_wp2_with fail
                      go_roundw
                      case rel => exact ⟨k + 1, by omega, by go_num, val_int HS.out.symm, HO2.out, hb5⟩
                      case measure => simp [intOf]; omega
                    · skip
                      by_cases u4 : x = y
                      · skip
                        have HS := Lib.hid (sel_true (b := b0 || (rows.take (k + 1)).any (badR xs.length)) (c := 2) (d := N2) (by rw [HA.out, show badR xs.length [x, y] = true by simp [badR, dB, inB]; omega]; simp))
                        have ue : (x == y) = true := by simpa using u4
                        clear u4
                        go_wp2_with fail
                        go_roundw
                        case rel => exact ⟨k + 1, by omega, by go_num, val_int HS.out.symm, HO2.out, hb5⟩
                        case measure => simp [intOf]; omega
                      · skip
                        have HS := Lib.hid (sel_same (b := b0 || (rows.take (k + 1)).any (badR xs.length)) (b' := b0 || (rows.take k).any (badR xs.length)) (c := 2) (d := N2) (by rw [HA.out, show badR xs.length [x, y] = false by simp [badR, dB, inB]; omega]; simp))
                        have ue : (x == y) = false := by simpa using u4
                        clear u4
                        go_wp2_with fail
                        go_roundw
                        case rel => exact ⟨k + 1, by omega, by go_num, val_int HS.out.symm, HO2.out, hb5⟩
                        case measure => simp [intOf]; omega
            · have hx : sel (b0 || (rows.take k).any (badR xs.length)) 2 N2 = N3 := by rw [HN3.out, List.take_of_length_le (by omega)]
              have hn1 : decide ((k : Int) < (rows.length : Int)) = false := by simp; omega
              rw [hx]
              clear hx
              by_cases h0 : N3 ≠ 0
              · skip
                have hov := HNE.out h0
                subst hov
                have h1 : (N3 != 0) = true := by simpa using h0
                clear h0
                go_wp2_with fail
                with_reducible refine (known11 _).mono ?_
                rintro e w' ⟨rfl, rfl⟩
                go_wp2_with fail
                go_returns
                exact ⟨rfl, below_via hb_w3 hb⟩
              · have h00 : N3 = 0 := by omega
                have HOV := Lib.hid (HEQ.out h00)
                obtain ⟨hk1, hk2, hk3⟩ : rows.any (badR xs.length) = false ∧ scs.any (fun s => !sB s) = false ∧ (xs.any fun z => !vB z) = false := by
                  have e2 := HN3.out
                  rw [h00, HN2.out, HN1.out] at e2
                  unfold sel at e2
                  cases p1 : rows.any (badR xs.length) <;> cases p2 : scs.any (fun s => !sB s) <;> cases p3 : (xs.any fun z => !vB z) <;> simp [p1, p2, p3] at e2 ⊢
                  all_goals (split at e2 <;> simp at e2)
                have HBAD := Lib.hid hk1
                have HSB := Lib.hid hk2
                have HV := Lib.hid hk3
                subst h00
                clear h0 hk1 hk2 hk3 HN1 HN2 HN3 HNE HEQ
                go_wp2_with fail
                go_loopw [18] (fun i wr => R4 w3 f xs rows scs (.slice a4 xs.length c4) i wr) (fun i _ => rows.length - (intOf i).toNat)
                case atStart => exact ⟨0, Nat.zero_le _, rfl, HO.out, hb⟩
                case round =>
                  clear hn1 hk hlt HO hb hzr
                  obtain ⟨k, hk, rfl, ho, hb⟩ := hrel
                  have hzr := hb.size
                  have HO := Lib.hid ho
                  clear ho
                  have hpl := plK_len f xs rows scs k
                  by_cases hlt : k < rows.length
                  · obtain ⟨b2, o2, rfl, hb2, hc2⟩ := F2.out (by omega)
                    obtain ⟨b3, o3, rfl, hb3, hc3⟩ := F3.out (by have := HQ.out; omega)
                    obtain ⟨r, hr⟩ : ∃ r, rows[k]? = some r := ⟨rows[k], List.getElem?_eq_getElem hlt⟩
                    obtain ⟨hrl, hcl⟩ := hc2 k r hr
                    obtain ⟨x, y, rfl⟩ : ∃ x y, r = [x, y] := by
                      match r, hrl with
                      | [x, y], _ => exact ⟨x, y, rfl⟩
                    have hnb : dB xs.length x y = false := by
                      have h0 := HBAD.out
                      rw [List.any_eq_false] at h0
                      have h1 := h0 _ (List.mem_of_getElem? hr)
                      simpa [badR] using h1
                    obtain ⟨A, B, rfl, rfl, hA, hB, hAB⟩ := notbad hnb
                    have hks : k < scs.length := by have := HQ.out; omega
                    obtain ⟨sc, hs⟩ : ∃ sc, scs[k]? = some sc := ⟨scs[k], List.getElem?_eq_getElem hks⟩
                    have hsb : sB sc = true := by
                      have h0 := HSB.out
                      rw [List.any_eq_false] at h0
                      have h1 := h0 _ (List.mem_of_getElem? hs)
                      simpa using h1
                    have HL : Hid (alB f sc = true) := Lib.hid (by rw [alB_of, hsb, HFB.out]; rfl)
                    obtain ⟨X, hX⟩ : ∃ X, (plK f xs rows scs k)[A]? = some X := ⟨_, List.getElem?_eq_getElem (by omega)⟩
                    obtain ⟨Y, hY⟩ : ∃ Y, (plK f xs rows scs k)[B]? = some Y := ⟨_, List.getElem?_eq_getElem (by omega)⟩
                    have vX := plK_v f xs rows scs HV.out k A X hX
                    have vY := plK_v f xs rows scs HV.out k B Y hY
                    have ⟨x0, x1⟩ := vB_true vX
                    have ⟨y0, y1⟩ := vB_true vY
                    have VX := Lib.hid vX
                    have VY := Lib.hid vY
                    obtain ⟨CH, hCH⟩ : ∃ CH, chg X Y f sc = CH := ⟨_, rfl⟩
                    have cb := chg_bd X Y f sc vX vY
                    rw [hCH] at cb
                    have HP : Hid (plK f xs rows scs (k + 1) = ((plK f xs rows scs k).set A (X + CH)).set B (Y - CH)) := Lib.hid (by
                      rw [← hCH]
                      simp [plK, st1, List.getD_eq_getElem?_getD, hr, hs, hX, hY])
                    have HCH := Lib.hid hCH
                    have e1 := (hb.cell (p := ⟨b2, o2 + k * 2, none⟩) (by show b2 < _; omega)).trans ((hb_w3.cell (p := ⟨b2, o2 + k * 2, none⟩) hb2).trans (hcl 0 _ _ rfl rfl).1)
                    have e2 := (hb.cell (p := ⟨b2, o2 + k * 2 + 1, none⟩) (by show b2 < _; omega)).trans ((hb_w3.cell (p := ⟨b2, o2 + k * 2 + 1, none⟩) hb2).trans (hcl 1 _ _ rfl rfl).1)
                    have e3 := Lib.hid ((hb_w3.cell (p := ⟨b3, o3 + k, none⟩) hb3).trans (hc3 k sc hs))
                    obtain ⟨g, ex, rfl, hg1, hg2, hg3, hg4⟩ := HO.out.get (by omega)
                    clear hg4
                    have hgl := hg3.lt
                    obtain ⟨ps, hps⟩ : ∃ ps, ps = plK f xs rows scs k := ⟨_, rfl⟩
                    rw [← hps] at hX hY hpl HP hg3 hg2
                    have HI := Lib.hid hg3
                    have HX := Lib.hid hX
                    have HY := Lib.hid hY
                    have hpA : A < ps.length := by omega
                    have hpB : B < ps.length := by omega
                    have i1 : (0 : Int) ≤ (k : Int) := by omega
                    have i2 : (k : Int) < (rows.length : Int) := by omega
                    have i3 : (k : Int) < (scs.length : Int) := by omega
                    have i4 : (A : Int) < (xs.length : Int) := by omega
                    have i5 : (B : Int) < (xs.length : Int) := by omega
                    have i6 : (0 : Int) ≤ (A : Int) := by omega
                    have i7 : (0 : Int) ≤ (B : Int) := by omega
                    have hBA : B ≠ A := Ne.symm hAB
                    have HPL := Lib.hid hpl
                    clear hc2 hr hcl hnb hs hX hY hc3 hps hrl hsb vX vY hCH HO hg3 hpl
                    obtain ⟨X2, hX2⟩ : ∃ X2, X + CH = X2 := ⟨_, rfl⟩
                    obtain ⟨Y2, hY2⟩ : ∃ Y2, Y - CH = Y2 := ⟨_, rfl⟩
                    rw [hX2, hY2] at HP
                    have HX2 := Lib.hid hX2
                    have HY2 := Lib.hid hY2
                    clear hX2 hY2
                    go_wp2_with fail
                    refine rg6_35 (w0 := w3) (B := w3.heap.size) (n := wr.heap.size + 1) (L := [(wr.heap.size, 0, .int .i64 A), (wr.heap.size, 1, .int .i64 B)]) (E := fun W => IAt W g ps ex) (F := fun _ => True) (by kernel_rfl) (by kernel_rfl) ⟨by go_grown, by go_size, (by simp [go_sem] <;> omega)⟩ (HI.out.below (by go_grown)) (fun _ _ h hb => h.below hb) trivial (fun _ _ _ _ => trivial) (fun w7 K_w7 E_w7 F_w7 => ?_)
                    have _ne : Nonempty (KX (w3.heap.size) w3 (wr.heap.size + 1) [(wr.heap.size, 0, .int .i64 A), (wr.heap.size, 1, .int .i64 B)] (fun W => IAt W g ps ex)) := ⟨⟨_, K_w7, E_w7⟩⟩
                    repeat (go_big_quiet_step (fail))
                    refine wpQuiet_nil ?_
                    have rD0 : ∀ s : KX (w3.heap.size) w3 (wr.heap.size + 1) [(wr.heap.size, 0, .int .i64 A), (wr.heap.size, 1, .int .i64 B)] (fun W => IAt W g ps ex), s.val.cell? ⟨wr.heap.size, 0, none⟩ = some (.int .i64 A) := fun s => s.kept.at (by simp)
                    have rD1 : ∀ s : KX (w3.heap.size) w3 (wr.heap.size + 1) [(wr.heap.size, 0, .int .i64 A), (wr.heap.size, 1, .int .i64 B)] (fun W => IAt W g ps ex), s.val.cell? ⟨wr.heap.size, 1, none⟩ = some (.int .i64 B) := fun s => s.kept.at (by simp)
                    have rX : ∀ s : KX (w3.heap.size) w3 (wr.heap.size + 1) [(wr.heap.size, 0, .int .i64 A), (wr.heap.size, 1, .int .i64 B)] (fun W => IAt W g ps ex), s.val.cell? ⟨g, A, none⟩ = some (.int .i64 X) := fun s => s.ex.cell HX.out
                    have rY : ∀ s : KX (w3.heap.size) w3 (wr.heap.size + 1) [(wr.heap.size, 0, .int .i64 A), (wr.heap.size, 1, .int .i64 B)] (fun W => IAt W g ps ex), s.val.cell? ⟨g, B, none⟩ = some (.int .i64 Y) := fun s => s.ex.cell HY.out
                    have rS : ∀ s : KX (w3.heap.size) w3 (wr.heap.size + 1) [(wr.heap.size, 0, .int .i64 A), (wr.heap.size, 1, .int .i64 B)] (fun W => IAt W g ps ex), s.val.cell? ⟨b3, o3 + k, none⟩ = some (.int .i64 sc) := fun s => (s.kept.below.cell (p := ⟨b3, o3 + k, none⟩) (by show b3 < _; omega)).trans e3.out
                    repeat (go_big_quiet_step (fail))
                    refine wpQuiet_nil ?_
                    clear rD0 rD1 rX rY rS
                    repeat (go_big_quiet_step (fail))
                    refine wpQuiet_nil ?_
                    have rD0 : ∀ s : KX (w3.heap.size) w3 (wr.heap.size + 1) [(wr.heap.size, 0, .int .i64 A), (wr.heap.size, 1, .int .i64 B)] (fun W => IAt W g ps ex), s.val.cell? ⟨wr.heap.size, 0, none⟩ = some (.int .i64 A) := fun s => s.kept.at (by simp)
                    have rD1 : ∀ s : KX (w3.heap.size) w3 (wr.heap.size + 1) [(wr.heap.size, 0, .int .i64 A), (wr.heap.size, 1, .int .i64 B)] (fun W => IAt W g ps ex), s.val.cell? ⟨wr.heap.size, 1, none⟩ = some (.int .i64 B) := fun s => s.kept.at (by simp)
                    have rX : ∀ s : KX (w3.heap.size) w3 (wr.heap.size + 1) [(wr.heap.size, 0, .int .i64 A), (wr.heap.size, 1, .int .i64 B)] (fun W => IAt W g ps ex), s.val.cell? ⟨g, A, none⟩ = some (.int .i64 X) := fun s => s.ex.cell HX.out
                    have rY : ∀ s : KX (w3.heap.size) w3 (wr.heap.size + 1) [(wr.heap.size, 0, .int .i64 A), (wr.heap.size, 1, .int .i64 B)] (fun W => IAt W g ps ex), s.val.cell? ⟨g, B, none⟩ = some (.int .i64 Y) := fun s => s.ex.cell HY.out
                    have rS : ∀ s : KX (w3.heap.size) w3 (wr.heap.size + 1) [(wr.heap.size, 0, .int .i64 A), (wr.heap.size, 1, .int .i64 B)] (fun W => IAt W g ps ex), s.val.cell? ⟨b3, o3 + k, none⟩ = some (.int .i64 sc) := fun s => (s.kept.below.cell (p := ⟨b3, o3 + k, none⟩) (by show b3 < _; omega)).trans e3.out
                    repeat (go_big_quiet_step (fail))
                    refine wpQuiet_nil ?_
                    clear rD0 rD1 rX rY rS
                    repeat (go_big_quiet_step (fail))
                    refine wpQuiet_nil ?_
                    have rD0 : ∀ s : KX (w3.heap.size) w3 (wr.heap.size + 1) [(wr.heap.size, 0, .int .i64 A), (wr.heap.size, 1, .int .i64 B)] (fun W => IAt W g ps ex), s.val.cell? ⟨wr.heap.size, 0, none⟩ = some (.int .i64 A) := fun s => s.kept.at (by simp)
                    have rD1 : ∀ s : KX (w3.heap.size) w3 (wr.heap.size + 1) [(wr.heap.size, 0, .int .i64 A), (wr.heap.size, 1, .int .i64 B)] (fun W => IAt W g ps ex), s.val.cell? ⟨wr.heap.size, 1, none⟩ = some (.int .i64 B) := fun s => s.kept.at (by simp)
                    have rX : ∀ s : KX (w3.heap.size) w3 (wr.heap.size + 1) [(wr.heap.size, 0, .int .i64 A), (wr.heap.size, 1, .int .i64 B)] (fun W => IAt W g ps ex), s.val.cell? ⟨g, A, none⟩ = some (.int .i64 X) := fun s => s.ex.cell HX.out
                    have rY : ∀ s : KX (w3.heap.size) w3 (wr.heap.size + 1) [(wr.heap.size, 0, .int .i64 A), (wr.heap.size, 1, .int .i64 B)] (fun W => IAt W g ps ex), s.val.cell? ⟨g, B, none⟩ = some (.int .i64 Y) := fun s => s.ex.cell HY.out
                    have rS : ∀ s : KX (w3.heap.size) w3 (wr.heap.size + 1) [(wr.heap.size, 0, .int .i64 A), (wr.heap.size, 1, .int .i64 B)] (fun W => IAt W g ps ex), s.val.cell? ⟨b3, o3 + k, none⟩ = some (.int .i64 sc) := fun s => (s.kept.below.cell (p := ⟨b3, o3 + k, none⟩) (by show b3 < _; omega)).trans e3.out
                    repeat (go_big_quiet_step (fail))
                    refine wpQuiet_nil ?_
                    clear rD0 rD1 rX rY rS
                    have KH_w7 := Lib.hid K_w7
                    have hw_w7 := K_w7.below
                    have hz_w7 := K_w7.size
                    have lD_w7 : wr.heap.size < w7.heap.size := by omega
                    clear K_w7
                    have HI := Lib.hid E_w7
                    clear E_w7 F_w7
                    refine ⟨fun K hK0 => ?_, trivial⟩
                    have hK := Lib.hid hK0
                    clear hK0
                    go_wp2_with fail
                    with_reducible refine (change16c X Y f sc CH _ VX.out VY.out HL.out HCH.out).mono ?_
                    rintro e w' ⟨rfl, rfl⟩
                    go_wp2_with fail
                    first | (refine ⟨rfl, hK.out _ _ ?_⟩; clear hK K) | (refine hK.out _ _ ?_; clear hK K)
                    repeat (go_big_quiet_step (fail))
                    refine wpQuiet_nil ?_
                    clear _ne
                    have wx : IntKind.i64.wrap (X + CH) = X2 := by rw [← HX2.out]; exact IntWalk.i64_in _ (by omega)
                    have wy : IntKind.i64.wrap (Y - CH) = Y2 := by rw [← HY2.out]; exact IntWalk.i64_in _ (by omega)
                    go_wp2_with fail
                    refine rg6_36 (w0 := w3) (B := w3.heap.size) (n := wr.heap.size + 1) (L := [(wr.heap.size, 0, .int .i64 A), (wr.heap.size, 1, .int .i64 B)]) (E := fun W => W.cell? ⟨g, B, none⟩ = some (.int .i64 Y) ∧ g < W.heap.size) (F := fun W => IAt W g ps ex) (by kernel_rfl) (by kernel_rfl) (KH_w7.out.step (by omega) (by go_grown)) ⟨(HI.out.below (by go_grown)).cell HY.out, (HI.out.below (by go_grown)).lt⟩ (fun _ _ h hb => ⟨(hb.cell (p := ⟨g, B, none⟩) h.2).trans h.1, Nat.lt_of_lt_of_le h.2 hb.size⟩) (HI.out.below (by go_grown)) (fun _ _ h hb => h.below hb) (fun w8 K_w8 E_w8 F_w8 => ?_)
                    have _ne : Nonempty (KX (w3.heap.size) w3 (wr.heap.size + 1) [(wr.heap.size, 0, .int .i64 A), (wr.heap.size, 1, .int .i64 B)] (fun W => W.cell? ⟨g, B, none⟩ = some (.int .i64 Y) ∧ g < W.heap.size)) := ⟨⟨_, K_w8, E_w8⟩⟩
                    repeat (go_big_quiet_step (fail))
                    refine wpQuiet_nil ?_
                    have rD0 : ∀ s : KX (w3.heap.size) w3 (wr.heap.size + 1) [(wr.heap.size, 0, .int .i64 A), (wr.heap.size, 1, .int .i64 B)] (fun W => W.cell? ⟨g, B, none⟩ = some (.int .i64 Y) ∧ g < W.heap.size), s.val.cell? ⟨wr.heap.size, 0, none⟩ = some (.int .i64 A) := fun s => s.kept.at (by simp)
                    have rD1 : ∀ s : KX (w3.heap.size) w3 (wr.heap.size + 1) [(wr.heap.size, 0, .int .i64 A), (wr.heap.size, 1, .int .i64 B)] (fun W => W.cell? ⟨g, B, none⟩ = some (.int .i64 Y) ∧ g < W.heap.size), s.val.cell? ⟨wr.heap.size, 1, none⟩ = some (.int .i64 B) := fun s => s.kept.at (by simp)
                    have rY : ∀ s : KX (w3.heap.size) w3 (wr.heap.size + 1) [(wr.heap.size, 0, .int .i64 A), (wr.heap.size, 1, .int .i64 B)] (fun W => W.cell? ⟨g, B, none⟩ = some (.int .i64 Y) ∧ g < W.heap.size), s.val.cell? ⟨g, B, none⟩ = some (.int .i64 Y) := fun s => s.ex.1
                    repeat (go_big_quiet_step (fail))
                    refine wpQuiet_nil ?_
                    clear rD0 rD1 rY
                    repeat (go_big_quiet_step (fail))
                    refine wpQuiet_nil ?_
                    have rD0 : ∀ s : KX (w3.heap.size) w3 (wr.heap.size + 1) [(wr.heap.size, 0, .int .i64 A), (wr.heap.size, 1, .int .i64 B)] (fun W => W.cell? ⟨g, B, none⟩ = some (.int .i64 Y) ∧ g < W.heap.size), s.val.cell? ⟨wr.heap.size, 0, none⟩ = some (.int .i64 A) := fun s => s.kept.at (by simp)
                    have rD1 : ∀ s : KX (w3.heap.size) w3 (wr.heap.size + 1) [(wr.heap.size, 0, .int .i64 A), (wr.heap.size, 1, .int .i64 B)] (fun W => W.cell? ⟨g, B, none⟩ = some (.int .i64 Y) ∧ g < W.heap.size), s.val.cell? ⟨wr.heap.size, 1, none⟩ = some (.int .i64 B) := fun s => s.kept.at (by simp)
                    have rY : ∀ s : KX (w3.heap.size) w3 (wr.heap.size + 1) [(wr.heap.size, 0, .int .i64 A), (wr.heap.size, 1, .int .i64 B)] (fun W => W.cell? ⟨g, B, none⟩ = some (.int .i64 Y) ∧ g < W.heap.size), s.val.cell? ⟨g, B, none⟩ = some (.int .i64 Y) := fun s => s.ex.1
                    repeat (go_big_quiet_step (fail))
                    refine wpQuiet_nil ?_
                    clear rD0 rD1 rY
                    repeat (go_big_quiet_step (fail))
                    refine wpQuiet_nil ?_
                    have rD0 : ∀ s : KX (w3.heap.size) w3 (wr.heap.size + 1) [(wr.heap.size, 0, .int .i64 A), (wr.heap.size, 1, .int .i64 B)] (fun W => W.cell? ⟨g, B, none⟩ = some (.int .i64 Y) ∧ g < W.heap.size), s.val.cell? ⟨wr.heap.size, 0, none⟩ = some (.int .i64 A) := fun s => s.kept.at (by simp)
                    have rD1 : ∀ s : KX (w3.heap.size) w3 (wr.heap.size + 1) [(wr.heap.size, 0, .int .i64 A), (wr.heap.size, 1, .int .i64 B)] (fun W => W.cell? ⟨g, B, none⟩ = some (.int .i64 Y) ∧ g < W.heap.size), s.val.cell? ⟨wr.heap.size, 1, none⟩ = some (.int .i64 B) := fun s => s.kept.at (by simp)
                    have rY : ∀ s : KX (w3.heap.size) w3 (wr.heap.size + 1) [(wr.heap.size, 0, .int .i64 A), (wr.heap.size, 1, .int .i64 B)] (fun W => W.cell? ⟨g, B, none⟩ = some (.int .i64 Y) ∧ g < W.heap.size), s.val.cell? ⟨g, B, none⟩ = some (.int .i64 Y) := fun s => s.ex.1
                    repeat (go_big_quiet_step (fail))
                    refine wpQuiet_nil ?_
                    clear rD0 rD1 rY
                    repeat (go_big_quiet_step (fail))
                    refine wpQuiet_nil ?_
                    have KH_w8 := Lib.hid K_w8
                    have hw_w8 := K_w8.below
                    have hz_w8 := K_w8.size
                    have lD_w8 : wr.heap.size < w8.heap.size := by omega
                    clear lD_w7
                    clear K_w8
                    have HEY := Lib.hid E_w8
                    have HI := Lib.hid (F_w8)
                    clear E_w8 F_w8
                    refine ⟨fun K hK0 => ?_, trivial⟩
                    have hK := Lib.hid hK0
                    clear hK0
                    have kx := HI.out.cell HX.out
                    have ky := HI.out.cell HY.out
                    have fx := HI.out.free A
                    have fy := HI.out.free B
                    go_wp2_with fail
                    first | (refine ⟨rfl, ⟨⟨_, KH_w8.out, HEY.out⟩, rfl⟩, hK.out _ _ ?_⟩; clear hK K) | (refine ⟨⟨⟨_, KH_w8.out, HEY.out⟩, rfl⟩, hK.out _ _ ?_⟩; clear hK K)
                    repeat (go_big_quiet_step (fail))
                    refine wpQuiet_nil ?_
                    refine ⟨fun K hK0 => ?_, trivial⟩
                    have hK := Lib.hid hK0
                    clear hK0
                    go_wp2_with fail
                    first | (refine ⟨rfl, ⟨⟨_, KH_w8.out.onl (S := [g]) ((Onl.refl _ _).setCell (.inl (by simp)) _) (by omega) (by simp; omega) (by simp; omega), ⟨by simp [go_sem, ky, hAB, hBA], by simp [go_sem]; omega⟩⟩, rfl⟩, hK.out _ _ ?_⟩; clear hK K) | (refine ⟨⟨⟨_, KH_w8.out.onl (S := [g]) ((Onl.refl _ _).setCell (.inl (by simp)) _) (by omega) (by simp; omega) (by simp; omega), ⟨by simp [go_sem, ky, hAB, hBA], by simp [go_sem]; omega⟩⟩, rfl⟩, hK.out _ _ ?_⟩; clear hK K)
                    repeat (go_big_quiet_step (fail))
                    refine wpQuiet_nil ?_
                    refine ⟨fun K hK0 => ?_, trivial⟩
                    have hK := Lib.hid hK0
                    clear hK0
                    go_wp2_with fail
                    first | (refine ⟨rfl, hK.out _ _ ?_⟩; clear hK K) | (refine hK.out _ _ ?_; clear hK K)
                    clear _ne
                    go_wp2_with fail
                    go_roundw
                    case rel => exact ⟨k + 1, by omega, by go_num, by rw [HP.out]; exact .inr ⟨g, c4, ex, by simp [HPL.out], hg1, by have h0 := HPL.out; simp; omega, (HI.out.set A _ hpA).set B _ (by simpa using hpB)⟩, (KH_w8.out.below.setCell (by simpa using hg1) _).setCell (by simpa using hg1) _⟩
                    case measure => simp [intOf]; omega

                  · have ek : k = rows.length := by omega
                    have HE : Hid (Out wr w3.heap.size (.slice a4 xs.length c4) (plK f xs rows scs rows.length)) := Lib.hid (by rw [← ek]; exact HO.out)
                    have hn1 : decide ((k : Int) < (rows.length : Int)) = false := by simp; omega
                    clear ek hpl HO
                    have HS1 := Lib.hid ((HOV.out.below hb).seg)
                    go_wp2_with fail
                    with_reducible refine (ints20t ov _ _ _ _ HS1.out HE.out.seg rfl).mono ?_
                    rintro e w7 ⟨rfl, hb7⟩
                    replace hb := below_via hb hb7
                    go_wp2_with fail
                    with_reducible refine (known11 _).mono ?_
                    rintro e w' ⟨rfl, rfl⟩
                    go_wp2_with fail
                    go_returns
                    exact ⟨rfl, below_via hb_w3 hb⟩

end Go.Proofs.Ytnabpcgpheakfaa
