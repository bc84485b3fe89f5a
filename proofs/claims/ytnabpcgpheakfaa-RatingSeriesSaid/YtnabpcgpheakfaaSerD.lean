/- RatingSeries: the walk. -/
import Derived.Test.YtnabpcgpheakfaaSerC
namespace Go.Proofs.Ytnabpcgpheakfaa
open Go.RowKit Plain
set_option linter.unusedVariables false
set_option linter.unusedSimpArgs false

set_option maxRecDepth 100000 in
set_option maxHeartbeats 2000000 in
theorem ser6_lo_eq (v gv sv : Value) (f : Int) (xs : List Int) (rows : List (List Int)) (scs : List Int) (w : World) (hs : Seg w .i64 v xs) (hg : SRow [.i64, .i64] w gv rows) (hc : Seg w .i64 sv scs) (l1 : xs.length ≤ 20) (l2 : rows.length ≤ 60) (l3 : scs.length ≤ 60) (hf : f < 1) (q : rows.length = scs.length) : Calls Try.prog 6 #[v, .int .i64 f, gv, sv] w fun e w' => e = .returned (.bool true) ∧ Below w.heap.size w w' := by
  obtain ⟨m1, a1, c1, rfl, f1⟩ := seg_form hs
  obtain ⟨m2, a2, c2, rfl, f2⟩ := srow_form hg
  obtain ⟨m3, a3, c3, rfl, f3⟩ := seg_form hc
  have HSX := Lib.hid hs
  have HGX := Lib.hid hg
  have F2 := Lib.hid f2
  have F3 := Lib.hid f3
  have HCX := Lib.hid hc
  clear hs hg hc f1 f2 f3

  have HFB : Hid (fB f = false) := Lib.hid (by simp [fB] <;> omega)
  have q1 : ((rows.length : Int) != (scs.length : Int)) = false := by simp; omega
  obtain ⟨b0, hb0⟩ : ∃ b0, b0 = decide (rows.length ≠ scs.length) := ⟨_, rfl⟩
  have HB0 : Hid (b0 = false) := Lib.hid (by rw [hb0]; simp; omega)
  have HQ := Lib.hid q
  obtain ⟨N1, hN1⟩ : ∃ N1, N1 = sel (xs.any fun z => !vB z) 3 0 := ⟨_, rfl⟩
  obtain ⟨N2, hN2⟩ : ∃ N2, N2 = sel (!fB f || scs.any (fun s => !sB s)) 3 N1 := ⟨_, rfl⟩
  obtain ⟨N3, hN3⟩ : ∃ N3, N3 = sel (b0 || rows.any (badR xs.length)) 2 N2 := ⟨_, rfl⟩
  have HNO : Hid (serNo f xs rows scs = N3) := Lib.hid (by rw [hN3, hN2, hN1, hb0]; rfl)
  have HN1 := Lib.hid hN1
  have HN2 := Lib.hid hN2
  have HN3 := Lib.hid hN3
  clear q hb0 hN1 hN2 hN3
  go_enter Try.func6, Try.ntmps6
  go_wp2_with (at_builtin; refine wpList_copy_out rfl _ _ rfl rfl _ xs rfl HSX.out (by omega) ?_; intro v1 w1 ho_w1 hb_w1)
  have S1 := Lib.hid ho_w1.seg
  clear ho_w1
  have z1 := hb_w1.size
  go_wp2_with fail
  with_reducible refine (series19_all v1 _ _ f xs rows scs _ S1.out (HGX.out.below hb_w1) (HCX.out.below hb_w1) (by omega) (by omega)).mono ?_
  rintro e w2 ⟨ov, rfl, hne, heq, hb_w2⟩
  rw [HNO.out] at hne heq ⊢
  have z2 := hb_w2.size
  have HNE := Lib.hid hne
  have HEQ := Lib.hid heq
  clear hne heq
  replace S1 := Lib.hid (S1.out.below hb_w2)
  replace hb_w2 := below_via hb_w1 hb_w2
  clear hb_w1
  go_wp2_with fail
  with_reducible refine (ints20t v1 _ xs xs _ S1.out (HSX.out.below hb_w2) rfl).mono ?_
  rintro e w3 ⟨rfl, hb_w3⟩
  replace HEQ : Hid (N3 = 0 → Out w3 w1.heap.size ov (plK f xs rows scs rows.length)) := Lib.hid (fun h => (HEQ.out h).below hb_w3)
  replace hb_w3 := below_via hb_w2 hb_w3
  have z3 := hb_w3.size
  clear hb_w2 S1
  go_wp2_with (at_builtin; refine wpList_copy_out rfl _ _ rfl rfl _ xs rfl (HSX.out.below hb_w3) (by omega) ?_; intro v3 w4 ho_w4 hb_w4)
  obtain ⟨a4, c4, rfl⟩ := ho_w4.form
  have HO := Lib.hid ho_w4
  have z4 := hb_w4.size
  clear ho_w4
  go_wp2_with fail
  go_loop [12, 14] (fun n i => R1 xs n i) (fun _ i => xs.length - (intOf i).toNat)
  case atStart => exact ⟨0, Nat.zero_le _, rfl, rfl⟩
  case round =>
    obtain ⟨k, hk, rfl, rfl⟩ := hrel
    by_cases hlt : k < xs.length
    · obtain ⟨g, ex, rfl, hg1, hg2, hg3, _⟩ := HO.out.get (by omega)
      obtain ⟨z, hz⟩ : ∃ z, xs[k]? = some z := ⟨xs[k], List.getElem?_eq_getElem hlt⟩
      have e1 := hg3.cell hz
      have i1 : (0 : Int) ≤ (k : Int) := by omega
      have i2 : (k : Int) < (xs.length : Int) := by omega
      have HA := Lib.hid (any_snoc (f := fun z => !vB z) hz)
      clear hg3 hz
      go_wp2_with fail
      with_reducible refine (valid9 z _).mono ?_
      rintro e w' ⟨rfl, rfl⟩
      cases hv : vB z
      · have HS := Lib.hid (sel_true (b := (xs.take (k + 1)).any fun z => !vB z) (c := 3) (d := 0) (by rw [HA.out]; simp [hv]))
        go_wp2_with fail
        go_round
        case rel => exact ⟨k + 1, by omega, by go_num, val_int HS.out.symm⟩
        case measure => simp [intOf]; omega
      · have HS := Lib.hid (sel_same (b := (xs.take (k + 1)).any fun z => !vB z) (b' := (xs.take k).any fun z => !vB z) (c := 3) (d := 0) (by rw [HA.out]; simp [hv]))
        go_wp2_with fail
        go_round
        case rel => exact ⟨k + 1, by omega, by go_num, val_int HS.out.symm⟩
        case measure => simp [intOf]; omega
    · have hx : sel ((xs.take k).any fun z => !vB z) 3 0 = N1 := by rw [HN1.out, List.take_of_length_le (by omega)]
      have hn1 : decide ((k : Int) < (xs.length : Int)) = false := by simp; omega
      rw [hx]
      clear hx
      go_wp2_with fail
      go_loop [12, 15] (fun n i => R2 f scs N1 n i) (fun _ i => scs.length - (intOf i).toNat)
      case atStart => exact ⟨0, Nat.zero_le _, rfl, val_int (by rw [HFB.out]; rfl)⟩
      case round =>
        clear hn1 hk hlt
        obtain ⟨k, hk, rfl, rfl⟩ := hrel
        by_cases hlt : k < scs.length
        · obtain ⟨b3, o3, rfl, hb3, hc3⟩ := F3.out (by omega)
          obtain ⟨sc, hs⟩ : ∃ sc, scs[k]? = some sc := ⟨scs[k], List.getElem?_eq_getElem hlt⟩
          have e3 := (hb_w4.cell (p := ⟨b3, o3 + k, none⟩) (by show b3 < _; omega)).trans ((hb_w3.cell (p := ⟨b3, o3 + k, none⟩) hb3).trans (hc3 k sc hs))
          have i1 : (0 : Int) ≤ (k : Int) := by omega
          have i2 : (k : Int) < (scs.length : Int) := by omega
          have HA := Lib.hid (any_snoc (f := fun s => !sB s) hs)
          clear hc3 hs
          by_cases u1 : sc < 0
          · have HS := Lib.hid (sel_true (b := !fB f || (scs.take (k + 1)).any fun s => !sB s) (c := 3) (d := N1) (by rw [HA.out]; simp [sB]; omega))
            go_wp2_with fail
            go_round
            case rel => exact ⟨k + 1, by omega, by go_num, val_int HS.out.symm⟩
            case measure => simp [intOf]; omega
          · by_cases u2 : 2 < sc
            · have HS := Lib.hid (sel_true (b := !fB f || (scs.take (k + 1)).any fun s => !sB s) (c := 3) (d := N1) (by rw [HA.out]; simp [sB]; omega))
              go_wp2_with fail
              go_round
              case rel => exact ⟨k + 1, by omega, by go_num, val_int HS.out.symm⟩
              case measure => simp [intOf]; omega
            · have HS := Lib.hid (sel_same (b := !fB f || (scs.take (k + 1)).any fun s => !sB s) (b' := !fB f || (scs.take k).any fun s => !sB s) (c := 3) (d := N1) (by rw [HA.out, show sB sc = true by simp [sB]; omega]; simp))
              go_wp2_with fail
              go_round
              case rel => exact ⟨k + 1, by omega, by go_num, val_int HS.out.symm⟩
              case measure => simp [intOf]; omega
        · have hx : sel (!fB f || (scs.take k).any fun s => !sB s) 3 N1 = N2 := by rw [HN2.out, List.take_of_length_le (by omega)]
          have hn1 : decide ((k : Int) < (scs.length : Int)) = false := by simp; omega
          rw [hx]
          clear hx
          go_wp2_with fail
          go_loopw [12, 16] (fun n i wr => R3 w3 b0 xs.length xs rows N2 (.slice a4 xs.length c4) n i wr) (fun _ i _ => rows.length - (intOf i).toNat)
          case atStart => exact ⟨0, Nat.zero_le _, rfl, val_int (by rw [HB0.out]; rfl), HO.out, hb_w4⟩
          case round =>
            clear hn1 hk hlt HO
            obtain ⟨k, hk, rfl, rfl, ho, hb⟩ := hrel
            have HO := Lib.hid ho
            have hzr := hb.size
            clear ho hb_w4 z4
            by_cases hlt : k < rows.length
            · obtain ⟨b2, o2, rfl, hb2, hc2⟩ := F2.out (by omega)
              obtain ⟨r, hr⟩ : ∃ r, rows[k]? = some r := ⟨rows[k], List.getElem?_eq_getElem hlt⟩
              obtain ⟨hrl, hcl⟩ := hc2 k r hr
              obtain ⟨x, y, rfl⟩ : ∃ x y, r = [x, y] := by
                match r, hrl with
                | [x, y], _ => exact ⟨x, y, rfl⟩
              have e1 := (hb.cell (p := ⟨b2, o2 + k * 2, none⟩) (by show b2 < _; omega)).trans ((hb_w3.cell (p := ⟨b2, o2 + k * 2, none⟩) hb2).trans (hcl 0 _ _ rfl rfl).1)
              have e2 := (hb.cell (p := ⟨b2, o2 + k * 2 + 1, none⟩) (by show b2 < _; omega)).trans ((hb_w3.cell (p := ⟨b2, o2 + k * 2 + 1, none⟩) hb2).trans (hcl 1 _ _ rfl rfl).1)
              have i1 : (0 : Int) ≤ (k : Int) := by omega
              have i2 : (k : Int) < (rows.length : Int) := by omega
              have HA := Lib.hid (any_snoc (f := badR xs.length) hr)
              have hg2 : Below wr.heap.size wr (wr.alloc (.cells #[.int .i64 x, .int .i64 y] 46)) := (Below.refl _ _).alloc (Nat.le_refl _) _
              have HO2 := Lib.hid (HO.out.below hg2)
              have hb5 := below_via hb hg2
              clear hc2 hr hcl hrl hg2
              by_cases u0 : x < 0
              · skip
                have HS := Lib.hid (sel_true (b := b0 || (rows.take (k + 1)).any (badR xs.length)) (c := 2) (d := N2) (by rw [HA.out, show badR xs.length [x, y] = true by simp [badR, dB, inB]; omega]; simp))
                go_wp2_with fail
                go_roundw
                case rel => exact ⟨k + 1, by omega, by go_num, val_int HS.out.symm, HO2.out, hb5⟩
                case measure => simp [intOf]; omega
              · skip
                by_cases u1 : (xs.length : Int) ≤ x
                · skip
                  have HS := Lib.hid (sel_true (b := b0 || (rows.take (k + 1)).any (badR xs.length)) (c := 2) (d := N2) (by rw [HA.out, show badR xs.length [x, y] = true by simp [badR, dB, inB]; omega]; simp))
                  go_wp2_with fail
                  go_roundw
                  case rel => exact ⟨k + 1, by omega, by go_num, val_int HS.out.symm, HO2.out, hb5⟩
                  case measure => simp [intOf]; omega
                · skip
                  by_cases u2 : y < 0
                  · skip
                    have HS := Lib.hid (sel_true (b := b0 || (rows.take (k + 1)).any (badR xs.length)) (c := 2) (d := N2) (by rw [HA.out, show badR xs.length [x, y] = true by simp [badR, dB, inB]; omega]; simp))
                    go_wp2_with fail
                    go_roundw
                    case rel => exact ⟨k + 1, by omega, by go_num, val_int HS.out.symm, HO2.out, hb5⟩
                    case measure => simp [intOf]; omega
                  · skip
                    by_cases u3 : (xs.length : Int) ≤ y
                    · skip
                      have HS := Lib.hid (sel_true (b := b0 || (rows.take (k + 1)).any (badR xs.length)) (c := 2) (d := N2) (by rw [HA.out, show badR xs.length [x, y] = true by simp [badR, dB, inB]; omega]; simp))
                      go_wp2_with fail
                      go_roundw
                      case rel => exact ⟨k + 1, by omega, by go_num, val_int HS.out.symm, HO2.out, hb5⟩
                      case measure => simp [intOf]; omega
                    · skip
                      by_cases u4 : x = y
                      · skip
                        have HS := Lib.hid (sel_true (b := b0 || (rows.take (k + 1)).any (badR xs.length)) (c := 2) (d := N2) (by rw [HA.out, show badR xs.length [x, y] = true by simp [badR, dB, inB]; omega]; simp))
                        have ue : (x == y) = true := by simpa using u4
                        clear u4
                        go_wp2_with fail
                        go_roundw
                        case rel => exact ⟨k + 1, by omega, by go_num, val_int HS.out.symm, HO2.out, hb5⟩
                        case measure => simp [intOf]; omega
                      · skip
                        have HS := Lib.hid (sel_same (b := b0 || (rows.take (k + 1)).any (badR xs.length)) (b' := b0 || (rows.take k).any (badR xs.length)) (c := 2) (d := N2) (by rw [HA.out, show badR xs.length [x, y] = false by simp [badR, dB, inB]; omega]; simp))
                        have ue : (x == y) = false := by simpa using u4
                        clear u4
                        go_wp2_with fail
                        go_roundw
                        case rel => exact ⟨k + 1, by omega, by go_num, val_int HS.out.symm, HO2.out, hb5⟩
                        case measure => simp [intOf]; omega
            · have hx : sel (b0 || (rows.take k).any (badR xs.length)) 2 N2 = N3 := by rw [HN3.out, List.take_of_length_le (by omega)]
              have hn1 : decide ((k : Int) < (rows.length : Int)) = false := by simp; omega
              rw [hx]
              clear hx
              have h0 : N3 ≠ 0 := by
                rw [HN3.out, HN2.out, HFB.out]
                unfold sel
                simp
                split <;> decide
              have hov := HNE.out h0
              subst hov
              have h1 : (N3 != 0) = true := by simpa using h0
              clear h0
              go_wp2_with fail
              with_reducible refine (known11 _).mono ?_
              rintro e w' ⟨rfl, rfl⟩
              go_wp2_with fail
              go_returns
              exact ⟨rfl, below_via hb_w3 hb⟩

set_option maxRecDepth 100000 in
set_option maxHeartbeats 2000000 in
theorem ser6_lo_ne (v gv sv : Value) (f : Int) (xs : List Int) (rows : List (List Int)) (scs : List Int) (w : World) (hs : Seg w .i64 v xs) (hg : SRow [.i64, .i64] w gv rows) (hc : Seg w .i64 sv scs) (l1 : xs.length ≤ 20) (l2 : rows.length ≤ 60) (l3 : scs.length ≤ 60) (hf : f < 1) (q : rows.length ≠ scs.length) : Calls Try.prog 6 #[v, .int .i64 f, gv, sv] w fun e w' => e = .returned (.bool true) ∧ Below w.heap.size w w' := by
  obtain ⟨m1, a1, c1, rfl, f1⟩ := seg_form hs
  obtain ⟨m2, a2, c2, rfl, f2⟩ := srow_form hg
  obtain ⟨m3, a3, c3, rfl, f3⟩ := seg_form hc
  have HSX := Lib.hid hs
  have HGX := Lib.hid hg
  have F2 := Lib.hid f2
  have F3 := Lib.hid f3
  have HCX := Lib.hid hc
  clear hs hg hc f1 f2 f3

  have HFB : Hid (fB f = false) := Lib.hid (by simp [fB] <;> omega)
  have q1 : ((rows.length : Int) != (scs.length : Int)) = true := by simp; omega
  obtain ⟨b0, hb0⟩ : ∃ b0, b0 = decide (rows.length ≠ scs.length) := ⟨_, rfl⟩
  have HB0 : Hid (b0 = true) := Lib.hid (by rw [hb0]; simp; omega)
  have HQ := Lib.hid q
  obtain ⟨N1, hN1⟩ : ∃ N1, N1 = sel (xs.any fun z => !vB z) 3 0 := ⟨_, rfl⟩
  obtain ⟨N2, hN2⟩ : ∃ N2, N2 = sel (!fB f || scs.any (fun s => !sB s)) 3 N1 := ⟨_, rfl⟩
  obtain ⟨N3, hN3⟩ : ∃ N3, N3 = sel (b0 || rows.any (badR xs.length)) 2 N2 := ⟨_, rfl⟩
  have HNO : Hid (serNo f xs rows scs = N3) := Lib.hid (by rw [hN3, hN2, hN1, hb0]; rfl)
  have HN1 := Lib.hid hN1
  have HN2 := Lib.hid hN2
  have HN3 := Lib.hid hN3
  clear q hb0 hN1 hN2 hN3
  go_enter Try.func6, Try.ntmps6
  go_wp2_with (at_builtin; refine wpList_copy_out rfl _ _ rfl rfl _ xs rfl HSX.out (by omega) ?_; intro v1 w1 ho_w1 hb_w1)
  have S1 := Lib.hid ho_w1.seg
  clear ho_w1
  have z1 := hb_w1.size
  go_wp2_with fail
  with_reducible refine (series19_all v1 _ _ f xs rows scs _ S1.out (HGX.out.below hb_w1) (HCX.out.below hb_w1) (by omega) (by omega)).mono ?_
  rintro e w2 ⟨ov, rfl, hne, heq, hb_w2⟩
  rw [HNO.out] at hne heq ⊢
  have z2 := hb_w2.size
  have HNE := Lib.hid hne
  have HEQ := Lib.hid heq
  clear hne heq
  replace S1 := Lib.hid (S1.out.below hb_w2)
  replace hb_w2 := below_via hb_w1 hb_w2
  clear hb_w1
  go_wp2_with fail
  with_reducible refine (ints20t v1 _ xs xs _ S1.out (HSX.out.below hb_w2) rfl).mono ?_
  rintro e w3 ⟨rfl, hb_w3⟩
  replace HEQ : Hid (N3 = 0 → Out w3 w1.heap.size ov (plK f xs rows scs rows.length)) := Lib.hid (fun h => (HEQ.out h).below hb_w3)
  replace hb_w3 := below_via hb_w2 hb_w3
  have z3 := hb_w3.size
  clear hb_w2 S1
  go_wp2_with (at_builtin; refine wpList_copy_out rfl _ _ rfl rfl _ xs rfl (HSX.out.below hb_w3) (by omega) ?_; intro v3 w4 ho_w4 hb_w4)
  obtain ⟨a4, c4, rfl⟩ := ho_w4.form
  have HO := Lib.hid ho_w4
  have z4 := hb_w4.size
  clear ho_w4
  go_wp2_with fail
  go_loop [12, 14] (fun n i => R1 xs n i) (fun _ i => xs.length - (intOf i).toNat)
  case atStart => exact ⟨0, Nat.zero_le _, rfl, rfl⟩
  case round =>
    obtain ⟨k, hk, rfl, rfl⟩ := hrel
    by_cases hlt : k < xs.length
    · obtain ⟨g, ex, rfl, hg1, hg2, hg3, _⟩ := HO.out.get (by omega)
      obtain ⟨z, hz⟩ : ∃ z, xs[k]? = some z := ⟨xs[k], List.getElem?_eq_getElem hlt⟩
      have e1 := hg3.cell hz
      have i1 : (0 : Int) ≤ (k : Int) := by omega
      have i2 : (k : Int) < (xs.length : Int) := by omega
      have HA := Lib.hid (any_snoc (f := fun z => !vB z) hz)
      clear hg3 hz
      go_wp2_with fail
      with_reducible refine (valid9 z _).mono ?_
      rintro e w' ⟨rfl, rfl⟩
      cases hv : vB z
      · have HS := Lib.hid (sel_true (b := (xs.take (k + 1)).any fun z => !vB z) (c := 3) (d := 0) (by rw [HA.out]; simp [hv]))
        go_wp2_with fail
        go_round
        case rel => exact ⟨k + 1, by omega, by go_num, val_int HS.out.symm⟩
        case measure => simp [intOf]; omega
      · have HS := Lib.hid (sel_same (b := (xs.take (k + 1)).any fun z => !vB z) (b' := (xs.take k).any fun z => !vB z) (c := 3) (d := 0) (by rw [HA.out]; simp [hv]))
        go_wp2_with fail
        go_round
        case rel => exact ⟨k + 1, by omega, by go_num, val_int HS.out.symm⟩
        case measure => simp [intOf]; omega
    · have hx : sel ((xs.take k).any fun z => !vB z) 3 0 = N1 := by rw [HN1.out, List.take_of_length_le (by omega)]
      have hn1 : decide ((k : Int) < (xs.length : Int)) = false := by simp; omega
      rw [hx]
      clear hx
      go_wp2_with fail
      go_loop [12, 15] (fun n i => R2 f scs N1 n i) (fun _ i => scs.length - (intOf i).toNat)
      case atStart => exact ⟨0, Nat.zero_le _, rfl, val_int (by rw [HFB.out]; rfl)⟩
      case round =>
        clear hn1 hk hlt
        obtain ⟨k, hk, rfl, rfl⟩ := hrel
        by_cases hlt : k < scs.length
        · obtain ⟨b3, o3, rfl, hb3, hc3⟩ := F3.out (by omega)
          obtain ⟨sc, hs⟩ : ∃ sc, scs[k]? = some sc := ⟨scs[k], List.getElem?_eq_getElem hlt⟩
          have e3 := (hb_w4.cell (p := ⟨b3, o3 + k, none⟩) (by show b3 < _; omega)).trans ((hb_w3.cell (p := ⟨b3, o3 + k, none⟩) hb3).trans (hc3 k sc hs))
          have i1 : (0 : Int) ≤ (k : Int) := by omega
          have i2 : (k : Int) < (scs.length : Int) := by omega
          have HA := Lib.hid (any_snoc (f := fun s => !sB s) hs)
          clear hc3 hs
          by_cases u1 : sc < 0
          · have HS := Lib.hid (sel_true (b := !fB f || (scs.take (k + 1)).any fun s => !sB s) (c := 3) (d := N1) (by rw [HA.out]; simp [sB]; omega))
            go_wp2_with fail
            go_round
            case rel => exact ⟨k + 1, by omega, by go_num, val_int HS.out.symm⟩
            case measure => simp [intOf]; omega
          · by_cases u2 : 2 < sc
            · have HS := Lib.hid (sel_true (b := !fB f || (scs.take (k + 1)).any fun s => !sB s) (c := 3) (d := N1) (by rw [HA.out]; simp [sB]; omega))
              go_wp2_with fail
              go_round
              case rel => exact ⟨k + 1, by omega, by go_num, val_int HS.out.symm⟩
              case measure => simp [intOf]; omega
            · have HS := Lib.hid (sel_same (b := !fB f || (scs.take (k + 1)).any fun s => !sB s) (b' := !fB f || (scs.take k).any fun s => !sB s) (c := 3) (d := N1) (by rw [HA.out, show sB sc = true by simp [sB]; omega]; simp))
              go_wp2_with fail
              go_round
              case rel => exact ⟨k + 1, by omega, by go_num, val_int HS.out.symm⟩
              case measure => simp [intOf]; omega
        · have hx : sel (!fB f || (scs.take k).any fun s => !sB s) 3 N1 = N2 := by rw [HN2.out, List.take_of_length_le (by omega)]
          have hn1 : decide ((k : Int) < (scs.length : Int)) = false := by simp; omega
          rw [hx]
          clear hx
          go_wp2_with fail
          go_loopw [12, 16] (fun n i wr => R3 w3 b0 xs.length xs rows N2 (.slice a4 xs.length c4) n i wr) (fun _ i _ => rows.length - (intOf i).toNat)
          case atStart => exact ⟨0, Nat.zero_le _, rfl, val_int (by rw [HB0.out]; rfl), HO.out, hb_w4⟩
          case round =>
            clear hn1 hk hlt HO
            obtain ⟨k, hk, rfl, rfl, ho, hb⟩ := hrel
            have HO := Lib.hid ho
            have hzr := hb.size
            clear ho hb_w4 z4
            by_cases hlt : k < rows.length
            · obtain ⟨b2, o2, rfl, hb2, hc2⟩ := F2.out (by omega)
              obtain ⟨r, hr⟩ : ∃ r, rows[k]? = some r := ⟨rows[k], List.getElem?_eq_getElem hlt⟩
              obtain ⟨hrl, hcl⟩ := hc2 k r hr
              obtain ⟨x, y, rfl⟩ : ∃ x y, r = [x, y] := by
                match r, hrl with
                | [x, y], _ => exact ⟨x, y, rfl⟩
              have e1 := (hb.cell (p := ⟨b2, o2 + k * 2, none⟩) (by show b2 < _; omega)).trans ((hb_w3.cell (p := ⟨b2, o2 + k * 2, none⟩) hb2).trans (hcl 0 _ _ rfl rfl).1)
              have e2 := (hb.cell (p := ⟨b2, o2 + k * 2 + 1, none⟩) (by show b2 < _; omega)).trans ((hb_w3.cell (p := ⟨b2, o2 + k * 2 + 1, none⟩) hb2).trans (hcl 1 _ _ rfl rfl).1)
              have i1 : (0 : Int) ≤ (k : Int) := by omega
              have i2 : (k : Int) < (rows.length : Int) := by omega
              have HA := Lib.hid (any_snoc (f := badR xs.length) hr)
              have hg2 : Below wr.heap.size wr (wr.alloc (.cells #[.int .i64 x, .int .i64 y] 46)) := (Below.refl _ _).alloc (Nat.le_refl _) _
              have HO2 := Lib.hid (HO.out.below hg2)
              have hb5 := below_via hb hg2
              clear hc2 hr hcl hrl hg2
              by_cases u0 : x < 0
              · skip
                have HS := Lib.hid (sel_true (b := b0 || (rows.take (k + 1)).any (badR xs.length)) (c := 2) (d := N2) (by rw [HA.out, show badR xs.length [x, y] = true by simp [badR, dB, inB]; omega]; simp))
                go_wp2_with fail
                go_roundw
                case rel => exact ⟨k + 1, by omega, by go_num, val_int HS.out.symm, HO2.out, hb5⟩
                case measure => simp [intOf]; omega
              · skip
                by_cases u1 : (xs.length : Int) ≤ x
                · skip
                  have HS := Lib.hid (sel_true (b := b0 || (rows.take (k + 1)).any (badR xs.length)) (c := 2) (d := N2) (by rw [HA.out, show badR xs.length [x, y] = true by simp [badR, dB, inB]; omega]; simp))
                  go_wp2_with fail
                  go_roundw
                  case rel => exact ⟨k + 1, by omega, by go_num, val_int HS.out.symm, HO2.out, hb5⟩
                  case measure => simp [intOf]; omega
                · skip
                  by_cases u2 : y < 0
                  · skip
                    have HS := Lib.hid (sel_true (b := b0 || (rows.take (k + 1)).any (badR xs.length)) (c := 2) (d := N2) (by rw [HA.out, show badR xs.length [x, y] = true by simp [badR, dB, inB]; omega]; simp))
                    go_wp2_with fail
                    go_roundw
                    case rel => exact ⟨k + 1, by omega, by go_num, val_int HS.out.symm, HO2.out, hb5⟩
                    case measure => simp [intOf]; omega
                  · skip
                    by_cases u3 : (xs.length : Int) ≤ y
                    · skip
                      have HS := Lib.hid (sel_true (b := b0 || (rows.take (k + 1)).any (badR xs.length)) (c := 2) (d := N2) (by rw [HA.out, show badR xs.length [x, y] = true by simp [badR, dB, inB]; omega]; simp))
                      go_wp2_with fail
                      go_roundw
                      case rel => exact ⟨k + 1, by omega, by go_num, val_int HS.out.symm, HO2.out, hb5⟩
                      case measure => simp [intOf]; omega
                    · skip
                      by_cases u4 : x = y
                      · skip
                        have HS := Lib.hid (sel_true (b := b0 || (rows.take (k + 1)).any (badR xs.length)) (c := 2) (d := N2) (by rw [HA.out, show badR xs.length [x, y] = true by simp [badR, dB, inB]; omega]; simp))
                        have ue : (x == y) = true := by simpa using u4
                        clear u4
                        go_wp2_with fail
                        go_roundw
                        case rel => exact ⟨k + 1, by omega, by go_num, val_int HS.out.symm, HO2.out, hb5⟩
                        case measure => simp [intOf]; omega
                      · skip
                        have HS := Lib.hid (sel_same (b := b0 || (rows.take (k + 1)).any (badR xs.length)) (b' := b0 || (rows.take k).any (badR xs.length)) (c := 2) (d := N2) (by rw [HA.out, show badR xs.length [x, y] = false by simp [badR, dB, inB]; omega]; simp))
                        have ue : (x == y) = false := by simpa using u4
                        clear u4
                        go_wp2_with fail
                        go_roundw
                        case rel => exact ⟨k + 1, by omega, by go_num, val_int HS.out.symm, HO2.out, hb5⟩
                        case measure => simp [intOf]; omega
            · have hx : sel (b0 || (rows.take k).any (badR xs.length)) 2 N2 = N3 := by rw [HN3.out, List.take_of_length_le (by omega)]
              have hn1 : decide ((k : Int) < (rows.length : Int)) = false := by simp; omega
              rw [hx]
              clear hx
              have h0 : N3 ≠ 0 := by
                rw [HN3.out, HB0.out]
                simp [sel]
              have hov := HNE.out h0
              subst hov
              have h1 : (N3 != 0) = true := by simpa using h0
              clear h0
              go_wp2_with fail
              with_reducible refine (known11 _).mono ?_
              rintro e w' ⟨rfl, rfl⟩
              go_wp2_with fail
              go_returns
              exact ⟨rfl, below_via hb_w3 hb⟩

set_option maxRecDepth 100000 in
set_option maxHeartbeats 2000000 in
theorem ser6_hi_eq (v gv sv : Value) (f : Int) (xs : List Int) (rows : List (List Int)) (scs : List Int) (w : World) (hs : Seg w .i64 v xs) (hg : SRow [.i64, .i64] w gv rows) (hc : Seg w .i64 sv scs) (l1 : xs.length ≤ 20) (l2 : rows.length ≤ 60) (l3 : scs.length ≤ 60) (hf : 64 < f) (q : rows.length = scs.length) : Calls Try.prog 6 #[v, .int .i64 f, gv, sv] w fun e w' => e = .returned (.bool true) ∧ Below w.heap.size w w' := by
  obtain ⟨m1, a1, c1, rfl, f1⟩ := seg_form hs
  obtain ⟨m2, a2, c2, rfl, f2⟩ := srow_form hg
  obtain ⟨m3, a3, c3, rfl, f3⟩ := seg_form hc
  have HSX := Lib.hid hs
  have HGX := Lib.hid hg
  have F2 := Lib.hid f2
  have F3 := Lib.hid f3
  have HCX := Lib.hid hc
  clear hs hg hc f1 f2 f3

  have HFB : Hid (fB f = false) := Lib.hid (by simp [fB] <;> omega)
  have q1 : ((rows.length : Int) != (scs.length : Int)) = false := by simp; omega
  obtain ⟨b0, hb0⟩ : ∃ b0, b0 = decide (rows.length ≠ scs.length) := ⟨_, rfl⟩
  have HB0 : Hid (b0 = false) := Lib.hid (by rw [hb0]; simp; omega)
  have HQ := Lib.hid q
  obtain ⟨N1, hN1⟩ : ∃ N1, N1 = sel (xs.any fun z => !vB z) 3 0 := ⟨_, rfl⟩
  obtain ⟨N2, hN2⟩ : ∃ N2, N2 = sel (!fB f || scs.any (fun s => !sB s)) 3 N1 := ⟨_, rfl⟩
  obtain ⟨N3, hN3⟩ : ∃ N3, N3 = sel (b0 || rows.any (badR xs.length)) 2 N2 := ⟨_, rfl⟩
  have HNO : Hid (serNo f xs rows scs = N3) := Lib.hid (by rw [hN3, hN2, hN1, hb0]; rfl)
  have HN1 := Lib.hid hN1
  have HN2 := Lib.hid hN2
  have HN3 := Lib.hid hN3
  clear q hb0 hN1 hN2 hN3
  go_enter Try.func6, Try.ntmps6
  go_wp2_with (at_builtin; refine wpList_copy_out rfl _ _ rfl rfl _ xs rfl HSX.out (by omega) ?_; intro v1 w1 ho_w1 hb_w1)
  have S1 := Lib.hid ho_w1.seg
  clear ho_w1
  have z1 := hb_w1.size
  go_wp2_with fail
  with_reducible refine (series19_all v1 _ _ f xs rows scs _ S1.out (HGX.out.below hb_w1) (HCX.out.below hb_w1) (by omega) (by omega)).mono ?_
  rintro e w2 ⟨ov, rfl, hne, heq, hb_w2⟩
  rw [HNO.out] at hne heq ⊢
  have z2 := hb_w2.size
  have HNE := Lib.hid hne
  have HEQ := Lib.hid heq
  clear hne heq
  replace S1 := Lib.hid (S1.out.below hb_w2)
  replace hb_w2 := below_via hb_w1 hb_w2
  clear hb_w1
  go_wp2_with fail
  with_reducible refine (ints20t v1 _ xs xs _ S1.out (HSX.out.below hb_w2) rfl).mono ?_
  rintro e w3 ⟨rfl, hb_w3⟩
  replace HEQ : Hid (N3 = 0 → Out w3 w1.heap.size ov (plK f xs rows scs rows.length)) := Lib.hid (fun h => (HEQ.out h).below hb_w3)
  replace hb_w3 := below_via hb_w2 hb_w3
  have z3 := hb_w3.size
  clear hb_w2 S1
  go_wp2_with (at_builtin; refine wpList_copy_out rfl _ _ rfl rfl _ xs rfl (HSX.out.below hb_w3) (by omega) ?_; intro v3 w4 ho_w4 hb_w4)
  obtain ⟨a4, c4, rfl⟩ := ho_w4.form
  have HO := Lib.hid ho_w4
  have z4 := hb_w4.size
  clear ho_w4
  go_wp2_with fail
  go_loop [12, 14] (fun n i => R1 xs n i) (fun _ i => xs.length - (intOf i).toNat)
  case atStart => exact ⟨0, Nat.zero_le _, rfl, rfl⟩
  case round =>
    obtain ⟨k, hk, rfl, rfl⟩ := hrel
    by_cases hlt : k < xs.length
    · obtain ⟨g, ex, rfl, hg1, hg2, hg3, _⟩ := HO.out.get (by omega)
      obtain ⟨z, hz⟩ : ∃ z, xs[k]? = some z := ⟨xs[k], List.getElem?_eq_getElem hlt⟩
      have e1 := hg3.cell hz
      have i1 : (0 : Int) ≤ (k : Int) := by omega
      have i2 : (k : Int) < (xs.length : Int) := by omega
      have HA := Lib.hid (any_snoc (f := fun z => !vB z) hz)
      clear hg3 hz
      go_wp2_with fail
      with_reducible refine (valid9 z _).mono ?_
      rintro e w' ⟨rfl, rfl⟩
      cases hv : vB z
      · have HS := Lib.hid (sel_true (b := (xs.take (k + 1)).any fun z => !vB z) (c := 3) (d := 0) (by rw [HA.out]; simp [hv]))
        go_wp2_with fail
        go_round
        case rel => exact ⟨k + 1, by omega, by go_num, val_int HS.out.symm⟩
        case measure => simp [intOf]; omega
      · have HS := Lib.hid (sel_same (b := (xs.take (k + 1)).any fun z => !vB z) (b' := (xs.take k).any fun z => !vB z) (c := 3) (d := 0) (by rw [HA.out]; simp [hv]))
        go_wp2_with fail
        go_round
        case rel => exact ⟨k + 1, by omega, by go_num, val_int HS.out.symm⟩
        case measure => simp [intOf]; omega
    · have hx : sel ((xs.take k).any fun z => !vB z) 3 0 = N1 := by rw [HN1.out, List.take_of_length_le (by omega)]
      have hn1 : decide ((k : Int) < (xs.length : Int)) = false := by simp; omega
      rw [hx]
      clear hx
      go_wp2_with fail
      go_loop [12, 15] (fun n i => R2 f scs N1 n i) (fun _ i => scs.length - (intOf i).toNat)
      case atStart => exact ⟨0, Nat.zero_le _, rfl, val_int (by rw [HFB.out]; rfl)⟩
      case round =>
        clear hn1 hk hlt
        obtain ⟨k, hk, rfl, rfl⟩ := hrel
        by_cases hlt : k < scs.length
        · obtain ⟨b3, o3, rfl, hb3, hc3⟩ := F3.out (by omega)
          obtain ⟨sc, hs⟩ : ∃ sc, scs[k]? = some sc := ⟨scs[k], List.getElem?_eq_getElem hlt⟩
          have e3 := (hb_w4.cell (p := ⟨b3, o3 + k, none⟩) (by show b3 < _; omega)).trans ((hb_w3.cell (p := ⟨b3, o3 + k, none⟩) hb3).trans (hc3 k sc hs))
          have i1 : (0 : Int) ≤ (k : Int) := by omega
          have i2 : (k : Int) < (scs.length : Int) := by omega
          have HA := Lib.hid (any_snoc (f := fun s => !sB s) hs)
          clear hc3 hs
          by_cases u1 : sc < 0
          · have HS := Lib.hid (sel_true (b := !fB f || (scs.take (k + 1)).any fun s => !sB s) (c := 3) (d := N1) (by rw [HA.out]; simp [sB]; omega))
            go_wp2_with fail
            go_round
            case rel => exact ⟨k + 1, by omega, by go_num, val_int HS.out.symm⟩
            case measure => simp [intOf]; omega
          · by_cases u2 : 2 < sc
            · have HS := Lib.hid (sel_true (b := !fB f || (scs.take (k + 1)).any fun s => !sB s) (c := 3) (d := N1) (by rw [HA.out]; simp [sB]; omega))
              go_wp2_with fail
              go_round
              case rel => exact ⟨k + 1, by omega, by go_num, val_int HS.out.symm⟩
              case measure => simp [intOf]; omega
            · have HS := Lib.hid (sel_same (b := !fB f || (scs.take (k + 1)).any fun s => !sB s) (b' := !fB f || (scs.take k).any fun s => !sB s) (c := 3) (d := N1) (by rw [HA.out, show sB sc = true by simp [sB]; omega]; simp))
              go_wp2_with fail
              go_round
              case rel => exact ⟨k + 1, by omega, by go_num, val_int HS.out.symm⟩
              case measure => simp [intOf]; omega
        · have hx : sel (!fB f || (scs.take k).any fun s => !sB s) 3 N1 = N2 := by rw [HN2.out, List.take_of_length_le (by omega)]
          have hn1 : decide ((k : Int) < (scs.length : Int)) = false := by simp; omega
          rw [hx]
          clear hx
          go_wp2_with fail
          go_loopw [12, 16] (fun n i wr => R3 w3 b0 xs.length xs rows N2 (.slice a4 xs.length c4) n i wr) (fun _ i _ => rows.length - (intOf i).toNat)
          case atStart => exact ⟨0, Nat.zero_le _, rfl, val_int (by rw [HB0.out]; rfl), HO.out, hb_w4⟩
          case round =>
            clear hn1 hk hlt HO
            obtain ⟨k, hk, rfl, rfl, ho, hb⟩ := hrel
            have HO := Lib.hid ho
            have hzr := hb.size
            clear ho hb_w4 z4
            by_cases hlt : k < rows.length
            · obtain ⟨b2, o2, rfl, hb2, hc2⟩ := F2.out (by omega)
              obtain ⟨r, hr⟩ : ∃ r, rows[k]? = some r := ⟨rows[k], List.getElem?_eq_getElem hlt⟩
              obtain ⟨hrl, hcl⟩ := hc2 k r hr
              obtain ⟨x, y, rfl⟩ : ∃ x y, r = [x, y] := by
                match r, hrl with
                | [x, y], _ => exact ⟨x, y, rfl⟩
              have e1 := (hb.cell (p := ⟨b2, o2 + k * 2, none⟩) (by show b2 < _; omega)).trans ((hb_w3.cell (p := ⟨b2, o2 + k * 2, none⟩) hb2).trans (hcl 0 _ _ rfl rfl).1)
              have e2 := (hb.cell (p := ⟨b2, o2 + k * 2 + 1, none⟩) (by show b2 < _; omega)).trans ((hb_w3.cell (p := ⟨b2, o2 + k * 2 + 1, none⟩) hb2).trans (hcl 1 _ _ rfl rfl).1)
              have i1 : (0 : Int) ≤ (k : Int) := by omega
              have i2 : (k : Int) < (rows.length : Int) := by omega
              have HA := Lib.hid (any_snoc (f := badR xs.length) hr)
              have hg2 : Below wr.heap.size wr (wr.alloc (.cells #[.int .i64 x, .int .i64 y] 46)) := (Below.refl _ _).alloc (Nat.le_refl _) _
              have HO2 := Lib.hid (HO.out.below hg2)
              have hb5 := below_via hb hg2
              clear hc2 hr hcl hrl hg2
              by_cases u0 : x < 0
              · skip
                have HS := Lib.hid (sel_true (b := b0 || (rows.take (k + 1)).any (badR xs.length)) (c := 2) (d := N2) (by rw [HA.out, show badR xs.length [x, y] = true by simp [badR, dB, inB]; omega]; simp))
                go_wp2_with fail
                go_roundw
                case rel => exact ⟨k + 1, by omega, by go_num, val_int HS.out.symm, HO2.out, hb5⟩
                case measure => simp [intOf]; omega
              · skip
                by_cases u1 : (xs.length : Int) ≤ x
                · skip
                  have HS := Lib.hid (sel_true (b := b0 || (rows.take (k + 1)).any (badR xs.length)) (c := 2) (d := N2) (by rw [HA.out, show badR xs.length [x, y] = true by simp [badR, dB, inB]; omega]; simp))
                  go_wp2_with fail
                  go_roundw
                  case rel => exact ⟨k + 1, by omega, by go_num, val_int HS.out.symm, HO2.out, hb5⟩
                  case measure => simp [intOf]; omega
                · skip
                  by_cases u2 : y < 0
                  · skip
                    have HS := Lib.hid (sel_true (b := b0 || (rows.take (k + 1)).any (badR xs.length)) (c := 2) (d := N2) (by rw [HA.out, show badR xs.length [x, y] = true by simp [badR, dB, inB]; omega]; simp))
                    go_wp2_with fail
                    go_roundw
                    case rel => exact ⟨k + 1, by omega, by go_num, val_int HS.out.symm, HO2.out, hb5⟩
                    case measure => simp [intOf]; omega
                  · skip
                    by_cases u3 : (xs.length : Int) ≤ y
                    · skip
                      have HS := Lib.hid (sel_true (b := b0 || (rows.take (k + 1)).any (badR xs.length)) (c := 2) (d := N2) (by rw [HA.out, show badR xs.length [x, y] = true by simp [badR, dB, inB]; omega]; simp))
                      go_wp2_with fail
                      go_roundw
                      case rel => exact ⟨k + 1, by omega, by go_num, val_int HS.out.symm, HO2.out, hb5⟩
                      case measure => simp [intOf]; omega
                    · skip
                      by_cases u4 : x = y
                      · skip
                        have HS := Lib.hid (sel_true (b := b0 || (rows.take (k + 1)).any (badR xs.length)) (c := 2) (d := N2) (by rw [HA.out, show badR xs.length [x, y] = true by simp [badR, dB, inB]; omega]; simp))
                        have ue : (x == y) = true := by simpa using u4
                        clear u4
                        go_wp2_with fail
                        go_roundw
                        case rel => exact ⟨k + 1, by omega, by go_num, val_int HS.out.symm, HO2.out, hb5⟩
                        case measure => simp [intOf]; omega
                      · skip
                        have HS := Lib.hid (sel_same (b := b0 || (rows.take (k + 1)).any (badR xs.length)) (b' := b0 || (rows.take k).any (badR xs.length)) (c := 2) (d := N2) (by rw [HA.out, show badR xs.length [x, y] = false by simp [badR, dB, inB]; omega]; simp))
                        have ue : (x == y) = false := by simpa using u4
                        clear u4
                        go_wp2_with fail
                        go_roundw
                        case rel => exact ⟨k + 1, by omega, by go_num, val_int HS.out.symm, HO2.out, hb5⟩
                        case measure => simp [intOf]; omega
            · have hx : sel (b0 || (rows.take k).any (badR xs.length)) 2 N2 = N3 := by rw [HN3.out, List.take_of_length_le (by omega)]
              have hn1 : decide ((k : Int) < (rows.length : Int)) = false := by simp; omega
              rw [hx]
              clear hx
              have h0 : N3 ≠ 0 := by
                rw [HN3.out, HN2.out, HFB.out]
                unfold sel
                simp
                split <;> decide
              have hov := HNE.out h0
              subst hov
              have h1 : (N3 != 0) = true := by simpa using h0
              clear h0
              go_wp2_with fail
              with_reducible refine (known11 _).mono ?_
              rintro e w' ⟨rfl, rfl⟩
              go_wp2_with fail
              go_returns
              exact ⟨rfl, below_via hb_w3 hb⟩

set_option maxRecDepth 100000 in
set_option maxHeartbeats 2000000 in
theorem ser6_hi_ne (v gv sv : Value) (f : Int) (xs : List Int) (rows : List (List Int)) (scs : List Int) (w : World) (hs : Seg w .i64 v xs) (hg : SRow [.i64, .i64] w gv rows) (hc : Seg w .i64 sv scs) (l1 : xs.length ≤ 20) (l2 : rows.length ≤ 60) (l3 : scs.length ≤ 60) (hf : 64 < f) (q : rows.length ≠ scs.length) : Calls Try.prog 6 #[v, .int .i64 f, gv, sv] w fun e w' => e = .returned (.bool true) ∧ Below w.heap.size w w' := by
  obtain ⟨m1, a1, c1, rfl, f1⟩ := seg_form hs
  obtain ⟨m2, a2, c2, rfl, f2⟩ := srow_form hg
  obtain ⟨m3, a3, c3, rfl, f3⟩ := seg_form hc
  have HSX := Lib.hid hs
  have HGX := Lib.hid hg
  have F2 := Lib.hid f2
  have F3 := Lib.hid f3
  have HCX := Lib.hid hc
  clear hs hg hc f1 f2 f3

  have HFB : Hid (fB f = false) := Lib.hid (by simp [fB] <;> omega)
  have q1 : ((rows.length : Int) != (scs.length : Int)) = true := by simp; omega
  obtain ⟨b0, hb0⟩ : ∃ b0, b0 = decide (rows.length ≠ scs.length) := ⟨_, rfl⟩
  have HB0 : Hid (b0 = true) := Lib.hid (by rw [hb0]; simp; omega)
  have HQ := Lib.hid q
  obtain ⟨N1, hN1⟩ : ∃ N1, N1 = sel (xs.any fun z => !vB z) 3 0 := ⟨_, rfl⟩
  obtain ⟨N2, hN2⟩ : ∃ N2, N2 = sel (!fB f || scs.any (fun s => !sB s)) 3 N1 := ⟨_, rfl⟩
  obtain ⟨N3, hN3⟩ : ∃ N3, N3 = sel (b0 || rows.any (badR xs.length)) 2 N2 := ⟨_, rfl⟩
  have HNO : Hid (serNo f xs rows scs = N3) := Lib.hid (by rw [hN3, hN2, hN1, hb0]; rfl)
  have HN1 := Lib.hid hN1
  have HN2 := Lib.hid hN2
  have HN3 := Lib.hid hN3
  clear q hb0 hN1 hN2 hN3
  go_enter Try.func6, Try.ntmps6
  go_wp2_with (at_builtin; refine wpList_copy_out rfl _ _ rfl rfl _ xs rfl HSX.out (by omega) ?_; intro v1 w1 ho_w1 hb_w1)
  have S1 := Lib.hid ho_w1.seg
  clear ho_w1
  have z1 := hb_w1.size
  go_wp2_with fail
  with_reducible refine (series19_all v1 _ _ f xs rows scs _ S1.out (HGX.out.below hb_w1) (HCX.out.below hb_w1) (by omega) (by omega)).mono ?_
  rintro e w2 ⟨ov, rfl, hne, heq, hb_w2⟩
  rw [HNO.out] at hne heq ⊢
  have z2 := hb_w2.size
  have HNE := Lib.hid hne
  have HEQ := Lib.hid heq
  clear hne heq
  replace S1 := Lib.hid (S1.out.below hb_w2)
  replace hb_w2 := below_via hb_w1 hb_w2
  clear hb_w1
  go_wp2_with fail
  with_reducible refine (ints20t v1 _ xs xs _ S1.out (HSX.out.below hb_w2) rfl).mono ?_
  rintro e w3 ⟨rfl, hb_w3⟩
  replace HEQ : Hid (N3 = 0 → Out w3 w1.heap.size ov (plK f xs rows scs rows.length)) := Lib.hid (fun h => (HEQ.out h).below hb_w3)
  replace hb_w3 := below_via hb_w2 hb_w3
  have z3 := hb_w3.size
  clear hb_w2 S1
  go_wp2_with (at_builtin; refine wpList_copy_out rfl _ _ rfl rfl _ xs rfl (HSX.out.below hb_w3) (by omega) ?_; intro v3 w4 ho_w4 hb_w4)
  obtain ⟨a4, c4, rfl⟩ := ho_w4.form
  have HO := Lib.hid ho_w4
  have z4 := hb_w4.size
  clear ho_w4
  go_wp2_with fail
  go_loop [12, 14] (fun n i => R1 xs n i) (fun _ i => xs.length - (intOf i).toNat)
  case atStart => exact ⟨0, Nat.zero_le _, rfl, rfl⟩
  case round =>
    obtain ⟨k, hk, rfl, rfl⟩ := hrel
    by_cases hlt : k < xs.length
    · obtain ⟨g, ex, rfl, hg1, hg2, hg3, _⟩ := HO.out.get (by omega)
      obtain ⟨z, hz⟩ : ∃ z, xs[k]? = some z := ⟨xs[k], List.getElem?_eq_getElem hlt⟩
      have e1 := hg3.cell hz
      have i1 : (0 : Int) ≤ (k : Int) := by omega
      have i2 : (k : Int) < (xs.length : Int) := by omega
      have HA := Lib.hid (any_snoc (f := fun z => !vB z) hz)
      clear hg3 hz
      go_wp2_with fail
      with_reducible refine (valid9 z _).mono ?_
      rintro e w' ⟨rfl, rfl⟩
      cases hv : vB z
      · have HS := Lib.hid (sel_true (b := (xs.take (k + 1)).any fun z => !vB z) (c := 3) (d := 0) (by rw [HA.out]; simp [hv]))
        go_wp2_with fail
        go_round
        case rel => exact ⟨k + 1, by omega, by go_num, val_int HS.out.symm⟩
        case measure => simp [intOf]; omega
      · have HS := Lib.hid (sel_same (b := (xs.take (k + 1)).any fun z => !vB z) (b' := (xs.take k).any fun z => !vB z) (c := 3) (d := 0) (by rw [HA.out]; simp [hv]))
        go_wp2_with fail
        go_round
        case rel => exact ⟨k + 1, by omega, by go_num, val_int HS.out.symm⟩
        case measure => simp [intOf]; omega
    · have hx : sel ((xs.take k).any fun z => !vB z) 3 0 = N1 := by rw [HN1.out, List.take_of_length_le (by omega)]
      have hn1 : decide ((k : Int) < (xs.length : Int)) = false := by simp; omega
      rw [hx]
      clear hx
      go_wp2_with fail
      go_loop [12, 15] (fun n i => R2 f scs N1 n i) (fun _ i => scs.length - (intOf i).toNat)
      case atStart => exact ⟨0, Nat.zero_le _, rfl, val_int (by rw [HFB.out]; rfl)⟩
      case round =>
        clear hn1 hk hlt
        obtain ⟨k, hk, rfl, rfl⟩ := hrel
        by_cases hlt : k < scs.length
        · obtain ⟨b3, o3, rfl, hb3, hc3⟩ := F3.out (by omega)
          obtain ⟨sc, hs⟩ : ∃ sc, scs[k]? = some sc := ⟨scs[k], List.getElem?_eq_getElem hlt⟩
          have e3 := (hb_w4.cell (p := ⟨b3, o3 + k, none⟩) (by show b3 < _; omega)).trans ((hb_w3.cell (p := ⟨b3, o3 + k, none⟩) hb3).trans (hc3 k sc hs))
          have i1 : (0 : Int) ≤ (k : Int) := by omega
          have i2 : (k : Int) < (scs.length : Int) := by omega
          have HA := Lib.hid (any_snoc (f := fun s => !sB s) hs)
          clear hc3 hs
          by_cases u1 : sc < 0
          · have HS := Lib.hid (sel_true (b := !fB f || (scs.take (k + 1)).any fun s => !sB s) (c := 3) (d := N1) (by rw [HA.out]; simp [sB]; omega))
            go_wp2_with fail
            go_round
            case rel => exact ⟨k + 1, by omega, by go_num, val_int HS.out.symm⟩
            case measure => simp [intOf]; omega
          · by_cases u2 : 2 < sc
            · have HS := Lib.hid (sel_true (b := !fB f || (scs.take (k + 1)).any fun s => !sB s) (c := 3) (d := N1) (by rw [HA.out]; simp [sB]; omega))
              go_wp2_with fail
              go_round
              case rel => exact ⟨k + 1, by omega, by go_num, val_int HS.out.symm⟩
              case measure => simp [intOf]; omega
            · have HS := Lib.hid (sel_same (b := !fB f || (scs.take (k + 1)).any fun s => !sB s) (b' := !fB f || (scs.take k).any fun s => !sB s) (c := 3) (d := N1) (by rw [HA.out, show sB sc = true by simp [sB]; omega]; simp))
              go_wp2_with fail
              go_round
              case rel => exact ⟨k + 1, by omega, by go_num, val_int HS.out.symm⟩
              case measure => simp [intOf]; omega
        · have hx : sel (!fB f || (scs.take k).any fun s => !sB s) 3 N1 = N2 := by rw [HN2.out, List.take_of_length_le (by omega)]
          have hn1 : decide ((k : Int) < (scs.length : Int)) = false := by simp; omega
          rw [hx]
          clear hx
          go_wp2_with fail
          go_loopw [12, 16] (fun n i wr => R3 w3 b0 xs.length xs rows N2 (.slice a4 xs.length c4) n i wr) (fun _ i _ => rows.length - (intOf i).toNat)
          case atStart => exact ⟨0, Nat.zero_le _, rfl, val_int (by rw [HB0.out]; rfl), HO.out, hb_w4⟩
          case round =>
            clear hn1 hk hlt HO
            obtain ⟨k, hk, rfl, rfl, ho, hb⟩ := hrel
            have HO := Lib.hid ho
            have hzr := hb.size
            clear ho hb_w4 z4
            by_cases hlt : k < rows.length
            · obtain ⟨b2, o2, rfl, hb2, hc2⟩ := F2.out (by omega)
              obtain ⟨r, hr⟩ : ∃ r, rows[k]? = some r := ⟨rows[k], List.getElem?_eq_getElem hlt⟩
              obtain ⟨hrl, hcl⟩ := hc2 k r hr
              obtain ⟨x, y, rfl⟩ : ∃ x y, r = [x, y] := by
                match r, hrl with
                | [x, y], _ => exact ⟨x, y, rfl⟩
              have e1 := (hb.cell (p := ⟨b2, o2 + k * 2, none⟩) (by show b2 < _; omega)).trans ((hb_w3.cell (p := ⟨b2, o2 + k * 2, none⟩) hb2).trans (hcl 0 _ _ rfl rfl).1)
              have e2 := (hb.cell (p := ⟨b2, o2 + k * 2 + 1, none⟩) (by show b2 < _; omega)).trans ((hb_w3.cell (p := ⟨b2, o2 + k * 2 + 1, none⟩) hb2).trans (hcl 1 _ _ rfl rfl).1)
              have i1 : (0 : Int) ≤ (k : Int) := by omega
              have i2 : (k : Int) < (rows.length : Int) := by omega
              have HA := Lib.hid (any_snoc (f := badR xs.length) hr)
              have hg2 : Below wr.heap.size wr (wr.alloc (.cells #[.int .i64 x, .int .i64 y] 46)) := (Below.refl _ _).alloc (Nat.le_refl _) _
              have HO2 := Lib.hid (HO.out.below hg2)
              have hb5 := below_via hb hg2
              clear hc2 hr hcl hrl hg2
              by_cases u0 : x < 0
              · skip
                have HS := Lib.hid (sel_true (b := b0 || (rows.take (k + 1)).any (badR xs.length)) (c := 2) (d := N2) (by rw [HA.out, show badR xs.length [x, y] = true by simp [badR, dB, inB]; omega]; simp))
                go_wp2_with fail
                go_roundw
                case rel => exact ⟨k + 1, by omega, by go_num, val_int HS.out.symm, HO2.out, hb5⟩
                case measure => simp [intOf]; omega
              · skip
                by_cases u1 : (xs.length : Int) ≤ x
                · skip
                  have HS := Lib.hid (sel_true (b := b0 || (rows.take (k + 1)).any (badR xs.length)) (c := 2) (d := N2) (by rw [HA.out, show badR xs.length [x, y] = true by simp [badR, dB, inB]; omega]; simp))
                  go_wp2_with fail
                  go_roundw
                  case rel => exact ⟨k + 1, by omega, by go_num, val_int HS.out.symm, HO2.out, hb5⟩
                  case measure => simp [intOf]; omega
                · skip
                  by_cases u2 : y < 0
                  · skip
                    have HS := Lib.hid (sel_true (b := b0 || (rows.take (k + 1)).any (badR xs.length)) (c := 2) (d := N2) (by rw [HA.out, show badR xs.length [x, y] = true by simp [badR, dB, inB]; omega]; simp))
                    go_wp2_with fail
                    go_roundw
                    case rel => exact ⟨k + 1, by omega, by go_num, val_int HS.out.symm, HO2.out, hb5⟩
                    case measure => simp [intOf]; omega
                  · skip
                    by_cases u3 : (xs.length : Int) ≤ y
                    · skip
                      have HS := Lib.hid (sel_true (b := b0 || (rows.take (k + 1)).any (badR xs.length)) (c := 2) (d := N2) (by rw [HA.out, show badR xs.length [x, y] = true by simp [badR, dB, inB]; omega]; simp))
                      go_wp2_with fail
                      go_roundw
                      case rel => exact ⟨k + 1, by omega, by go_num, val_int HS.out.symm, HO2.out, hb5⟩
                      case measure => simp [intOf]; omega
                    · skip
                      by_cases u4 : x = y
                      · skip
                        have HS := Lib.hid (sel_true (b := b0 || (rows.take (k + 1)).any (badR xs.length)) (c := 2) (d := N2) (by rw [HA.out, show badR xs.length [x, y] = true by simp [badR, dB, inB]; omega]; simp))
                        have ue : (x == y) = true := by simpa using u4
                        clear u4
                        go_wp2_with fail
                        go_roundw
                        case rel => exact ⟨k + 1, by omega, by go_num, val_int HS.out.symm, HO2.out, hb5⟩
                        case measure => simp [intOf]; omega
                      · skip
                        have HS := Lib.hid (sel_same (b := b0 || (rows.take (k + 1)).any (badR xs.length)) (b' := b0 || (rows.take k).any (badR xs.length)) (c := 2) (d := N2) (by rw [HA.out, show badR xs.length [x, y] = false by simp [badR, dB, inB]; omega]; simp))
                        have ue : (x == y) = false := by simpa using u4
                        clear u4
                        go_wp2_with fail
                        go_roundw
                        case rel => exact ⟨k + 1, by omega, by go_num, val_int HS.out.symm, HO2.out, hb5⟩
                        case measure => simp [intOf]; omega
            · have hx : sel (b0 || (rows.take k).any (badR xs.length)) 2 N2 = N3 := by rw [HN3.out, List.take_of_length_le (by omega)]
              have hn1 : decide ((k : Int) < (rows.length : Int)) = false := by simp; omega
              rw [hx]
              clear hx
              have h0 : N3 ≠ 0 := by
                rw [HN3.out, HB0.out]
                simp [sel]
              have hov := HNE.out h0
              subst hov
              have h1 : (N3 != 0) = true := by simpa using h0
              clear h0
              go_wp2_with fail
              with_reducible refine (known11 _).mono ?_
              rintro e w' ⟨rfl, rfl⟩
              go_wp2_with fail
              go_returns
              exact ⟨rfl, below_via hb_w3 hb⟩

set_option maxRecDepth 100000 in
set_option maxHeartbeats 2000000 in
theorem ser6_ok_ne (v gv sv : Value) (f : Int) (xs : List Int) (rows : List (List Int)) (scs : List Int) (w : World) (hs : Seg w .i64 v xs) (hg : SRow [.i64, .i64] w gv rows) (hc : Seg w .i64 sv scs) (l1 : xs.length ≤ 20) (l2 : rows.length ≤ 60) (l3 : scs.length ≤ 60) (hf0 : 1 ≤ f) (hf : f ≤ 64) (q : rows.length ≠ scs.length) : Calls Try.prog 6 #[v, .int .i64 f, gv, sv] w fun e w' => e = .returned (.bool true) ∧ Below w.heap.size w w' := by
  obtain ⟨m1, a1, c1, rfl, f1⟩ := seg_form hs
  obtain ⟨m2, a2, c2, rfl, f2⟩ := srow_form hg
  obtain ⟨m3, a3, c3, rfl, f3⟩ := seg_form hc
  have HSX := Lib.hid hs
  have HGX := Lib.hid hg
  have F2 := Lib.hid f2
  have F3 := Lib.hid f3
  have HCX := Lib.hid hc
  clear hs hg hc f1 f2 f3

  have HFB : Hid (fB f = true) := Lib.hid (by simp [fB] <;> omega)
  have q1 : ((rows.length : Int) != (scs.length : Int)) = true := by simp; omega
  obtain ⟨b0, hb0⟩ : ∃ b0, b0 = decide (rows.length ≠ scs.length) := ⟨_, rfl⟩
  have HB0 : Hid (b0 = true) := Lib.hid (by rw [hb0]; simp; omega)
  have HQ := Lib.hid q
  obtain ⟨N1, hN1⟩ : ∃ N1, N1 = sel (xs.any fun z => !vB z) 3 0 := ⟨_, rfl⟩
  obtain ⟨N2, hN2⟩ : ∃ N2, N2 = sel (!fB f || scs.any (fun s => !sB s)) 3 N1 := ⟨_, rfl⟩
  obtain ⟨N3, hN3⟩ : ∃ N3, N3 = sel (b0 || rows.any (badR xs.length)) 2 N2 := ⟨_, rfl⟩
  have HNO : Hid (serNo f xs rows scs = N3) := Lib.hid (by rw [hN3, hN2, hN1, hb0]; rfl)
  have HN1 := Lib.hid hN1
  have HN2 := Lib.hid hN2
  have HN3 := Lib.hid hN3
  clear q hb0 hN1 hN2 hN3
  go_enter Try.func6, Try.ntmps6
  go_wp2_with (at_builtin; refine wpList_copy_out rfl _ _ rfl rfl _ xs rfl HSX.out (by omega) ?_; intro v1 w1 ho_w1 hb_w1)
  have S1 := Lib.hid ho_w1.seg
  clear ho_w1
  have z1 := hb_w1.size
  go_wp2_with fail
  with_reducible refine (series19_all v1 _ _ f xs rows scs _ S1.out (HGX.out.below hb_w1) (HCX.out.below hb_w1) (by omega) (by omega)).mono ?_
  rintro e w2 ⟨ov, rfl, hne, heq, hb_w2⟩
  rw [HNO.out] at hne heq ⊢
  have z2 := hb_w2.size
  have HNE := Lib.hid hne
  have HEQ := Lib.hid heq
  clear hne heq
  replace S1 := Lib.hid (S1.out.below hb_w2)
  replace hb_w2 := below_via hb_w1 hb_w2
  clear hb_w1
  go_wp2_with fail
  with_reducible refine (ints20t v1 _ xs xs _ S1.out (HSX.out.below hb_w2) rfl).mono ?_
  rintro e w3 ⟨rfl, hb_w3⟩
  replace HEQ : Hid (N3 = 0 → Out w3 w1.heap.size ov (plK f xs rows scs rows.length)) := Lib.hid (fun h => (HEQ.out h).below hb_w3)
  replace hb_w3 := below_via hb_w2 hb_w3
  have z3 := hb_w3.size
  clear hb_w2 S1
  go_wp2_with (at_builtin; refine wpList_copy_out rfl _ _ rfl rfl _ xs rfl (HSX.out.below hb_w3) (by omega) ?_; intro v3 w4 ho_w4 hb_w4)
  obtain ⟨a4, c4, rfl⟩ := ho_w4.form
  have HO := Lib.hid ho_w4
  have z4 := hb_w4.size
  clear ho_w4
  go_wp2_with fail
  go_loop [12, 14] (fun n i => R1 xs n i) (fun _ i => xs.length - (intOf i).toNat)
  case atStart => exact ⟨0, Nat.zero_le _, rfl, rfl⟩
  case round =>
    obtain ⟨k, hk, rfl, rfl⟩ := hrel
    by_cases hlt : k < xs.length
    · obtain ⟨g, ex, rfl, hg1, hg2, hg3, _⟩ := HO.out.get (by omega)
      obtain ⟨z, hz⟩ : ∃ z, xs[k]? = some z := ⟨xs[k], List.getElem?_eq_getElem hlt⟩
      have e1 := hg3.cell hz
      have i1 : (0 : Int) ≤ (k : Int) := by omega
      have i2 : (k : Int) < (xs.length : Int) := by omega
      have HA := Lib.hid (any_snoc (f := fun z => !vB z) hz)
      clear hg3 hz
      go_wp2_with fail
      with_reducible refine (valid9 z _).mono ?_
      rintro e w' ⟨rfl, rfl⟩
      cases hv : vB z
      · have HS := Lib.hid (sel_true (b := (xs.take (k + 1)).any fun z => !vB z) (c := 3) (d := 0) (by rw [HA.out]; simp [hv]))
        go_wp2_with fail
        go_round
        case rel => exact ⟨k + 1, by omega, by go_num, val_int HS.out.symm⟩
        case measure => simp [intOf]; omega
      · have HS := Lib.hid (sel_same (b := (xs.take (k + 1)).any fun z => !vB z) (b' := (xs.take k).any fun z => !vB z) (c := 3) (d := 0) (by rw [HA.out]; simp [hv]))
        go_wp2_with fail
        go_round
        case rel => exact ⟨k + 1, by omega, by go_num, val_int HS.out.symm⟩
        case measure => simp [intOf]; omega
    · have hx : sel ((xs.take k).any fun z => !vB z) 3 0 = N1 := by rw [HN1.out, List.take_of_length_le (by omega)]
      have hn1 : decide ((k : Int) < (xs.length : Int)) = false := by simp; omega
      rw [hx]
      clear hx
      go_wp2_with fail
      go_loop [12, 15] (fun n i => R2 f scs N1 n i) (fun _ i => scs.length - (intOf i).toNat)
      case atStart => exact ⟨0, Nat.zero_le _, rfl, val_int (by rw [HFB.out]; rfl)⟩
      case round =>
        clear hn1 hk hlt
        obtain ⟨k, hk, rfl, rfl⟩ := hrel
        by_cases hlt : k < scs.length
        · obtain ⟨b3, o3, rfl, hb3, hc3⟩ := F3.out (by omega)
          obtain ⟨sc, hs⟩ : ∃ sc, scs[k]? = some sc := ⟨scs[k], List.getElem?_eq_getElem hlt⟩
          have e3 := (hb_w4.cell (p := ⟨b3, o3 + k, none⟩) (by show b3 < _; omega)).trans ((hb_w3.cell (p := ⟨b3, o3 + k, none⟩) hb3).trans (hc3 k sc hs))
          have i1 : (0 : Int) ≤ (k : Int) := by omega
          have i2 : (k : Int) < (scs.length : Int) := by omega
          have HA := Lib.hid (any_snoc (f := fun s => !sB s) hs)
          clear hc3 hs
          by_cases u1 : sc < 0
          · have HS := Lib.hid (sel_true (b := !fB f || (scs.take (k + 1)).any fun s => !sB s) (c := 3) (d := N1) (by rw [HA.out]; simp [sB]; omega))
            go_wp2_with fail
            go_round
            case rel => exact ⟨k + 1, by omega, by go_num, val_int HS.out.symm⟩
            case measure => simp [intOf]; omega
          · by_cases u2 : 2 < sc
            · have HS := Lib.hid (sel_true (b := !fB f || (scs.take (k + 1)).any fun s => !sB s) (c := 3) (d := N1) (by rw [HA.out]; simp [sB]; omega))
              go_wp2_with fail
              go_round
              case rel => exact ⟨k + 1, by omega, by go_num, val_int HS.out.symm⟩
              case measure => simp [intOf]; omega
            · have HS := Lib.hid (sel_same (b := !fB f || (scs.take (k + 1)).any fun s => !sB s) (b' := !fB f || (scs.take k).any fun s => !sB s) (c := 3) (d := N1) (by rw [HA.out, show sB sc = true by simp [sB]; omega]; simp))
              go_wp2_with fail
              go_round
              case rel => exact ⟨k + 1, by omega, by go_num, val_int HS.out.symm⟩
              case measure => simp [intOf]; omega
        · have hx : sel (!fB f || (scs.take k).any fun s => !sB s) 3 N1 = N2 := by rw [HN2.out, List.take_of_length_le (by omega)]
          have hn1 : decide ((k : Int) < (scs.length : Int)) = false := by simp; omega
          rw [hx]
          clear hx
          go_wp2_with fail
          go_loopw [12, 16] (fun n i wr => R3 w3 b0 xs.length xs rows N2 (.slice a4 xs.length c4) n i wr) (fun _ i _ => rows.length - (intOf i).toNat)
          case atStart => exact ⟨0, Nat.zero_le _, rfl, val_int (by rw [HB0.out]; rfl), HO.out, hb_w4⟩
          case round =>
            clear hn1 hk hlt HO
            obtain ⟨k, hk, rfl, rfl, ho, hb⟩ := hrel
            have HO := Lib.hid ho
            have hzr := hb.size
            clear ho hb_w4 z4
            by_cases hlt : k < rows.length
            · obtain ⟨b2, o2, rfl, hb2, hc2⟩ := F2.out (by omega)
              obtain ⟨r, hr⟩ : ∃ r, rows[k]? = some r := ⟨rows[k], List.getElem?_eq_getElem hlt⟩
              obtain ⟨hrl, hcl⟩ := hc2 k r hr
              obtain ⟨x, y, rfl⟩ : ∃ x y, r = [x, y] := by
                match r, hrl with
                | [x, y], _ => exact ⟨x, y, rfl⟩
              have e1 := (hb.cell (p := ⟨b2, o2 + k * 2, none⟩) (by show b2 < _; omega)).trans ((hb_w3.cell (p := ⟨b2, o2 + k * 2, none⟩) hb2).trans (hcl 0 _ _ rfl rfl).1)
              have e2 := (hb.cell (p := ⟨b2, o2 + k * 2 + 1, none⟩) (by show b2 < _; omega)).trans ((hb_w3.cell (p := ⟨b2, o2 + k * 2 + 1, none⟩) hb2).trans (hcl 1 _ _ rfl rfl).1)
              have i1 : (0 : Int) ≤ (k : Int) := by omega
              have i2 : (k : Int) < (rows.length : Int) := by omega
              have HA := Lib.hid (any_snoc (f := badR xs.length) hr)
              have hg2 : Below wr.heap.size wr (wr.alloc (.cells #[.int .i64 x, .int .i64 y] 46)) := (Below.refl _ _).alloc (Nat.le_refl _) _
              have HO2 := Lib.hid (HO.out.below hg2)
              have hb5 := below_via hb hg2
              clear hc2 hr hcl hrl hg2
              by_cases u0 : x < 0
              · skip
                have HS := Lib.hid (sel_true (b := b0 || (rows.take (k + 1)).any (badR xs.length)) (c := 2) (d := N2) (by rw [HA.out, show badR xs.length [x, y] = true by simp [badR, dB, inB]; omega]; simp))
                go_wp2_with fail
                go_roundw
                case rel => exact ⟨k + 1, by omega, by go_num, val_int HS.out.symm, HO2.out, hb5⟩
                case measure => simp [intOf]; omega
              · skip
                by_cases u1 : (xs.length : Int) ≤ x
                · skip
                  have HS := Lib.hid (sel_true (b := b0 || (rows.take (k + 1)).any (badR xs.length)) (c := 2) (d := N2) (by rw [HA.out, show badR xs.length [x, y] = true by simp [badR, dB, inB]; omega]; simp))
                  go_wp2_with fail
                  go_roundw
                  case rel => exact ⟨k + 1, by omega, by go_num, val_int HS.out.symm, HO2.out, hb5⟩
                  case measure => simp [intOf]; omega
                · skip
                  by_cases u2 : y < 0
                  · skip
                    have HS := Lib.hid (sel_true (b := b0 || (rows.take (k + 1)).any (badR xs.length)) (c := 2) (d := N2) (by rw [HA.out, show badR xs.length [x, y] = true by simp [badR, dB, inB]; omega]; simp))
                    go_wp2_with fail
                    go_roundw
                    case rel => exact ⟨k + 1, by omega, by go_num, val_int HS.out.symm, HO2.out, hb5⟩
                    case measure => simp [intOf]; omega
                  · skip
                    by_cases u3 : (xs.length : Int) ≤ y
                    · skip
                      have HS := Lib.hid (sel_true (b := b0 || (rows.take (k + 1)).any (badR xs.length)) (c := 2) (d := N2) (by rw [HA.out, show badR xs.length [x, y] = true by simp [badR, dB, inB]; omega]; simp))
                      go_wp2_with fail
                      go_roundw
                      case rel => exact ⟨k + 1, by omega, by go_num, val_int HS.out.symm, HO2.out, hb5⟩
                      case measure => simp [intOf]; omega
                    · skip
                      by_cases u4 : x = y
                      · skip
                        have HS := Lib.hid (sel_true (b := b0 || (rows.take (k + 1)).any (badR xs.length)) (c := 2) (d := N2) (by rw [HA.out, show badR xs.length [x, y] = true by simp [badR, dB, inB]; omega]; simp))
                        have ue : (x == y) = true := by simpa using u4
                        clear u4
                        go_wp2_with fail
                        go_roundw
                        case rel => exact ⟨k + 1, by omega, by go_num, val_int HS.out.symm, HO2.out, hb5⟩
                        case measure => simp [intOf]; omega
                      · skip
                        have HS := Lib.hid (sel_same (b := b0 || (rows.take (k + 1)).any (badR xs.length)) (b' := b0 || (rows.take k).any (badR xs.length)) (c := 2) (d := N2) (by rw [HA.out, show badR xs.length [x, y] = false by simp [badR, dB, inB]; omega]; simp))
                        have ue : (x == y) = false := by simpa using u4
                        clear u4
                        go_wp2_with fail
                        go_roundw
                        case rel => exact ⟨k + 1, by omega, by go_num, val_int HS.out.symm, HO2.out, hb5⟩
                        case measure => simp [intOf]; omega
            · have hx : sel (b0 || (rows.take k).any (badR xs.length)) 2 N2 = N3 := by rw [HN3.out, List.take_of_length_le (by omega)]
              have hn1 : decide ((k : Int) < (rows.length : Int)) = false := by simp; omega
              rw [hx]
              clear hx
              have h0 : N3 ≠ 0 := by
                rw [HN3.out, HB0.out]
                simp [sel]
              have hov := HNE.out h0
              subst hov
              have h1 : (N3 != 0) = true := by simpa using h0
              clear h0
              go_wp2_with fail
              with_reducible refine (known11 _).mono ?_
              rintro e w' ⟨rfl, rfl⟩
              go_wp2_with fail
              go_returns
              exact ⟨rfl, below_via hb_w3 hb⟩

end Go.Proofs.Ytnabpcgpheakfaa
