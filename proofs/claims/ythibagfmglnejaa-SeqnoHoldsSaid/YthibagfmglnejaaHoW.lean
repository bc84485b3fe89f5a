/- SeqnoHolds: the walk. -/
import Derived.Test.YthibagfmglnejaaHoP
import Derived.BigQuiet
import Derived.Deep.QuietTactic
import Derived.IntWalk
import Derived.Deep.LoopGhost
import Derived.Carry
namespace Go.Proofs.Ythibagfmglnejaa
open Go.RowKit Plain
set_option linter.unusedVariables false
set_option linter.unusedSimpArgs false

set_option maxRecDepth 100000 in
set_option maxHeartbeats 2000000 in
theorem holds6_0 (f s : Int) (lv : Value) (zs : List Int) (w : World) (hf : U16 f) (hs : Seg w .u16 lv zs) (hz : ∀ z ∈ zs, U16 z) (h : s < 1) : Calls Try.prog 6 #[.int .u16 f, .int .i64 s, lv] w fun e w' => e = .returned (.bool true) ∧ Below w.heap.size w w' := by
  obtain ⟨m1, la, lc, rfl, f1⟩ := seg_form hs
  have F1 := Lib.hid f1
  have HZS := Lib.hid hz
  clear hs f1 hz
  go_enter Try.func6, Try.ntmps6
  go_wp2_with fail
  with_reducible refine (known15 _).mono ?_
  rintro e w1 ⟨rfl, hb_w1⟩
  have K_w1 : Kept w.heap.size w (w.heap.size) [] w1 := Kept.of hb_w1 (by go_grown) (by go_size) (by omega) (by simp [go_sem] <;> omega)
  clear hb_w1
  have KH_w1 := Lib.hid K_w1
  have hw_w1 := K_w1.below
  have hz_w1 := K_w1.size
  clear K_w1
  go_wp2_with fail
  go_returns
  exact ⟨rfl, by go_grown⟩

set_option maxRecDepth 100000 in
set_option maxHeartbeats 2000000 in
theorem holds6_1 (f s : Int) (lv : Value) (zs : List Int) (w : World) (hf : U16 f) (hs : Seg w .u16 lv zs) (hz : ∀ z ∈ zs, U16 z) (h0 : 1 ≤ s) (h : 70 < s) : Calls Try.prog 6 #[.int .u16 f, .int .i64 s, lv] w fun e w' => e = .returned (.bool true) ∧ Below w.heap.size w w' := by
  obtain ⟨m1, la, lc, rfl, f1⟩ := seg_form hs
  have F1 := Lib.hid f1
  have HZS := Lib.hid hz
  clear hs f1 hz
  have q : decide (s < 1) = false := by simp; omega
  go_enter Try.func6, Try.ntmps6
  go_wp2_with fail
  with_reducible refine (known15 _).mono ?_
  rintro e w1 ⟨rfl, hb_w1⟩
  have K_w1 : Kept w.heap.size w (w.heap.size) [] w1 := Kept.of hb_w1 (by go_grown) (by go_size) (by omega) (by simp [go_sem] <;> omega)
  clear hb_w1
  have KH_w1 := Lib.hid K_w1
  have hw_w1 := K_w1.below
  have hz_w1 := K_w1.size
  clear K_w1
  go_wp2_with fail
  go_returns
  exact ⟨rfl, by go_grown⟩

set_option maxRecDepth 100000 in
set_option maxHeartbeats 2000000 in
theorem holds6_2 (f s : Int) (lv : Value) (zs : List Int) (w : World) (hf : U16 f) (hs : Seg w .u16 lv zs) (hz : ∀ z ∈ zs, U16 z) (h0 : 1 ≤ s) (h1 : s ≤ 70) (h : 100 < zs.length) : Calls Try.prog 6 #[.int .u16 f, .int .i64 s, lv] w fun e w' => e = .returned (.bool true) ∧ Below w.heap.size w w' := by
  obtain ⟨m1, la, lc, rfl, f1⟩ := seg_form hs
  have F1 := Lib.hid f1
  have HZS := Lib.hid hz
  clear hs f1 hz
  have q : decide (s < 1) = false := by simp; omega
  have q1 : decide (70 < s) = false := by simp; omega
  go_enter Try.func6, Try.ntmps6
  go_wp2_with fail
  with_reducible refine (known15 _).mono ?_
  rintro e w1 ⟨rfl, hb_w1⟩
  have K_w1 : Kept w.heap.size w (w.heap.size) [] w1 := Kept.of hb_w1 (by go_grown) (by go_size) (by omega) (by simp [go_sem] <;> omega)
  clear hb_w1
  have KH_w1 := Lib.hid K_w1
  have hw_w1 := K_w1.below
  have hz_w1 := K_w1.size
  clear K_w1
  go_wp2_with fail
  go_returns
  exact ⟨rfl, by go_grown⟩

def InRel (f0 : Int) (t : Nat) (W : World) (g : Nat) (x : Value) (wx : World) : Prop := ∃ j : Nat, j ≤ t ∧ g = t - j ∧ x = .int .u16 (at5 f0 j) ∧ wx = W
def PrRel (w : World) (i : Value) (wr : World) : Prop := ∃ j : Nat, i = .int .i64 ((j : Int) + 1) ∧ Below w.heap.size w wr
def HoRel (w : World) (f : Int) (P D cap : Nat) (ex : List Value) (b size : Nat) (zs : List Int) (i : Value) (wr : World) : Prop := ∃ (k t n : Nat) (l : List Bool) (S : List Int), k ≤ zs.length ∧ i = .int .i64 k ∧ t + cnt l ≤ k ∧ n ≤ k ∧ l[0]? = some false ∧ l.length = size ∧ Tk f t (at5 f t) l S ∧ WinAt wr P D (at5 f t) l cap ex ∧ MapB wr b n S ∧ Below w.heap.size w wr
theorem at5_ne {f : Int} {a b : Nat} (ha : a < 65536) (hb : b < 65536) (h : a ≠ b) : (at5 f a != at5 f b) = true := by
  simp
  unfold at5
  omega
theorem dist_prev (f : Int) (hf : U16 f) : dist f ((f - 1) % 65536) = ((65535 : Nat) : Int) := by unfold dist U16 at *; omega
theorem resN_far {l : List Bool} {d : Nat} (h : l.length ≤ d) : resN l d ≠ 0 := by
  unfold resN
  split
  · decide
  · first | decide | (rw [if_pos h]; decide)
theorem at5_wrap (f : Int) (j : Nat) : IntKind.u16.wrap (at5 f j + 1) = at5 f (j + 1) := by rw [IntKind.wrap_u16]; unfold at5; omega
theorem hasN_eq {l : List Bool} {d : Nat} (h : d < 32768) : hasN l d = l.getD d false := by unfold hasN; simp; omega
set_option maxRecDepth 100000 in
set_option maxHeartbeats 8000000 in
theorem holds6 (f s : Int) (lv : Value) (zs : List Int) (w : World) (hf : U16 f) (hs : Seg w .u16 lv zs) (hz : ∀ z ∈ zs, U16 z) (h0 : 1 ≤ s) (h1 : s ≤ 70) (h2 : zs.length ≤ 100) : Calls Try.prog 6 #[.int .u16 f, .int .i64 s, lv] w fun e w' => e = .returned (.bool true) ∧ Below w.heap.size w w' := by
  obtain ⟨m1, la, lc, rfl, f1⟩ := seg_form hs
  have F1 := Lib.hid f1
  have HZS := Lib.hid hz
  clear hs f1 hz
  have q : decide (s < 1) = false := by simp; omega
  have q1 : decide (70 < s) = false := by simp; omega
  have q2 : decide ((100 : Int) < (zs.length : Int)) = false := by simp; omega
  have hmm := @run_makeMap Try.prog
  go_enter Try.func6, Try.ntmps6
  go_wp2_with fail
  go_loopw [7] (fun i wr => PrRel w i wr) (fun i _ => zs.length - (intOf i).toNat)
  case atStart => exact ⟨0, rfl, Below.refl _ _⟩
  case round =>
    obtain ⟨j, rfl, hb⟩ := hrel
    by_cases hlt : j + 1 < zs.length
    · obtain ⟨b1, o1, rfl, hb1, hc1⟩ := F1.out (by omega)
      obtain ⟨x, hx⟩ : ∃ x, zs[j]? = some x := ⟨zs[j]'(by omega), List.getElem?_eq_getElem (by omega)⟩
      obtain ⟨y, hy⟩ : ∃ y, zs[j + 1]? = some y := ⟨zs[j + 1], List.getElem?_eq_getElem hlt⟩
      have e1 := (hb.cell (p := ⟨b1, o1 + j, none⟩) hb1).trans (hc1 j x hx)
      have e2 := (hb.cell (p := ⟨b1, o1 + (j + 1), none⟩) hb1).trans (hc1 (j + 1) y hy)
      have ux := HZS.out x (List.mem_of_getElem? hx)
      have uy := HZS.out y (List.mem_of_getElem? hy)
      have UX := Lib.hid ux
      have UY := Lib.hid uy
      have i1 : (0 : Int) ≤ (j : Int) := by omega
      have i2 : (j : Int) + 1 < (zs.length : Int) := by omega
      have i3 : (j : Int) < (zs.length : Int) := by omega
      have i4 : (0 : Int) ≤ (j : Int) + 1 := by omega
      have w1 : IntKind.i64.wrap (j : Int) = (j : Int) := IntWalk.i64_in _ (by omega)
      have w2 : ((j : Int) + 1).toNat = j + 1 := by omega
      clear hc1 hx hy ux uy
      go_wp2_with fail
      go_quiet (fail)
      clear w1 w2
      by_cases hxy : x = y
      · subst hxy
        have hA := Lib.hid (aft_eq x)
        have hD : Hid (dist x x = 0) := Lib.hid (by simpa using dist_self x)
        go_wp2_with fail
        with_reducible refine (dist11c x x 0 _ UX.out UX.out hD.out).mono ?_
        rintro e w' ⟨rfl, rfl⟩
        go_wp2_with fail
        with_reducible refine (dist11c x x 0 _ UX.out UX.out hD.out).mono ?_
        rintro e w' ⟨rfl, rfl⟩
        go_wp2_with fail
        with_reducible refine (after13c x x false _ UX.out UX.out hA.out).mono ?_
        rintro e w' ⟨rfl, rfl⟩
        go_wp2_with fail
        with_reducible refine (after13c x x false _ UX.out UX.out hA.out).mono ?_
        rintro e w' ⟨rfl, rfl⟩
        go_wp2_with fail
        go_roundw
        case rel => exact ⟨j + 1, by go_num, below_drewN hb _⟩
        case measure => simp [intOf]; omega
      · have t1 : (x != y) = true := by simpa using hxy
        have t2 : (x == y) = false := by simpa using hxy
        have hXY := Lib.hid hxy
        clear hxy
        by_cases hh : dist x y = 32768
        · have hA := Lib.hid (aft_half hh).1
          have hA2 := Lib.hid (aft_half hh).2
          have hD2 : Hid (dist y x = 32768) := Lib.hid (by rw [dist_comm, hh]; rfl)
          have hD := Lib.hid hh
          clear hh
          go_wp2_with fail
          with_reducible refine (dist11c x y 32768 _ UX.out UY.out hD.out).mono ?_
          rintro e w' ⟨rfl, rfl⟩
          go_wp2_with fail
          with_reducible refine (dist11c y x 32768 _ UY.out UX.out hD2.out).mono ?_
          rintro e w' ⟨rfl, rfl⟩
          go_wp2_with fail
          with_reducible refine (after13c x y false _ UX.out UY.out hA.out).mono ?_
          rintro e w' ⟨rfl, rfl⟩
          go_wp2_with fail
          with_reducible refine (after13c y x false _ UY.out UX.out hA2.out).mono ?_
          rintro e w' ⟨rfl, rfl⟩
          go_wp2_with fail
          go_roundw
          case rel => exact ⟨j + 1, by go_num, below_drewN hb _⟩
          case measure => simp [intOf]; omega
        · obtain ⟨d, hd⟩ : ∃ d, dist x y = d := ⟨_, rfl⟩
          have hN := aft_not UX.out UY.out hXY.out hh
          have dbd := dist_bd x y
          rw [hd] at dbd hh
          obtain ⟨d0, d1⟩ := dbd
          have t3 : (d != 32768) = true := by simpa using hh
          have t4 : (d == 32768) = false := by simpa using hh
          have hD2 : Hid (dist y x = (65536 - d) % 65536) := Lib.hid (by rw [dist_comm, hd])
          have hD := Lib.hid hd
          clear hd hh
          cases hv : aft x y
          · have hA := Lib.hid hv
            have hA2 : Hid (aft y x = true) := Lib.hid (by rw [hN, hv]; rfl)
            clear hv hN
            go_wp2_with fail
            with_reducible refine (dist11c x y d _ UX.out UY.out hD.out).mono ?_
            rintro e w' ⟨rfl, rfl⟩
            go_wp2_with fail
            with_reducible refine (dist11c y x _ _ UY.out UX.out hD2.out).mono ?_
            rintro e w' ⟨rfl, rfl⟩
            go_wp2_with fail
            with_reducible refine (after13c x y false _ UX.out UY.out hA.out).mono ?_
            rintro e w' ⟨rfl, rfl⟩
            go_wp2_with fail
            with_reducible refine (after13c y x true _ UY.out UX.out hA2.out).mono ?_
            rintro e w' ⟨rfl, rfl⟩
            go_wp2_with fail
            go_roundw
            case rel => exact ⟨j + 1, by go_num, below_drewN hb _⟩
            case measure => simp [intOf]; omega
          · have hA := Lib.hid hv
            have hA2 : Hid (aft y x = false) := Lib.hid (by rw [hN, hv]; rfl)
            clear hv hN
            go_wp2_with fail
            with_reducible refine (dist11c x y d _ UX.out UY.out hD.out).mono ?_
            rintro e w' ⟨rfl, rfl⟩
            go_wp2_with fail
            with_reducible refine (dist11c y x _ _ UY.out UX.out hD2.out).mono ?_
            rintro e w' ⟨rfl, rfl⟩
            go_wp2_with fail
            with_reducible refine (after13c x y true _ UX.out UY.out hA.out).mono ?_
            rintro e w' ⟨rfl, rfl⟩
            go_wp2_with fail
            with_reducible refine (after13c y x false _ UY.out UX.out hA2.out).mono ?_
            rintro e w' ⟨rfl, rfl⟩
            go_wp2_with fail
            go_roundw
            case rel => exact ⟨j + 1, by go_num, below_drewN hb _⟩
            case measure => simp [intOf]; omega
    · have hn1 : decide ((j : Int) + 1 < (zs.length : Int)) = false := by simp; omega
      obtain ⟨wo, rfl⟩ : ∃ wo : World, wo = wr := ⟨_, rfl⟩
      go_wp2_with fail
      with_reducible refine (new16z f s _ hf h0 (by omega)).mono ?_
      rintro e w2 ⟨P, D, cap, ex, hP, hD, rfl, hW, hb2⟩
      have HW := Lib.hid hW
      clear hW
      have hPl := HW.out.plt
      have hDl := HW.out.d.lt
      have hb3 := below_via hb hb2
      have hzb := hb.size
      have hzb3 := hb3.size
      go_wp2_with fail
      clear hmm
      go_loopw [108] (fun i wr => HoRel w f P D cap ex w2.heap.size s.toNat zs i wr) (fun i _ => zs.length - (intOf i).toNat)
      case atStart => exact ⟨0, 0, 0, List.replicate s.toNat false, [], Nat.zero_le _, rfl, by simp [cnt, List.count_replicate], Nat.le_refl _, by rw [List.getElem?_replicate, if_pos (by omega)], by simp, tk_new f _ hf, by rw [at5_zero f hf]; exact HW.out.below (by go_grown), MapB.made _, by go_grown⟩
      case round =>
        clear hn1 hlt HW hb2
        obtain ⟨k, t, n, l, S, hk, rfl, htc, hnk, hl0, hls, hT, hW, hM, hb⟩ := hrel
        have HW := Lib.hid hW
        have HM := Lib.hid hM
        have HT := Lib.hid hT
        have H0 := Lib.hid hl0
        have KH_wr : Hid (Kept w.heap.size w w.heap.size [] wr) := Lib.hid ⟨hb, hb.size, by simp⟩
        have hw_wr := hb
        have hz_wr := hb.size
        have htk : t ≤ 1000 := by omega
        clear hW hM hT hl0
        by_cases hlt : k < zs.length
        · obtain ⟨b1, o1, rfl, hb1, hc1⟩ := F1.out (by omega)
          obtain ⟨z, hz⟩ : ∃ z, zs[k]? = some z := ⟨zs[k], List.getElem?_eq_getElem hlt⟩
          have e1 := (hb.cell (p := ⟨b1, o1 + k, none⟩) hb1).trans (hc1 k z hz)
          have HZ := Lib.hid (HZS.out z (List.mem_of_getElem? hz))
          have i1 : (0 : Int) ≤ (k : Int) := by omega
          have i2 : (k : Int) < (zs.length : Int) := by omega
          have db := dist_bd (at5 f t) z
          obtain ⟨d, hd⟩ : ∃ d : Nat, dist (at5 f t) z = (d : Int) := ⟨(dist (at5 f t) z).toNat, by omega⟩
          rw [hd] at db
          have HD := Lib.hid hd
          clear hc1 hz hd
          by_cases hds : d < l.length
          · have g1 : (d : Int) < s := by omega
            have hHas := tk_has hf htk HT.out HZ.out HD.out hds (by omega)
            have hHN : hasN l d = l.getD d false := hasN_eq (by omega)
            cases hv : l.getD d false
            · rw [hv] at hHas hHN
              have HIN := Lib.hid hHas
              have HNF := Lib.hid hHN
              have hset := hasN_false hHN hds
              have hnx := tk_next hf HT.out HZ.out HD.out (by omega) hds
              have hgl := gone_le (l.set d true)
              have hcs := cnt_set hset
              have hcn := cnt_shift (l.set d true)
              obtain ⟨t2, ht2⟩ : ∃ t2, t + gone (l.set d true) = t2 := ⟨_, rfl⟩
              obtain ⟨l3, hl3⟩ : ∃ l3, accL l d = l3 := ⟨_, rfl⟩
              have hl3b : shift (l.set d true) = l3 := hl3
              rw [hl3b] at hcn
              rw [ht2, hl3] at hnx
              have E1 := Lib.hid hnx.1
              have E2 := Lib.hid hl3
              have HT2 := Lib.hid hnx.2
              have H02 : Hid (l3[0]? = some false) := Lib.hid (by rw [← hl3]; exact accL_head (by omega))
              have hll3 : l3.length = l.length := by rw [← hl3]; exact accL_length l d
              have htc2 : t2 + cnt l3 ≤ k + 1 := by omega
              have hll4 : l3.length = s.toNat := by omega
              have HLL := Lib.hid hll4
              have htk2 : t2 ≤ 1000 := by omega
              have htk := htk2
              clear hHas hHN hset hnx hl3 hl3b ht2 hcs hcn hv hgl hll3 hll4 htk2
              obtain ⟨y, hy⟩ : ∃ y, IntKind.u16.wrap (at5 f t2 - 1) = y := ⟨_, rfl⟩
              have HY : Hid (U16 y) := Lib.hid (by rw [← hy, IntKind.wrap_u16]; exact U16_mod _)
              have HYD : Hid (dist (at5 f t2) y = ((65535 : Nat) : Int)) := Lib.hid (by rw [← hy, IntKind.wrap_u16]; exact dist_prev _ (at5_U f t2))
              go_wp2_with fail
              with_reducible refine (first18 P D (at5 f t) l cap ex _ HW.out).mono ?_
              rintro e w' ⟨rfl, rfl⟩
              go_wp2_with fail
              with_reducible refine (dist11c (at5 f t) z d _ (at5_U f t) HZ.out HD.out).mono ?_
              rintro e w' ⟨rfl, rfl⟩
              go_wp2_with fail
              with_reducible refine (accept17_okc P D (at5 f t) l cap ex _ HW.out z (at5 f t2) l3 d HZ.out HD HNF (by omega) E1.out E2.out).mono ?_
              rintro e w21 ⟨rfl, hB_w21, hO_w21⟩
              have K_w21 : Kept w.heap.size w (w.heap.size) [] w21 := (KH_wr.out.step (by omega) (by go_grown)).onl (S := [P, D]) hO_w21 (by omega) (by simp <;> omega) (by simp <;> omega)
              replace HW := Lib.hid (hB_w21)
              replace HM := Lib.hid (HM.out.onl hO_w21 (by simp; omega))
              clear hO_w21 hB_w21
              have KH_w21 := Lib.hid K_w21
              have hw_w21 := K_w21.below
              have hz_w21 := K_w21.size
              clear K_w21
              have hlk := HM.out.look HZ.out HIN.out
              go_wp2_with (at_mapUpdate; refine wpList_put rfl _ _ _ rfl rfl HM.out (by omega) z rfl rfl HZ.out ?_; intro w9 hm9 ho9)
              clear hlk
              have hb9 : Below w.heap.size w w9 := (Kept.onl KH_w21.out ho9 (by omega) (by simp; omega) (by simp)).below
              replace HW := Lib.hid (HW.out.onl ho9 (by simp; omega) (by simp; omega))
              replace HM := Lib.hid hm9
              have KH_w9 : Hid (Kept w.heap.size w w.heap.size [] w9) := Lib.hid ⟨hb9, hb9.size, by simp⟩
              have hbb := hb9
              clear hm9 ho9
              go_wp2_with fail
              with_reducible refine (first18 P D (at5 f t2) l3 cap ex _ HW.out).mono ?_
              rintro e w' ⟨rfl, rfl⟩
              have hl1 := HM.out.look (at5_U f t2) (tk_first hf htk HT2.out H02.out)
              go_wp2_with fail
              with_reducible refine (first18 P D (at5 f t2) l3 cap ex _ HW.out).mono ?_
              rintro e w' ⟨rfl, rfl⟩
              clear hl1
              go_wp2_with fail
              with_reducible refine (has21c P D (at5 f t2) l3 cap ex _ HW.out y 65535 true HY.out HYD (hasN_big (by omega))).mono ?_
              rintro e w' ⟨rfl, rfl⟩
              go_wp2_with fail
              go_loopg [18] t2 (fun g x wx => InRel f t2 w9 g x wx)
              case atStart => exact ⟨0, by omega, by omega, by rw [at5_zero f hf], rfl⟩
              case round =>
                obtain ⟨j, hj, hg, rfl, rfl⟩ := hrel
                by_cases hlt2 : j < t2
                · have q1 : (at5 f j != at5 f t2) = true := at5_ne (by omega) (by omega) (by omega)
                  have hl2 := HM.out.look (at5_U f j) (tk_past HT2.out hlt2)
                  have qw := at5_wrap f j
                  go_wp2_with fail
                  with_reducible refine (first18 P D (at5 f t2) l3 cap ex _ HW.out).mono ?_
                  rintro e w' ⟨rfl, rfl⟩
                  go_wp2_with fail
                  go_roundg (t2 - (j + 1))
                  case rel => exact ⟨j + 1, by omega, by omega, rfl, rfl⟩
                  case measure => omega
                · obtain rfl : j = t2 := by omega
                  go_wp2_with fail
                  with_reducible refine (first18 P D (at5 f j) l3 cap ex _ HW.out).mono ?_
                  rintro e w' ⟨rfl, rfl⟩
                  go_wp2_with fail
                  go_roundw
                  case rel => exact ⟨k + 1, j, (n + 1), l3, (z :: S), by omega, by go_num, by omega, by omega, H02.out, HLL.out, HT2.out, HW.out, HM.out, hbb⟩
                  case measure => simp [intOf]; omega
            · rw [hv] at hHas hHN
              have HIN := Lib.hid hHas
              have E1 : Hid (resN l d = 13) := Lib.hid (by unfold resN; rw [if_pos hHN])
              have E2 : Hid (resF (at5 f t) l d = at5 f t) := Lib.hid (by unfold resF; rw [if_pos hHN])
              have E3 : Hid (resL l d = l) := Lib.hid (by unfold resL; rw [if_pos hHN])
              clear hHas hHN hv
              obtain ⟨r, hr⟩ : ∃ r : Int, r = 13 := ⟨_, rfl⟩
              rw [← hr] at E1
              have r0 : (r == 0) = false := by rw [hr]; rfl
              clear hr
              obtain ⟨y, hy⟩ : ∃ y, IntKind.u16.wrap (at5 f t - 1) = y := ⟨_, rfl⟩
              have HY : Hid (U16 y) := Lib.hid (by rw [← hy, IntKind.wrap_u16]; exact U16_mod _)
              have HYD : Hid (dist (at5 f t) y = ((65535 : Nat) : Int)) := Lib.hid (by rw [← hy, IntKind.wrap_u16]; exact dist_prev _ (at5_U f t))
              go_wp2_with fail
              with_reducible refine (first18 P D (at5 f t) l cap ex _ HW.out).mono ?_
              rintro e w' ⟨rfl, rfl⟩
              go_wp2_with fail
              with_reducible refine (dist11c (at5 f t) z d _ (at5_U f t) HZ.out HD.out).mono ?_
              rintro e w' ⟨rfl, rfl⟩
              go_wp2_with fail
              with_reducible refine (accept17_allc r (at5 f t) l P D (at5 f t) l cap ex _ HW.out z d HZ.out HD E1.out E2.out E3.out).mono ?_
              rintro e w21 ⟨rfl, hB_w21, hO_w21⟩
              have K_w21 : Kept w.heap.size w (w.heap.size) [] w21 := (KH_wr.out.step (by omega) (by go_grown)).onl (S := [P, D]) hO_w21 (by omega) (by simp <;> omega) (by simp <;> omega)
              replace HW := Lib.hid (hB_w21)
              replace HM := Lib.hid (HM.out.onl hO_w21 (by simp; omega))
              clear hO_w21 hB_w21
              have KH_w21 := Lib.hid K_w21
              have hw_w21 := K_w21.below
              have hz_w21 := K_w21.size
              clear K_w21
              have hlk := HM.out.look HZ.out HIN.out
              have hbb := KH_w21.out.below
              go_wp2_with fail
              clear hlk
              go_wp2_with fail
              with_reducible refine (first18 P D (at5 f t) l cap ex _ HW.out).mono ?_
              rintro e w' ⟨rfl, rfl⟩
              have hl1 := HM.out.look (at5_U f t) (tk_first hf htk HT.out H0.out)
              go_wp2_with fail
              with_reducible refine (first18 P D (at5 f t) l cap ex _ HW.out).mono ?_
              rintro e w' ⟨rfl, rfl⟩
              clear hl1
              go_wp2_with fail
              with_reducible refine (has21c P D (at5 f t) l cap ex _ HW.out y 65535 true HY.out HYD (hasN_big (by omega))).mono ?_
              rintro e w' ⟨rfl, rfl⟩
              go_wp2_with fail
              go_loopg [18] t (fun g x wx => InRel f t w21 g x wx)
              case atStart => exact ⟨0, by omega, by omega, by rw [at5_zero f hf], rfl⟩
              case round =>
                obtain ⟨j, hj, hg, rfl, rfl⟩ := hrel
                by_cases hlt2 : j < t
                · have q1 : (at5 f j != at5 f t) = true := at5_ne (by omega) (by omega) (by omega)
                  have hl2 := HM.out.look (at5_U f j) (tk_past HT.out hlt2)
                  have qw := at5_wrap f j
                  go_wp2_with fail
                  with_reducible refine (first18 P D (at5 f t) l cap ex _ HW.out).mono ?_
                  rintro e w' ⟨rfl, rfl⟩
                  go_wp2_with fail
                  go_roundg (t - (j + 1))
                  case rel => exact ⟨j + 1, by omega, by omega, rfl, rfl⟩
                  case measure => omega
                · obtain rfl : j = t := by omega
                  go_wp2_with fail
                  with_reducible refine (first18 P D (at5 f j) l cap ex _ HW.out).mono ?_
                  rintro e w' ⟨rfl, rfl⟩
                  go_wp2_with fail
                  go_roundw
                  case rel => exact ⟨k + 1, j, n, l, S, by omega, by go_num, by omega, by omega, H0.out, by omega, HT.out, HW.out, HM.out, hbb⟩
                  case measure => simp [intOf]; omega
          · have g1 : decide ((d : Int) < s) = false := by simp; omega
            have hrr := resN_far (l := l) (d := d) (by omega)
            have E2 : Hid (resF (at5 f t) l d = at5 f t) := Lib.hid (by unfold resF; split; rfl; rw [if_pos (by omega)])
            have E3 : Hid (resL l d = l) := Lib.hid (by unfold resL; split; rfl; rw [if_pos (by omega)])
            obtain ⟨r, hr⟩ : ∃ r : Int, resN l d = r := ⟨_, rfl⟩
            rw [hr] at hrr
            have r0 : (r == 0) = false := by simpa using hrr
            have E1 := Lib.hid hr
            clear hr hrr
            obtain ⟨y, hy⟩ : ∃ y, IntKind.u16.wrap (at5 f t - 1) = y := ⟨_, rfl⟩
            have HY : Hid (U16 y) := Lib.hid (by rw [← hy, IntKind.wrap_u16]; exact U16_mod _)
            have HYD : Hid (dist (at5 f t) y = ((65535 : Nat) : Int)) := Lib.hid (by rw [← hy, IntKind.wrap_u16]; exact dist_prev _ (at5_U f t))
            go_wp2_with fail
            with_reducible refine (first18 P D (at5 f t) l cap ex _ HW.out).mono ?_
            rintro e w' ⟨rfl, rfl⟩
            go_wp2_with fail
            with_reducible refine (dist11c (at5 f t) z d _ (at5_U f t) HZ.out HD.out).mono ?_
            rintro e w' ⟨rfl, rfl⟩
            go_wp2_with fail
            with_reducible refine (accept17_allc r (at5 f t) l P D (at5 f t) l cap ex _ HW.out z d HZ.out HD E1.out E2.out E3.out).mono ?_
            rintro e w21 ⟨rfl, hB_w21, hO_w21⟩
            have K_w21 : Kept w.heap.size w (w.heap.size) [] w21 := (KH_wr.out.step (by omega) (by go_grown)).onl (S := [P, D]) hO_w21 (by omega) (by simp <;> omega) (by simp <;> omega)
            replace HW := Lib.hid (hB_w21)
            replace HM := Lib.hid (HM.out.onl hO_w21 (by simp; omega))
            clear hO_w21 hB_w21
            have KH_w21 := Lib.hid K_w21
            have hw_w21 := K_w21.below
            have hz_w21 := K_w21.size
            clear K_w21
            have hbb := KH_w21.out.below
            go_wp2_with fail
            go_wp2_with fail
            with_reducible refine (first18 P D (at5 f t) l cap ex _ HW.out).mono ?_
            rintro e w' ⟨rfl, rfl⟩
            have hl1 := HM.out.look (at5_U f t) (tk_first hf htk HT.out H0.out)
            go_wp2_with fail
            with_reducible refine (first18 P D (at5 f t) l cap ex _ HW.out).mono ?_
            rintro e w' ⟨rfl, rfl⟩
            clear hl1
            go_wp2_with fail
            with_reducible refine (has21c P D (at5 f t) l cap ex _ HW.out y 65535 true HY.out HYD (hasN_big (by omega))).mono ?_
            rintro e w' ⟨rfl, rfl⟩
            go_wp2_with fail
            go_loopg [18] t (fun g x wx => InRel f t w21 g x wx)
            case atStart => exact ⟨0, by omega, by omega, by rw [at5_zero f hf], rfl⟩
            case round =>
              obtain ⟨j, hj, hg, rfl, rfl⟩ := hrel
              by_cases hlt2 : j < t
              · have q1 : (at5 f j != at5 f t) = true := at5_ne (by omega) (by omega) (by omega)
                have hl2 := HM.out.look (at5_U f j) (tk_past HT.out hlt2)
                have qw := at5_wrap f j
                go_wp2_with fail
                with_reducible refine (first18 P D (at5 f t) l cap ex _ HW.out).mono ?_
                rintro e w' ⟨rfl, rfl⟩
                go_wp2_with fail
                go_roundg (t - (j + 1))
                case rel => exact ⟨j + 1, by omega, by omega, rfl, rfl⟩
                case measure => omega
              · obtain rfl : j = t := by omega
                go_wp2_with fail
                with_reducible refine (first18 P D (at5 f j) l cap ex _ HW.out).mono ?_
                rintro e w' ⟨rfl, rfl⟩
                go_wp2_with fail
                go_roundw
                case rel => exact ⟨k + 1, j, n, l, S, by omega, by go_num, by omega, by omega, H0.out, by omega, HT.out, HW.out, HM.out, hbb⟩
                case measure => simp [intOf]; omega
        · have hn1 : decide ((k : Int) < (zs.length : Int)) = false := by simp; omega
          go_wp2_with fail
          with_reducible refine (known15 _).mono ?_
          rintro e w41 ⟨rfl, hb_w41⟩
          have K_w41 : Kept w.heap.size w (w.heap.size) [] w41 := (KH_wr.out.step (by omega) (by go_grown)).step (by omega) hb_w41
          clear hb_w41
          have KH_w41 := Lib.hid K_w41
          have hw_w41 := K_w41.below
          have hz_w41 := K_w41.size
          clear K_w41
          go_wp2_with fail
          go_returns
          exact ⟨rfl, by go_grown⟩

end Go.Proofs.Ythibagfmglnejaa
