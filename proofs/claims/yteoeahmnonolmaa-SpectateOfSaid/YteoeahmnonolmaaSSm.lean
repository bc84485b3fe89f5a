/- Is a board small. -/
import Derived.Test.YteoeahmnonolmaaSPb
import Derived.Deep.DeepCutAuto
import Derived.LoopTactic
import Derived.Deep.MidRow
namespace Go.Proofs.Yteoeahmnonolmaa
open Go.RowKit Plain
set_option linter.unusedVariables false
set_option linter.unusedSimpArgs false

/-- at most 60 of all -/
structure Plain.Bd.S60 (B : Bd) : Prop where
  ob : B.ob.length ≤ 60
  st : B.st.length ≤ 60
  qu : B.qu.length ≤ 60
  att : B.att.length ≤ 60
  bl : B.bl.length ≤ 60
  zs : ∀ p z, p < 2 → z < 4 → ((B.seat p).zs z).length ≤ 60
theorem zs_all {B : Bd} {n : Nat} (h : ∀ p z, p < 2 → z < 4 → ((B.seat p).zs z).length ≤ n) (p z : Nat) : ((B.seat p).zs z).length ≤ n := by
  have hp : B.seat p = B.seat (if p = 0 then 0 else 1) := by unfold Bd.seat; split <;> simp
  have hz : ∀ S : Se, S.zs z = S.zs (if z < 3 then z else 3) := fun S => by
    split
    · rfl
    · unfold Se.zs
      rw [if_neg (by omega), if_neg (by omega), if_neg (by omega)]
      rfl
  rw [hp, hz]
  exact h _ _ (by split <;> omega) (by split <;> omega)
theorem Plain.Bd.S60.sm {B : Bd} (h : B.S60) : B.Sm := ⟨fun p z => (by have := zs_all h.zs p z; omega), (by have := h.ob; omega), (by have := h.st; omega), (by have := h.qu; omega), (by have := h.att; omega), (by have := h.bl; omega)⟩
def SmA (B : Bd) (w : World) (e : Ending) (w' : World) : Prop := ∃ r, e = .returned (.bool r) ∧ (r = true → B.S60) ∧ Below w.heap.size w w'
theorem smF {B : Bd} {w w' : World} (hb : Below w.heap.size w w') : SmA B w (.returned (.bool false)) w' := ⟨false, rfl, fun h => (by cases h), hb⟩
def SmL (w : World) (s : Bs) (B : Bd) (i : Value) (wr : World) : Prop := ∃ p : Nat, p ≤ 2 ∧ i = .int .i64 p ∧ Below w.heap.size w wr ∧ Bx wr w.heap.size s B ∧ ∀ q z, q < p → z < 4 → ((B.seat q).zs z).length ≤ 60
set_option maxRecDepth 100000 in
set_option maxHeartbeats 4000000 in
theorem lsmall (s : Bs) (B : Bd) (w : World) (h : BdR w s B) : Calls Try.prog 14 #[bv s B] w (SmA B w) := by
  have HR := Lib.hid h
  obtain ⟨⟨oa, on, oc'⟩, eob⟩ : ∃ q, s.ob = q := ⟨_, rfl⟩
  obtain ⟨⟨sta, stn, stc⟩, est⟩ : ∃ q, s.st = q := ⟨_, rfl⟩
  obtain ⟨⟨qua, qun, quc⟩, equ⟩ : ∃ q, s.qu = q := ⟨_, rfl⟩
  obtain ⟨⟨ata, atn, atc⟩, eat⟩ : ∃ q, s.at' = q := ⟨_, rfl⟩
  obtain ⟨⟨bla, bln, blc⟩, ebl⟩ : ∃ q, s.bl = q := ⟨_, rfl⟩
  have r0 := h.ob
  have r1 := h.st
  have r2 := h.qu
  have r3 := h.att
  have r4 := h.bl
  rw [eob] at r0
  rw [est] at r1
  rw [equ] at r2
  rw [eat] at r3
  rw [ebl] at r4
  have y0 : on = B.ob.length := rw_len r0
  have y1 : stn = B.st.length := itr_len r1
  have y2 : qun = B.qu.length := itr_len r2
  have y3 : atn = B.att.length := rw_len r3
  have y4 : bln = B.bl.length := rw_len r4
  subst y0 y1 y2 y3 y4
  have hV0 : (bcells s B)[0]? = some (.slice oa B.ob.length oc') := by show some s.ob.v = _; rw [eob]; rfl
  have hV29 : (bcells s B)[29]? = some (.slice sta B.st.length stc) := by show some s.st.v = _; rw [est]; rfl
  have hV30 : (bcells s B)[30]? = some (.slice qua B.qu.length quc) := by show some s.qu.v = _; rw [equ]; rfl
  have hV31 : (bcells s B)[31]? = some (.slice ata B.att.length atc) := by show some s.at'.v = _; rw [eat]; rfl
  have hV32 : (bcells s B)[32]? = some (.slice bla B.bl.length blc) := by show some s.bl.v = _; rw [ebl]; rfl
  clear h r0 r1 r2 r3 r4 eob est equ eat ebl
  go_enter Try.func14, Try.ntmps14
  go_upto_region 1 with fail
  change Code.wp Try.prog _ _ _ (w.alloc (.cells (bcells s B) 34))
  obtain ⟨wz, hwz⟩ : ∃ W, W = w.alloc (.cells (bcells s B) 34) := ⟨_, rfl⟩
  have HX : Hid (Bx wz w.heap.size s B) := Lib.hid (by rw [hwz]; exact heap_alloc_new _ _)
  have HB : Hid (Below w.heap.size w wz) := Lib.hid (by rw [hwz]; exact (Below.refl _ _).alloc (Nat.le_refl _) _)
  rw [← hwz]
  clear hwz
  have c0 : wz.cell? ⟨w.heap.size, 0, none⟩ = some (.slice oa B.ob.length oc') := (HX.out.cell 0).trans hV0
  have c29 : wz.cell? ⟨w.heap.size, 29, none⟩ = some (.slice sta B.st.length stc) := (HX.out.cell 29).trans hV29
  have c30 : wz.cell? ⟨w.heap.size, 30, none⟩ = some (.slice qua B.qu.length quc) := (HX.out.cell 30).trans hV30
  have c31 : wz.cell? ⟨w.heap.size, 31, none⟩ = some (.slice ata B.att.length atc) := (HX.out.cell 31).trans hV31
  have c32 : wz.cell? ⟨w.heap.size, 32, none⟩ = some (.slice bla B.bl.length blc) := (HX.out.cell 32).trans hV32
  clear hV0 hV29 hV30 hV31 hV32
  by_cases hob : B.ob.length ≤ 60
  case neg =>
    have tob : decide ((B.ob.length : Int) > 60) = true := decide_eq_true (by omega)
    clear hob
    go_wp2_with fail
    go_returns
    exact smF HB.out
  have tob : decide ((B.ob.length : Int) > 60) = false := decide_eq_false (by omega)
  by_cases hst : B.st.length ≤ 60
  case neg =>
    have tst : decide ((B.st.length : Int) > 60) = true := decide_eq_true (by omega)
    clear hst
    go_wp2_with fail
    go_returns
    exact smF HB.out
  have tst : decide ((B.st.length : Int) > 60) = false := decide_eq_false (by omega)
  by_cases hqu : B.qu.length ≤ 60
  case neg =>
    have tqu : decide ((B.qu.length : Int) > 60) = true := decide_eq_true (by omega)
    clear hqu
    go_wp2_with fail
    go_returns
    exact smF HB.out
  have tqu : decide ((B.qu.length : Int) > 60) = false := decide_eq_false (by omega)
  by_cases hatt : B.att.length ≤ 60
  case neg =>
    have tatt : decide ((B.att.length : Int) > 60) = true := decide_eq_true (by omega)
    clear hatt
    go_wp2_with fail
    go_returns
    exact smF HB.out
  have tatt : decide ((B.att.length : Int) > 60) = false := decide_eq_false (by omega)
  by_cases hbl : B.bl.length ≤ 60
  case neg =>
    have tbl : decide ((B.bl.length : Int) > 60) = true := decide_eq_true (by omega)
    clear hbl
    go_wp2_with fail
    go_returns
    exact smF HB.out
  have tbl : decide ((B.bl.length : Int) > 60) = false := decide_eq_false (by omega)
  have HN : Hid (B.ob.length ≤ 60 ∧ B.st.length ≤ 60 ∧ B.qu.length ≤ 60 ∧ B.att.length ≤ 60 ∧ B.bl.length ≤ 60) := Lib.hid ⟨hob, hst, hqu, hatt, hbl⟩
  go_wp2_with fail
  clear c0 c29 c30 c31 c32 tob tst tqu tatt tbl hob hst hqu hatt hbl
  go_loopw [3] (fun i wr => SmL w s B i wr) (fun i _ => 2 - (intOf i).toNat)
  case atStart => exact ⟨0, by omega, rfl, HB.out, HX.out, fun q z h => by omega⟩
  case round =>
    obtain ⟨p, hp, rfl, hb, hx, hz⟩ := hrel
    replace HB := Lib.hid hb
    replace HX := Lib.hid hx
    have HZ := Lib.hid hz
    clear hb hx hz
    by_cases hp2 : p < 2
    · obtain ⟨S, hS⟩ : ∃ S, B.seat p = S := ⟨_, rfl⟩
      obtain ⟨⟨la, ln, lc⟩, e0⟩ : ∃ q, s.zl p 0 = q := ⟨_, rfl⟩
      obtain ⟨⟨ha, hn, hc⟩, e1⟩ : ∃ q, s.zl p 1 = q := ⟨_, rfl⟩
      obtain ⟨⟨fa, fn, fc⟩, e2⟩ : ∃ q, s.zl p 2 = q := ⟨_, rfl⟩
      obtain ⟨⟨ga, gn, gc⟩, e3⟩ : ∃ q, s.zl p 3 = q := ⟨_, rfl⟩
      have z0 := HR.out.zone p 0
      have z1 := HR.out.zone p 1
      have z2 := HR.out.zone p 2
      have z3 := HR.out.zone p 3
      rw [e0, hS] at z0
      rw [e1, hS] at z1
      rw [e2, hS] at z2
      rw [e3, hS] at z3
      have y0 : ln = S.lib.length := rw_len z0
      have y1 : hn = S.hand.length := rw_len z1
      have y2 : fn = S.fld.length := rw_len z2
      have y3 : gn = S.grv.length := rw_len z3
      subst y0 y1 y2 y3
      have rs := HX.out.seat hp2
      rw [e0, e1, e2, e3, hS] at rs
      have d0 : wr.cell? ⟨w.heap.size, 1 + p * 14, none⟩ = some (.int .i64 S.li) := rs 0 _ rfl
      have d1 : wr.cell? ⟨w.heap.size, 1 + p * 14 + 1, none⟩ = some (.int .i64 S.p0) := rs 1 _ rfl
      have d2 : wr.cell? ⟨w.heap.size, 1 + p * 14 + 2, none⟩ = some (.int .i64 S.p1) := rs 2 _ rfl
      have d3 : wr.cell? ⟨w.heap.size, 1 + p * 14 + 3, none⟩ = some (.int .i64 S.p2) := rs 3 _ rfl
      have d4 : wr.cell? ⟨w.heap.size, 1 + p * 14 + 4, none⟩ = some (.int .i64 S.p3) := rs 4 _ rfl
      have d5 : wr.cell? ⟨w.heap.size, 1 + p * 14 + 5, none⟩ = some (.slice la S.lib.length lc) := rs 5 _ rfl
      have d6 : wr.cell? ⟨w.heap.size, 1 + p * 14 + 6, none⟩ = some (.slice ha S.hand.length hc) := rs 6 _ rfl
      have d7 : wr.cell? ⟨w.heap.size, 1 + p * 14 + 7, none⟩ = some (.slice fa S.fld.length fc) := rs 7 _ rfl
      have d8 : wr.cell? ⟨w.heap.size, 1 + p * 14 + 8, none⟩ = some (.slice ga S.grv.length gc) := rs 8 _ rfl
      have d9 : wr.cell? ⟨w.heap.size, 1 + p * 14 + 9, none⟩ = some (.bool S.em) := rs 9 _ rfl
      have d10 : wr.cell? ⟨w.heap.size, 1 + p * 14 + 10, none⟩ = some (.bool S.py) := rs 10 _ rfl
      have d11 : wr.cell? ⟨w.heap.size, 1 + p * 14 + 11, none⟩ = some (.bool S.kp) := rs 11 _ rfl
      have d12 : wr.cell? ⟨w.heap.size, 1 + p * 14 + 12, none⟩ = some (.int .i64 S.mu) := rs 12 _ rfl
      have d13 : wr.cell? ⟨w.heap.size, 1 + p * 14 + 13, none⟩ = some (.int .i64 S.ac) := rs 13 _ rfl
      have g1 := HX.out.lt
      have i1 : (0 : Int) ≤ (p : Int) := by omega
      have i2 : (p : Int) < 2 := by omega
      have HSS := Lib.hid hS
      clear z0 z1 z2 z3 rs e0 e1 e2 e3 hS
      go_upto_region 7 with fail
      obtain ⟨wq, hwq⟩ : ∃ W, W = wr.alloc (.cells #[.int .i64 S.li, .int .i64 S.p0, .int .i64 S.p1, .int .i64 S.p2, .int .i64 S.p3, .slice la S.lib.length lc, .slice ha S.hand.length hc, .slice fa S.fld.length fc, .slice ga S.grv.length gc, .bool S.em, .bool S.py, .bool S.kp, .int .i64 S.mu, .int .i64 S.ac] 28) := ⟨_, rfl⟩
      rw [← hwq]
      have hqb : Below wr.heap.size wr wq := by rw [hwq]; exact (Below.refl _ _).alloc (Nat.le_refl _) _
      have q5 : wq.cell? ⟨wr.heap.size, 5, none⟩ = some (.slice la S.lib.length lc) := by rw [hwq]; exact cell_of_row _ _ 5 _ 28 (0, 0) (heap_alloc_new _ _)
      have q6 : wq.cell? ⟨wr.heap.size, 6, none⟩ = some (.slice ha S.hand.length hc) := by rw [hwq]; exact cell_of_row _ _ 6 _ 28 (0, 0) (heap_alloc_new _ _)
      have q7 : wq.cell? ⟨wr.heap.size, 7, none⟩ = some (.slice fa S.fld.length fc) := by rw [hwq]; exact cell_of_row _ _ 7 _ 28 (0, 0) (heap_alloc_new _ _)
      have q8 : wq.cell? ⟨wr.heap.size, 8, none⟩ = some (.slice ga S.grv.length gc) := by rw [hwq]; exact cell_of_row _ _ 8 _ 28 (0, 0) (heap_alloc_new _ _)
      replace HB := Lib.hid (below_via HB.out hqb)
      replace HX := Lib.hid (HX.out.below hqb)
      clear hwq hqb g1 d0 d1 d2 d3 d4 d5 d6 d7 d8 d9 d10 d11 d12 d13
      by_cases hlib : S.lib.length ≤ 60
      case neg =>
        have tlib : decide ((S.lib.length : Int) > 60) = true := decide_eq_true (by omega)
        clear hlib
        go_wp2_with fail
        go_returns
        exact smF HB.out
      have tlib : decide ((S.lib.length : Int) > 60) = false := decide_eq_false (by omega)
      by_cases hhand : S.hand.length ≤ 60
      case neg =>
        have thand : decide ((S.hand.length : Int) > 60) = true := decide_eq_true (by omega)
        clear hhand
        go_wp2_with fail
        go_returns
        exact smF HB.out
      have thand : decide ((S.hand.length : Int) > 60) = false := decide_eq_false (by omega)
      by_cases hfld : S.fld.length ≤ 60
      case neg =>
        have tfld : decide ((S.fld.length : Int) > 60) = true := decide_eq_true (by omega)
        clear hfld
        go_wp2_with fail
        go_returns
        exact smF HB.out
      have tfld : decide ((S.fld.length : Int) > 60) = false := decide_eq_false (by omega)
      by_cases hgrv : S.grv.length ≤ 60
      case neg =>
        have tgrv : decide ((S.grv.length : Int) > 60) = true := decide_eq_true (by omega)
        clear hgrv
        go_wp2_with fail
        go_returns
        exact smF HB.out
      have tgrv : decide ((S.grv.length : Int) > 60) = false := decide_eq_false (by omega)
      have HZ4 : Hid (∀ z, z < 4 → (S.zs z).length ≤ 60) := Lib.hid (fun z hz => by
        have : z = 0 ∨ z = 1 ∨ z = 2 ∨ z = 3 := by omega
        rcases this with rfl | rfl | rfl | rfl
        · exact hlib
        · exact hhand
        · exact hfld
        · exact hgrv)
      go_wp2_with fail
      clear q5 q6 q7 q8 tlib thand tfld tgrv hlib hhand hfld hgrv
      go_roundw
      case rel =>
        refine ⟨p + 1, by omega, by go_num, HB.out, HX.out, fun q z h1 h2 => ?_⟩
        rcases Nat.lt_or_ge q p with h3 | h3
        · exact HZ.out q z h3 h2
        · obtain rfl : q = p := by omega
          rw [HSS.out]
          exact HZ4.out z h2
      case measure => simp [intOf]; omega
    · obtain rfl : p = 2 := by omega
      rw [show ((2 : Nat) : Int) = 2 from rfl]
      go_wp2_with fail
      go_returns
      exact ⟨true, rfl, fun _ => ⟨HN.out.1, HN.out.2.1, HN.out.2.2.1, HN.out.2.2.2.1, HN.out.2.2.2.2, HZ.out⟩, HB.out⟩
end Go.Proofs.Yteoeahmnonolmaa
