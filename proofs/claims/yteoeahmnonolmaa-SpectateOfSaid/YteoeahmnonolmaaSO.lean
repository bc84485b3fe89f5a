/- The objects with some ids, by spectate. -/
import Derived.Test.YteoeahmnonolmaaSPl
import Derived.Test.YteoeahmnonolmaaBR
import Derived.Deep.DeepCutAuto
import Derived.LoopTactic
import Derived.Deep.MidRow
namespace Go.Proofs.Yteoeahmnonolmaa
open Go.RowKit Plain
set_option linter.unusedVariables false
set_option linter.unusedSimpArgs false

set_option maxRecDepth 100000 in
set_option maxHeartbeats 4000000 in
theorem isid (o : Ob) (z : Int) (c : Nat) (w : World) (hc : w.cell? ⟨c, 0, none⟩ = some (.int .i64 z)) : Calls Try.prog 73 #[.agg #[.int .i64 o.id, .int .i64 o.cd, .int .i64 o.ow, .int .i64 o.po, .int .i64 o.tg, .int .i64 o.da, .int .i64 o.co, .int .i64 o.pp, .int .i64 o.pt, .bool o.ta, .bool o.si, .bool o.dm], .pointer (some ⟨c, 0, none⟩)] w fun e w' => e = .returned (.bool (isO z o)) ∧ Below w.heap.size w w' := by
  have hlt : c < w.heap.size := by
    by_cases h : c < w.heap.size
    · exact h
    · exfalso
      have hn : w.heap[c]? = none := Array.getElem?_eq_none (by omega)
      simp [World.cell?, hn] at hc
  go_enter Try.func73, Try.ntmps73
  go_upto_region 1 with fail
  change Code.wp Try.prog _ _ _ (w.alloc (.cells #[.int .i64 o.id, .int .i64 o.cd, .int .i64 o.ow, .int .i64 o.po, .int .i64 o.tg, .int .i64 o.da, .int .i64 o.co, .int .i64 o.pp, .int .i64 o.pt, .bool o.ta, .bool o.si, .bool o.dm] 79))
  obtain ⟨wz, hwz⟩ : ∃ W, W = w.alloc (.cells #[.int .i64 o.id, .int .i64 o.cd, .int .i64 o.ow, .int .i64 o.po, .int .i64 o.tg, .int .i64 o.da, .int .i64 o.co, .int .i64 o.pp, .int .i64 o.pt, .bool o.ta, .bool o.si, .bool o.dm] 79) := ⟨_, rfl⟩
  have hb : Below w.heap.size w wz := by rw [hwz]; exact (Below.refl _ _).alloc (Nat.le_refl _) _
  have c0 : wz.cell? ⟨w.heap.size, 0, none⟩ = some (.int .i64 o.id) := by rw [hwz]; exact cell_of_row _ _ 0 _ 79 (0, 0) (heap_alloc_new _ _)
  have c1 : wz.cell? ⟨c, 0, none⟩ = some (.int .i64 z) := (hb.cell (p := ⟨c, 0, none⟩) hlt).trans hc
  have HB := Lib.hid hb
  rw [← hwz]
  clear hwz hb hc
  go_wp2_with fail
  go_returns
  exact ⟨rfl, HB.out⟩
def IxL (w : World) (l : List Ob) (z : Int) (i : Value) (wr : World) : Prop := ∃ k : Nat, k ≤ l.length ∧ i = .int .i64 k ∧ (l.take k).any (isO z) = false ∧ Below w.heap.size w wr
set_option maxRecDepth 100000 in
set_option maxHeartbeats 4000000 in
theorem indexO (v : Value) (l : List Ob) (z : Int) (c : Nat) (w : World) (hs : Rw oc 12 w v l) (hq : w.cell? ⟨c, 0, none⟩ = some (.int .i64 z)) : Calls Try.prog 72 #[v, .func (.func 73) #[] #[.pointer (some ⟨c, 0, none⟩)]] w fun e w' => (∃ r : Int, e = .returned (.int .i64 r) ∧ IxP l z r) ∧ Below w.heap.size w w' := by
  obtain ⟨hm, a0, c0, rfl, hf⟩ := hs.form
  have HF := Lib.hid hf
  have HQ : Hid (∀ W, Below w.heap.size w W → W.cell? ⟨c, 0, none⟩ = some (.int .i64 z)) := Lib.hid (fun W hb => (hb.cell (p := ⟨c, 0, none⟩) (by
    by_cases h : c < w.heap.size
    · exact h
    · exfalso
      have hn : w.heap[c]? = none := Array.getElem?_eq_none (by omega)
      simp [World.cell?, hn] at hq)).trans hq)
  clear hs hf hq
  go_enter Try.func72, Try.ntmps72
  go_wp2_with fail
  go_loopw [8] (fun i wr => IxL w l z i wr) (fun i _ => l.length - (intOf i).toNat)
  case atStart => exact ⟨0, Nat.zero_le _, rfl, rfl, Below.refl _ _⟩
  case round =>
    obtain ⟨k, hk, rfl, hn, hb⟩ := hrel
    have HN := Lib.hid hn
    have hzz := hb.size
    clear hn
    by_cases hlt2 : k < l.length
    · obtain ⟨b, off, rfl, hlt, hc⟩ := HF.out (by omega)
      obtain ⟨x, hx⟩ : ∃ x, l[k]? = some x := ⟨_, List.getElem?_eq_getElem hlt2⟩
      have HX := Lib.hid hx
      have d0 : wr.cell? ⟨b, off + k * 12, none⟩ = some (.int .i64 x.id) := (hb.cell (p := ⟨b, off + k * 12, none⟩) hlt).trans (hc k x HX.out 0 _ rfl)
      have d1 : wr.cell? ⟨b, off + k * 12 + 1, none⟩ = some (.int .i64 x.cd) := (hb.cell (p := ⟨b, off + k * 12 + 1, none⟩) hlt).trans (hc k x HX.out 1 _ rfl)
      have d2 : wr.cell? ⟨b, off + k * 12 + 2, none⟩ = some (.int .i64 x.ow) := (hb.cell (p := ⟨b, off + k * 12 + 2, none⟩) hlt).trans (hc k x HX.out 2 _ rfl)
      have d3 : wr.cell? ⟨b, off + k * 12 + 3, none⟩ = some (.int .i64 x.po) := (hb.cell (p := ⟨b, off + k * 12 + 3, none⟩) hlt).trans (hc k x HX.out 3 _ rfl)
      have d4 : wr.cell? ⟨b, off + k * 12 + 4, none⟩ = some (.int .i64 x.tg) := (hb.cell (p := ⟨b, off + k * 12 + 4, none⟩) hlt).trans (hc k x HX.out 4 _ rfl)
      have d5 : wr.cell? ⟨b, off + k * 12 + 5, none⟩ = some (.int .i64 x.da) := (hb.cell (p := ⟨b, off + k * 12 + 5, none⟩) hlt).trans (hc k x HX.out 5 _ rfl)
      have d6 : wr.cell? ⟨b, off + k * 12 + 6, none⟩ = some (.int .i64 x.co) := (hb.cell (p := ⟨b, off + k * 12 + 6, none⟩) hlt).trans (hc k x HX.out 6 _ rfl)
      have d7 : wr.cell? ⟨b, off + k * 12 + 7, none⟩ = some (.int .i64 x.pp) := (hb.cell (p := ⟨b, off + k * 12 + 7, none⟩) hlt).trans (hc k x HX.out 7 _ rfl)
      have d8 : wr.cell? ⟨b, off + k * 12 + 8, none⟩ = some (.int .i64 x.pt) := (hb.cell (p := ⟨b, off + k * 12 + 8, none⟩) hlt).trans (hc k x HX.out 8 _ rfl)
      have d9 : wr.cell? ⟨b, off + k * 12 + 9, none⟩ = some (.bool x.ta) := (hb.cell (p := ⟨b, off + k * 12 + 9, none⟩) hlt).trans (hc k x HX.out 9 _ rfl)
      have d10 : wr.cell? ⟨b, off + k * 12 + 10, none⟩ = some (.bool x.si) := (hb.cell (p := ⟨b, off + k * 12 + 10, none⟩) hlt).trans (hc k x HX.out 10 _ rfl)
      have d11 : wr.cell? ⟨b, off + k * 12 + 11, none⟩ = some (.bool x.dm) := (hb.cell (p := ⟨b, off + k * 12 + 11, none⟩) hlt).trans (hc k x HX.out 11 _ rfl)
      have i1 : (0 : Int) ≤ (k : Int) := by omega
      have i2 : (k : Int) < (l.length : Int) := by omega
      have HBW := Lib.hid hb
      have HC := Lib.hid (isid x z c wr (HQ.out wr hb))
      obtain ⟨p, hp⟩ : ∃ p, isO z x = p := ⟨_, rfl⟩
      rw [hp] at HC
      have HP := Lib.hid hp
      clear hc hx hp hb
      cases p
      · go_wp2_with fail
        with_reducible refine HC.out.mono ?_
        rintro e w2 ⟨rfl, hb2⟩
        have HB2 := Lib.hid (below_via HBW.out hb2)
        clear hb2
        go_wp2_with fail
        go_roundw
        case rel => exact ⟨k + 1, by omega, by go_num, by rw [List.take_add_one, HX.out, List.any_append, HN.out]; simp [HP.out], HB2.out⟩
        case measure => simp [intOf]; omega
      · go_wp2_with fail
        with_reducible refine HC.out.mono ?_
        rintro e w2 ⟨rfl, hb2⟩
        have HB2 := Lib.hid (below_via HBW.out hb2)
        clear hb2
        go_wp2_with fail
        go_returns
        exact ⟨⟨k, rfl, .inl ⟨k, x, rfl, HX.out, find_take HN.out HX.out HP.out⟩⟩, HB2.out⟩
    · obtain rfl : k = l.length := by omega
      have HBW := Lib.hid hb
      clear hb
      go_wp2_with fail
      go_returns
      exact ⟨⟨-1, rfl, .inr ⟨rfl, List.find?_eq_none.2 (fun y hy => by have h := HN.out; rw [List.take_length] at h; have := List.any_eq_false.1 h y hy; simpa using this)⟩⟩, HBW.out⟩
def ObL (w : World) (s : Bs) (B : Bd) (ids : List Int) (out i : Value) (wr : World) : Prop := ∃ k : Nat, k ≤ ids.length ∧ i = .int .i64 k ∧ Below w.heap.size w wr ∧ Bx wr w.heap.size s B ∧ Ow oc 12 79 wr w.heap.size out (obF B.ob (ids.take k))
set_option maxRecDepth 100000 in
set_option maxHeartbeats 4000000 in
theorem objects (s : Bs) (B : Bd) (v : Value) (ids : List Int) (w : World) (h : BdR w s B) (hv : Rw ic 1 w v ids) (hl : ids.length ≤ 1000) : Calls Try.prog 49 #[bv s B, v] w (ClA oc 12 79 w (obF B.ob ids)) := by
  have HR := Lib.hid h
  obtain ⟨_, a0, c0, rfl, hf⟩ := hv.form
  have HF := Lib.hid hf
  have HLI := Lib.hid hl
  have hmf : ∀ (fn : Fn) (first cap : Array Value) (w : World), (Instr.makeFunc fn first cap).run Try.prog w = .ok (.func fn first cap) w := fun _ _ _ _ => rfl
  clear h hv hf
  go_enter Try.func49, Try.ntmps49
  go_upto_region 1 with fail
  change Code.wp Try.prog _ _ _ (w.alloc (.cells (bcells s B) 34))
  obtain ⟨wz, hwz⟩ : ∃ W, W = w.alloc (.cells (bcells s B) 34) := ⟨_, rfl⟩
  have HX : Hid (Bx wz w.heap.size s B) := Lib.hid (by rw [hwz]; exact heap_alloc_new _ _)
  have HB : Hid (Below w.heap.size w wz) := Lib.hid (by rw [hwz]; exact (Below.refl _ _).alloc (Nat.le_refl _) _)
  rw [← hwz]
  clear hwz
  go_wp2_with fail
  go_loopw [5, 11] (fun out i wr => ObL w s B ids out i wr) (fun _ i _ => ids.length - (intOf i).toNat)
  case atStart => exact ⟨0, by omega, rfl, HB.out, HX.out, Ow.nil _ _ _⟩
  case round =>
    clear HX HB
    obtain ⟨k, hk, rfl, hb, hx, ho⟩ := hrel
    have HB := Lib.hid hb
    have HX := Lib.hid hx
    have HO := Lib.hid ho
    obtain ⟨oa, oc', rfl⟩ := ho.form
    obtain ⟨on, hon⟩ : ∃ n, n = (obF B.ob (ids.take k)).length := ⟨_, rfl⟩
    have HON : Hid (on ≤ k) := Lib.hid (by rw [hon]; exact Nat.le_trans (obF_le _ _) (by rw [List.length_take]; omega))
    rw [← hon] at HO ⊢
    have HLN := Lib.hid hon
    clear hon ho
    by_cases hkl : k < ids.length
    · have HKL := Lib.hid hkl
      obtain ⟨b, off, ha, hlt, hc⟩ := HF.out (by omega)
      obtain ⟨x, hx1⟩ : ∃ x, ids[k]? = some x := ⟨_, List.getElem?_eq_getElem hkl⟩
      subst ha
      have d1 : wr.cell? ⟨b, off + k, none⟩ = some (.int .i64 x) := (hb.cell (p := ⟨b, off + k, none⟩) hlt).trans (by have := hc k x hx1 0 _ rfl; simpa using this)
      have i1 : (0 : Int) ≤ (k : Int) := by omega
      have i2 : (k : Int) < (ids.length : Int) := by omega
      have i3 : decide ((k : Int) < (ids.length : Int)) = true := decide_eq_true i2
      have HID := Lib.hid hx1
      clear hc hb hx hx1
      go_upto_region 5 with fail
      obtain ⟨w3, hw3⟩ : ∃ W, W = wr.alloc (.cells #[.int .i64 x] 3) := ⟨_, rfl⟩
      have hb3 : Below wr.heap.size wr w3 := by rw [hw3]; exact (Below.refl _ _).alloc (Nat.le_refl _) _
      have q3 : w3.cell? ⟨wr.heap.size, 0, none⟩ = some (.int .i64 x) := by rw [hw3]; exact cell_of_row _ _ 0 _ 3 (0, 0) (heap_alloc_new _ _)
      rw [← hw3]
      replace HB := Lib.hid (below_via HB.out hb3)
      replace HX := Lib.hid (HX.out.below hb3)
      replace HO := Lib.hid (HO.out.below hb3)
      have HQ3 := Lib.hid q3
      obtain ⟨ba, bc, e0, hro⟩ := obs_len HX.out (HR.out.below HB.out)
      have HRO := Lib.hid hro
      clear hw3 hb3 q3 hro d1
      go_wp2_with fail
      with_reducible refine (indexO _ B.ob x wr.heap.size w3 HRO.out HQ3.out).mono ?_
      rintro e w4 ⟨⟨r, rfl, hix⟩, hb4⟩
      replace HB := Lib.hid (below_via HB.out hb4)
      replace HX := Lib.hid (HX.out.below hb4)
      replace HO := Lib.hid (HO.out.below hb4)
      clear hb4 e0 HRO HQ3
      have HSN : Hid (obF B.ob (ids.take (k + 1)) = obF B.ob (ids.take k) ++ (B.ob.find? (isO x)).toList) := Lib.hid (by rw [List.take_add_one, HID.out]; exact obF_snoc _ _ _)
      rcases hix with ⟨j, y, rfl, hj, hfnd⟩ | ⟨rfl, hfnd⟩
      · rw [hfnd] at HSN
        have hjl := (List.getElem?_eq_some_iff.1 hj).1
        obtain ⟨b1, o1, c1, e1, g1, r1⟩ := obj_at HX.out (HR.out.below HB.out) hj
        have d0 : w4.cell? ⟨b1, o1 + j * 12, none⟩ = some (.int .i64 y.id) := r1 0 _ rfl
        have d1 : w4.cell? ⟨b1, o1 + j * 12 + 1, none⟩ = some (.int .i64 y.cd) := r1 1 _ rfl
        have d2 : w4.cell? ⟨b1, o1 + j * 12 + 2, none⟩ = some (.int .i64 y.ow) := r1 2 _ rfl
        have d3 : w4.cell? ⟨b1, o1 + j * 12 + 3, none⟩ = some (.int .i64 y.po) := r1 3 _ rfl
        have d4 : w4.cell? ⟨b1, o1 + j * 12 + 4, none⟩ = some (.int .i64 y.tg) := r1 4 _ rfl
        have d5 : w4.cell? ⟨b1, o1 + j * 12 + 5, none⟩ = some (.int .i64 y.da) := r1 5 _ rfl
        have d6 : w4.cell? ⟨b1, o1 + j * 12 + 6, none⟩ = some (.int .i64 y.co) := r1 6 _ rfl
        have d7 : w4.cell? ⟨b1, o1 + j * 12 + 7, none⟩ = some (.int .i64 y.pp) := r1 7 _ rfl
        have d8 : w4.cell? ⟨b1, o1 + j * 12 + 8, none⟩ = some (.int .i64 y.pt) := r1 8 _ rfl
        have d9 : w4.cell? ⟨b1, o1 + j * 12 + 9, none⟩ = some (.bool y.ta) := r1 9 _ rfl
        have d10 : w4.cell? ⟨b1, o1 + j * 12 + 10, none⟩ = some (.bool y.si) := r1 10 _ rfl
        have d11 : w4.cell? ⟨b1, o1 + j * 12 + 11, none⟩ = some (.bool y.dm) := r1 11 _ rfl
        have j1 : (0 : Int) ≤ (j : Int) := by omega
        have j2 : (j : Int) < (B.ob.length : Int) := by omega
        have j3 : decide ((j : Int) ≥ 0) = true := decide_eq_true j1
        clear r1 hj hfnd hjl
        go_wp2_with (at_builtin; refine wpList_append_ow (f := oc) (sz := 12) rfl _ _ 23 rfl w.heap.size 79 _ 80 Try.underlying23 infoO rfl (by decide) _ (obF B.ob (ids.take k)) rfl (HO.out.below ((Below.refl _ _).alloc (Nat.le_refl _) _)) oc_ok _ [y] rfl (Rw.one2 _ _ y _ rfl _ _ (by simp)) ?ca ?cb (by have := HB.out.size; simp; omega) ?_)
        case ca => have q1 := HLI.out; have q2 := HKL.out; have q3 := HON.out; rw [← HLN.out]; simp [maxLen]; omega
        case cb => have q1 := HLI.out; have q2 := HKL.out; have q3 := HON.out; rw [← HLN.out]; simp; omega
        intro v2 w5 hown hgrow hnew
        have hown : Ow oc 12 79 w5 w.heap.size v2 (obF B.ob (ids.take (k + 1))) := by rw [HSN.out]; exact hown
        have HOW := Lib.hid hown
        have ho4 := HO.out.below ((Below.refl w4.heap.size w4).alloc (Nat.le_refl _) (.cells #[.int .i64 y.id, .int .i64 y.cd, .int .i64 y.ow, .int .i64 y.po, .int .i64 y.tg, .int .i64 y.da, .int .i64 y.co, .int .i64 y.pp, .int .i64 y.pt, .bool y.ta, .bool y.si, .bool y.dm] 79))
        have HB5 : Hid (Below w.heap.size w w5) := Lib.hid ((below_via HB.out ((Below.refl w4.heap.size w4).alloc (Nat.le_refl _) _)).grown hgrow (by have := HB.out.size; simp; omega) (fun q hq => (ho4.typ q hq).1))
        have HX5 : Hid (Bx w5 w.heap.size s B) := Lib.hid ((hgrow.block _ (by have := HX.out.lt; simp; omega) (fun e => by
          obtain ⟨_, _, cur, hcur⟩ := ho4.typ _ e.symm
          rw [HX.out.below ((Below.refl w4.heap.size w4).alloc (Nat.le_refl _) (.cells #[.int .i64 y.id, .int .i64 y.cd, .int .i64 y.ow, .int .i64 y.po, .int .i64 y.tg, .int .i64 y.da, .int .i64 y.co, .int .i64 y.pp, .int .i64 y.pt, .bool y.ta, .bool y.si, .bool y.dm] 79))] at hcur
          simp at hcur)).trans (HX.out.below ((Below.refl w4.heap.size w4).alloc (Nat.le_refl _) _)))
        clear hown hgrow hnew ho4 HX HB HO e1 g1 d0 d1 d2 d3 d4 d5 d6 d7 d8 d9 d10 d11
        go_wp2_with fail
        go_roundw
        case rel => exact ⟨k + 1, HKL.out, by go_num, HB5.out, HX5.out, HOW.out⟩
        case measure => have hkl := HKL.out; simp [intOf]; omega
      · rw [hfnd] at HSN
        have HOW : Hid (Ow oc 12 79 w4 w.heap.size (.slice oa on oc') (obF B.ob (ids.take (k + 1)))) := Lib.hid (by rw [HSN.out]; simpa using HO.out)
        clear hfnd
        go_wp2_with fail
        go_roundw
        case rel => exact ⟨k + 1, HKL.out, by go_num, HB.out, HX.out, HOW.out⟩
        case measure => have hkl := HKL.out; simp [intOf]; omega
    · have hke : k = ids.length := by omega
      subst hke
      have i3 : decide (((ids.length : Nat) : Int) < (ids.length : Int)) = false := decide_eq_false (by omega)
      clear hb hx
      rw [List.take_length] at HO
      go_wp2_with fail
      go_returns
      have hon := HLN.out
      rw [List.take_length] at hon
      clear HLN HON
      subst hon
      exact ⟨oa, oc', rfl, Ox.of HO.out, HB.out⟩
end Go.Proofs.Yteoeahmnonolmaa
