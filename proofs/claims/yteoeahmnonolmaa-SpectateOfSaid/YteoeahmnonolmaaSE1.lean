/- Items that are equal, by the code and by the law. -/
import Derived.Test.YteoeahmnonolmaaSQ
import Derived.Deep.DeepCutAuto
import Derived.LoopTactic
import Derived.Deep.MidRow
namespace Go.Proofs.Yteoeahmnonolmaa
open Go.RowKit Plain
set_option linter.unusedVariables false
set_option linter.unusedSimpArgs false

/-- a row of cells in memory -/
def Ro (w : World) (P : Nat) (C : Array Value) (t : TypeId) : Prop := w.heap[P]? = some (.cells C t (0, 0))
theorem Ro.cell {w : World} {P : Nat} {C : Array Value} {t : TypeId} (h : Ro w P C t) (i : Nat) : w.cell? ⟨P, i, none⟩ = C[i]? := cell_of_row w P i _ t (0, 0) h
theorem Ro.lt {w : World} {P : Nat} {C : Array Value} {t : TypeId} (h : Ro w P C t) : P < w.heap.size := (Array.getElem?_eq_some_iff.1 h).1
theorem Ro.below {w w' : World} {P : Nat} {C : Array Value} {t : TypeId} (h : Ro w P C t) (hb : Below w.heap.size w w') : Ro w' P C t := (hb.block P h.lt).trans h
theorem Ro.new (w : World) (C : Array Value) (t : TypeId) : Ro (w.alloc (.cells C t)) w.heap.size C t := heap_alloc_new w _
theorem Ro.onl {w w' : World} {P : Nat} {C : Array Value} {t : TypeId} {S : List Nat} (h : Ro w P C t) (ho : Onl S w w') (hS : P ∉ S) : Ro w' P C t := (ho.block P h.lt hS).trans h
/-- a whole row is written -/
theorem wpList_store_ro {P : Program} {ops : Array Oper} {rest : List Oper} {op : Oper} {a : Act} {w : World} {Q : Exit → Act → World → Prop} (T : TypeId) (hgd : op.guard = none) {b : Nat} {C old : Array Value} (x y : Operand) (ho : op.op = .store T x y) (hx : a.eval x = .pointer (some ⟨b, 0, none⟩)) (hy : a.eval y = .agg C) (hg : Ro w b old T) (hi : (P.info? T).map (·.size) = some C.size) (hsz : old.size = C.size) (h1 : C.all (·.oneCell') = true)
    (hK : wpList P ops Q rest (a.put op.dst undef) (w.setRow b C)) : wpList P ops Q (op :: rest) a w :=
  wpList_store_row hgd T x y ho b C hx hy T old hg hi hsz h1 hK
theorem it_tg {x y : It} (h0 : (x.pl == y.pl) = true) (h1 : (x.id == y.id) = true) (h2 : (x.cd == y.cd) = true) (h3 : (x.tr == y.tr) = true) : x.tg = y.tg ↔ x = y := by
  cases x; cases y
  simp only [beq_iff_eq] at h0 h1 h2 h3
  simp_all
set_option maxRecDepth 100000 in
set_option maxHeartbeats 4000000 in
theorem ssame (x y : It) (pa qa : Option Addr) (pc qc : Nat) (w : World) (h1 : Rw tc 2 w (.slice pa x.tg.length pc) x.tg) (h2 : Rw tc 2 w (.slice qa y.tg.length qc) y.tg) : Calls Try.prog 51 #[.agg #[.int .i64 x.pl, .int .i64 x.id, .int .i64 x.cd, .int .i64 x.tr, .slice pa x.tg.length pc], .agg #[.int .i64 y.pl, .int .i64 y.id, .int .i64 y.cd, .int .i64 y.tr, .slice qa y.tg.length qc]] w (EqA w (x = y)) := by
  have HT1 := Lib.hid h1
  have HT2 := Lib.hid h2
  clear h1 h2
  go_enter Try.func51, Try.ntmps51
  go_upto_region 1 with fail
  obtain ⟨wz, hwz⟩ : ∃ W, W = (w.alloc (.cells #[.int .i64 x.pl, .int .i64 x.id, .int .i64 x.cd, .int .i64 x.tr, .slice pa x.tg.length pc] 100)).alloc (.cells #[.int .i64 y.pl, .int .i64 y.id, .int .i64 y.cd, .int .i64 y.tr, .slice qa y.tg.length qc] 100) := ⟨_, rfl⟩
  rw [← hwz]
  have b1' : Below w.heap.size w (w.alloc (.cells #[.int .i64 x.pl, .int .i64 x.id, .int .i64 x.cd, .int .i64 x.tr, .slice pa x.tg.length pc] 100)) := (Below.refl _ _).alloc (Nat.le_refl _) _
  have b2' : Below (w.alloc (.cells #[.int .i64 x.pl, .int .i64 x.id, .int .i64 x.cd, .int .i64 x.tr, .slice pa x.tg.length pc] 100)).heap.size (w.alloc (.cells #[.int .i64 x.pl, .int .i64 x.id, .int .i64 x.cd, .int .i64 x.tr, .slice pa x.tg.length pc] 100)) wz := by rw [hwz]; exact (Below.refl _ _).alloc (Nat.le_refl _) _
  have HR1 : Hid (Ro wz w.heap.size #[.int .i64 x.pl, .int .i64 x.id, .int .i64 x.cd, .int .i64 x.tr, .slice pa x.tg.length pc] 100) := Lib.hid ((Ro.new _ _ _).below b2')
  have HR2 : Hid (Ro wz (w.heap.size + 1) #[.int .i64 y.pl, .int .i64 y.id, .int .i64 y.cd, .int .i64 y.tr, .slice qa y.tg.length qc] 100) := Lib.hid (by rw [hwz, show w.heap.size + 1 = (w.alloc (.cells #[.int .i64 x.pl, .int .i64 x.id, .int .i64 x.cd, .int .i64 x.tr, .slice pa x.tg.length pc] 100)).heap.size by simp]; exact Ro.new _ _ _)
  have HB : Hid (Below w.heap.size w wz) := Lib.hid (below_via b1' b2')
  clear hwz b1' b2'
  have k0 : wz.cell? ⟨w.heap.size, 0, none⟩ = some (.int .i64 x.pl) := HR1.out.cell 0
  have l0 : wz.cell? ⟨w.heap.size + 1, 0, none⟩ = some (.int .i64 y.pl) := HR2.out.cell 0
  have k1 : wz.cell? ⟨w.heap.size, 1, none⟩ = some (.int .i64 x.id) := HR1.out.cell 1
  have l1 : wz.cell? ⟨w.heap.size + 1, 1, none⟩ = some (.int .i64 y.id) := HR2.out.cell 1
  have k2 : wz.cell? ⟨w.heap.size, 2, none⟩ = some (.int .i64 x.cd) := HR1.out.cell 2
  have l2 : wz.cell? ⟨w.heap.size + 1, 2, none⟩ = some (.int .i64 y.cd) := HR2.out.cell 2
  have k3 : wz.cell? ⟨w.heap.size, 3, none⟩ = some (.int .i64 x.tr) := HR1.out.cell 3
  have l3 : wz.cell? ⟨w.heap.size + 1, 3, none⟩ = some (.int .i64 y.tr) := HR2.out.cell 3
  have k4 : wz.cell? ⟨w.heap.size, 4, none⟩ = some (.slice pa x.tg.length pc) := HR1.out.cell 4
  have l4 : wz.cell? ⟨w.heap.size + 1, 4, none⟩ = some (.slice qa y.tg.length qc) := HR2.out.cell 4
  cases h0 : (x.pl == y.pl)
  · have HNE := Lib.hid (show x ≠ y from fun e => by rw [e] at h0; simp at h0)
    go_wp2_with fail
    go_returns
    exact EqA.no HNE.out HB.out
  · skip
    cases h1 : (x.id == y.id)
    · have HNE := Lib.hid (show x ≠ y from fun e => by rw [e] at h1; simp at h1)
      go_wp2_with fail
      go_returns
      exact EqA.no HNE.out HB.out
    · skip
      cases h2 : (x.cd == y.cd)
      · have HNE := Lib.hid (show x ≠ y from fun e => by rw [e] at h2; simp at h2)
        go_wp2_with fail
        go_returns
        exact EqA.no HNE.out HB.out
      · skip
        cases h3 : (x.tr == y.tr)
        · have HNE := Lib.hid (show x ≠ y from fun e => by rw [e] at h3; simp at h3)
          go_wp2_with fail
          go_returns
          exact EqA.no HNE.out HB.out
        · skip
          have HE := Lib.hid (it_tg h0 h1 h2 h3)
          go_wp2_with fail
          with_reducible refine (sqT _ _ _ _ _ (HT1.out.below HB.out) (HT2.out.below HB.out)).mono ?_
          rintro e w2 ⟨r, rfl, hr, hb⟩
          replace HB := Lib.hid (below_via HB.out hb)
          have HRR := Lib.hid hr
          clear hr hb
          go_wp2_with fail
          go_returns
          exact ⟨r, rfl, HRR.out.trans HE.out, HB.out⟩
theorem it_len {w : World} {s : Sl} {l : List Tg} (h : Rw tc 2 w s.v l) : s.n = l.length := by
  obtain ⟨_, _, _, h, _⟩ := h.form
  simp only [Sl.v, Value.slice.injEq] at h
  exact h.2.1
set_option maxRecDepth 100000 in
set_option maxHeartbeats 4000000 in
theorem sqItems (v1 v2 : Value) (l m : List It) (w : World) (h1 : ItR w v1 l) (h2 : ItR w v2 m) : Calls Try.prog 50 #[v1, v2, .func (.func 51) #[] #[]] w (EqA w (l = m)) := by
  obtain ⟨m1, hm1, h1, ht1⟩ := h1
  obtain ⟨m2, hm2, h2, ht2⟩ := h2
  obtain ⟨hm, a1, c1, rfl, hf1⟩ := h1.form
  obtain ⟨_, a2, c2, rfl, hf2⟩ := h2.form
  have en1 : m1.length = l.length := by rw [← hm1, List.length_map]
  have en2 : m2.length = m.length := by rw [← hm2, List.length_map]
  rw [en1] at hm hf1 ⊢
  rw [en2] at hf2 ⊢
  have HF1 := Lib.hid hf1
  have HF2 := Lib.hid hf2
  have HM1 := Lib.hid hm1
  have HM2 := Lib.hid hm2
  have HE1 := Lib.hid en1
  have HE2 := Lib.hid en2
  have HU1 := Lib.hid ht1
  have HU2 := Lib.hid ht2
  clear h1 h2 hf1 hf2 hm1 hm2 en1 en2 ht1 ht2
  by_cases hl : l.length = m.length
  case neg =>
    have t1 : (l.length != m.length) = true := by simpa using hl
    have t2 : ((l.length : Int) != (m.length : Int)) = true := by simp only [bne_iff_ne, ne_eq, Int.natCast_inj]; exact hl
    have HNE := Lib.hid (ne_len hl)
    clear hl
    go_enter Try.func50, Try.ntmps50
    go_wp2_with fail
    go_returns
    exact EqA.no HNE.out (Below.refl _ _)
  rw [← hl] at HF2 HE2 ⊢
  have HL := Lib.hid hl
  clear hl
  have hne : (l.length != l.length) = false := by simp
  have hne2 : ((l.length : Int) != (l.length : Int)) = false := by simp
  go_enter Try.func50, Try.ntmps50
  go_wp2_with fail
  go_loopw [17] (fun i wr => EqL w l m i wr) (fun i _ => l.length - (intOf i).toNat)
  case atStart => exact ⟨0, by omega, rfl, rfl, Below.refl _ _⟩
  case round =>
    obtain ⟨k, hk, rfl, ht, hb⟩ := hrel
    have HB := Lib.hid hb
    have HT := Lib.hid ht
    clear ht
    by_cases hkl : k < l.length
    · obtain ⟨b1, o1, rfl, hlt1, hc1⟩ := HF1.out (by omega)
      obtain ⟨b2, o2, rfl, hlt2, hc2⟩ := HF2.out (by omega)
      obtain ⟨y1, hy1⟩ : ∃ x, m1[k]? = some x := ⟨_, List.getElem?_eq_getElem (by have := HE1.out; omega)⟩
      obtain ⟨y2, hy2⟩ : ∃ x, m2[k]? = some x := ⟨_, List.getElem?_eq_getElem (by have := HE2.out; omega)⟩
      have HX : Hid (l[k]? = some y1.1) := Lib.hid (by rw [← HM1.out, List.getElem?_map, hy1]; rfl)
      have HY : Hid (m[k]? = some y2.1) := Lib.hid (by rw [← HM2.out, List.getElem?_map, hy2]; rfl)
      have ht1 := HU1.out y1 (List.mem_of_getElem? hy1)
      have ht2 := HU2.out y2 (List.mem_of_getElem? hy2)
      obtain ⟨x, ⟨pa, pn, pc⟩⟩ := y1
      obtain ⟨y, ⟨qa, qn, qc⟩⟩ := y2
      have ez1 : pn = x.tg.length := it_len ht1
      have ez2 : qn = y.tg.length := it_len ht2
      subst ez1 ez2
      have HT1 : Hid (Rw tc 2 w (.slice pa x.tg.length pc) x.tg) := Lib.hid ht1
      have HT2 : Hid (Rw tc 2 w (.slice qa y.tg.length qc) y.tg) := Lib.hid ht2
      replace HX : Hid (l[k]? = some x) := HX
      replace HY : Hid (m[k]? = some y) := HY
      have hd : ∀ (j : Nat) (u : Value), (itc (x, ⟨pa, x.tg.length, pc⟩))[j]? = some u → wr.cell? ⟨b1, o1 + (k * 5 + j), none⟩ = some u := fun j u hu => (hb.cell (p := ⟨b1, o1 + (k * 5 + j), none⟩) hlt1).trans (hc1 k _ hy1 j u hu)
      have d0 : wr.cell? ⟨b1, o1 + k * 5, none⟩ = some (.int .i64 x.pl) := hd 0 _ rfl
      have d1 : wr.cell? ⟨b1, o1 + k * 5 + 1, none⟩ = some (.int .i64 x.id) := by rw [Nat.add_assoc]; exact hd 1 _ rfl
      have d2 : wr.cell? ⟨b1, o1 + k * 5 + 2, none⟩ = some (.int .i64 x.cd) := by rw [Nat.add_assoc]; exact hd 2 _ rfl
      have d3 : wr.cell? ⟨b1, o1 + k * 5 + 3, none⟩ = some (.int .i64 x.tr) := by rw [Nat.add_assoc]; exact hd 3 _ rfl
      have d4 : wr.cell? ⟨b1, o1 + k * 5 + 4, none⟩ = some (.slice pa x.tg.length pc) := by rw [Nat.add_assoc]; exact hd 4 _ rfl
      have he : ∀ (j : Nat) (u : Value), (itc (y, ⟨qa, y.tg.length, qc⟩))[j]? = some u → wr.cell? ⟨b2, o2 + (k * 5 + j), none⟩ = some u := fun j u hu => (hb.cell (p := ⟨b2, o2 + (k * 5 + j), none⟩) hlt2).trans (hc2 k _ hy2 j u hu)
      have e0 : wr.cell? ⟨b2, o2 + k * 5, none⟩ = some (.int .i64 y.pl) := he 0 _ rfl
      have e1 : wr.cell? ⟨b2, o2 + k * 5 + 1, none⟩ = some (.int .i64 y.id) := by rw [Nat.add_assoc]; exact he 1 _ rfl
      have e2 : wr.cell? ⟨b2, o2 + k * 5 + 2, none⟩ = some (.int .i64 y.cd) := by rw [Nat.add_assoc]; exact he 2 _ rfl
      have e3 : wr.cell? ⟨b2, o2 + k * 5 + 3, none⟩ = some (.int .i64 y.tr) := by rw [Nat.add_assoc]; exact he 3 _ rfl
      have e4 : wr.cell? ⟨b2, o2 + k * 5 + 4, none⟩ = some (.slice qa y.tg.length qc) := by rw [Nat.add_assoc]; exact he 4 _ rfl
      have g1 : b1 < wr.heap.size := Nat.lt_of_lt_of_le hlt1 hb.size
      have g2 : b2 < wr.heap.size := Nat.lt_of_lt_of_le hlt2 hb.size
      have i1 : (0 : Int) ≤ (k : Int) := by omega
      have i2 : (k : Int) < (l.length : Int) := by omega
      clear hc1 hc2 hy1 hy2 hb hd he ht1 ht2
      go_upto_region 7 with fail
      clear d0 d1 d2 d3 d4 e0 e1 e2 e3 e4 i1 i2 g1 g2
      obtain ⟨wz, hwz⟩ : ∃ W, W = (wr.alloc (.cells #[.int .i64 x.pl, .int .i64 x.id, .int .i64 x.cd, .int .i64 x.tr, .slice pa x.tg.length pc] 100)).alloc (.cells #[.int .i64 y.pl, .int .i64 y.id, .int .i64 y.cd, .int .i64 y.tr, .slice qa y.tg.length qc] 100) := ⟨_, rfl⟩
      rw [← hwz]
      have b1' : Below wr.heap.size wr (wr.alloc (.cells #[.int .i64 x.pl, .int .i64 x.id, .int .i64 x.cd, .int .i64 x.tr, .slice pa x.tg.length pc] 100)) := (Below.refl _ _).alloc (Nat.le_refl _) _
      have b2' : Below (wr.alloc (.cells #[.int .i64 x.pl, .int .i64 x.id, .int .i64 x.cd, .int .i64 x.tr, .slice pa x.tg.length pc] 100)).heap.size (wr.alloc (.cells #[.int .i64 x.pl, .int .i64 x.id, .int .i64 x.cd, .int .i64 x.tr, .slice pa x.tg.length pc] 100)) wz := by rw [hwz]; exact (Below.refl _ _).alloc (Nat.le_refl _) _
      have HR1 : Hid (Ro wz wr.heap.size #[.int .i64 x.pl, .int .i64 x.id, .int .i64 x.cd, .int .i64 x.tr, .slice pa x.tg.length pc] 100) := Lib.hid ((Ro.new _ _ _).below b2')
      have HR2 : Hid (Ro wz (wr.heap.size + 1) #[.int .i64 y.pl, .int .i64 y.id, .int .i64 y.cd, .int .i64 y.tr, .slice qa y.tg.length qc] 100) := Lib.hid (by rw [hwz, show wr.heap.size + 1 = (wr.alloc (.cells #[.int .i64 x.pl, .int .i64 x.id, .int .i64 x.cd, .int .i64 x.tr, .slice pa x.tg.length pc] 100)).heap.size by simp]; exact Ro.new _ _ _)
      replace HB : Hid (Below w.heap.size w wz) := Lib.hid (below_via HB.out (below_via b1' b2'))
      clear hwz b1' b2'
      have k0 : wz.cell? ⟨wr.heap.size, 0, none⟩ = some (.int .i64 x.pl) := HR1.out.cell 0
      have l0 : wz.cell? ⟨wr.heap.size + 1, 0, none⟩ = some (.int .i64 y.pl) := HR2.out.cell 0
      have k1 : wz.cell? ⟨wr.heap.size, 1, none⟩ = some (.int .i64 x.id) := HR1.out.cell 1
      have l1 : wz.cell? ⟨wr.heap.size + 1, 1, none⟩ = some (.int .i64 y.id) := HR2.out.cell 1
      have k2 : wz.cell? ⟨wr.heap.size, 2, none⟩ = some (.int .i64 x.cd) := HR1.out.cell 2
      have l2 : wz.cell? ⟨wr.heap.size + 1, 2, none⟩ = some (.int .i64 y.cd) := HR2.out.cell 2
      have k3 : wz.cell? ⟨wr.heap.size, 3, none⟩ = some (.int .i64 x.tr) := HR1.out.cell 3
      have l3 : wz.cell? ⟨wr.heap.size + 1, 3, none⟩ = some (.int .i64 y.tr) := HR2.out.cell 3
      have k4 : wz.cell? ⟨wr.heap.size, 4, none⟩ = some (.slice pa x.tg.length pc) := HR1.out.cell 4
      have l4 : wz.cell? ⟨wr.heap.size + 1, 4, none⟩ = some (.slice qa y.tg.length qc) := HR2.out.cell 4
      clear HR1 HR2
      go_wp2_with fail
      with_reducible refine (ssame x y pa qa pc qc _ (HT1.out.below HB.out) (HT2.out.below HB.out)).mono ?_
      rintro e w2 ⟨r, rfl, hr, hb⟩
      replace HB := Lib.hid (below_via HB.out hb)
      clear hb k0 k1 k2 k3 k4 l0 l1 l2 l3 l4
      cases r
      · have HN := Lib.hid (ne_at HX.out HY.out (fun h => by have := hr.2 h; cases this))
        clear hr
        go_wp2_with fail
        go_returns
        exact EqA.no HN.out HB.out
      · have HN := Lib.hid (eq_step HT.out HX.out (by rw [hr.1 rfl]; exact HY.out))
        clear hr
        go_wp2_with fail
        go_roundw
        case rel => exact ⟨k + 1, by omega, by go_num, HN.out, HB.out⟩
        case measure => simp [intOf]; omega
    · obtain rfl : k = l.length := by omega
      have HN : Hid (l = m) := Lib.hid (by have h := HT.out; rw [List.take_length, HL.out, List.take_length] at h; exact h)
      clear hb HT
      go_wp2_with fail
      go_returns
      exact EqA.yes HN.out HB.out
end Go.Proofs.Yteoeahmnonolmaa
