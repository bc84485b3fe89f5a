/- Boards that look alike, by the code. -/
import Derived.Test.YteoeahmnonolmaaSE3
import Derived.Deep.DeepCutAuto
import Derived.LoopTactic
import Derived.Deep.MidRow
namespace Go.Proofs.Yteoeahmnonolmaa
open Go.RowKit Plain
set_option linter.unusedVariables false
set_option linter.unusedSimpArgs false

theorem rw_len {α : Type} {f : α → List Value} {sz : Nat} {w : World} {s : Sl} {l : List α} (h : Rw f sz w s.v l) : s.n = l.length := by
  obtain ⟨_, _, _, h, _⟩ := h.form
  simp only [Sl.v, Value.slice.injEq] at h
  exact h.2.1
theorem itr_len {w : World} {s : Sl} {l : List It} (h : ItR w s.v l) : s.n = l.length := by
  obtain ⟨l', h1, h2, _⟩ := h
  rw [rw_len h2, ← h1, List.length_map]
theorem wpList_load_g {ops : Array Oper} {rest : List Oper} {op : Oper} {a : Act} {w : World} {Q : Exit → Act → World → Prop} {T : TypeId} {b o : Nat} {cs : List Value} {d : TypeDesc} (x : Operand) (ho : op.op = .load T x) (hx : a.eval x = .pointer (some ⟨b, o, none⟩)) (hc : w.rangeAt b o cs) (hu : Try.prog.underlying T = some d) (hd : d.isRow = true) (hi : (Try.prog.info? T).map (·.size) = some cs.length) (hw : Region.wanted op (yielded ops a.tmps) = true)
    (hK : wpList Try.prog ops Q rest (a.put op.dst (.agg cs.toArray)) w) : wpList Try.prog ops Q (op :: rest) a w := by
  unfold wpList
  rw [if_pos hw]
  exact .inl (wp_load_mid T x ho b o hx cs _ hc hu hd hi hK)
theorem pu_eq {P Q : Pu} (h0 : P.s0 = Q.s0) (h1 : P.s1 = Q.s1) (h2 : P.st = Q.st) (h3 : P.qu = Q.qu) (h4 : P.att = Q.att) (h5 : P.bl = Q.bl) (h6 : (P.tu == Q.tu) = true) (h7 : (P.ac == Q.ac) = true) (h8 : (P.ph == Q.ph) = true) (h9 : (P.ho == Q.ho) = true) (h10 : (P.pa == Q.pa) = true) : P = Q := by
  cases P; cases Q
  simp only [beq_iff_eq] at h6 h7 h8 h9 h10
  simp_all
set_option maxRecDepth 100000 in
set_option maxHeartbeats 8000000 in
theorem sequal (s t : Ps) (P Q : Pu) (w : World) (h1 : PuR w s P) (h2 : PuR w t Q) : Calls Try.prog 24 #[pv s P, pv t Q] w (EqA w (P = Q)) := by
  obtain ⟨⟨x0a, x0n, x0c⟩, ⟨x1a, x1n, x1c⟩, ⟨x2a, x2n, x2c⟩, ⟨x3a, x3n, x3c⟩, ⟨x4a, x4n, x4c⟩, ⟨x5a, x5n, x5c⟩, ⟨x6a, x6n, x6c⟩, ⟨x7a, x7n, x7c⟩⟩ := s
  have e0 : x0n = P.s0.fld.length := rw_len h1.f0
  have e1 : x1n = P.s0.grv.length := rw_len h1.g0
  have e2 : x2n = P.s1.fld.length := rw_len h1.f1
  have e3 : x3n = P.s1.grv.length := rw_len h1.g1
  have e4 : x4n = P.st.length := itr_len h1.st
  have e5 : x5n = P.qu.length := itr_len h1.qu
  have e6 : x6n = P.att.length := rw_len h1.att
  have e7 : x7n = P.bl.length := rw_len h1.bl
  subst e0 e1 e2 e3 e4 e5 e6 e7
  obtain ⟨⟨y0a, y0n, y0c⟩, ⟨y1a, y1n, y1c⟩, ⟨y2a, y2n, y2c⟩, ⟨y3a, y3n, y3c⟩, ⟨y4a, y4n, y4c⟩, ⟨y5a, y5n, y5c⟩, ⟨y6a, y6n, y6c⟩, ⟨y7a, y7n, y7c⟩⟩ := t
  have e0 : y0n = Q.s0.fld.length := rw_len h2.f0
  have e1 : y1n = Q.s0.grv.length := rw_len h2.g0
  have e2 : y2n = Q.s1.fld.length := rw_len h2.f1
  have e3 : y3n = Q.s1.grv.length := rw_len h2.g1
  have e4 : y4n = Q.st.length := itr_len h2.st
  have e5 : y5n = Q.qu.length := itr_len h2.qu
  have e6 : y6n = Q.att.length := rw_len h2.att
  have e7 : y7n = Q.bl.length := rw_len h2.bl
  subst e0 e1 e2 e3 e4 e5 e6 e7
  have HX0 : Hid (Rw oc 12 w (.slice x0a P.s0.fld.length x0c) P.s0.fld) := Lib.hid h1.f0
  have HX1 : Hid (Rw oc 12 w (.slice x1a P.s0.grv.length x1c) P.s0.grv) := Lib.hid h1.g0
  have HX2 : Hid (Rw oc 12 w (.slice x2a P.s1.fld.length x2c) P.s1.fld) := Lib.hid h1.f1
  have HX3 : Hid (Rw oc 12 w (.slice x3a P.s1.grv.length x3c) P.s1.grv) := Lib.hid h1.g1
  have HX4 : Hid (ItR w (.slice x4a P.st.length x4c) P.st) := Lib.hid h1.st
  have HX5 : Hid (ItR w (.slice x5a P.qu.length x5c) P.qu) := Lib.hid h1.qu
  have HX6 : Hid (Rw ic 1 w (.slice x6a P.att.length x6c) P.att) := Lib.hid h1.att
  have HX7 : Hid (Rw kc 2 w (.slice x7a P.bl.length x7c) P.bl) := Lib.hid h1.bl
  have HY0 : Hid (Rw oc 12 w (.slice y0a Q.s0.fld.length y0c) Q.s0.fld) := Lib.hid h2.f0
  have HY1 : Hid (Rw oc 12 w (.slice y1a Q.s0.grv.length y1c) Q.s0.grv) := Lib.hid h2.g0
  have HY2 : Hid (Rw oc 12 w (.slice y2a Q.s1.fld.length y2c) Q.s1.fld) := Lib.hid h2.f1
  have HY3 : Hid (Rw oc 12 w (.slice y3a Q.s1.grv.length y3c) Q.s1.grv) := Lib.hid h2.g1
  have HY4 : Hid (ItR w (.slice y4a Q.st.length y4c) Q.st) := Lib.hid h2.st
  have HY5 : Hid (ItR w (.slice y5a Q.qu.length y5c) Q.qu) := Lib.hid h2.qu
  have HY6 : Hid (Rw ic 1 w (.slice y6a Q.att.length y6c) Q.att) := Lib.hid h2.att
  have HY7 : Hid (Rw kc 2 w (.slice y7a Q.bl.length y7c) Q.bl) := Lib.hid h2.bl
  clear h1 h2
  go_enter Try.func24, Try.ntmps24
  go_upto_region 1 with fail
  change Code.wp Try.prog _ _ _ ((w.alloc (.cells (pcells ⟨⟨x0a, P.s0.fld.length, x0c⟩, ⟨x1a, P.s0.grv.length, x1c⟩, ⟨x2a, P.s1.fld.length, x2c⟩, ⟨x3a, P.s1.grv.length, x3c⟩, ⟨x4a, P.st.length, x4c⟩, ⟨x5a, P.qu.length, x5c⟩, ⟨x6a, P.att.length, x6c⟩, ⟨x7a, P.bl.length, x7c⟩⟩ P) 49)).alloc (.cells (pcells ⟨⟨y0a, Q.s0.fld.length, y0c⟩, ⟨y1a, Q.s0.grv.length, y1c⟩, ⟨y2a, Q.s1.fld.length, y2c⟩, ⟨y3a, Q.s1.grv.length, y3c⟩, ⟨y4a, Q.st.length, y4c⟩, ⟨y5a, Q.qu.length, y5c⟩, ⟨y6a, Q.att.length, y6c⟩, ⟨y7a, Q.bl.length, y7c⟩⟩ Q) 49))
  obtain ⟨wz, hwz⟩ : ∃ W, W = (w.alloc (.cells (pcells ⟨⟨x0a, P.s0.fld.length, x0c⟩, ⟨x1a, P.s0.grv.length, x1c⟩, ⟨x2a, P.s1.fld.length, x2c⟩, ⟨x3a, P.s1.grv.length, x3c⟩, ⟨x4a, P.st.length, x4c⟩, ⟨x5a, P.qu.length, x5c⟩, ⟨x6a, P.att.length, x6c⟩, ⟨x7a, P.bl.length, x7c⟩⟩ P) 49)).alloc (.cells (pcells ⟨⟨y0a, Q.s0.fld.length, y0c⟩, ⟨y1a, Q.s0.grv.length, y1c⟩, ⟨y2a, Q.s1.fld.length, y2c⟩, ⟨y3a, Q.s1.grv.length, y3c⟩, ⟨y4a, Q.st.length, y4c⟩, ⟨y5a, Q.qu.length, y5c⟩, ⟨y6a, Q.att.length, y6c⟩, ⟨y7a, Q.bl.length, y7c⟩⟩ Q) 49) := ⟨_, rfl⟩
  rw [← hwz]
  have b1' : Below w.heap.size w (w.alloc (.cells (pcells ⟨⟨x0a, P.s0.fld.length, x0c⟩, ⟨x1a, P.s0.grv.length, x1c⟩, ⟨x2a, P.s1.fld.length, x2c⟩, ⟨x3a, P.s1.grv.length, x3c⟩, ⟨x4a, P.st.length, x4c⟩, ⟨x5a, P.qu.length, x5c⟩, ⟨x6a, P.att.length, x6c⟩, ⟨x7a, P.bl.length, x7c⟩⟩ P) 49)) := (Below.refl _ _).alloc (Nat.le_refl _) _
  have b2' : Below (w.alloc (.cells (pcells ⟨⟨x0a, P.s0.fld.length, x0c⟩, ⟨x1a, P.s0.grv.length, x1c⟩, ⟨x2a, P.s1.fld.length, x2c⟩, ⟨x3a, P.s1.grv.length, x3c⟩, ⟨x4a, P.st.length, x4c⟩, ⟨x5a, P.qu.length, x5c⟩, ⟨x6a, P.att.length, x6c⟩, ⟨x7a, P.bl.length, x7c⟩⟩ P) 49)).heap.size (w.alloc (.cells (pcells ⟨⟨x0a, P.s0.fld.length, x0c⟩, ⟨x1a, P.s0.grv.length, x1c⟩, ⟨x2a, P.s1.fld.length, x2c⟩, ⟨x3a, P.s1.grv.length, x3c⟩, ⟨x4a, P.st.length, x4c⟩, ⟨x5a, P.qu.length, x5c⟩, ⟨x6a, P.att.length, x6c⟩, ⟨x7a, P.bl.length, x7c⟩⟩ P) 49)) wz := by rw [hwz]; exact (Below.refl _ _).alloc (Nat.le_refl _) _
  have HPX : Hid (Px wz w.heap.size ⟨⟨x0a, P.s0.fld.length, x0c⟩, ⟨x1a, P.s0.grv.length, x1c⟩, ⟨x2a, P.s1.fld.length, x2c⟩, ⟨x3a, P.s1.grv.length, x3c⟩, ⟨x4a, P.st.length, x4c⟩, ⟨x5a, P.qu.length, x5c⟩, ⟨x6a, P.att.length, x6c⟩, ⟨x7a, P.bl.length, x7c⟩⟩ P) := Lib.hid (Px.below (w := w.alloc (.cells (pcells ⟨⟨x0a, P.s0.fld.length, x0c⟩, ⟨x1a, P.s0.grv.length, x1c⟩, ⟨x2a, P.s1.fld.length, x2c⟩, ⟨x3a, P.s1.grv.length, x3c⟩, ⟨x4a, P.st.length, x4c⟩, ⟨x5a, P.qu.length, x5c⟩, ⟨x6a, P.att.length, x6c⟩, ⟨x7a, P.bl.length, x7c⟩⟩ P) 49)) (heap_alloc_new _ _) b2')
  have HPY : Hid (Px wz (w.heap.size + 1) ⟨⟨y0a, Q.s0.fld.length, y0c⟩, ⟨y1a, Q.s0.grv.length, y1c⟩, ⟨y2a, Q.s1.fld.length, y2c⟩, ⟨y3a, Q.s1.grv.length, y3c⟩, ⟨y4a, Q.st.length, y4c⟩, ⟨y5a, Q.qu.length, y5c⟩, ⟨y6a, Q.att.length, y6c⟩, ⟨y7a, Q.bl.length, y7c⟩⟩ Q) := Lib.hid (by rw [hwz, show w.heap.size + 1 = (w.alloc (.cells (pcells ⟨⟨x0a, P.s0.fld.length, x0c⟩, ⟨x1a, P.s0.grv.length, x1c⟩, ⟨x2a, P.s1.fld.length, x2c⟩, ⟨x3a, P.s1.grv.length, x3c⟩, ⟨x4a, P.st.length, x4c⟩, ⟨x5a, P.qu.length, x5c⟩, ⟨x6a, P.att.length, x6c⟩, ⟨x7a, P.bl.length, x7c⟩⟩ P) 49)).heap.size by simp]; exact heap_alloc_new _ _)
  have HB : Hid (Below w.heap.size w wz) := Lib.hid (below_via b1' b2')
  clear hwz b1' b2'
  have k28 : wz.cell? ⟨w.heap.size, 28, none⟩ = some (.slice x4a P.st.length x4c) := HPX.out.cell 28
  have l28 : wz.cell? ⟨w.heap.size + 1, 28, none⟩ = some (.slice y4a Q.st.length y4c) := HPY.out.cell 28
  go_wp2_with fail
  with_reducible refine (sqItems _ _ _ _ _ (HX4.out.below HB.out) (HY4.out.below HB.out)).mono ?_
  rintro e w2 ⟨r, rfl, hr, hb⟩
  replace HB := Lib.hid (below_via HB.out hb)
  replace HPX := Lib.hid (HPX.out.below hb)
  replace HPY := Lib.hid (HPY.out.below hb)
  clear hb k28 l28
  cases r
  · have HNE : Hid (P ≠ Q) := Lib.hid (fun e => by have := hr.2 (by rw [e]); cases this)
    clear hr
    go_wp2_with fail
    go_returns
    exact EqA.no HNE.out HB.out
  have HE2 : Hid (P.st = Q.st) := Lib.hid (hr.1 rfl)
  clear hr
  have k29 : w2.cell? ⟨w.heap.size, 29, none⟩ = some (.slice x5a P.qu.length x5c) := HPX.out.cell 29
  have l29 : w2.cell? ⟨w.heap.size + 1, 29, none⟩ = some (.slice y5a Q.qu.length y5c) := HPY.out.cell 29
  go_wp2_with fail
  with_reducible refine (sqItems _ _ _ _ _ (HX5.out.below HB.out) (HY5.out.below HB.out)).mono ?_
  rintro e w3 ⟨r, rfl, hr, hb⟩
  replace HB := Lib.hid (below_via HB.out hb)
  replace HPX := Lib.hid (HPX.out.below hb)
  replace HPY := Lib.hid (HPY.out.below hb)
  clear hb k29 l29
  cases r
  · have HNE : Hid (P ≠ Q) := Lib.hid (fun e => by have := hr.2 (by rw [e]); cases this)
    clear hr
    go_wp2_with fail
    go_returns
    exact EqA.no HNE.out HB.out
  have HE3 : Hid (P.qu = Q.qu) := Lib.hid (hr.1 rfl)
  clear hr
  have k30 : w3.cell? ⟨w.heap.size, 30, none⟩ = some (.slice x6a P.att.length x6c) := HPX.out.cell 30
  have l30 : w3.cell? ⟨w.heap.size + 1, 30, none⟩ = some (.slice y6a Q.att.length y6c) := HPY.out.cell 30
  go_wp2_with fail
  with_reducible refine (sqI _ _ _ _ _ (HX6.out.below HB.out) (HY6.out.below HB.out)).mono ?_
  rintro e w4 ⟨r, rfl, hr, hb⟩
  replace HB := Lib.hid (below_via HB.out hb)
  replace HPX := Lib.hid (HPX.out.below hb)
  replace HPY := Lib.hid (HPY.out.below hb)
  clear hb k30 l30
  cases r
  · have HNE : Hid (P ≠ Q) := Lib.hid (fun e => by have := hr.2 (by rw [e]); cases this)
    clear hr
    go_wp2_with fail
    go_returns
    exact EqA.no HNE.out HB.out
  have HE4 : Hid (P.att = Q.att) := Lib.hid (hr.1 rfl)
  clear hr
  have k31 : w4.cell? ⟨w.heap.size, 31, none⟩ = some (.slice x7a P.bl.length x7c) := HPX.out.cell 31
  have l31 : w4.cell? ⟨w.heap.size + 1, 31, none⟩ = some (.slice y7a Q.bl.length y7c) := HPY.out.cell 31
  go_wp2_with fail
  with_reducible refine (sqB _ _ _ _ _ (HX7.out.below HB.out) (HY7.out.below HB.out)).mono ?_
  rintro e w5 ⟨r, rfl, hr, hb⟩
  replace HB := Lib.hid (below_via HB.out hb)
  replace HPX := Lib.hid (HPX.out.below hb)
  replace HPY := Lib.hid (HPY.out.below hb)
  clear hb k31 l31
  cases r
  · have HNE : Hid (P ≠ Q) := Lib.hid (fun e => by have := hr.2 (by rw [e]); cases this)
    clear hr
    go_wp2_with fail
    go_returns
    exact EqA.no HNE.out HB.out
  have HE5 : Hid (P.bl = Q.bl) := Lib.hid (hr.1 rfl)
  clear hr
  go_upto_region 2 with fail
  have q1 : w5.rangeAt w.heap.size 0 [.int .i64 P.s0.li, .int .i64 P.s0.p0, .int .i64 P.s0.p1, .int .i64 P.s0.p2, .int .i64 P.s0.p3, .int .i64 P.s0.lib, .int .i64 P.s0.hand, .slice x0a P.s0.fld.length x0c, .slice x1a P.s0.grv.length x1c, .bool P.s0.em, .bool P.s0.py, .bool P.s0.kp, .int .i64 P.s0.mu, .int .i64 P.s0.ac] := World.rangeAt_of_block HPX.out 0 14
  have q2 : w5.rangeAt (w.heap.size + 1) 0 [.int .i64 Q.s0.li, .int .i64 Q.s0.p0, .int .i64 Q.s0.p1, .int .i64 Q.s0.p2, .int .i64 Q.s0.p3, .int .i64 Q.s0.lib, .int .i64 Q.s0.hand, .slice y0a Q.s0.fld.length y0c, .slice y1a Q.s0.grv.length y1c, .bool Q.s0.em, .bool Q.s0.py, .bool Q.s0.kp, .int .i64 Q.s0.mu, .int .i64 Q.s0.ac] := World.rangeAt_of_block HPY.out 0 14
  have HQ1 := Lib.hid q1
  have HQ2 := Lib.hid q2
  clear q1 q2
  go_wp2_with (first | (refine wpList_load_g _ rfl rfl HQ1.out Try.underlying46 rfl rfl (by kernel_rfl) ?_) | (refine wpList_load_g _ rfl rfl HQ2.out Try.underlying46 rfl rfl (by kernel_rfl) ?_))
  clear HQ1 HQ2
  with_reducible refine (sseats P.s0 Q.s0 _ _ _ _ _ _ _ _ _ (HX0.out.below HB.out) (HX1.out.below HB.out) (HY0.out.below HB.out) (HY1.out.below HB.out)).mono ?_
  rintro e w6 ⟨r, rfl, hr, hb⟩
  replace HB := Lib.hid (below_via HB.out hb)
  replace HPX := Lib.hid (HPX.out.below hb)
  replace HPY := Lib.hid (HPY.out.below hb)
  clear hb 
  cases r
  · have HNE : Hid (P ≠ Q) := Lib.hid (fun e => by have := hr.2 (by rw [e]); cases this)
    clear hr
    go_wp2_with fail
    go_returns
    exact EqA.no HNE.out HB.out
  have HE0 : Hid (P.s0 = Q.s0) := Lib.hid (hr.1 rfl)
  clear hr
  have q1 : w6.rangeAt w.heap.size 14 [.int .i64 P.s1.li, .int .i64 P.s1.p0, .int .i64 P.s1.p1, .int .i64 P.s1.p2, .int .i64 P.s1.p3, .int .i64 P.s1.lib, .int .i64 P.s1.hand, .slice x2a P.s1.fld.length x2c, .slice x3a P.s1.grv.length x3c, .bool P.s1.em, .bool P.s1.py, .bool P.s1.kp, .int .i64 P.s1.mu, .int .i64 P.s1.ac] := World.rangeAt_of_block HPX.out 14 14
  have q2 : w6.rangeAt (w.heap.size + 1) 14 [.int .i64 Q.s1.li, .int .i64 Q.s1.p0, .int .i64 Q.s1.p1, .int .i64 Q.s1.p2, .int .i64 Q.s1.p3, .int .i64 Q.s1.lib, .int .i64 Q.s1.hand, .slice y2a Q.s1.fld.length y2c, .slice y3a Q.s1.grv.length y3c, .bool Q.s1.em, .bool Q.s1.py, .bool Q.s1.kp, .int .i64 Q.s1.mu, .int .i64 Q.s1.ac] := World.rangeAt_of_block HPY.out 14 14
  have HQ1 := Lib.hid q1
  have HQ2 := Lib.hid q2
  clear q1 q2
  go_wp2_with (first | (refine wpList_load_g _ rfl rfl HQ1.out Try.underlying46 rfl rfl (by kernel_rfl) ?_) | (refine wpList_load_g _ rfl rfl HQ2.out Try.underlying46 rfl rfl (by kernel_rfl) ?_))
  clear HQ1 HQ2
  with_reducible refine (sseats P.s1 Q.s1 _ _ _ _ _ _ _ _ _ (HX2.out.below HB.out) (HX3.out.below HB.out) (HY2.out.below HB.out) (HY3.out.below HB.out)).mono ?_
  rintro e w7 ⟨r, rfl, hr, hb⟩
  replace HB := Lib.hid (below_via HB.out hb)
  replace HPX := Lib.hid (HPX.out.below hb)
  replace HPY := Lib.hid (HPY.out.below hb)
  clear hb 
  cases r
  · have HNE : Hid (P ≠ Q) := Lib.hid (fun e => by have := hr.2 (by rw [e]); cases this)
    clear hr
    go_wp2_with fail
    go_returns
    exact EqA.no HNE.out HB.out
  have HE1 : Hid (P.s1 = Q.s1) := Lib.hid (hr.1 rfl)
  clear hr
  have k32 : w7.cell? ⟨w.heap.size, 32, none⟩ = some (.int .i64 P.tu) := HPX.out.cell 32
  have l32 : w7.cell? ⟨w.heap.size + 1, 32, none⟩ = some (.int .i64 Q.tu) := HPY.out.cell 32
  have k33 : w7.cell? ⟨w.heap.size, 33, none⟩ = some (.int .i64 P.ac) := HPX.out.cell 33
  have l33 : w7.cell? ⟨w.heap.size + 1, 33, none⟩ = some (.int .i64 Q.ac) := HPY.out.cell 33
  have k34 : w7.cell? ⟨w.heap.size, 34, none⟩ = some (.int .i64 P.ph) := HPX.out.cell 34
  have l34 : w7.cell? ⟨w.heap.size + 1, 34, none⟩ = some (.int .i64 Q.ph) := HPY.out.cell 34
  have k35 : w7.cell? ⟨w.heap.size, 35, none⟩ = some (.int .i64 P.ho) := HPX.out.cell 35
  have l35 : w7.cell? ⟨w.heap.size + 1, 35, none⟩ = some (.int .i64 Q.ho) := HPY.out.cell 35
  have k36 : w7.cell? ⟨w.heap.size, 36, none⟩ = some (.int .i64 P.pa) := HPX.out.cell 36
  have l36 : w7.cell? ⟨w.heap.size + 1, 36, none⟩ = some (.int .i64 Q.pa) := HPY.out.cell 36
  cases h0 : (P.tu == Q.tu)
  · have HNE := Lib.hid (show P ≠ Q from fun e => by rw [e] at h0; simp at h0)
    go_wp2_with fail
    go_returns
    exact EqA.no HNE.out HB.out
  · skip
    cases h1 : (P.ac == Q.ac)
    · have HNE := Lib.hid (show P ≠ Q from fun e => by rw [e] at h1; simp at h1)
      go_wp2_with fail
      go_returns
      exact EqA.no HNE.out HB.out
    · skip
      cases h2 : (P.ph == Q.ph)
      · have HNE := Lib.hid (show P ≠ Q from fun e => by rw [e] at h2; simp at h2)
        go_wp2_with fail
        go_returns
        exact EqA.no HNE.out HB.out
      · skip
        cases h3 : (P.ho == Q.ho)
        · have HNE := Lib.hid (show P ≠ Q from fun e => by rw [e] at h3; simp at h3)
          go_wp2_with fail
          go_returns
          exact EqA.no HNE.out HB.out
        · skip
          cases h4 : (P.pa == Q.pa)
          · have HNE := Lib.hid (show P ≠ Q from fun e => by rw [e] at h4; simp at h4)
            go_wp2_with fail
            go_returns
            exact EqA.no HNE.out HB.out
          · skip
            have HEQ : Hid (P = Q) := Lib.hid (pu_eq HE0.out HE1.out HE2.out HE3.out HE4.out HE5.out h0 h1 h2 h3 h4)
            go_wp2_with fail
            go_returns
            exact EqA.yes HEQ.out HB.out
end Go.Proofs.Yteoeahmnonolmaa
