/- Boards that look alike, by the law. -/
import Derived.Test.YteoeahmnonolmaaSPs
import Derived.Test.YteoeahmnonolmaaSE5a
import Derived.Deep.DeepCutAuto
import Derived.LoopTactic
import Derived.Deep.MidRow
namespace Go.Proofs.Yteoeahmnonolmaa
open Go.RowKit Plain
set_option linter.unusedVariables false
set_option linter.unusedSimpArgs false

set_option maxRecDepth 100000 in
set_option maxHeartbeats 20000000 in
theorem lsame_b (s t : Ps) (P Q : Pu) (w : World) (h1 : PuR w s P) (h2 : PuR w t Q) (hse : P.s0 = Q.s0 ∧ P.s1 = Q.s1) : Calls Try.prog 26 #[pv s P, pv t Q] w (EqA w (P = Q)) := by
  obtain ⟨⟨x0a, x0n, x0c⟩, ⟨x1a, x1n, x1c⟩, ⟨x2a, x2n, x2c⟩, ⟨x3a, x3n, x3c⟩, ⟨x4a, x4n, x4c⟩, ⟨x5a, x5n, x5c⟩, ⟨x6a, x6n, x6c⟩, ⟨x7a, x7n, x7c⟩⟩ := s
  have e0 : x0n = P.s0.fld.length := rw_len h1.f0
  have e1 : x1n = P.s0.grv.length := rw_len h1.g0
  have e2 : x2n = P.s1.fld.length := rw_len h1.f1
  have e3 : x3n = P.s1.grv.length := rw_len h1.g1
  have e4 : x4n = P.st.length := itr_len h1.st
  have e5 : x5n = P.qu.length := itr_len h1.qu
  have e6 : x6n = P.att.length := rw_len h1.att
  have e7 : x7n = P.bl.length := rw_len h1.bl
  subst e0 e1 e2 e3 e4 e5 e6 e7
  obtain ⟨⟨y0a, y0n, y0c⟩, ⟨y1a, y1n, y1c⟩, ⟨y2a, y2n, y2c⟩, ⟨y3a, y3n, y3c⟩, ⟨y4a, y4n, y4c⟩, ⟨y5a, y5n, y5c⟩, ⟨y6a, y6n, y6c⟩, ⟨y7a, y7n, y7c⟩⟩ := t
  have e0 : y0n = Q.s0.fld.length := rw_len h2.f0
  have e1 : y1n = Q.s0.grv.length := rw_len h2.g0
  have e2 : y2n = Q.s1.fld.length := rw_len h2.f1
  have e3 : y3n = Q.s1.grv.length := rw_len h2.g1
  have e4 : y4n = Q.st.length := itr_len h2.st
  have e5 : y5n = Q.qu.length := itr_len h2.qu
  have e6 : y6n = Q.att.length := rw_len h2.att
  have e7 : y7n = Q.bl.length := rw_len h2.bl
  subst e0 e1 e2 e3 e4 e5 e6 e7
  have HP1 := Lib.hid h1
  have HP2 := Lib.hid h2
  have HX0 : Hid (Rw oc 12 w (.slice x0a P.s0.fld.length x0c) P.s0.fld) := Lib.hid h1.f0
  have HX1 : Hid (Rw oc 12 w (.slice x1a P.s0.grv.length x1c) P.s0.grv) := Lib.hid h1.g0
  have HX2 : Hid (Rw oc 12 w (.slice x2a P.s1.fld.length x2c) P.s1.fld) := Lib.hid h1.f1
  have HX3 : Hid (Rw oc 12 w (.slice x3a P.s1.grv.length x3c) P.s1.grv) := Lib.hid h1.g1
  have HX4 : Hid (ItR w (.slice x4a P.st.length x4c) P.st) := Lib.hid h1.st
  have HX5 : Hid (ItR w (.slice x5a P.qu.length x5c) P.qu) := Lib.hid h1.qu
  have HX6 : Hid (Rw ic 1 w (.slice x6a P.att.length x6c) P.att) := Lib.hid h1.att
  have HX7 : Hid (Rw kc 2 w (.slice x7a P.bl.length x7c) P.bl) := Lib.hid h1.bl
  have HY0 : Hid (Rw oc 12 w (.slice y0a Q.s0.fld.length y0c) Q.s0.fld) := Lib.hid h2.f0
  have HY1 : Hid (Rw oc 12 w (.slice y1a Q.s0.grv.length y1c) Q.s0.grv) := Lib.hid h2.g0
  have HY2 : Hid (Rw oc 12 w (.slice y2a Q.s1.fld.length y2c) Q.s1.fld) := Lib.hid h2.f1
  have HY3 : Hid (Rw oc 12 w (.slice y3a Q.s1.grv.length y3c) Q.s1.grv) := Lib.hid h2.g1
  have HY4 : Hid (ItR w (.slice y4a Q.st.length y4c) Q.st) := Lib.hid h2.st
  have HY5 : Hid (ItR w (.slice y5a Q.qu.length y5c) Q.qu) := Lib.hid h2.qu
  have HY6 : Hid (Rw ic 1 w (.slice y6a Q.att.length y6c) Q.att) := Lib.hid h2.att
  have HY7 : Hid (Rw kc 2 w (.slice y7a Q.bl.length y7c) Q.bl) := Lib.hid h2.bl
  have HSE := Lib.hid hse
  clear h1 h2 hse
  go_enter Try.func26, Try.ntmps26
  go_upto_region 1 with fail
  change Code.wp Try.prog _ _ _ ((w.alloc (.cells (pcells ⟨⟨x0a, P.s0.fld.length, x0c⟩, ⟨x1a, P.s0.grv.length, x1c⟩, ⟨x2a, P.s1.fld.length, x2c⟩, ⟨x3a, P.s1.grv.length, x3c⟩, ⟨x4a, P.st.length, x4c⟩, ⟨x5a, P.qu.length, x5c⟩, ⟨x6a, P.att.length, x6c⟩, ⟨x7a, P.bl.length, x7c⟩⟩ P) 49)).alloc (.cells (pcells ⟨⟨y0a, Q.s0.fld.length, y0c⟩, ⟨y1a, Q.s0.grv.length, y1c⟩, ⟨y2a, Q.s1.fld.length, y2c⟩, ⟨y3a, Q.s1.grv.length, y3c⟩, ⟨y4a, Q.st.length, y4c⟩, ⟨y5a, Q.qu.length, y5c⟩, ⟨y6a, Q.att.length, y6c⟩, ⟨y7a, Q.bl.length, y7c⟩⟩ Q) 49))
  obtain ⟨wz, hwz⟩ : ∃ W, W = (w.alloc (.cells (pcells ⟨⟨x0a, P.s0.fld.length, x0c⟩, ⟨x1a, P.s0.grv.length, x1c⟩, ⟨x2a, P.s1.fld.length, x2c⟩, ⟨x3a, P.s1.grv.length, x3c⟩, ⟨x4a, P.st.length, x4c⟩, ⟨x5a, P.qu.length, x5c⟩, ⟨x6a, P.att.length, x6c⟩, ⟨x7a, P.bl.length, x7c⟩⟩ P) 49)).alloc (.cells (pcells ⟨⟨y0a, Q.s0.fld.length, y0c⟩, ⟨y1a, Q.s0.grv.length, y1c⟩, ⟨y2a, Q.s1.fld.length, y2c⟩, ⟨y3a, Q.s1.grv.length, y3c⟩, ⟨y4a, Q.st.length, y4c⟩, ⟨y5a, Q.qu.length, y5c⟩, ⟨y6a, Q.att.length, y6c⟩, ⟨y7a, Q.bl.length, y7c⟩⟩ Q) 49) := ⟨_, rfl⟩
  rw [← hwz]
  have b1' : Below w.heap.size w (w.alloc (.cells (pcells ⟨⟨x0a, P.s0.fld.length, x0c⟩, ⟨x1a, P.s0.grv.length, x1c⟩, ⟨x2a, P.s1.fld.length, x2c⟩, ⟨x3a, P.s1.grv.length, x3c⟩, ⟨x4a, P.st.length, x4c⟩, ⟨x5a, P.qu.length, x5c⟩, ⟨x6a, P.att.length, x6c⟩, ⟨x7a, P.bl.length, x7c⟩⟩ P) 49)) := (Below.refl _ _).alloc (Nat.le_refl _) _
  have b2' : Below (w.alloc (.cells (pcells ⟨⟨x0a, P.s0.fld.length, x0c⟩, ⟨x1a, P.s0.grv.length, x1c⟩, ⟨x2a, P.s1.fld.length, x2c⟩, ⟨x3a, P.s1.grv.length, x3c⟩, ⟨x4a, P.st.length, x4c⟩, ⟨x5a, P.qu.length, x5c⟩, ⟨x6a, P.att.length, x6c⟩, ⟨x7a, P.bl.length, x7c⟩⟩ P) 49)).heap.size (w.alloc (.cells (pcells ⟨⟨x0a, P.s0.fld.length, x0c⟩, ⟨x1a, P.s0.grv.length, x1c⟩, ⟨x2a, P.s1.fld.length, x2c⟩, ⟨x3a, P.s1.grv.length, x3c⟩, ⟨x4a, P.st.length, x4c⟩, ⟨x5a, P.qu.length, x5c⟩, ⟨x6a, P.att.length, x6c⟩, ⟨x7a, P.bl.length, x7c⟩⟩ P) 49)) wz := by rw [hwz]; exact (Below.refl _ _).alloc (Nat.le_refl _) _
  have HPX : Hid (Px wz w.heap.size ⟨⟨x0a, P.s0.fld.length, x0c⟩, ⟨x1a, P.s0.grv.length, x1c⟩, ⟨x2a, P.s1.fld.length, x2c⟩, ⟨x3a, P.s1.grv.length, x3c⟩, ⟨x4a, P.st.length, x4c⟩, ⟨x5a, P.qu.length, x5c⟩, ⟨x6a, P.att.length, x6c⟩, ⟨x7a, P.bl.length, x7c⟩⟩ P) := Lib.hid (Px.below (w := w.alloc (.cells (pcells ⟨⟨x0a, P.s0.fld.length, x0c⟩, ⟨x1a, P.s0.grv.length, x1c⟩, ⟨x2a, P.s1.fld.length, x2c⟩, ⟨x3a, P.s1.grv.length, x3c⟩, ⟨x4a, P.st.length, x4c⟩, ⟨x5a, P.qu.length, x5c⟩, ⟨x6a, P.att.length, x6c⟩, ⟨x7a, P.bl.length, x7c⟩⟩ P) 49)) (heap_alloc_new _ _) b2')
  have HPY : Hid (Px wz (w.heap.size + 1) ⟨⟨y0a, Q.s0.fld.length, y0c⟩, ⟨y1a, Q.s0.grv.length, y1c⟩, ⟨y2a, Q.s1.fld.length, y2c⟩, ⟨y3a, Q.s1.grv.length, y3c⟩, ⟨y4a, Q.st.length, y4c⟩, ⟨y5a, Q.qu.length, y5c⟩, ⟨y6a, Q.att.length, y6c⟩, ⟨y7a, Q.bl.length, y7c⟩⟩ Q) := Lib.hid (by rw [hwz, show w.heap.size + 1 = (w.alloc (.cells (pcells ⟨⟨x0a, P.s0.fld.length, x0c⟩, ⟨x1a, P.s0.grv.length, x1c⟩, ⟨x2a, P.s1.fld.length, x2c⟩, ⟨x3a, P.s1.grv.length, x3c⟩, ⟨x4a, P.st.length, x4c⟩, ⟨x5a, P.qu.length, x5c⟩, ⟨x6a, P.att.length, x6c⟩, ⟨x7a, P.bl.length, x7c⟩⟩ P) 49)).heap.size by simp]; exact heap_alloc_new _ _)
  have HB : Hid (Below w.heap.size w wz) := Lib.hid (below_via b1' b2')
  clear hwz b1' b2'
  go_wp2_with fail
  go_loopw [5] (fun i wr => LsL2 w ⟨⟨x0a, P.s0.fld.length, x0c⟩, ⟨x1a, P.s0.grv.length, x1c⟩, ⟨x2a, P.s1.fld.length, x2c⟩, ⟨x3a, P.s1.grv.length, x3c⟩, ⟨x4a, P.st.length, x4c⟩, ⟨x5a, P.qu.length, x5c⟩, ⟨x6a, P.att.length, x6c⟩, ⟨x7a, P.bl.length, x7c⟩⟩ P ⟨⟨y0a, Q.s0.fld.length, y0c⟩, ⟨y1a, Q.s0.grv.length, y1c⟩, ⟨y2a, Q.s1.fld.length, y2c⟩, ⟨y3a, Q.s1.grv.length, y3c⟩, ⟨y4a, Q.st.length, y4c⟩, ⟨y5a, Q.qu.length, y5c⟩, ⟨y6a, Q.att.length, y6c⟩, ⟨y7a, Q.bl.length, y7c⟩⟩ Q i wr) (fun i _ => 2 - (intOf i).toNat)
  case atStart => exact ⟨0, by omega, rfl, fun q h => by omega, HB.out, HPX.out, HPY.out⟩
  case round =>
    obtain ⟨n, hn, rfl, hsq, hb, hpx, hpy⟩ := hrel
    replace HB := Lib.hid hb
    replace HPX := Lib.hid hpx
    replace HPY := Lib.hid hpy
    have HSQ := Lib.hid hsq
    clear hsq hb
    by_cases hn2 : n < 2
    · obtain ⟨x, hx⟩ : ∃ x, P.seat n = x := ⟨_, rfl⟩
      obtain ⟨y, hy⟩ : ∃ y, Q.seat n = y := ⟨_, rfl⟩
      obtain ⟨⟨pa, pn, pc⟩, ep⟩ : ∃ q, Ps.fs ⟨⟨x0a, P.s0.fld.length, x0c⟩, ⟨x1a, P.s0.grv.length, x1c⟩, ⟨x2a, P.s1.fld.length, x2c⟩, ⟨x3a, P.s1.grv.length, x3c⟩, ⟨x4a, P.st.length, x4c⟩, ⟨x5a, P.qu.length, x5c⟩, ⟨x6a, P.att.length, x6c⟩, ⟨x7a, P.bl.length, x7c⟩⟩ n = q := ⟨_, rfl⟩
      obtain ⟨⟨qa, qn, qc⟩, eq⟩ : ∃ q, Ps.gs ⟨⟨x0a, P.s0.fld.length, x0c⟩, ⟨x1a, P.s0.grv.length, x1c⟩, ⟨x2a, P.s1.fld.length, x2c⟩, ⟨x3a, P.s1.grv.length, x3c⟩, ⟨x4a, P.st.length, x4c⟩, ⟨x5a, P.qu.length, x5c⟩, ⟨x6a, P.att.length, x6c⟩, ⟨x7a, P.bl.length, x7c⟩⟩ n = q := ⟨_, rfl⟩
      obtain ⟨⟨ra, rn, rc⟩, er⟩ : ∃ q, Ps.fs ⟨⟨y0a, Q.s0.fld.length, y0c⟩, ⟨y1a, Q.s0.grv.length, y1c⟩, ⟨y2a, Q.s1.fld.length, y2c⟩, ⟨y3a, Q.s1.grv.length, y3c⟩, ⟨y4a, Q.st.length, y4c⟩, ⟨y5a, Q.qu.length, y5c⟩, ⟨y6a, Q.att.length, y6c⟩, ⟨y7a, Q.bl.length, y7c⟩⟩ n = q := ⟨_, rfl⟩
      obtain ⟨⟨sa, sn, sc⟩, es⟩ : ∃ q, Ps.gs ⟨⟨y0a, Q.s0.fld.length, y0c⟩, ⟨y1a, Q.s0.grv.length, y1c⟩, ⟨y2a, Q.s1.fld.length, y2c⟩, ⟨y3a, Q.s1.grv.length, y3c⟩, ⟨y4a, Q.st.length, y4c⟩, ⟨y5a, Q.qu.length, y5c⟩, ⟨y6a, Q.att.length, y6c⟩, ⟨y7a, Q.bl.length, y7c⟩⟩ n = q := ⟨_, rfl⟩
      have hs1 := HP1.out.seat n
      have hs2 := HP2.out.seat n
      rw [ep, eq, hx] at hs1
      rw [er, es, hy] at hs2
      have z1 : pn = x.fld.length := rw_len hs1.1
      have z2 : qn = x.grv.length := rw_len hs1.2
      have z3 : rn = y.fld.length := rw_len hs2.1
      have z4 : sn = y.grv.length := rw_len hs2.2
      subst z1 z2 z3 z4
      have HT1 : Hid (Rw oc 12 w (.slice pa x.fld.length pc) x.fld) := Lib.hid hs1.1
      have HT2 : Hid (Rw oc 12 w (.slice qa x.grv.length qc) x.grv) := Lib.hid hs1.2
      have HT3 : Hid (Rw oc 12 w (.slice ra y.fld.length rc) y.fld) := Lib.hid hs2.1
      have HT4 : Hid (Rw oc 12 w (.slice sa y.grv.length sc) y.grv) := Lib.hid hs2.2
      have rx := hpx.seatAt hn2 hx ep eq
      have ry := hpy.seatAt hn2 hy er es
      have d0 : wr.cell? ⟨w.heap.size, n * 14, none⟩ = some (.int .i64 x.li) := rx 0 _ rfl
      have d1 : wr.cell? ⟨w.heap.size, n * 14 + 1, none⟩ = some (.int .i64 x.p0) := rx 1 _ rfl
      have d2 : wr.cell? ⟨w.heap.size, n * 14 + 2, none⟩ = some (.int .i64 x.p1) := rx 2 _ rfl
      have d3 : wr.cell? ⟨w.heap.size, n * 14 + 3, none⟩ = some (.int .i64 x.p2) := rx 3 _ rfl
      have d4 : wr.cell? ⟨w.heap.size, n * 14 + 4, none⟩ = some (.int .i64 x.p3) := rx 4 _ rfl
      have d5 : wr.cell? ⟨w.heap.size, n * 14 + 5, none⟩ = some (.int .i64 x.lib) := rx 5 _ rfl
      have d6 : wr.cell? ⟨w.heap.size, n * 14 + 6, none⟩ = some (.int .i64 x.hand) := rx 6 _ rfl
      have d7 : wr.cell? ⟨w.heap.size, n * 14 + 7, none⟩ = some (.slice pa x.fld.length pc) := rx 7 _ rfl
      have d8 : wr.cell? ⟨w.heap.size, n * 14 + 8, none⟩ = some (.slice qa x.grv.length qc) := rx 8 _ rfl
      have d9 : wr.cell? ⟨w.heap.size, n * 14 + 9, none⟩ = some (.bool x.em) := rx 9 _ rfl
      have d10 : wr.cell? ⟨w.heap.size, n * 14 + 10, none⟩ = some (.bool x.py) := rx 10 _ rfl
      have d11 : wr.cell? ⟨w.heap.size, n * 14 + 11, none⟩ = some (.bool x.kp) := rx 11 _ rfl
      have d12 : wr.cell? ⟨w.heap.size, n * 14 + 12, none⟩ = some (.int .i64 x.mu) := rx 12 _ rfl
      have d13 : wr.cell? ⟨w.heap.size, n * 14 + 13, none⟩ = some (.int .i64 x.ac) := rx 13 _ rfl
      have e0 : wr.cell? ⟨w.heap.size + 1, n * 14, none⟩ = some (.int .i64 y.li) := ry 0 _ rfl
      have e1 : wr.cell? ⟨w.heap.size + 1, n * 14 + 1, none⟩ = some (.int .i64 y.p0) := ry 1 _ rfl
      have e2 : wr.cell? ⟨w.heap.size + 1, n * 14 + 2, none⟩ = some (.int .i64 y.p1) := ry 2 _ rfl
      have e3 : wr.cell? ⟨w.heap.size + 1, n * 14 + 3, none⟩ = some (.int .i64 y.p2) := ry 3 _ rfl
      have e4 : wr.cell? ⟨w.heap.size + 1, n * 14 + 4, none⟩ = some (.int .i64 y.p3) := ry 4 _ rfl
      have e5 : wr.cell? ⟨w.heap.size + 1, n * 14 + 5, none⟩ = some (.int .i64 y.lib) := ry 5 _ rfl
      have e6 : wr.cell? ⟨w.heap.size + 1, n * 14 + 6, none⟩ = some (.int .i64 y.hand) := ry 6 _ rfl
      have e7 : wr.cell? ⟨w.heap.size + 1, n * 14 + 7, none⟩ = some (.slice ra y.fld.length rc) := ry 7 _ rfl
      have e8 : wr.cell? ⟨w.heap.size + 1, n * 14 + 8, none⟩ = some (.slice sa y.grv.length sc) := ry 8 _ rfl
      have e9 : wr.cell? ⟨w.heap.size + 1, n * 14 + 9, none⟩ = some (.bool y.em) := ry 9 _ rfl
      have e10 : wr.cell? ⟨w.heap.size + 1, n * 14 + 10, none⟩ = some (.bool y.py) := ry 10 _ rfl
      have e11 : wr.cell? ⟨w.heap.size + 1, n * 14 + 11, none⟩ = some (.bool y.kp) := ry 11 _ rfl
      have e12 : wr.cell? ⟨w.heap.size + 1, n * 14 + 12, none⟩ = some (.int .i64 y.mu) := ry 12 _ rfl
      have e13 : wr.cell? ⟨w.heap.size + 1, n * 14 + 13, none⟩ = some (.int .i64 y.ac) := ry 13 _ rfl
      have g1 := hpx.lt
      have g2 := hpy.lt
      have HSX := Lib.hid hx
      have HSY := Lib.hid hy
      have i1 : (0 : Int) ≤ (n : Int) := by omega
      have i2 : (n : Int) < 2 := by omega
      clear hs1 hs2 rx ry hx hy ep eq er es hpx hpy
      go_upto_region 4 with fail
      go_cut [6, 7] (fun s6 s7 wx => ∃ X Y, s6 = .pointer (some ⟨X, 0, none⟩) ∧ s7 = .pointer (some ⟨Y, 0, none⟩) ∧ Ro wx X #[.int .i64 x.li, .int .i64 x.p0, .int .i64 x.p1, .int .i64 x.p2, .int .i64 x.p3, .int .i64 x.lib, .int .i64 x.hand, .slice pa x.fld.length pc, .slice qa x.grv.length qc, .bool x.em, .bool x.py, .bool x.kp, .int .i64 x.mu, .int .i64 x.ac] 46 ∧ Ro wx Y #[.int .i64 y.li, .int .i64 y.p0, .int .i64 y.p1, .int .i64 y.p2, .int .i64 y.p3, .int .i64 y.lib, .int .i64 y.hand, .slice ra y.fld.length rc, .slice sa y.grv.length sc, .bool y.em, .bool y.py, .bool y.kp, .int .i64 y.mu, .int .i64 y.ac] 46 ∧ Below wr.heap.size wr wx)
      case first =>
        refine rg26_4 (w0 := wr) (B := wr.heap.size) (n := wr.heap.size) (L := []) (E := fun _ => True) (F := fun _ => True) (by kernel_rfl) (by kernel_rfl) ⟨by go_grown, by go_size, (by simp [go_sem] <;> omega)⟩ trivial (fun _ _ _ _ => trivial) trivial (fun _ _ _ _ => trivial) (fun w41 K_w41 E_w41 F_w41 => ?_)
        have _ne : Nonempty (KX (wr.heap.size) wr (wr.heap.size) [] (fun _ => True)) := ⟨⟨_, K_w41, E_w41⟩⟩
        repeat (go_big_quiet_step (fail))
        refine wpQuiet_nil ?_
        have rd0 : ∀ s : KX (wr.heap.size) wr (wr.heap.size) [] (fun _ => True), s.val.cell? ⟨w.heap.size, n * 14, none⟩ = some (.int .i64 x.li) := fun s => (s.kept.below.cell (p := ⟨w.heap.size, n * 14, none⟩) g1).trans d0
        have rd1 : ∀ s : KX (wr.heap.size) wr (wr.heap.size) [] (fun _ => True), s.val.cell? ⟨w.heap.size, n * 14 + 1, none⟩ = some (.int .i64 x.p0) := fun s => (s.kept.below.cell (p := ⟨w.heap.size, n * 14 + 1, none⟩) g1).trans d1
        have rd2 : ∀ s : KX (wr.heap.size) wr (wr.heap.size) [] (fun _ => True), s.val.cell? ⟨w.heap.size, n * 14 + 2, none⟩ = some (.int .i64 x.p1) := fun s => (s.kept.below.cell (p := ⟨w.heap.size, n * 14 + 2, none⟩) g1).trans d2
        have rd3 : ∀ s : KX (wr.heap.size) wr (wr.heap.size) [] (fun _ => True), s.val.cell? ⟨w.heap.size, n * 14 + 3, none⟩ = some (.int .i64 x.p2) := fun s => (s.kept.below.cell (p := ⟨w.heap.size, n * 14 + 3, none⟩) g1).trans d3
        have rd4 : ∀ s : KX (wr.heap.size) wr (wr.heap.size) [] (fun _ => True), s.val.cell? ⟨w.heap.size, n * 14 + 4, none⟩ = some (.int .i64 x.p3) := fun s => (s.kept.below.cell (p := ⟨w.heap.size, n * 14 + 4, none⟩) g1).trans d4
        have rd5 : ∀ s : KX (wr.heap.size) wr (wr.heap.size) [] (fun _ => True), s.val.cell? ⟨w.heap.size, n * 14 + 5, none⟩ = some (.int .i64 x.lib) := fun s => (s.kept.below.cell (p := ⟨w.heap.size, n * 14 + 5, none⟩) g1).trans d5
        have rd6 : ∀ s : KX (wr.heap.size) wr (wr.heap.size) [] (fun _ => True), s.val.cell? ⟨w.heap.size, n * 14 + 6, none⟩ = some (.int .i64 x.hand) := fun s => (s.kept.below.cell (p := ⟨w.heap.size, n * 14 + 6, none⟩) g1).trans d6
        have rd7 : ∀ s : KX (wr.heap.size) wr (wr.heap.size) [] (fun _ => True), s.val.cell? ⟨w.heap.size, n * 14 + 7, none⟩ = some (.slice pa x.fld.length pc) := fun s => (s.kept.below.cell (p := ⟨w.heap.size, n * 14 + 7, none⟩) g1).trans d7
        have rd8 : ∀ s : KX (wr.heap.size) wr (wr.heap.size) [] (fun _ => True), s.val.cell? ⟨w.heap.size, n * 14 + 8, none⟩ = some (.slice qa x.grv.length qc) := fun s => (s.kept.below.cell (p := ⟨w.heap.size, n * 14 + 8, none⟩) g1).trans d8
        have rd9 : ∀ s : KX (wr.heap.size) wr (wr.heap.size) [] (fun _ => True), s.val.cell? ⟨w.heap.size, n * 14 + 9, none⟩ = some (.bool x.em) := fun s => (s.kept.below.cell (p := ⟨w.heap.size, n * 14 + 9, none⟩) g1).trans d9
        have rd10 : ∀ s : KX (wr.heap.size) wr (wr.heap.size) [] (fun _ => True), s.val.cell? ⟨w.heap.size, n * 14 + 10, none⟩ = some (.bool x.py) := fun s => (s.kept.below.cell (p := ⟨w.heap.size, n * 14 + 10, none⟩) g1).trans d10
        have rd11 : ∀ s : KX (wr.heap.size) wr (wr.heap.size) [] (fun _ => True), s.val.cell? ⟨w.heap.size, n * 14 + 11, none⟩ = some (.bool x.kp) := fun s => (s.kept.below.cell (p := ⟨w.heap.size, n * 14 + 11, none⟩) g1).trans d11
        have rd12 : ∀ s : KX (wr.heap.size) wr (wr.heap.size) [] (fun _ => True), s.val.cell? ⟨w.heap.size, n * 14 + 12, none⟩ = some (.int .i64 x.mu) := fun s => (s.kept.below.cell (p := ⟨w.heap.size, n * 14 + 12, none⟩) g1).trans d12
        have rd13 : ∀ s : KX (wr.heap.size) wr (wr.heap.size) [] (fun _ => True), s.val.cell? ⟨w.heap.size, n * 14 + 13, none⟩ = some (.int .i64 x.ac) := fun s => (s.kept.below.cell (p := ⟨w.heap.size, n * 14 + 13, none⟩) g1).trans d13
        have re0 : ∀ s : KX (wr.heap.size) wr (wr.heap.size) [] (fun _ => True), s.val.cell? ⟨w.heap.size + 1, n * 14, none⟩ = some (.int .i64 y.li) := fun s => (s.kept.below.cell (p := ⟨w.heap.size + 1, n * 14, none⟩) g2).trans e0
        have re1 : ∀ s : KX (wr.heap.size) wr (wr.heap.size) [] (fun _ => True), s.val.cell? ⟨w.heap.size + 1, n * 14 + 1, none⟩ = some (.int .i64 y.p0) := fun s => (s.kept.below.cell (p := ⟨w.heap.size + 1, n * 14 + 1, none⟩) g2).trans e1
        have re2 : ∀ s : KX (wr.heap.size) wr (wr.heap.size) [] (fun _ => True), s.val.cell? ⟨w.heap.size + 1, n * 14 + 2, none⟩ = some (.int .i64 y.p1) := fun s => (s.kept.below.cell (p := ⟨w.heap.size + 1, n * 14 + 2, none⟩) g2).trans e2
        have re3 : ∀ s : KX (wr.heap.size) wr (wr.heap.size) [] (fun _ => True), s.val.cell? ⟨w.heap.size + 1, n * 14 + 3, none⟩ = some (.int .i64 y.p2) := fun s => (s.kept.below.cell (p := ⟨w.heap.size + 1, n * 14 + 3, none⟩) g2).trans e3
        have re4 : ∀ s : KX (wr.heap.size) wr (wr.heap.size) [] (fun _ => True), s.val.cell? ⟨w.heap.size + 1, n * 14 + 4, none⟩ = some (.int .i64 y.p3) := fun s => (s.kept.below.cell (p := ⟨w.heap.size + 1, n * 14 + 4, none⟩) g2).trans e4
        have re5 : ∀ s : KX (wr.heap.size) wr (wr.heap.size) [] (fun _ => True), s.val.cell? ⟨w.heap.size + 1, n * 14 + 5, none⟩ = some (.int .i64 y.lib) := fun s => (s.kept.below.cell (p := ⟨w.heap.size + 1, n * 14 + 5, none⟩) g2).trans e5
        have re6 : ∀ s : KX (wr.heap.size) wr (wr.heap.size) [] (fun _ => True), s.val.cell? ⟨w.heap.size + 1, n * 14 + 6, none⟩ = some (.int .i64 y.hand) := fun s => (s.kept.below.cell (p := ⟨w.heap.size + 1, n * 14 + 6, none⟩) g2).trans e6
        have re7 : ∀ s : KX (wr.heap.size) wr (wr.heap.size) [] (fun _ => True), s.val.cell? ⟨w.heap.size + 1, n * 14 + 7, none⟩ = some (.slice ra y.fld.length rc) := fun s => (s.kept.below.cell (p := ⟨w.heap.size + 1, n * 14 + 7, none⟩) g2).trans e7
        have re8 : ∀ s : KX (wr.heap.size) wr (wr.heap.size) [] (fun _ => True), s.val.cell? ⟨w.heap.size + 1, n * 14 + 8, none⟩ = some (.slice sa y.grv.length sc) := fun s => (s.kept.below.cell (p := ⟨w.heap.size + 1, n * 14 + 8, none⟩) g2).trans e8
        have re9 : ∀ s : KX (wr.heap.size) wr (wr.heap.size) [] (fun _ => True), s.val.cell? ⟨w.heap.size + 1, n * 14 + 9, none⟩ = some (.bool y.em) := fun s => (s.kept.below.cell (p := ⟨w.heap.size + 1, n * 14 + 9, none⟩) g2).trans e9
        have re10 : ∀ s : KX (wr.heap.size) wr (wr.heap.size) [] (fun _ => True), s.val.cell? ⟨w.heap.size + 1, n * 14 + 10, none⟩ = some (.bool y.py) := fun s => (s.kept.below.cell (p := ⟨w.heap.size + 1, n * 14 + 10, none⟩) g2).trans e10
        have re11 : ∀ s : KX (wr.heap.size) wr (wr.heap.size) [] (fun _ => True), s.val.cell? ⟨w.heap.size + 1, n * 14 + 11, none⟩ = some (.bool y.kp) := fun s => (s.kept.below.cell (p := ⟨w.heap.size + 1, n * 14 + 11, none⟩) g2).trans e11
        have re12 : ∀ s : KX (wr.heap.size) wr (wr.heap.size) [] (fun _ => True), s.val.cell? ⟨w.heap.size + 1, n * 14 + 12, none⟩ = some (.int .i64 y.mu) := fun s => (s.kept.below.cell (p := ⟨w.heap.size + 1, n * 14 + 12, none⟩) g2).trans e12
        have re13 : ∀ s : KX (wr.heap.size) wr (wr.heap.size) [] (fun _ => True), s.val.cell? ⟨w.heap.size + 1, n * 14 + 13, none⟩ = some (.int .i64 y.ac) := fun s => (s.kept.below.cell (p := ⟨w.heap.size + 1, n * 14 + 13, none⟩) g2).trans e13
        repeat (go_big_quiet_step (fail))
        refine wpQuiet_nil ?_
        clear rd0 rd1 rd2 rd3 rd4 rd5 rd6 rd7 rd8 rd9 rd10 rd11 rd12 rd13 re0 re1 re2 re3 re4 re5 re6 re7 re8 re9 re10 re11 re12 re13
        have KH_w41 := Lib.hid K_w41
        have hw_w41 := K_w41.below
        have hz_w41 := K_w41.size
        clear K_w41
        clear E_w41 F_w41
        refine ⟨fun K hK0 => ?_, fun K hK0 => ?_, trivial⟩
        · skip
          have hK := Lib.hid hK0
          clear hK0
          have HW := Lib.hid hw_w41
          clear hw_w41 hz_w41 KH_w41
          go_wp2_with fail
          first | (refine ⟨rfl, ⟨⟨_, ⟨HW.out.alloc HW.out.size _, Nat.le_trans HW.out.size (by simp), by simp⟩, trivial⟩, rfl⟩, hK.out _ _ ?_⟩; clear hK K) | (refine ⟨⟨⟨_, ⟨HW.out.alloc HW.out.size _, Nat.le_trans HW.out.size (by simp), by simp⟩, trivial⟩, rfl⟩, hK.out _ _ ?_⟩; clear hK K)
          refine ⟨fun K hK0 => ?_, trivial⟩
          have hK := Lib.hid hK0
          clear hK0
          obtain ⟨w42, hw42⟩ : ∃ X, X = w41.alloc (.cells #[.int .i64 0, .int .i64 0, .int .i64 0, .int .i64 0, .int .i64 0, .int .i64 0, .int .i64 0, .slice none 0 0, .slice none 0 0, .bool false, .bool false, .bool false, .int .i64 0, .int .i64 0] 46) := ⟨_, rfl⟩
          rw [← hw42]
          have hb : Below w41.heap.size w41 w42 := by rw [hw42]; exact (Below.refl _ _).alloc (Nat.le_refl _) _
          have X0 : Ro w42 w41.heap.size #[.int .i64 0, .int .i64 0, .int .i64 0, .int .i64 0, .int .i64 0, .int .i64 0, .int .i64 0, .slice none 0 0, .slice none 0 0, .bool false, .bool false, .bool false, .int .i64 0, .int .i64 0] 46 := by rw [hw42]; exact Ro.new _ _ _
          obtain ⟨bX, hbX⟩ : ∃ n, n = w41.heap.size := ⟨_, rfl⟩
          rw [← hbX] at X0 ⊢
          have HGX : Hid (wr.heap.size ≤ bX) := Lib.hid (by rw [hbX]; exact HW.out.size)
          replace HW := Lib.hid (HW.out.trans (hb.mono HW.out.size))
          have X := Lib.hid X0
          clear hw42 hb X0 hbX
          go_wp2_with fail
          first | (refine ⟨rfl, ⟨⟨_, ⟨HW.out.alloc HW.out.size _, Nat.le_trans HW.out.size (by simp), by simp⟩, trivial⟩, rfl⟩, hK.out _ _ ?_⟩; clear hK K) | (refine ⟨⟨⟨_, ⟨HW.out.alloc HW.out.size _, Nat.le_trans HW.out.size (by simp), by simp⟩, trivial⟩, rfl⟩, hK.out _ _ ?_⟩; clear hK K)
          refine ⟨fun K hK0 => ?_, trivial⟩
          have hK := Lib.hid hK0
          clear hK0
          obtain ⟨w43, hw43⟩ : ∃ X, X = w42.alloc (.cells #[.int .i64 0, .int .i64 0, .int .i64 0, .int .i64 0, .int .i64 0, .int .i64 0, .int .i64 0, .slice none 0 0, .slice none 0 0, .bool false, .bool false, .bool false, .int .i64 0, .int .i64 0] 46) := ⟨_, rfl⟩
          rw [← hw43]
          have hb : Below w42.heap.size w42 w43 := by rw [hw43]; exact (Below.refl _ _).alloc (Nat.le_refl _) _
          have Y0 : Ro w43 w42.heap.size #[.int .i64 0, .int .i64 0, .int .i64 0, .int .i64 0, .int .i64 0, .int .i64 0, .int .i64 0, .slice none 0 0, .slice none 0 0, .bool false, .bool false, .bool false, .int .i64 0, .int .i64 0] 46 := by rw [hw43]; exact Ro.new _ _ _
          obtain ⟨bY, hbY⟩ : ∃ n, n = w42.heap.size := ⟨_, rfl⟩
          rw [← hbY] at Y0 ⊢
          have HGY : Hid (wr.heap.size ≤ bY) := Lib.hid (by rw [hbY]; exact HW.out.size)
          have HEYX : Hid (bX ≠ bY) := Lib.hid (by rw [hbY]; exact Nat.ne_of_lt X.out.lt)
          replace X := Lib.hid (X.out.below hb)
          replace HW := Lib.hid (HW.out.trans (hb.mono HW.out.size))
          have Y := Lib.hid Y0
          clear hw43 hb Y0 hbY
          go_wp2_with (refine wpList_store_ro 46 rfl _ _ rfl rfl rfl X.out rfl rfl (by simp [Value.oneCell']) ?_)
          obtain ⟨w44, hw44⟩ : ∃ X, X = w43.setRow bX #[.int .i64 x.li, .int .i64 x.p0, .int .i64 x.p1, .int .i64 x.p2, .int .i64 x.p3, .int .i64 x.lib, .int .i64 x.hand, .slice pa x.fld.length pc, .slice qa x.grv.length qc, .bool x.em, .bool x.py, .bool x.kp, .int .i64 x.mu, .int .i64 x.ac] := ⟨_, rfl⟩
          rw [← hw44]
          have ho : Onl [bX] w43 w44 := by rw [hw44]; exact Onl.setRow (Onl.refl _ _) (.inl (by simp)) _
          replace X : Hid (Ro w44 bX #[.int .i64 x.li, .int .i64 x.p0, .int .i64 x.p1, .int .i64 x.p2, .int .i64 x.p3, .int .i64 x.lib, .int .i64 x.hand, .slice pa x.fld.length pc, .slice qa x.grv.length qc, .bool x.em, .bool x.py, .bool x.kp, .int .i64 x.mu, .int .i64 x.ac] 46) := Lib.hid (by rw [hw44]; exact setRow_heap _ _ _ _ _ _ X.out)
          replace Y := Lib.hid (Y.out.onl ho (by simpa using HEYX.out.symm))
          replace HW := Lib.hid (belowOnl HW.out ho (by simpa using HGX.out) HW.out.size)
          clear ho hw44
          go_wp2_with fail
          first | (refine ⟨rfl, ⟨⟨_, ⟨HW.out, HW.out.size, by simp⟩, trivial⟩, rfl⟩, hK.out _ _ ?_⟩; clear hK K) | (refine ⟨⟨⟨_, ⟨HW.out, HW.out.size, by simp⟩, trivial⟩, rfl⟩, hK.out _ _ ?_⟩; clear hK K)
          refine ⟨fun K hK0 => ?_, trivial⟩
          have hK := Lib.hid hK0
          clear hK0
          go_wp2_with (refine wpList_store_ro 46 rfl _ _ rfl rfl rfl Y.out rfl rfl (by simp [Value.oneCell']) ?_)
          obtain ⟨w45, hw45⟩ : ∃ X, X = w44.setRow bY #[.int .i64 y.li, .int .i64 y.p0, .int .i64 y.p1, .int .i64 y.p2, .int .i64 y.p3, .int .i64 y.lib, .int .i64 y.hand, .slice ra y.fld.length rc, .slice sa y.grv.length sc, .bool y.em, .bool y.py, .bool y.kp, .int .i64 y.mu, .int .i64 y.ac] := ⟨_, rfl⟩
          rw [← hw45]
          have ho : Onl [bY] w44 w45 := by rw [hw45]; exact Onl.setRow (Onl.refl _ _) (.inl (by simp)) _
          replace Y : Hid (Ro w45 bY #[.int .i64 y.li, .int .i64 y.p0, .int .i64 y.p1, .int .i64 y.p2, .int .i64 y.p3, .int .i64 y.lib, .int .i64 y.hand, .slice ra y.fld.length rc, .slice sa y.grv.length sc, .bool y.em, .bool y.py, .bool y.kp, .int .i64 y.mu, .int .i64 y.ac] 46) := Lib.hid (by rw [hw45]; exact setRow_heap _ _ _ _ _ _ Y.out)
          replace X := Lib.hid (X.out.onl ho (by simpa using HEYX.out))
          replace HW := Lib.hid (belowOnl HW.out ho (by simpa using HGY.out) HW.out.size)
          clear ho hw45
          go_wp2_with fail
          first | (refine ⟨rfl, ⟨⟨_, ⟨HW.out, HW.out.size, by simp⟩, trivial⟩, rfl⟩, hK.out _ _ ?_⟩; clear hK K) | (refine ⟨⟨⟨_, ⟨HW.out, HW.out.size, by simp⟩, trivial⟩, rfl⟩, hK.out _ _ ?_⟩; clear hK K)
          clear _ne
          go_wp2_with fail
          go_meet
          case rel => exact ⟨bX, bY, rfl, rfl, X.out, Y.out, HW.out⟩
        · skip
          have hK := Lib.hid hK0
          clear hK0
          have HW := Lib.hid hw_w41
          clear hw_w41 hz_w41 KH_w41
          go_wp2_with fail
          first | (refine ⟨rfl, ⟨⟨_, ⟨HW.out.alloc HW.out.size _, Nat.le_trans HW.out.size (by simp), by simp⟩, trivial⟩, rfl⟩, hK.out _ _ ?_⟩; clear hK K) | (refine ⟨⟨⟨_, ⟨HW.out.alloc HW.out.size _, Nat.le_trans HW.out.size (by simp), by simp⟩, trivial⟩, rfl⟩, hK.out _ _ ?_⟩; clear hK K)
          refine ⟨fun K hK0 => ?_, trivial⟩
          have hK := Lib.hid hK0
          clear hK0
          obtain ⟨w42, hw42⟩ : ∃ X, X = w41.alloc (.cells #[.int .i64 0, .int .i64 0, .int .i64 0, .int .i64 0, .int .i64 0, .int .i64 0, .int .i64 0, .slice none 0 0, .slice none 0 0, .bool false, .bool false, .bool false, .int .i64 0, .int .i64 0] 46) := ⟨_, rfl⟩
          rw [← hw42]
          have hb : Below w41.heap.size w41 w42 := by rw [hw42]; exact (Below.refl _ _).alloc (Nat.le_refl _) _
          have Y0 : Ro w42 w41.heap.size #[.int .i64 0, .int .i64 0, .int .i64 0, .int .i64 0, .int .i64 0, .int .i64 0, .int .i64 0, .slice none 0 0, .slice none 0 0, .bool false, .bool false, .bool false, .int .i64 0, .int .i64 0] 46 := by rw [hw42]; exact Ro.new _ _ _
          obtain ⟨bY, hbY⟩ : ∃ n, n = w41.heap.size := ⟨_, rfl⟩
          rw [← hbY] at Y0 ⊢
          have HGY : Hid (wr.heap.size ≤ bY) := Lib.hid (by rw [hbY]; exact HW.out.size)
          replace HW := Lib.hid (HW.out.trans (hb.mono HW.out.size))
          have Y := Lib.hid Y0
          clear hw42 hb Y0 hbY
          go_wp2_with fail
          first | (refine ⟨rfl, ⟨⟨_, ⟨HW.out.alloc HW.out.size _, Nat.le_trans HW.out.size (by simp), by simp⟩, trivial⟩, rfl⟩, hK.out _ _ ?_⟩; clear hK K) | (refine ⟨⟨⟨_, ⟨HW.out.alloc HW.out.size _, Nat.le_trans HW.out.size (by simp), by simp⟩, trivial⟩, rfl⟩, hK.out _ _ ?_⟩; clear hK K)
          refine ⟨fun K hK0 => ?_, trivial⟩
          have hK := Lib.hid hK0
          clear hK0
          obtain ⟨w43, hw43⟩ : ∃ X, X = w42.alloc (.cells #[.int .i64 0, .int .i64 0, .int .i64 0, .int .i64 0, .int .i64 0, .int .i64 0, .int .i64 0, .slice none 0 0, .slice none 0 0, .bool false, .bool false, .bool false, .int .i64 0, .int .i64 0] 46) := ⟨_, rfl⟩
          rw [← hw43]
          have hb : Below w42.heap.size w42 w43 := by rw [hw43]; exact (Below.refl _ _).alloc (Nat.le_refl _) _
          have X0 : Ro w43 w42.heap.size #[.int .i64 0, .int .i64 0, .int .i64 0, .int .i64 0, .int .i64 0, .int .i64 0, .int .i64 0, .slice none 0 0, .slice none 0 0, .bool false, .bool false, .bool false, .int .i64 0, .int .i64 0] 46 := by rw [hw43]; exact Ro.new _ _ _
          obtain ⟨bX, hbX⟩ : ∃ n, n = w42.heap.size := ⟨_, rfl⟩
          rw [← hbX] at X0 ⊢
          have HGX : Hid (wr.heap.size ≤ bX) := Lib.hid (by rw [hbX]; exact HW.out.size)
          have HEXY : Hid (bY ≠ bX) := Lib.hid (by rw [hbX]; exact Nat.ne_of_lt Y.out.lt)
          replace Y := Lib.hid (Y.out.below hb)
          replace HW := Lib.hid (HW.out.trans (hb.mono HW.out.size))
          have X := Lib.hid X0
          clear hw43 hb X0 hbX
          go_wp2_with (refine wpList_store_ro 46 rfl _ _ rfl rfl rfl X.out rfl rfl (by simp [Value.oneCell']) ?_)
          obtain ⟨w44, hw44⟩ : ∃ X, X = w43.setRow bX #[.int .i64 x.li, .int .i64 x.p0, .int .i64 x.p1, .int .i64 x.p2, .int .i64 x.p3, .int .i64 x.lib, .int .i64 x.hand, .slice pa x.fld.length pc, .slice qa x.grv.length qc, .bool x.em, .bool x.py, .bool x.kp, .int .i64 x.mu, .int .i64 x.ac] := ⟨_, rfl⟩
          rw [← hw44]
          have ho : Onl [bX] w43 w44 := by rw [hw44]; exact Onl.setRow (Onl.refl _ _) (.inl (by simp)) _
          replace X : Hid (Ro w44 bX #[.int .i64 x.li, .int .i64 x.p0, .int .i64 x.p1, .int .i64 x.p2, .int .i64 x.p3, .int .i64 x.lib, .int .i64 x.hand, .slice pa x.fld.length pc, .slice qa x.grv.length qc, .bool x.em, .bool x.py, .bool x.kp, .int .i64 x.mu, .int .i64 x.ac] 46) := Lib.hid (by rw [hw44]; exact setRow_heap _ _ _ _ _ _ X.out)
          replace Y := Lib.hid (Y.out.onl ho (by simpa using HEXY.out))
          replace HW := Lib.hid (belowOnl HW.out ho (by simpa using HGX.out) HW.out.size)
          clear ho hw44
          go_wp2_with fail
          first | (refine ⟨rfl, ⟨⟨_, ⟨HW.out, HW.out.size, by simp⟩, trivial⟩, rfl⟩, hK.out _ _ ?_⟩; clear hK K) | (refine ⟨⟨⟨_, ⟨HW.out, HW.out.size, by simp⟩, trivial⟩, rfl⟩, hK.out _ _ ?_⟩; clear hK K)
          refine ⟨fun K hK0 => ?_, trivial⟩
          have hK := Lib.hid hK0
          clear hK0
          go_wp2_with (refine wpList_store_ro 46 rfl _ _ rfl rfl rfl Y.out rfl rfl (by simp [Value.oneCell']) ?_)
          obtain ⟨w45, hw45⟩ : ∃ X, X = w44.setRow bY #[.int .i64 y.li, .int .i64 y.p0, .int .i64 y.p1, .int .i64 y.p2, .int .i64 y.p3, .int .i64 y.lib, .int .i64 y.hand, .slice ra y.fld.length rc, .slice sa y.grv.length sc, .bool y.em, .bool y.py, .bool y.kp, .int .i64 y.mu, .int .i64 y.ac] := ⟨_, rfl⟩
          rw [← hw45]
          have ho : Onl [bY] w44 w45 := by rw [hw45]; exact Onl.setRow (Onl.refl _ _) (.inl (by simp)) _
          replace Y : Hid (Ro w45 bY #[.int .i64 y.li, .int .i64 y.p0, .int .i64 y.p1, .int .i64 y.p2, .int .i64 y.p3, .int .i64 y.lib, .int .i64 y.hand, .slice ra y.fld.length rc, .slice sa y.grv.length sc, .bool y.em, .bool y.py, .bool y.kp, .int .i64 y.mu, .int .i64 y.ac] 46) := Lib.hid (by rw [hw45]; exact setRow_heap _ _ _ _ _ _ Y.out)
          replace X := Lib.hid (X.out.onl ho (by simpa using HEXY.out.symm))
          replace HW := Lib.hid (belowOnl HW.out ho (by simpa using HGY.out) HW.out.size)
          clear ho hw45
          go_wp2_with fail
          first | (refine ⟨rfl, ⟨⟨_, ⟨HW.out, HW.out.size, by simp⟩, trivial⟩, rfl⟩, hK.out _ _ ?_⟩; clear hK K) | (refine ⟨⟨⟨_, ⟨HW.out, HW.out.size, by simp⟩, trivial⟩, rfl⟩, hK.out _ _ ?_⟩; clear hK K)
          clear _ne
          go_wp2_with fail
          go_meet
          case rel => exact ⟨bX, bY, rfl, rfl, X.out, Y.out, HW.out⟩
      case rest =>
        obtain ⟨bX, bY, rfl, rfl, hX, hY, hW⟩ := hcut
        replace HB := Lib.hid (below_via HB.out hW)
        replace HPX := Lib.hid (HPX.out.below hW)
        replace HPY := Lib.hid (HPY.out.below hW)
        have HRX := Lib.hid hX
        have HRY := Lib.hid hY
        clear d0 e0 d1 e1 d2 e2 d3 e3 d4 e4 d5 e5 d6 e6 d7 e7 d8 e8 d9 e9 d10 e10 d11 e11 d12 e12 d13 e13 g1 g2 hX hY hW
        have k0 : wc.cell? ⟨bX, 0, none⟩ = some (.int .i64 x.li) := HRX.out.cell 0
        have l0 : wc.cell? ⟨bY, 0, none⟩ = some (.int .i64 y.li) := HRY.out.cell 0
        have k1 : wc.cell? ⟨bX, 1, none⟩ = some (.int .i64 x.p0) := HRX.out.cell 1
        have l1 : wc.cell? ⟨bY, 1, none⟩ = some (.int .i64 y.p0) := HRY.out.cell 1
        have k2 : wc.cell? ⟨bX, 2, none⟩ = some (.int .i64 x.p1) := HRX.out.cell 2
        have l2 : wc.cell? ⟨bY, 2, none⟩ = some (.int .i64 y.p1) := HRY.out.cell 2
        have k3 : wc.cell? ⟨bX, 3, none⟩ = some (.int .i64 x.p2) := HRX.out.cell 3
        have l3 : wc.cell? ⟨bY, 3, none⟩ = some (.int .i64 y.p2) := HRY.out.cell 3
        have k4 : wc.cell? ⟨bX, 4, none⟩ = some (.int .i64 x.p3) := HRX.out.cell 4
        have l4 : wc.cell? ⟨bY, 4, none⟩ = some (.int .i64 y.p3) := HRY.out.cell 4
        have k5 : wc.cell? ⟨bX, 5, none⟩ = some (.int .i64 x.lib) := HRX.out.cell 5
        have l5 : wc.cell? ⟨bY, 5, none⟩ = some (.int .i64 y.lib) := HRY.out.cell 5
        have k6 : wc.cell? ⟨bX, 6, none⟩ = some (.int .i64 x.hand) := HRX.out.cell 6
        have l6 : wc.cell? ⟨bY, 6, none⟩ = some (.int .i64 y.hand) := HRY.out.cell 6
        have k7 : wc.cell? ⟨bX, 7, none⟩ = some (.slice pa x.fld.length pc) := HRX.out.cell 7
        have l7 : wc.cell? ⟨bY, 7, none⟩ = some (.slice ra y.fld.length rc) := HRY.out.cell 7
        have k8 : wc.cell? ⟨bX, 8, none⟩ = some (.slice qa x.grv.length qc) := HRX.out.cell 8
        have l8 : wc.cell? ⟨bY, 8, none⟩ = some (.slice sa y.grv.length sc) := HRY.out.cell 8
        have k9 : wc.cell? ⟨bX, 9, none⟩ = some (.bool x.em) := HRX.out.cell 9
        have l9 : wc.cell? ⟨bY, 9, none⟩ = some (.bool y.em) := HRY.out.cell 9
        have k10 : wc.cell? ⟨bX, 10, none⟩ = some (.bool x.py) := HRX.out.cell 10
        have l10 : wc.cell? ⟨bY, 10, none⟩ = some (.bool y.py) := HRY.out.cell 10
        have k11 : wc.cell? ⟨bX, 11, none⟩ = some (.bool x.kp) := HRX.out.cell 11
        have l11 : wc.cell? ⟨bY, 11, none⟩ = some (.bool y.kp) := HRY.out.cell 11
        have k12 : wc.cell? ⟨bX, 12, none⟩ = some (.int .i64 x.mu) := HRX.out.cell 12
        have l12 : wc.cell? ⟨bY, 12, none⟩ = some (.int .i64 y.mu) := HRY.out.cell 12
        have k13 : wc.cell? ⟨bX, 13, none⟩ = some (.int .i64 x.ac) := HRX.out.cell 13
        have l13 : wc.cell? ⟨bY, 13, none⟩ = some (.int .i64 y.ac) := HRY.out.cell 13
        cases hhli : (x.li != y.li)
        case true =>
          have HNE : Hid (x ≠ y) := Lib.hid (fun e => by rw [e] at hhli; simp at hhli)
          exact absurd (HSX.out.symm.trans ((seat_eqs HSE.out n).trans HSY.out)) HNE.out
        have hman := manaEqG x.p0 x.p1 x.p2 x.p3 y.p0 y.p1 y.p2 y.p3 wc
        cases hhp : (x.p0 == y.p0 && (x.p1 == y.p1 && (x.p2 == y.p2 && x.p3 == y.p3)))
        · have HNE : Hid (x ≠ y) := Lib.hid (fun e => by rw [e] at hhp; simp at hhp)
          rw [hhp] at hman
          exact absurd (HSX.out.symm.trans ((seat_eqs HSE.out n).trans HSY.out)) HNE.out
        rw [hhp] at hman
        cases hhlib : (x.lib != y.lib)
        case true =>
          have HNE : Hid (x ≠ y) := Lib.hid (fun e => by rw [e] at hhlib; simp at hhlib)
          exact absurd (HSX.out.symm.trans ((seat_eqs HSE.out n).trans HSY.out)) HNE.out
        cases hhhand : (x.hand != y.hand)
        case true =>
          have HNE : Hid (x ≠ y) := Lib.hid (fun e => by rw [e] at hhhand; simp at hhhand)
          exact absurd (HSX.out.symm.trans ((seat_eqs HSE.out n).trans HSY.out)) HNE.out
        go_wp2_with fail
        with_reducible refine (lqO _ _ _ _ _ (HT1.out.below HB.out) (HT3.out.below HB.out)).mono ?_
        rintro e wcx ⟨r, rfl, hr, hb⟩
        replace HB := Lib.hid (below_via HB.out hb)
        replace HRX := Lib.hid (HRX.out.below hb)
        replace HRY := Lib.hid (HRY.out.below hb)
        replace HPX := Lib.hid (HPX.out.below hb)
        replace HPY := Lib.hid (HPY.out.below hb)
        clear hb
        clear k0 l0 k1 l1 k2 l2 k3 l3 k4 l4 k5 l5 k6 l6 k7 l7 k8 l8 k9 l9 k10 l10 k11 l11 k12 l12 k13 l13
        cases r
        · have HNE : Hid (x ≠ y) := Lib.hid (fun e => by have := hr.2 (by rw [e]); cases this)
          clear hr
          exact absurd (HSX.out.symm.trans ((seat_eqs HSE.out n).trans HSY.out)) HNE.out
        have HF := Lib.hid (hr.1 rfl)
        clear hr
        have k0 : wcx.cell? ⟨bX, 0, none⟩ = some (.int .i64 x.li) := HRX.out.cell 0
        have l0 : wcx.cell? ⟨bY, 0, none⟩ = some (.int .i64 y.li) := HRY.out.cell 0
        have k1 : wcx.cell? ⟨bX, 1, none⟩ = some (.int .i64 x.p0) := HRX.out.cell 1
        have l1 : wcx.cell? ⟨bY, 1, none⟩ = some (.int .i64 y.p0) := HRY.out.cell 1
        have k2 : wcx.cell? ⟨bX, 2, none⟩ = some (.int .i64 x.p1) := HRX.out.cell 2
        have l2 : wcx.cell? ⟨bY, 2, none⟩ = some (.int .i64 y.p1) := HRY.out.cell 2
        have k3 : wcx.cell? ⟨bX, 3, none⟩ = some (.int .i64 x.p2) := HRX.out.cell 3
        have l3 : wcx.cell? ⟨bY, 3, none⟩ = some (.int .i64 y.p2) := HRY.out.cell 3
        have k4 : wcx.cell? ⟨bX, 4, none⟩ = some (.int .i64 x.p3) := HRX.out.cell 4
        have l4 : wcx.cell? ⟨bY, 4, none⟩ = some (.int .i64 y.p3) := HRY.out.cell 4
        have k5 : wcx.cell? ⟨bX, 5, none⟩ = some (.int .i64 x.lib) := HRX.out.cell 5
        have l5 : wcx.cell? ⟨bY, 5, none⟩ = some (.int .i64 y.lib) := HRY.out.cell 5
        have k6 : wcx.cell? ⟨bX, 6, none⟩ = some (.int .i64 x.hand) := HRX.out.cell 6
        have l6 : wcx.cell? ⟨bY, 6, none⟩ = some (.int .i64 y.hand) := HRY.out.cell 6
        have k7 : wcx.cell? ⟨bX, 7, none⟩ = some (.slice pa x.fld.length pc) := HRX.out.cell 7
        have l7 : wcx.cell? ⟨bY, 7, none⟩ = some (.slice ra y.fld.length rc) := HRY.out.cell 7
        have k8 : wcx.cell? ⟨bX, 8, none⟩ = some (.slice qa x.grv.length qc) := HRX.out.cell 8
        have l8 : wcx.cell? ⟨bY, 8, none⟩ = some (.slice sa y.grv.length sc) := HRY.out.cell 8
        have k9 : wcx.cell? ⟨bX, 9, none⟩ = some (.bool x.em) := HRX.out.cell 9
        have l9 : wcx.cell? ⟨bY, 9, none⟩ = some (.bool y.em) := HRY.out.cell 9
        have k10 : wcx.cell? ⟨bX, 10, none⟩ = some (.bool x.py) := HRX.out.cell 10
        have l10 : wcx.cell? ⟨bY, 10, none⟩ = some (.bool y.py) := HRY.out.cell 10
        have k11 : wcx.cell? ⟨bX, 11, none⟩ = some (.bool x.kp) := HRX.out.cell 11
        have l11 : wcx.cell? ⟨bY, 11, none⟩ = some (.bool y.kp) := HRY.out.cell 11
        have k12 : wcx.cell? ⟨bX, 12, none⟩ = some (.int .i64 x.mu) := HRX.out.cell 12
        have l12 : wcx.cell? ⟨bY, 12, none⟩ = some (.int .i64 y.mu) := HRY.out.cell 12
        have k13 : wcx.cell? ⟨bX, 13, none⟩ = some (.int .i64 x.ac) := HRX.out.cell 13
        have l13 : wcx.cell? ⟨bY, 13, none⟩ = some (.int .i64 y.ac) := HRY.out.cell 13
        go_wp2_with fail
        with_reducible refine (lqO _ _ _ _ _ (HT2.out.below HB.out) (HT4.out.below HB.out)).mono ?_
        rintro e wcxx ⟨r, rfl, hr, hb⟩
        replace HB := Lib.hid (below_via HB.out hb)
        replace HRX := Lib.hid (HRX.out.below hb)
        replace HRY := Lib.hid (HRY.out.below hb)
        replace HPX := Lib.hid (HPX.out.below hb)
        replace HPY := Lib.hid (HPY.out.below hb)
        clear hb
        clear k0 l0 k1 l1 k2 l2 k3 l3 k4 l4 k5 l5 k6 l6 k7 l7 k8 l8 k9 l9 k10 l10 k11 l11 k12 l12 k13 l13
        cases r
        · have HNE : Hid (x ≠ y) := Lib.hid (fun e => by have := hr.2 (by rw [e]); cases this)
          clear hr
          exact absurd (HSX.out.symm.trans ((seat_eqs HSE.out n).trans HSY.out)) HNE.out
        have HG := Lib.hid (hr.1 rfl)
        clear hr
        have k0 : wcxx.cell? ⟨bX, 0, none⟩ = some (.int .i64 x.li) := HRX.out.cell 0
        have l0 : wcxx.cell? ⟨bY, 0, none⟩ = some (.int .i64 y.li) := HRY.out.cell 0
        have k1 : wcxx.cell? ⟨bX, 1, none⟩ = some (.int .i64 x.p0) := HRX.out.cell 1
        have l1 : wcxx.cell? ⟨bY, 1, none⟩ = some (.int .i64 y.p0) := HRY.out.cell 1
        have k2 : wcxx.cell? ⟨bX, 2, none⟩ = some (.int .i64 x.p1) := HRX.out.cell 2
        have l2 : wcxx.cell? ⟨bY, 2, none⟩ = some (.int .i64 y.p1) := HRY.out.cell 2
        have k3 : wcxx.cell? ⟨bX, 3, none⟩ = some (.int .i64 x.p2) := HRX.out.cell 3
        have l3 : wcxx.cell? ⟨bY, 3, none⟩ = some (.int .i64 y.p2) := HRY.out.cell 3
        have k4 : wcxx.cell? ⟨bX, 4, none⟩ = some (.int .i64 x.p3) := HRX.out.cell 4
        have l4 : wcxx.cell? ⟨bY, 4, none⟩ = some (.int .i64 y.p3) := HRY.out.cell 4
        have k5 : wcxx.cell? ⟨bX, 5, none⟩ = some (.int .i64 x.lib) := HRX.out.cell 5
        have l5 : wcxx.cell? ⟨bY, 5, none⟩ = some (.int .i64 y.lib) := HRY.out.cell 5
        have k6 : wcxx.cell? ⟨bX, 6, none⟩ = some (.int .i64 x.hand) := HRX.out.cell 6
        have l6 : wcxx.cell? ⟨bY, 6, none⟩ = some (.int .i64 y.hand) := HRY.out.cell 6
        have k7 : wcxx.cell? ⟨bX, 7, none⟩ = some (.slice pa x.fld.length pc) := HRX.out.cell 7
        have l7 : wcxx.cell? ⟨bY, 7, none⟩ = some (.slice ra y.fld.length rc) := HRY.out.cell 7
        have k8 : wcxx.cell? ⟨bX, 8, none⟩ = some (.slice qa x.grv.length qc) := HRX.out.cell 8
        have l8 : wcxx.cell? ⟨bY, 8, none⟩ = some (.slice sa y.grv.length sc) := HRY.out.cell 8
        have k9 : wcxx.cell? ⟨bX, 9, none⟩ = some (.bool x.em) := HRX.out.cell 9
        have l9 : wcxx.cell? ⟨bY, 9, none⟩ = some (.bool y.em) := HRY.out.cell 9
        have k10 : wcxx.cell? ⟨bX, 10, none⟩ = some (.bool x.py) := HRX.out.cell 10
        have l10 : wcxx.cell? ⟨bY, 10, none⟩ = some (.bool y.py) := HRY.out.cell 10
        have k11 : wcxx.cell? ⟨bX, 11, none⟩ = some (.bool x.kp) := HRX.out.cell 11
        have l11 : wcxx.cell? ⟨bY, 11, none⟩ = some (.bool y.kp) := HRY.out.cell 11
        have k12 : wcxx.cell? ⟨bX, 12, none⟩ = some (.int .i64 x.mu) := HRX.out.cell 12
        have l12 : wcxx.cell? ⟨bY, 12, none⟩ = some (.int .i64 y.mu) := HRY.out.cell 12
        have k13 : wcxx.cell? ⟨bX, 13, none⟩ = some (.int .i64 x.ac) := HRX.out.cell 13
        have l13 : wcxx.cell? ⟨bY, 13, none⟩ = some (.int .i64 y.ac) := HRY.out.cell 13
        cases hhem : (x.em == y.em)
        case false =>
          have HNE : Hid (x ≠ y) := Lib.hid (fun e => by rw [e] at hhem; simp at hhem)
          exact absurd (HSX.out.symm.trans ((seat_eqs HSE.out n).trans HSY.out)) HNE.out
        cases hhpy : (x.py == y.py)
        case false =>
          have HNE : Hid (x ≠ y) := Lib.hid (fun e => by rw [e] at hhpy; simp at hhpy)
          exact absurd (HSX.out.symm.trans ((seat_eqs HSE.out n).trans HSY.out)) HNE.out
        cases hhkp : (x.kp == y.kp)
        case false =>
          have HNE : Hid (x ≠ y) := Lib.hid (fun e => by rw [e] at hhkp; simp at hhkp)
          exact absurd (HSX.out.symm.trans ((seat_eqs HSE.out n).trans HSY.out)) HNE.out
        cases hhmu : (x.mu != y.mu)
        case true =>
          have HNE : Hid (x ≠ y) := Lib.hid (fun e => by rw [e] at hhmu; simp at hhmu)
          exact absurd (HSX.out.symm.trans ((seat_eqs HSE.out n).trans HSY.out)) HNE.out
        cases hhac : (x.ac != y.ac)
        case true =>
          have HNE : Hid (x ≠ y) := Lib.hid (fun e => by rw [e] at hhac; simp at hhac)
          exact absurd (HSX.out.symm.trans ((seat_eqs HSE.out n).trans HSY.out)) HNE.out
        have HEQ : Hid (x = y) := Lib.hid (vs_eq HF.out HG.out (by simpa using hhli) hhp (by simpa using hhlib) (by simpa using hhhand) (by simpa using hhem) (by simpa using hhpy) (by simpa using hhkp) (by simpa using hhmu) (by simpa using hhac))
        go_wp2_with fail
        clear hman hhli hhp hhlib hhhand hhem hhpy hhkp hhmu hhac
        clear k0 l0 k1 l1 k2 l2 k3 l3 k4 l4 k5 l5 k6 l6 k7 l7 k8 l8 k9 l9 k10 l10 k11 l11 k12 l12 k13 l13
        go_roundw
        case rel => exact ⟨n + 1, by omega, by go_num, seats_next HSQ.out (by rw [HSX.out, HSY.out, HEQ.out]) , HB.out, HPX.out, HPY.out⟩
        case measure => simp [intOf]; omega
    · obtain rfl : n = 2 := by omega
      have HS0 : Hid (P.s0 = Q.s0) := Lib.hid (HSQ.out 0 (by omega))
      have HS1 : Hid (P.s1 = Q.s1) := Lib.hid (HSQ.out 1 (by omega))
      rw [show ((2 : Nat) : Int) = 2 from rfl]
      clear hpx hpy hn hn2 HSQ
      have k28 : wr.cell? ⟨w.heap.size, 28, none⟩ = some (.slice x4a P.st.length x4c) := HPX.out.cell 28
      have l28 : wr.cell? ⟨w.heap.size + 1, 28, none⟩ = some (.slice y4a Q.st.length y4c) := HPY.out.cell 28
      go_wp2_with fail
      with_reducible refine (lqItems _ _ _ _ _ (HX4.out.below HB.out) (HY4.out.below HB.out)).mono ?_
      rintro e v2 ⟨r, rfl, hr, hb⟩
      replace HB := Lib.hid (below_via HB.out hb)
      replace HPX := Lib.hid (HPX.out.below hb)
      replace HPY := Lib.hid (HPY.out.below hb)
      clear hb k28 l28
      cases r
      · have HNE : Hid (P ≠ Q) := Lib.hid (fun e => by have := hr.2 (by rw [e]); cases this)
        clear hr
        go_upto_if 165 with (refine no_implicit_lambda% (wpList_end 105 [(105, .bool true), (106, undef), (107, undef), (108, undef), (109, undef), (110, undef), (111, undef), (112, .bool true), (113, .bool true), (114, undef), (115, undef), (116, undef), (117, undef), (118, undef), (119, undef), (120, undef), (121, .bool true), (122, .bool true), (123, undef), (124, undef), (125, undef), (126, undef), (127, undef), (128, undef), (129, undef), (130, .bool true), (131, .bool true), (132, undef), (133, undef), (134, undef), (135, undef), (136, undef), (137, .bool true), (138, .bool true), (139, undef), (140, undef), (141, undef), (142, undef), (143, undef), (144, .bool true), (145, .bool true), (146, undef), (147, undef), (148, undef), (149, undef), (150, undef), (151, .bool true), (152, .bool true), (153, undef), (154, undef), (155, undef), (156, undef), (157, undef), (158, .bool true), (159, .bool true), (160, undef), (161, undef), (162, undef), (163, undef), (164, undef), (165, .bool true)] rfl (by kernel_rfl) ?_); simp only [setL, List.foldl, List.setIfInBounds_toArray, List.set_cons_zero, List.set_cons_succ])
        go_wp2_with fail
        go_returns
        exact EqA.no HNE.out HB.out
      have HEst : Hid (P.st = Q.st) := Lib.hid (hr.1 rfl)
      clear hr
      have k29 : v2.cell? ⟨w.heap.size, 29, none⟩ = some (.slice x5a P.qu.length x5c) := HPX.out.cell 29
      have l29 : v2.cell? ⟨w.heap.size + 1, 29, none⟩ = some (.slice y5a Q.qu.length y5c) := HPY.out.cell 29
      go_wp2_with fail
      with_reducible refine (lqItems _ _ _ _ _ (HX5.out.below HB.out) (HY5.out.below HB.out)).mono ?_
      rintro e v3 ⟨r, rfl, hr, hb⟩
      replace HB := Lib.hid (below_via HB.out hb)
      replace HPX := Lib.hid (HPX.out.below hb)
      replace HPY := Lib.hid (HPY.out.below hb)
      clear hb k29 l29
      cases r
      · have HNE : Hid (P ≠ Q) := Lib.hid (fun e => by have := hr.2 (by rw [e]); cases this)
        clear hr
        go_upto_if 165 with (refine no_implicit_lambda% (wpList_end 112 [(112, .bool true), (113, .bool true), (114, undef), (115, undef), (116, undef), (117, undef), (118, undef), (119, undef), (120, undef), (121, .bool true), (122, .bool true), (123, undef), (124, undef), (125, undef), (126, undef), (127, undef), (128, undef), (129, undef), (130, .bool true), (131, .bool true), (132, undef), (133, undef), (134, undef), (135, undef), (136, undef), (137, .bool true), (138, .bool true), (139, undef), (140, undef), (141, undef), (142, undef), (143, undef), (144, .bool true), (145, .bool true), (146, undef), (147, undef), (148, undef), (149, undef), (150, undef), (151, .bool true), (152, .bool true), (153, undef), (154, undef), (155, undef), (156, undef), (157, undef), (158, .bool true), (159, .bool true), (160, undef), (161, undef), (162, undef), (163, undef), (164, undef), (165, .bool true)] rfl (by kernel_rfl) ?_); simp only [setL, List.foldl, List.setIfInBounds_toArray, List.set_cons_zero, List.set_cons_succ])
        go_wp2_with fail
        go_returns
        exact EqA.no HNE.out HB.out
      have HEqu : Hid (P.qu = Q.qu) := Lib.hid (hr.1 rfl)
      clear hr
      have k30 : v3.cell? ⟨w.heap.size, 30, none⟩ = some (.slice x6a P.att.length x6c) := HPX.out.cell 30
      have l30 : v3.cell? ⟨w.heap.size + 1, 30, none⟩ = some (.slice y6a Q.att.length y6c) := HPY.out.cell 30
      have k31 : v3.cell? ⟨w.heap.size, 31, none⟩ = some (.slice x7a P.bl.length x7c) := HPX.out.cell 31
      have l31 : v3.cell? ⟨w.heap.size + 1, 31, none⟩ = some (.slice y7a Q.bl.length y7c) := HPY.out.cell 31
      have k32 : v3.cell? ⟨w.heap.size, 32, none⟩ = some (.int .i64 P.tu) := HPX.out.cell 32
      have l32 : v3.cell? ⟨w.heap.size + 1, 32, none⟩ = some (.int .i64 Q.tu) := HPY.out.cell 32
      have k33 : v3.cell? ⟨w.heap.size, 33, none⟩ = some (.int .i64 P.ac) := HPX.out.cell 33
      have l33 : v3.cell? ⟨w.heap.size + 1, 33, none⟩ = some (.int .i64 Q.ac) := HPY.out.cell 33
      have k34 : v3.cell? ⟨w.heap.size, 34, none⟩ = some (.int .i64 P.ph) := HPX.out.cell 34
      have l34 : v3.cell? ⟨w.heap.size + 1, 34, none⟩ = some (.int .i64 Q.ph) := HPY.out.cell 34
      have k35 : v3.cell? ⟨w.heap.size, 35, none⟩ = some (.int .i64 P.ho) := HPX.out.cell 35
      have l35 : v3.cell? ⟨w.heap.size + 1, 35, none⟩ = some (.int .i64 Q.ho) := HPY.out.cell 35
      have k36 : v3.cell? ⟨w.heap.size, 36, none⟩ = some (.int .i64 P.pa) := HPX.out.cell 36
      have l36 : v3.cell? ⟨w.heap.size + 1, 36, none⟩ = some (.int .i64 Q.pa) := HPY.out.cell 36
      by_cases hlatt : P.att.length = Q.att.length
      case neg =>
        have tatt : (P.att.length != Q.att.length) = true := by simpa using hlatt
        have tatt' : ((P.att.length : Int) != (Q.att.length : Int)) = true := by simp only [bne_iff_ne, ne_eq, Int.natCast_inj]; exact hlatt
        have HNE : Hid (P ≠ Q) := Lib.hid (fun e => hlatt (by rw [e]))
        clear hlatt
        go_upto_if 165 with (refine no_implicit_lambda% (wpList_end 121 [(121, .bool true), (122, .bool true), (123, undef), (124, undef), (125, undef), (126, undef), (127, undef), (128, undef), (129, undef), (130, .bool true), (131, .bool true), (132, undef), (133, undef), (134, undef), (135, undef), (136, undef), (137, .bool true), (138, .bool true), (139, undef), (140, undef), (141, undef), (142, undef), (143, undef), (144, .bool true), (145, .bool true), (146, undef), (147, undef), (148, undef), (149, undef), (150, undef), (151, .bool true), (152, .bool true), (153, undef), (154, undef), (155, undef), (156, undef), (157, undef), (158, .bool true), (159, .bool true), (160, undef), (161, undef), (162, undef), (163, undef), (164, undef), (165, .bool true)] rfl (by kernel_rfl) ?_); simp only [setL, List.foldl, List.setIfInBounds_toArray, List.set_cons_zero, List.set_cons_succ])
        go_wp2_with fail
        go_returns
        exact EqA.no HNE.out HB.out
      have tatt : (P.att.length != Q.att.length) = false := by simpa using hlatt
      have tatt' : ((P.att.length : Int) != (Q.att.length : Int)) = false := by rw [hlatt]; simp
      have HLatt := Lib.hid hlatt
      clear hlatt
      by_cases hlbl : P.bl.length = Q.bl.length
      case neg =>
        have tbl : (P.bl.length != Q.bl.length) = true := by simpa using hlbl
        have tbl' : ((P.bl.length : Int) != (Q.bl.length : Int)) = true := by simp only [bne_iff_ne, ne_eq, Int.natCast_inj]; exact hlbl
        have HNE : Hid (P ≠ Q) := Lib.hid (fun e => hlbl (by rw [e]))
        clear hlbl
        go_upto_if 165 with (refine no_implicit_lambda% (wpList_end 130 [(130, .bool true), (131, .bool true), (132, undef), (133, undef), (134, undef), (135, undef), (136, undef), (137, .bool true), (138, .bool true), (139, undef), (140, undef), (141, undef), (142, undef), (143, undef), (144, .bool true), (145, .bool true), (146, undef), (147, undef), (148, undef), (149, undef), (150, undef), (151, .bool true), (152, .bool true), (153, undef), (154, undef), (155, undef), (156, undef), (157, undef), (158, .bool true), (159, .bool true), (160, undef), (161, undef), (162, undef), (163, undef), (164, undef), (165, .bool true)] rfl (by kernel_rfl) ?_); simp only [setL, List.foldl, List.setIfInBounds_toArray, List.set_cons_zero, List.set_cons_succ])
        go_wp2_with fail
        go_returns
        exact EqA.no HNE.out HB.out
      have tbl : (P.bl.length != Q.bl.length) = false := by simpa using hlbl
      have tbl' : ((P.bl.length : Int) != (Q.bl.length : Int)) = false := by rw [hlbl]; simp
      have HLbl := Lib.hid hlbl
      clear hlbl
      cases h0 : (P.tu != Q.tu)
      case true =>
        have HNE : Hid (P ≠ Q) := Lib.hid (fun e => by rw [e] at h0; simp at h0)
        go_upto_if 165 with (refine no_implicit_lambda% (wpList_end 137 [(137, .bool true), (138, .bool true), (139, undef), (140, undef), (141, undef), (142, undef), (143, undef), (144, .bool true), (145, .bool true), (146, undef), (147, undef), (148, undef), (149, undef), (150, undef), (151, .bool true), (152, .bool true), (153, undef), (154, undef), (155, undef), (156, undef), (157, undef), (158, .bool true), (159, .bool true), (160, undef), (161, undef), (162, undef), (163, undef), (164, undef), (165, .bool true)] rfl (by kernel_rfl) ?_); simp only [setL, List.foldl, List.setIfInBounds_toArray, List.set_cons_zero, List.set_cons_succ])
        go_wp2_with fail
        go_returns
        exact EqA.no HNE.out HB.out
      cases h1 : (P.ac != Q.ac)
      case true =>
        have HNE : Hid (P ≠ Q) := Lib.hid (fun e => by rw [e] at h1; simp at h1)
        go_upto_if 165 with (refine no_implicit_lambda% (wpList_end 144 [(144, .bool true), (145, .bool true), (146, undef), (147, undef), (148, undef), (149, undef), (150, undef), (151, .bool true), (152, .bool true), (153, undef), (154, undef), (155, undef), (156, undef), (157, undef), (158, .bool true), (159, .bool true), (160, undef), (161, undef), (162, undef), (163, undef), (164, undef), (165, .bool true)] rfl (by kernel_rfl) ?_); simp only [setL, List.foldl, List.setIfInBounds_toArray, List.set_cons_zero, List.set_cons_succ])
        go_wp2_with fail
        go_returns
        exact EqA.no HNE.out HB.out
      cases h2 : (P.ph != Q.ph)
      case true =>
        have HNE : Hid (P ≠ Q) := Lib.hid (fun e => by rw [e] at h2; simp at h2)
        go_upto_if 165 with (refine no_implicit_lambda% (wpList_end 151 [(151, .bool true), (152, .bool true), (153, undef), (154, undef), (155, undef), (156, undef), (157, undef), (158, .bool true), (159, .bool true), (160, undef), (161, undef), (162, undef), (163, undef), (164, undef), (165, .bool true)] rfl (by kernel_rfl) ?_); simp only [setL, List.foldl, List.setIfInBounds_toArray, List.set_cons_zero, List.set_cons_succ])
        go_wp2_with fail
        go_returns
        exact EqA.no HNE.out HB.out
      cases h3 : (P.ho != Q.ho)
      case true =>
        have HNE : Hid (P ≠ Q) := Lib.hid (fun e => by rw [e] at h3; simp at h3)
        go_upto_if 165 with (refine no_implicit_lambda% (wpList_end 158 [(158, .bool true), (159, .bool true), (160, undef), (161, undef), (162, undef), (163, undef), (164, undef), (165, .bool true)] rfl (by kernel_rfl) ?_); simp only [setL, List.foldl, List.setIfInBounds_toArray, List.set_cons_zero, List.set_cons_succ])
        go_wp2_with fail
        go_returns
        exact EqA.no HNE.out HB.out
      cases h4 : (P.pa != Q.pa)
      case true =>
        have HNE : Hid (P ≠ Q) := Lib.hid (fun e => by rw [e] at h4; simp at h4)
        go_upto_if 165 with (refine no_implicit_lambda% (wpList_end 165 [(165, .bool true)] rfl (by kernel_rfl) ?_); simp only [setL, List.foldl, List.setIfInBounds_toArray, List.set_cons_zero, List.set_cons_succ])
        go_wp2_with fail
        go_returns
        exact EqA.no HNE.out HB.out
      have HNUM : Hid ((P.tu == Q.tu) = true ∧ (P.ac == Q.ac) = true ∧ (P.ph == Q.ph) = true ∧ (P.ho == Q.ho) = true ∧ (P.pa == Q.pa) = true) := Lib.hid ⟨by simpa using h0, by simpa using h1, by simpa using h2, by simpa using h3, by simpa using h4⟩
      go_upto_region 9 with fail
      clear h0 h1 h2 h3 h4 tatt tatt' tbl tbl' k30 l30 k31 l31 k32 l32 k33 l33 k34 l34 k35 l35 k36 l36
      obtain ⟨hm8, a8, c8, hv1, hf1⟩ := HX6.out.form
      obtain ⟨_, a8', c8', hv2, hf2⟩ := HY6.out.form
      simp only [Value.slice.injEq] at hv1 hv2
      obtain ⟨rfl, hz1, rfl⟩ := hv1
      obtain ⟨rfl, hz2, rfl⟩ := hv2
      clear hz1 hz2
      have HFA8 := Lib.hid hf1
      have HFB8 := Lib.hid hf2
      clear hf1 hf2
      go_wp2_with fail
      go_loopw [8] (fun i wr => EpL w P.att Q.att ⟨⟨x0a, P.s0.fld.length, x0c⟩, ⟨x1a, P.s0.grv.length, x1c⟩, ⟨x2a, P.s1.fld.length, x2c⟩, ⟨x3a, P.s1.grv.length, x3c⟩, ⟨x4a, P.st.length, x4c⟩, ⟨x5a, P.qu.length, x5c⟩, ⟨x6a, P.att.length, x6c⟩, ⟨x7a, P.bl.length, x7c⟩⟩ P ⟨⟨y0a, Q.s0.fld.length, y0c⟩, ⟨y1a, Q.s0.grv.length, y1c⟩, ⟨y2a, Q.s1.fld.length, y2c⟩, ⟨y3a, Q.s1.grv.length, y3c⟩, ⟨y4a, Q.st.length, y4c⟩, ⟨y5a, Q.qu.length, y5c⟩, ⟨y6a, Q.att.length, y6c⟩, ⟨y7a, Q.bl.length, y7c⟩⟩ Q i wr) (fun i _ => P.att.length - (intOf i).toNat)
      case atStart => exact ⟨0, by omega, rfl, rfl, HB.out, HPX.out, HPY.out⟩
      case round =>
        obtain ⟨k, hk, rfl, ht, hb, hpx, hpy⟩ := hrel
        replace HB := Lib.hid hb
        have HT := Lib.hid ht
        replace HPX := Lib.hid hpx
        replace HPY := Lib.hid hpy
        have p1 := hpx.lt
        have p2 := hpy.lt
        have k30 : wr.cell? ⟨w.heap.size, 30, none⟩ = some (.slice x6a P.att.length x6c) := HPX.out.cell 30
        have l30 : wr.cell? ⟨w.heap.size + 1, 30, none⟩ = some (.slice y6a Q.att.length y6c) := HPY.out.cell 30
        clear ht hpx hpy
        by_cases hkl : k < P.att.length
        · obtain ⟨b1, o1, rfl, hlt1, hc1⟩ := HFA8.out (by omega)
          obtain ⟨b2, o2, rfl, hlt2, hc2⟩ := HFB8.out (by have := HLatt.out; omega)
          obtain ⟨x, hx⟩ : ∃ x, P.att[k]? = some x := ⟨_, List.getElem?_eq_getElem hkl⟩
          obtain ⟨y, hy⟩ : ∃ y, Q.att[k]? = some y := ⟨_, List.getElem?_eq_getElem (by have := HLatt.out; omega)⟩
          have d1 : wr.cell? ⟨b1, o1 + k, none⟩ = some (.int .i64 x) := (hb.cell (p := ⟨b1, o1 + k, none⟩) hlt1).trans (by have := hc1 k x hx 0 _ rfl; simpa using this)
          have d2 : wr.cell? ⟨b2, o2 + k, none⟩ = some (.int .i64 y) := (hb.cell (p := ⟨b2, o2 + k, none⟩) hlt2).trans (by have := hc2 k y hy 0 _ rfl; simpa using this)
          have g1 : b1 < wr.heap.size := Nat.lt_of_lt_of_le hlt1 hb.size
          have g2 : b2 < wr.heap.size := Nat.lt_of_lt_of_le hlt2 hb.size
          have i1 : (0 : Int) ≤ (k : Int) := by omega
          have i2 : (k : Int) < (P.att.length : Int) := by omega
          have i3 : (k : Int) < (Q.att.length : Int) := by have := HLatt.out; omega
          have HX := Lib.hid hx
          have HY := Lib.hid hy
          clear hc1 hc2 hx hy hb
          by_cases hxy : x = y
          · have t1 : (x != y) = false := by simpa using hxy
            have HN := Lib.hid (eq_step HT.out HX.out (by rw [hxy]; exact HY.out))
            clear HT HX HY hxy
            go_upto_region 12 with fail
            refine rg26_12 (w0 := wr) (B := wr.heap.size) (n := wr.heap.size) (L := []) (E := fun _ => True) (F := fun _ => True) (by kernel_rfl) (by kernel_rfl) ⟨by go_grown, by go_size, (by simp [go_sem] <;> omega)⟩ trivial (fun _ _ _ _ => trivial) trivial (fun _ _ _ _ => trivial) (fun w71 K_w71 E_w71 F_w71 => ?_)
            have _ne : Nonempty (KX (wr.heap.size) wr (wr.heap.size) [] (fun _ => True)) := ⟨⟨_, K_w71, E_w71⟩⟩
            repeat (go_big_quiet_step (fail))
            refine wpQuiet_nil ?_
            have rk : ∀ s : KX (wr.heap.size) wr (wr.heap.size) [] (fun _ => True), s.val.cell? ⟨w.heap.size, 30, none⟩ = some (.slice (some ⟨b1, o1, none⟩) P.att.length x6c) := fun s => (s.kept.below.cell (p := ⟨w.heap.size, 30, none⟩) p1).trans k30
            have rl : ∀ s : KX (wr.heap.size) wr (wr.heap.size) [] (fun _ => True), s.val.cell? ⟨w.heap.size + 1, 30, none⟩ = some (.slice (some ⟨b2, o2, none⟩) Q.att.length y6c) := fun s => (s.kept.below.cell (p := ⟨w.heap.size + 1, 30, none⟩) p2).trans l30
            have ra : ∀ s : KX (wr.heap.size) wr (wr.heap.size) [] (fun _ => True), s.val.cell? ⟨b1, o1 + k, none⟩ = some (.int .i64 x) := fun s => (s.kept.below.cell (p := ⟨b1, o1 + k, none⟩) g1).trans d1
            have rb : ∀ s : KX (wr.heap.size) wr (wr.heap.size) [] (fun _ => True), s.val.cell? ⟨b2, o2 + k, none⟩ = some (.int .i64 y) := fun s => (s.kept.below.cell (p := ⟨b2, o2 + k, none⟩) g2).trans d2
            repeat (go_big_quiet_step (fail))
            refine wpQuiet_nil ?_
            repeat (go_big_quiet_step (fail))
            refine wpQuiet_nil ?_
            repeat (go_big_quiet_step (fail))
            refine wpQuiet_nil ?_
            repeat (go_big_quiet_step (fail))
            refine wpQuiet_nil ?_
            repeat (go_big_quiet_step (fail))
            refine wpQuiet_nil ?_
            repeat (go_big_quiet_step (fail))
            refine wpQuiet_nil ?_
            clear rk rl ra rb
            clear _ne
            have KH_w71 := Lib.hid K_w71
            have hw_w71 := K_w71.below
            have hz_w71 := K_w71.size
            clear K_w71
            clear E_w71 F_w71
            replace HB := Lib.hid (below_via HB.out KH_w71.out.below)
            replace HPX := Lib.hid (HPX.out.below KH_w71.out.below)
            replace HPY := Lib.hid (HPY.out.below KH_w71.out.below)
            go_wp2_with fail
            go_roundw
            case rel => exact ⟨k + 1, by omega, by go_num, HN.out, HB.out, HPX.out, HPY.out⟩
            case measure => simp [intOf]; omega
          · have t1 : (x != y) = true := by simpa using hxy
            have HN := Lib.hid (ne_at HX.out HY.out hxy)
            clear HT HX HY hxy
            go_upto_region 12 with fail
            refine rg26_12 (w0 := wr) (B := wr.heap.size) (n := wr.heap.size) (L := []) (E := fun _ => True) (F := fun _ => True) (by kernel_rfl) (by kernel_rfl) ⟨by go_grown, by go_size, (by simp [go_sem] <;> omega)⟩ trivial (fun _ _ _ _ => trivial) trivial (fun _ _ _ _ => trivial) (fun w71 K_w71 E_w71 F_w71 => ?_)
            have _ne : Nonempty (KX (wr.heap.size) wr (wr.heap.size) [] (fun _ => True)) := ⟨⟨_, K_w71, E_w71⟩⟩
            repeat (go_big_quiet_step (fail))
            refine wpQuiet_nil ?_
            have rk : ∀ s : KX (wr.heap.size) wr (wr.heap.size) [] (fun _ => True), s.val.cell? ⟨w.heap.size, 30, none⟩ = some (.slice (some ⟨b1, o1, none⟩) P.att.length x6c) := fun s => (s.kept.below.cell (p := ⟨w.heap.size, 30, none⟩) p1).trans k30
            have rl : ∀ s : KX (wr.heap.size) wr (wr.heap.size) [] (fun _ => True), s.val.cell? ⟨w.heap.size + 1, 30, none⟩ = some (.slice (some ⟨b2, o2, none⟩) Q.att.length y6c) := fun s => (s.kept.below.cell (p := ⟨w.heap.size + 1, 30, none⟩) p2).trans l30
            have ra : ∀ s : KX (wr.heap.size) wr (wr.heap.size) [] (fun _ => True), s.val.cell? ⟨b1, o1 + k, none⟩ = some (.int .i64 x) := fun s => (s.kept.below.cell (p := ⟨b1, o1 + k, none⟩) g1).trans d1
            have rb : ∀ s : KX (wr.heap.size) wr (wr.heap.size) [] (fun _ => True), s.val.cell? ⟨b2, o2 + k, none⟩ = some (.int .i64 y) := fun s => (s.kept.below.cell (p := ⟨b2, o2 + k, none⟩) g2).trans d2
            repeat (go_big_quiet_step (fail))
            refine wpQuiet_nil ?_
            repeat (go_big_quiet_step (fail))
            refine wpQuiet_nil ?_
            repeat (go_big_quiet_step (fail))
            refine wpQuiet_nil ?_
            repeat (go_big_quiet_step (fail))
            refine wpQuiet_nil ?_
            repeat (go_big_quiet_step (fail))
            refine wpQuiet_nil ?_
            repeat (go_big_quiet_step (fail))
            refine wpQuiet_nil ?_
            clear rk rl ra rb
            clear _ne
            have KH_w71 := Lib.hid K_w71
            have hw_w71 := K_w71.below
            have hz_w71 := K_w71.size
            clear K_w71
            clear E_w71 F_w71
            replace HB := Lib.hid (below_via HB.out KH_w71.out.below)
            replace HPX := Lib.hid (HPX.out.below KH_w71.out.below)
            replace HPY := Lib.hid (HPY.out.below KH_w71.out.below)
            go_wp2_with fail
            go_returns
            exact EqA.no (fun e => HN.out (by rw [e])) HB.out
        · obtain rfl : k = P.att.length := by omega
          have HEatt : Hid (P.att = Q.att) := Lib.hid (by have h := HT.out; rw [List.take_length, HLatt.out, List.take_length] at h; exact h)
          clear hb HT
          obtain ⟨hm9, a9, c9, hv1, hf1⟩ := HX7.out.form
          obtain ⟨_, a9', c9', hv2, hf2⟩ := HY7.out.form
          simp only [Value.slice.injEq] at hv1 hv2
          obtain ⟨rfl, hz1, rfl⟩ := hv1
          obtain ⟨rfl, hz2, rfl⟩ := hv2
          clear hz1 hz2
          have HFA9 := Lib.hid hf1
          have HFB9 := Lib.hid hf2
          clear hf1 hf2
          go_wp2_with fail
          clear k30 l30 p1 p2 hk
          go_loopw [9] (fun i wr => EpL w P.bl Q.bl ⟨⟨x0a, P.s0.fld.length, x0c⟩, ⟨x1a, P.s0.grv.length, x1c⟩, ⟨x2a, P.s1.fld.length, x2c⟩, ⟨x3a, P.s1.grv.length, x3c⟩, ⟨x4a, P.st.length, x4c⟩, ⟨x5a, P.qu.length, x5c⟩, ⟨x6a, P.att.length, x6c⟩, ⟨x7a, P.bl.length, x7c⟩⟩ P ⟨⟨y0a, Q.s0.fld.length, y0c⟩, ⟨y1a, Q.s0.grv.length, y1c⟩, ⟨y2a, Q.s1.fld.length, y2c⟩, ⟨y3a, Q.s1.grv.length, y3c⟩, ⟨y4a, Q.st.length, y4c⟩, ⟨y5a, Q.qu.length, y5c⟩, ⟨y6a, Q.att.length, y6c⟩, ⟨y7a, Q.bl.length, y7c⟩⟩ Q i wr) (fun i _ => P.bl.length - (intOf i).toNat)
          case atStart => exact ⟨0, by omega, rfl, rfl, HB.out, HPX.out, HPY.out⟩
          case round =>
            obtain ⟨k, hk, rfl, ht, hb, hpx, hpy⟩ := hrel
            replace HB := Lib.hid hb
            have HT := Lib.hid ht
            replace HPX := Lib.hid hpx
            replace HPY := Lib.hid hpy
            have p1 := hpx.lt
            have p2 := hpy.lt
            have k31 : wr.cell? ⟨w.heap.size, 31, none⟩ = some (.slice x7a P.bl.length x7c) := HPX.out.cell 31
            have l31 : wr.cell? ⟨w.heap.size + 1, 31, none⟩ = some (.slice y7a Q.bl.length y7c) := HPY.out.cell 31
            clear ht hpx hpy
            by_cases hkl : k < P.bl.length
            · obtain ⟨b1, o1, rfl, hlt1, hc1⟩ := HFA9.out (by omega)
              obtain ⟨b2, o2, rfl, hlt2, hc2⟩ := HFB9.out (by have := HLbl.out; omega)
              obtain ⟨x, hx⟩ : ∃ x, P.bl[k]? = some x := ⟨_, List.getElem?_eq_getElem hkl⟩
              obtain ⟨y, hy⟩ : ∃ y, Q.bl[k]? = some y := ⟨_, List.getElem?_eq_getElem (by have := HLbl.out; omega)⟩
              have D1 : Hid (∀ (j : Nat) (u : Value), (kc x)[j]? = some u → wr.cell? ⟨b1, o1 + (k * 2 + j), none⟩ = some u) := Lib.hid (fun j u hu => (hb.cell (p := ⟨b1, o1 + (k * 2 + j), none⟩) hlt1).trans (hc1 k x hx j u hu))
              have D2 : Hid (∀ (j : Nat) (u : Value), (kc y)[j]? = some u → wr.cell? ⟨b2, o2 + (k * 2 + j), none⟩ = some u) := Lib.hid (fun j u hu => (hb.cell (p := ⟨b2, o2 + (k * 2 + j), none⟩) hlt2).trans (hc2 k y hy j u hu))
              have g1 : b1 < wr.heap.size := Nat.lt_of_lt_of_le hlt1 hb.size
              have g2 : b2 < wr.heap.size := Nat.lt_of_lt_of_le hlt2 hb.size
              have i1 : (0 : Int) ≤ (k : Int) := by omega
              have i2 : (k : Int) < (P.bl.length : Int) := by omega
              have i3 : (k : Int) < (Q.bl.length : Int) := by have := HLbl.out; omega
              have HX := Lib.hid hx
              have HY := Lib.hid hy
              clear hc1 hc2 hx hy hb
              by_cases hxy : x = y
              · have HRR : Hid (false = true ↔ x ≠ y) := Lib.hid (by simpa using hxy)
                have HN := Lib.hid (eq_step HT.out HX.out (by rw [hxy]; exact HY.out))
                clear HT HX HY hxy
                go_upto_region 17 with fail
                refine rg26_17 (w0 := wr) (B := wr.heap.size) (n := wr.heap.size) (L := []) (E := fun _ => True) (F := fun _ => True) (by kernel_rfl) (by kernel_rfl) ⟨by go_grown, by go_size, (by simp [go_sem] <;> omega)⟩ trivial (fun _ _ _ _ => trivial) trivial (fun _ _ _ _ => trivial) (fun w91 K_w91 E_w91 F_w91 => ?_)
                have _ne : Nonempty (KX (wr.heap.size) wr (wr.heap.size) [] (fun _ => True)) := ⟨⟨_, K_w91, E_w91⟩⟩
                have q1 : ∀ W', (∃ s' : KX (wr.heap.size) wr (wr.heap.size) [] (fun _ => True), W' = s'.val) → W'.rangeAt b1 (o1 + k * 2) (kc x) := by rintro _ ⟨s', rfl⟩; exact fun j u hu => by rw [Nat.add_assoc]; exact (s'.kept.below.cell (p := ⟨b1, _, none⟩) g1).trans (D1.out j u hu)
                have q2 : ∀ W', (∃ s' : KX (wr.heap.size) wr (wr.heap.size) [] (fun _ => True), W' = s'.val) → W'.rangeAt b2 (o2 + k * 2) (kc y) := by rintro _ ⟨s', rfl⟩; exact fun j u hu => by rw [Nat.add_assoc]; exact (s'.kept.below.cell (p := ⟨b2, _, none⟩) g2).trans (D2.out j u hu)
                repeat (first | (go_big_quiet_want; (first | apply quiet_load_Bk _ rfl rfl q1 | apply quiet_load_Bk _ rfl rfl q2 | apply quiet_neq_Bk HRR _ _ rfl rfl rfl); (focus (simp [go_sem]; rfl)); go_big_quiet_on) | go_big_quiet_step (fail))
                refine wpQuiet_nil ?_
                have rk : ∀ s : KX (wr.heap.size) wr (wr.heap.size) [] (fun _ => True), s.val.cell? ⟨w.heap.size, 31, none⟩ = some (.slice (some ⟨b1, o1, none⟩) P.bl.length x7c) := fun s => (s.kept.below.cell (p := ⟨w.heap.size, 31, none⟩) p1).trans k31
                have rl : ∀ s : KX (wr.heap.size) wr (wr.heap.size) [] (fun _ => True), s.val.cell? ⟨w.heap.size + 1, 31, none⟩ = some (.slice (some ⟨b2, o2, none⟩) Q.bl.length y7c) := fun s => (s.kept.below.cell (p := ⟨w.heap.size + 1, 31, none⟩) p2).trans l31
                repeat (first | (go_big_quiet_want; (first | apply quiet_load_Bk _ rfl rfl q1 | apply quiet_load_Bk _ rfl rfl q2 | apply quiet_neq_Bk HRR _ _ rfl rfl rfl); (focus (simp [go_sem]; rfl)); go_big_quiet_on) | go_big_quiet_step (fail))
                refine wpQuiet_nil ?_
                repeat (first | (go_big_quiet_want; (first | apply quiet_load_Bk _ rfl rfl q1 | apply quiet_load_Bk _ rfl rfl q2 | apply quiet_neq_Bk HRR _ _ rfl rfl rfl); (focus (simp [go_sem]; rfl)); go_big_quiet_on) | go_big_quiet_step (fail))
                refine wpQuiet_nil ?_
                repeat (first | (go_big_quiet_want; (first | apply quiet_load_Bk _ rfl rfl q1 | apply quiet_load_Bk _ rfl rfl q2 | apply quiet_neq_Bk HRR _ _ rfl rfl rfl); (focus (simp [go_sem]; rfl)); go_big_quiet_on) | go_big_quiet_step (fail))
                refine wpQuiet_nil ?_
                repeat (first | (go_big_quiet_want; (first | apply quiet_load_Bk _ rfl rfl q1 | apply quiet_load_Bk _ rfl rfl q2 | apply quiet_neq_Bk HRR _ _ rfl rfl rfl); (focus (simp [go_sem]; rfl)); go_big_quiet_on) | go_big_quiet_step (fail))
                refine wpQuiet_nil ?_
                repeat (first | (go_big_quiet_want; (first | apply quiet_load_Bk _ rfl rfl q1 | apply quiet_load_Bk _ rfl rfl q2 | apply quiet_neq_Bk HRR _ _ rfl rfl rfl); (focus (simp [go_sem]; rfl)); go_big_quiet_on) | go_big_quiet_step (fail))
                refine wpQuiet_nil ?_
                repeat (first | (go_big_quiet_want; (first | apply quiet_load_Bk _ rfl rfl q1 | apply quiet_load_Bk _ rfl rfl q2 | apply quiet_neq_Bk HRR _ _ rfl rfl rfl); (focus (simp [go_sem]; rfl)); go_big_quiet_on) | go_big_quiet_step (fail))
                refine wpQuiet_nil ?_
                clear rk rl
                clear _ne
                have KH_w91 := Lib.hid K_w91
                have hw_w91 := K_w91.below
                have hz_w91 := K_w91.size
                clear K_w91
                clear E_w91 F_w91
                replace HB := Lib.hid (below_via HB.out KH_w91.out.below)
                replace HPX := Lib.hid (HPX.out.below KH_w91.out.below)
                replace HPY := Lib.hid (HPY.out.below KH_w91.out.below)
                go_wp2_with fail
                go_roundw
                case rel => exact ⟨k + 1, by omega, by go_num, HN.out, HB.out, HPX.out, HPY.out⟩
                case measure => simp [intOf]; omega
              · have HRR : Hid (true = true ↔ x ≠ y) := Lib.hid (by simpa using hxy)
                have HN := Lib.hid (ne_at HX.out HY.out hxy)
                clear HT HX HY hxy
                go_upto_region 17 with fail
                refine rg26_17 (w0 := wr) (B := wr.heap.size) (n := wr.heap.size) (L := []) (E := fun _ => True) (F := fun _ => True) (by kernel_rfl) (by kernel_rfl) ⟨by go_grown, by go_size, (by simp [go_sem] <;> omega)⟩ trivial (fun _ _ _ _ => trivial) trivial (fun _ _ _ _ => trivial) (fun w91 K_w91 E_w91 F_w91 => ?_)
                have _ne : Nonempty (KX (wr.heap.size) wr (wr.heap.size) [] (fun _ => True)) := ⟨⟨_, K_w91, E_w91⟩⟩
                have q1 : ∀ W', (∃ s' : KX (wr.heap.size) wr (wr.heap.size) [] (fun _ => True), W' = s'.val) → W'.rangeAt b1 (o1 + k * 2) (kc x) := by rintro _ ⟨s', rfl⟩; exact fun j u hu => by rw [Nat.add_assoc]; exact (s'.kept.below.cell (p := ⟨b1, _, none⟩) g1).trans (D1.out j u hu)
                have q2 : ∀ W', (∃ s' : KX (wr.heap.size) wr (wr.heap.size) [] (fun _ => True), W' = s'.val) → W'.rangeAt b2 (o2 + k * 2) (kc y) := by rintro _ ⟨s', rfl⟩; exact fun j u hu => by rw [Nat.add_assoc]; exact (s'.kept.below.cell (p := ⟨b2, _, none⟩) g2).trans (D2.out j u hu)
                repeat (first | (go_big_quiet_want; (first | apply quiet_load_Bk _ rfl rfl q1 | apply quiet_load_Bk _ rfl rfl q2 | apply quiet_neq_Bk HRR _ _ rfl rfl rfl); (focus (simp [go_sem]; rfl)); go_big_quiet_on) | go_big_quiet_step (fail))
                refine wpQuiet_nil ?_
                have rk : ∀ s : KX (wr.heap.size) wr (wr.heap.size) [] (fun _ => True), s.val.cell? ⟨w.heap.size, 31, none⟩ = some (.slice (some ⟨b1, o1, none⟩) P.bl.length x7c) := fun s => (s.kept.below.cell (p := ⟨w.heap.size, 31, none⟩) p1).trans k31
                have rl : ∀ s : KX (wr.heap.size) wr (wr.heap.size) [] (fun _ => True), s.val.cell? ⟨w.heap.size + 1, 31, none⟩ = some (.slice (some ⟨b2, o2, none⟩) Q.bl.length y7c) := fun s => (s.kept.below.cell (p := ⟨w.heap.size + 1, 31, none⟩) p2).trans l31
                repeat (first | (go_big_quiet_want; (first | apply quiet_load_Bk _ rfl rfl q1 | apply quiet_load_Bk _ rfl rfl q2 | apply quiet_neq_Bk HRR _ _ rfl rfl rfl); (focus (simp [go_sem]; rfl)); go_big_quiet_on) | go_big_quiet_step (fail))
                refine wpQuiet_nil ?_
                repeat (first | (go_big_quiet_want; (first | apply quiet_load_Bk _ rfl rfl q1 | apply quiet_load_Bk _ rfl rfl q2 | apply quiet_neq_Bk HRR _ _ rfl rfl rfl); (focus (simp [go_sem]; rfl)); go_big_quiet_on) | go_big_quiet_step (fail))
                refine wpQuiet_nil ?_
                repeat (first | (go_big_quiet_want; (first | apply quiet_load_Bk _ rfl rfl q1 | apply quiet_load_Bk _ rfl rfl q2 | apply quiet_neq_Bk HRR _ _ rfl rfl rfl); (focus (simp [go_sem]; rfl)); go_big_quiet_on) | go_big_quiet_step (fail))
                refine wpQuiet_nil ?_
                repeat (first | (go_big_quiet_want; (first | apply quiet_load_Bk _ rfl rfl q1 | apply quiet_load_Bk _ rfl rfl q2 | apply quiet_neq_Bk HRR _ _ rfl rfl rfl); (focus (simp [go_sem]; rfl)); go_big_quiet_on) | go_big_quiet_step (fail))
                refine wpQuiet_nil ?_
                repeat (first | (go_big_quiet_want; (first | apply quiet_load_Bk _ rfl rfl q1 | apply quiet_load_Bk _ rfl rfl q2 | apply quiet_neq_Bk HRR _ _ rfl rfl rfl); (focus (simp [go_sem]; rfl)); go_big_quiet_on) | go_big_quiet_step (fail))
                refine wpQuiet_nil ?_
                repeat (first | (go_big_quiet_want; (first | apply quiet_load_Bk _ rfl rfl q1 | apply quiet_load_Bk _ rfl rfl q2 | apply quiet_neq_Bk HRR _ _ rfl rfl rfl); (focus (simp [go_sem]; rfl)); go_big_quiet_on) | go_big_quiet_step (fail))
                refine wpQuiet_nil ?_
                clear rk rl
                clear _ne
                have KH_w91 := Lib.hid K_w91
                have hw_w91 := K_w91.below
                have hz_w91 := K_w91.size
                clear K_w91
                clear E_w91 F_w91
                replace HB := Lib.hid (below_via HB.out KH_w91.out.below)
                replace HPX := Lib.hid (HPX.out.below KH_w91.out.below)
                replace HPY := Lib.hid (HPY.out.below KH_w91.out.below)
                go_wp2_with fail
                go_returns
                exact EqA.no (fun e => HN.out (by rw [e])) HB.out
            · obtain rfl : k = P.bl.length := by omega
              have HEbl : Hid (P.bl = Q.bl) := Lib.hid (by have h := HT.out; rw [List.take_length, HLbl.out, List.take_length] at h; exact h)
              clear hb HT
              have HEQ : Hid (P = Q) := Lib.hid (pu_eq HS0.out HS1.out HEst.out HEqu.out HEatt.out HEbl.out HNUM.out.1 HNUM.out.2.1 HNUM.out.2.2.1 HNUM.out.2.2.2.1 HNUM.out.2.2.2.2)
              go_wp2_with fail
              go_returns
              exact EqA.yes HEQ.out HB.out
theorem lsame (s t : Ps) (P Q : Pu) (w : World) (h1 : PuR w s P) (h2 : PuR w t Q) : Calls Try.prog 26 #[pv s P, pv t Q] w (EqA w (P = Q)) := by
  by_cases h : P.s0 = Q.s0 ∧ P.s1 = Q.s1
  · exact lsame_b s t P Q w h1 h2 h
  · exact lsame_a s t P Q w h1 h2 h
theorem lsame_t (s t : Ps) (P Q : Pu) (w : World) (h1 : PuR w s P) (h2 : PuR w t Q) (hpq : P = Q) : Calls Try.prog 26 #[pv s P, pv t Q] w (EqA w (P = Q)) := lsame s t P Q w h1 h2
end Go.Proofs.Yteoeahmnonolmaa
