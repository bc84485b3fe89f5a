/- Whose turn it is, by the code. -/
import Derived.Test.YtkkpckkkcclhhaaDoorBTo
import Derived.Test.YtkkpckkkcclhhaaDoorBVd
import Derived.Test.YtkkpckkkcclhhaaDoorBCc
import Derived.Deep.DeepCutAuto
import Derived.LoopTactic
import Derived.Deep.MidRow
namespace Go.Proofs.YtkkpckkkcclhhaaDoor
open Go.RowKit Plain
set_option linter.unusedVariables false
set_option linter.unusedSimpArgs false

/-- the whole board is written; the new world has a name -/
theorem wpList_store_bh {ops : Array Oper} {rest : List Oper} {op : Oper} {a : Act} {w : World} {Q : Exit → Act → World → Prop} (hgd : op.guard = none) {P : Nat} {s : Bs} {B : Bd} (x y : Operand) (ho : op.op = .store 39 x y) (hx : a.eval x = .pointer (some ⟨P, 0, none⟩)) (hy : a.eval y = bv s B) {old : Array Value} (hg : w.heap[P]? = some (.cells old 39 (0, 0))) (hsz : old.size = 38)
    (hK : ∀ w', Hid (w' = w.setRow P (bcells s B)) → wpList Tryd.prog ops Q rest (a.put op.dst undef) w') : wpList Tryd.prog ops Q (op :: rest) a w :=
  wpList_store_bx hgd x y ho hx hy hg hsz (fun w' h => hK w' (Lib.hid h))
theorem zeroOwn (lo hi : Nat) (w : World) : BdO lo hi w nilS zeroB := by
  have n : ∀ j, j < 9 → nilS.isl j = nilSl ∧ zeroB.il j = [] := fun j hj => match j, hj with
    | 0, _ => ⟨rfl, rfl⟩
    | 1, _ => ⟨rfl, rfl⟩
    | 2, _ => ⟨rfl, rfl⟩
    | 3, _ => ⟨rfl, rfl⟩
    | 4, _ => ⟨rfl, rfl⟩
    | 5, _ => ⟨rfl, rfl⟩
    | 6, _ => ⟨rfl, rfl⟩
    | 7, _ => ⟨rfl, rfl⟩
    | 8, _ => ⟨rfl, rfl⟩
  exact ⟨Ox.nil _ _ _ _, fun j hj => by rw [(n j hj).1, (n j hj).2]; exact Ox.nil _ _ _ _, fun i j hi2 _ _ b hb => by rw [(n i hi2).1] at hb; simp [nilSl, Sl.v, Value.ownBlock] at hb, ItO.nil _ _ _, ItO.nil _ _ _, fun b hb => by simp [nilS, nilSl, Sl.v, Value.ownBlock] at hb, Ox.nil _ _ _ _⟩
def BrA (w : World) (B : Bd) (y : Value) (e : Ending) (w' : World) : Prop := ∃ s', e = .returned (.tuple #[bv s' B, y]) ∧ BdO w.heap.size w'.heap.size w' s' B ∧ Below w.heap.size w w'
def BrP (w : World) (B : Bd) (y z : Value) (e : Ending) (w' : World) : Prop := ∃ s', e = .returned (.tuple #[bv s' B, y, z]) ∧ BdO w.heap.size w'.heap.size w' s' B ∧ Below w.heap.size w w'
theorem results_b0 {fn : Func} {p : Tmp} (h : fn.results = #[.cell p 39]) (tmps : Array Value) (w : World) {P : Nat} {s : Bs} {B : Bd} (hx : Bx w P s B) (hp : tmps.getD p undef = .pointer (some ⟨P, 0, none⟩)) : (results fn tmps).run Tryd.prog w = .ok (bv s B) w :=
  results_cell_row h tmps w P 39 _ (0, 0) _ hp hx Tryd.underlying39 rfl (by kernel_rfl)
theorem results_b1 {fn : Func} {p u : Tmp} (h : fn.results = #[.cell p 39, .tmp u]) (tmps : Array Value) (w : World) {P : Nat} {s : Bs} {B : Bd} {y : Value} (hx : Bx w P s B) (hp : tmps.getD p undef = .pointer (some ⟨P, 0, none⟩)) (hy : tmps.getD u undef = y) : (results fn tmps).run Tryd.prog w = .ok (.tuple #[bv s B, y]) w := by
  have hl : (loadVar 39 ⟨P, 0, none⟩).run Tryd.prog w = .ok (bv s B) w := run_loadVar_row w P 39 39 _ (0, 0) _ hx Tryd.underlying39 rfl (by kernel_rfl)
  rw [results_cell_tmp h, hp, hy]
  simp [asAddr, hl]
theorem results_b2 {fn : Func} {p u v : Tmp} (h : fn.results = #[.cell p 39, .tmp u, .tmp v]) (tmps : Array Value) (w : World) {P : Nat} {s : Bs} {B : Bd} {y z : Value} (hx : Bx w P s B) (hp : tmps.getD p undef = .pointer (some ⟨P, 0, none⟩)) (hy : tmps.getD u undef = y) (hz : tmps.getD v undef = z) : (results fn tmps).run Tryd.prog w = .ok (.tuple #[bv s B, y, z]) w := by
  have hl : (loadVar 39 ⟨P, 0, none⟩).run Tryd.prog w = .ok (bv s B) w := run_loadVar_row w P 39 39 _ (0, 0) _ hx Tryd.underlying39 rfl (by kernel_rfl)
  have hp' : tmps[p]?.getD undef = .pointer (some ⟨P, 0, none⟩) := by simpa using hp
  have hy' : tmps[u]?.getD undef = y := by simpa using hy
  have hz' : tmps[v]?.getD undef = z := by simpa using hz
  simp only [results, h]
  simp [Sem.run_bind, Result.andThen, asAddr, hl, hp', hy', hz']
theorem giO {lo hi : Nat} {w : World} {s : Bs} {B : Bd} (h : BdO lo hi w s B) (pl pa : Int) : BdO lo hi w s (giB B pl pa) := ⟨h.ob, h.il, h.nd, h.st, h.qu, h.ns, h.bl⟩
set_option maxRecDepth 100000 in
set_option maxHeartbeats 4000000 in
theorem give_ok (s : Bs) (B : Bd) (pl pa : Int) (w : World) (h : BdR w s B) (hk : B.Ok) (hv : VB B) (h1 : -1 ≤ pl ∧ pl ≤ 1) (h2 : 0 ≤ pa ∧ pa ≤ 2) : Calls Tryd.prog 15 #[bv s B, .int .i64 pl, .int .i64 pa] w (BrA w (giB B pl pa) (.int .i64 0)) := by
  have HR := Lib.hid h
  have HK := Lib.hid hk
  have HV := Lib.hid hv
  clear h hk hv
  have t0 : decide (pl < -1) = false := decide_eq_false (by omega)
  have t1 : decide (pl > 1) = false := decide_eq_false (by omega)
  have t2 : decide (pa < 0) = false := decide_eq_false (by omega)
  have t3 : decide (pa > 2) = false := decide_eq_false (by omega)
  clear h1 h2
  go_enter Tryd.func15, Tryd.ntmps15
  go_upto_region 1 with fail
  change Code.wp Tryd.prog _ _ _ ((w.alloc (.cells (bcells s B) 39)).alloc (.cells (bcells nilS zeroB) 39))
  obtain ⟨wz, hwz⟩ : ∃ W, W = (w.alloc (.cells (bcells s B) 39)).alloc (.cells (bcells nilS zeroB) 39) := ⟨_, rfl⟩
  have hsz : wz.heap.size = w.heap.size + 1 + 1 := by rw [hwz]; simp
  have b1 : Below w.heap.size w (w.alloc (.cells (bcells s B) 39)) := (Below.refl _ _).alloc (Nat.le_refl _) _
  have b2 : Below (w.alloc (.cells (bcells s B) 39)).heap.size (w.alloc (.cells (bcells s B) 39)) wz := by rw [hwz]; exact (Below.refl _ _).alloc (Nat.le_refl _) _
  have HX : Hid (Bx wz w.heap.size s B) := Lib.hid (Bx.below (w := w.alloc (.cells (bcells s B) 39)) (heap_alloc_new _ _) b2)
  have HZ : Hid (Bx wz (w.heap.size + 1) nilS zeroB) := Lib.hid (by rw [hwz, show w.heap.size + 1 = (w.alloc (.cells (bcells s B) 39)).heap.size by simp]; exact heap_alloc_new _ _)
  have HB : Hid (Below w.heap.size w wz) := Lib.hid (below_via b1 b2)
  rw [← hwz]
  clear hwz b1 b2
  clear hsz
  go_wp2_with (refine wpList_load_bx _ rfl rfl HX.out (by kernel_rfl) ?_)
  with_reducible refine (bvalid s B _ (HR.out.below HB.out) HK.out.i HK.out.sm).mono ?_
  rintro e w1 ⟨⟨r, rfl, hr⟩, hb⟩
  obtain rfl : r = true := hr.2 HV.out
  clear hr
  replace HX := Lib.hid (HX.out.below hb)
  replace HZ := Lib.hid (HZ.out.below hb)
  replace HB := Lib.hid (below_via HB.out hb)
  clear hb
  go_upto_region 3 with fail
  clear t0 t1 t2 t3
  go_wp2_with (refine wpList_load_bx _ rfl rfl HX.out (by kernel_rfl) ?_)
  with_reducible refine (bcopy s B _ (HR.out.below HB.out) HK.out.sm ⟨HK.out.st, HK.out.qu⟩).mono ?_
  rintro e w2 ⟨s', rfl, ho, hb⟩
  have HLO : Hid (w.heap.size + 1 + 1 ≤ w1.heap.size) := Lib.hid (by have := HZ.out.lt; omega)
  have HO0 := Lib.hid ho
  replace HX := Lib.hid (HX.out.below hb)
  replace HZ := Lib.hid (HZ.out.below hb)
  replace HB := Lib.hid (below_via HB.out hb)
  clear hb ho
  go_wp2_with (refine wpList_store_bh rfl _ _ rfl rfl rfl HX.out rfl ?_)
  intro w3 hw0
  have hw := hw0.out
  have hon : Onl [w.heap.size] w2 w3 := by rw [hw]; exact Onl.setRow (Onl.refl _ _) (.inl (by simp)) _
  replace HX : Hid (Bx w3 w.heap.size s' B) := Lib.hid (by rw [hw]; exact Bx.row HX.out s' B)
  have HO : Hid (BdO (w.heap.size + 1 + 1) w2.heap.size w3 s' B) := Lib.hid ((HO0.out.mono HLO.out (Nat.le_refl _)).keep (fun k a b => hon.block k b (by simp; omega)))
  replace HZ := Lib.hid (HZ.out.onl hon (by simp))
  replace HB := Lib.hid (belowOnl HB.out hon (by simp) HB.out.size)
  have HSZ : Hid (w2.heap.size ≤ w3.heap.size) := Lib.hid hon.size
  clear hw hw0 hon HO0
  go_upto_region 4 with fail
  have c36 := HX.out.cell 36
  have f36 := HX.out.free 36
  have c37 := HX.out.cell 37
  have f37 := HX.out.free 37
  change w3.cell? ⟨w.heap.size, 36, none⟩ = some (.int .i64 B.ho) at c36
  change w3.cell? ⟨w.heap.size, 37, none⟩ = some (.int .i64 B.pa) at c37
  go_upto_region 5 with fail
  obtain ⟨w4, hw⟩ : ∃ X, X = ((w3.setCell ⟨w.heap.size, 36, none⟩ (.int .i64 pl)).setCell ⟨w.heap.size, 37, none⟩ (.int .i64 pa)) := ⟨_, rfl⟩
  rw [← hw]
  replace HX : Hid (Bx w4 w.heap.size s' (giB B pl pa)) := Lib.hid (by rw [hw]; exact (HX.out.put (B' := { B with ho := pl }) 36 _ rfl).put 37 _ rfl)
  have hon : Onl [w.heap.size] w3 w4 := by rw [hw]; exact (Onl.setCell (Onl.refl _ _) (.inl (by simp)) _).setCell (.inl (by simp)) _
  replace HO := Lib.hid (giO (HO.out.keep (fun k a b => hon.block k (by have := HSZ.out; omega) (by simp; omega))) pl pa)
  replace HZ := Lib.hid (HZ.out.onl hon (by simp))
  replace HB := Lib.hid (belowOnl HB.out hon (by simp) HB.out.size)
  replace HSZ := Lib.hid (Nat.le_trans HSZ.out hon.size)
  clear hw hon c36 c37 f36 f37
  go_wp2_with (first | (refine wpList_load_bx _ rfl rfl HX.out (by kernel_rfl) ?_) | (refine wpList_store_bh (s := s') (B := giB B pl pa) rfl _ _ rfl rfl rfl HZ.out rfl ?_; intro w9 hw9))
  have hg9 : Bx w9 (w.heap.size + 1) s' (giB B pl pa) := by rw [hw9.out]; exact Bx.row HZ.out _ _
  have ho9 : Onl [w.heap.size + 1] w4 w9 := by rw [hw9.out]; exact Onl.setRow (Onl.refl _ _) (.inl (by simp)) _
  have hb9 : Below w.heap.size w w9 := belowOnl HB.out ho9 (by simp) HB.out.size
  have HG9 := Lib.hid hg9
  have HPOST : Hid (BrA w (giB B pl pa) (.int .i64 0) (.returned (.tuple #[bv s' (giB B pl pa), .int .i64 0])) w9) := Lib.hid ⟨_, rfl, (HO.out.keep (fun k a _ => ho9.block k (by have := HSZ.out; omega) (by simp; omega))).mono (by omega) (Nat.le_trans HSZ.out ho9.size), hb9⟩
  clear hw9 hg9 ho9 hb9
  go_wp2_with fail
  exact bodyPost_ret (v := .tuple #[bv s' (giB B pl pa), .int .i64 0]) (results_b1 Tryd.results15 _ _ HG9.out rfl rfl) rfl HPOST.out
set_option maxRecDepth 100000 in
set_option maxHeartbeats 4000000 in
theorem give_bad (s : Bs) (B : Bd) (pl pa : Int) (w : World) (h : BdR w s B) (hk : B.Ok) (hv : ¬ (VB B ∧ (-1 ≤ pl ∧ pl ≤ 1) ∧ (0 ≤ pa ∧ pa ≤ 2))) : Calls Tryd.prog 15 #[bv s B, .int .i64 pl, .int .i64 pa] w (BrA w zeroB (.int .i64 2)) := by
  have HR := Lib.hid h
  have HK := Lib.hid hk
  clear h hk
  by_cases h0 : pl < -1
  · have t0 : decide (pl < -1) = true := decide_eq_true h0
    clear h0 hv
    go_enter Tryd.func15, Tryd.ntmps15
    go_upto_region 1 with fail
    change Code.wp Tryd.prog _ _ _ ((w.alloc (.cells (bcells s B) 39)).alloc (.cells (bcells nilS zeroB) 39))
    obtain ⟨wz, hwz⟩ : ∃ W, W = (w.alloc (.cells (bcells s B) 39)).alloc (.cells (bcells nilS zeroB) 39) := ⟨_, rfl⟩
    have hsz : wz.heap.size = w.heap.size + 1 + 1 := by rw [hwz]; simp
    have b1 : Below w.heap.size w (w.alloc (.cells (bcells s B) 39)) := (Below.refl _ _).alloc (Nat.le_refl _) _
    have b2 : Below (w.alloc (.cells (bcells s B) 39)).heap.size (w.alloc (.cells (bcells s B) 39)) wz := by rw [hwz]; exact (Below.refl _ _).alloc (Nat.le_refl _) _
    have HX : Hid (Bx wz w.heap.size s B) := Lib.hid (Bx.below (w := w.alloc (.cells (bcells s B) 39)) (heap_alloc_new _ _) b2)
    have HZ : Hid (Bx wz (w.heap.size + 1) nilS zeroB) := Lib.hid (by rw [hwz, show w.heap.size + 1 = (w.alloc (.cells (bcells s B) 39)).heap.size by simp]; exact heap_alloc_new _ _)
    have HB : Hid (Below w.heap.size w wz) := Lib.hid (below_via b1 b2)
    rw [← hwz]
    clear hwz b1 b2
    clear hsz
    go_upto_region 2 with fail
    go_wp2_with (first | (refine wpList_store_bh (s := nilS) (B := zeroB) rfl _ _ rfl rfl rfl HZ.out rfl ?_; intro w9 hw9))
    have hg9 : Bx w9 (w.heap.size + 1) nilS (zeroB) := by rw [hw9.out]; exact Bx.row HZ.out _ _
    have ho9 : Onl [w.heap.size + 1] wz w9 := by rw [hw9.out]; exact Onl.setRow (Onl.refl _ _) (.inl (by simp)) _
    have hb9 : Below w.heap.size w w9 := belowOnl HB.out ho9 (by simp) HB.out.size
    have HG9 := Lib.hid hg9
    have HPOST : Hid (BrA w (zeroB) (.int .i64 2) (.returned (.tuple #[bv nilS (zeroB), .int .i64 2])) w9) := Lib.hid ⟨_, rfl, zeroOwn _ _ _, hb9⟩
    clear hw9 hg9 ho9 hb9
    go_wp2_with fail
    exact bodyPost_ret (v := .tuple #[bv nilS (zeroB), .int .i64 2]) (results_b1 Tryd.results15 _ _ HG9.out rfl rfl) rfl HPOST.out
  have t0 : decide (pl < -1) = false := decide_eq_false h0
  by_cases h1 : pl > 1
  · have t1 : decide (pl > 1) = true := decide_eq_true h1
    clear h1 hv
    go_enter Tryd.func15, Tryd.ntmps15
    go_upto_region 1 with fail
    change Code.wp Tryd.prog _ _ _ ((w.alloc (.cells (bcells s B) 39)).alloc (.cells (bcells nilS zeroB) 39))
    obtain ⟨wz, hwz⟩ : ∃ W, W = (w.alloc (.cells (bcells s B) 39)).alloc (.cells (bcells nilS zeroB) 39) := ⟨_, rfl⟩
    have hsz : wz.heap.size = w.heap.size + 1 + 1 := by rw [hwz]; simp
    have b1 : Below w.heap.size w (w.alloc (.cells (bcells s B) 39)) := (Below.refl _ _).alloc (Nat.le_refl _) _
    have b2 : Below (w.alloc (.cells (bcells s B) 39)).heap.size (w.alloc (.cells (bcells s B) 39)) wz := by rw [hwz]; exact (Below.refl _ _).alloc (Nat.le_refl _) _
    have HX : Hid (Bx wz w.heap.size s B) := Lib.hid (Bx.below (w := w.alloc (.cells (bcells s B) 39)) (heap_alloc_new _ _) b2)
    have HZ : Hid (Bx wz (w.heap.size + 1) nilS zeroB) := Lib.hid (by rw [hwz, show w.heap.size + 1 = (w.alloc (.cells (bcells s B) 39)).heap.size by simp]; exact heap_alloc_new _ _)
    have HB : Hid (Below w.heap.size w wz) := Lib.hid (below_via b1 b2)
    rw [← hwz]
    clear hwz b1 b2
    clear hsz
    go_upto_region 2 with fail
    go_wp2_with (first | (refine wpList_store_bh (s := nilS) (B := zeroB) rfl _ _ rfl rfl rfl HZ.out rfl ?_; intro w9 hw9))
    have hg9 : Bx w9 (w.heap.size + 1) nilS (zeroB) := by rw [hw9.out]; exact Bx.row HZ.out _ _
    have ho9 : Onl [w.heap.size + 1] wz w9 := by rw [hw9.out]; exact Onl.setRow (Onl.refl _ _) (.inl (by simp)) _
    have hb9 : Below w.heap.size w w9 := belowOnl HB.out ho9 (by simp) HB.out.size
    have HG9 := Lib.hid hg9
    have HPOST : Hid (BrA w (zeroB) (.int .i64 2) (.returned (.tuple #[bv nilS (zeroB), .int .i64 2])) w9) := Lib.hid ⟨_, rfl, zeroOwn _ _ _, hb9⟩
    clear hw9 hg9 ho9 hb9
    go_wp2_with fail
    exact bodyPost_ret (v := .tuple #[bv nilS (zeroB), .int .i64 2]) (results_b1 Tryd.results15 _ _ HG9.out rfl rfl) rfl HPOST.out
  have t1 : decide (pl > 1) = false := decide_eq_false h1
  by_cases h2 : pa < 0
  · have t2 : decide (pa < 0) = true := decide_eq_true h2
    clear h2 hv
    go_enter Tryd.func15, Tryd.ntmps15
    go_upto_region 1 with fail
    change Code.wp Tryd.prog _ _ _ ((w.alloc (.cells (bcells s B) 39)).alloc (.cells (bcells nilS zeroB) 39))
    obtain ⟨wz, hwz⟩ : ∃ W, W = (w.alloc (.cells (bcells s B) 39)).alloc (.cells (bcells nilS zeroB) 39) := ⟨_, rfl⟩
    have hsz : wz.heap.size = w.heap.size + 1 + 1 := by rw [hwz]; simp
    have b1 : Below w.heap.size w (w.alloc (.cells (bcells s B) 39)) := (Below.refl _ _).alloc (Nat.le_refl _) _
    have b2 : Below (w.alloc (.cells (bcells s B) 39)).heap.size (w.alloc (.cells (bcells s B) 39)) wz := by rw [hwz]; exact (Below.refl _ _).alloc (Nat.le_refl _) _
    have HX : Hid (Bx wz w.heap.size s B) := Lib.hid (Bx.below (w := w.alloc (.cells (bcells s B) 39)) (heap_alloc_new _ _) b2)
    have HZ : Hid (Bx wz (w.heap.size + 1) nilS zeroB) := Lib.hid (by rw [hwz, show w.heap.size + 1 = (w.alloc (.cells (bcells s B) 39)).heap.size by simp]; exact heap_alloc_new _ _)
    have HB : Hid (Below w.heap.size w wz) := Lib.hid (below_via b1 b2)
    rw [← hwz]
    clear hwz b1 b2
    clear hsz
    go_upto_region 2 with fail
    go_wp2_with (first | (refine wpList_store_bh (s := nilS) (B := zeroB) rfl _ _ rfl rfl rfl HZ.out rfl ?_; intro w9 hw9))
    have hg9 : Bx w9 (w.heap.size + 1) nilS (zeroB) := by rw [hw9.out]; exact Bx.row HZ.out _ _
    have ho9 : Onl [w.heap.size + 1] wz w9 := by rw [hw9.out]; exact Onl.setRow (Onl.refl _ _) (.inl (by simp)) _
    have hb9 : Below w.heap.size w w9 := belowOnl HB.out ho9 (by simp) HB.out.size
    have HG9 := Lib.hid hg9
    have HPOST : Hid (BrA w (zeroB) (.int .i64 2) (.returned (.tuple #[bv nilS (zeroB), .int .i64 2])) w9) := Lib.hid ⟨_, rfl, zeroOwn _ _ _, hb9⟩
    clear hw9 hg9 ho9 hb9
    go_wp2_with fail
    exact bodyPost_ret (v := .tuple #[bv nilS (zeroB), .int .i64 2]) (results_b1 Tryd.results15 _ _ HG9.out rfl rfl) rfl HPOST.out
  have t2 : decide (pa < 0) = false := decide_eq_false h2
  by_cases h3 : pa > 2
  · have t3 : decide (pa > 2) = true := decide_eq_true h3
    clear h3 hv
    go_enter Tryd.func15, Tryd.ntmps15
    go_upto_region 1 with fail
    change Code.wp Tryd.prog _ _ _ ((w.alloc (.cells (bcells s B) 39)).alloc (.cells (bcells nilS zeroB) 39))
    obtain ⟨wz, hwz⟩ : ∃ W, W = (w.alloc (.cells (bcells s B) 39)).alloc (.cells (bcells nilS zeroB) 39) := ⟨_, rfl⟩
    have hsz : wz.heap.size = w.heap.size + 1 + 1 := by rw [hwz]; simp
    have b1 : Below w.heap.size w (w.alloc (.cells (bcells s B) 39)) := (Below.refl _ _).alloc (Nat.le_refl _) _
    have b2 : Below (w.alloc (.cells (bcells s B) 39)).heap.size (w.alloc (.cells (bcells s B) 39)) wz := by rw [hwz]; exact (Below.refl _ _).alloc (Nat.le_refl _) _
    have HX : Hid (Bx wz w.heap.size s B) := Lib.hid (Bx.below (w := w.alloc (.cells (bcells s B) 39)) (heap_alloc_new _ _) b2)
    have HZ : Hid (Bx wz (w.heap.size + 1) nilS zeroB) := Lib.hid (by rw [hwz, show w.heap.size + 1 = (w.alloc (.cells (bcells s B) 39)).heap.size by simp]; exact heap_alloc_new _ _)
    have HB : Hid (Below w.heap.size w wz) := Lib.hid (below_via b1 b2)
    rw [← hwz]
    clear hwz b1 b2
    clear hsz
    go_upto_region 2 with fail
    go_wp2_with (first | (refine wpList_store_bh (s := nilS) (B := zeroB) rfl _ _ rfl rfl rfl HZ.out rfl ?_; intro w9 hw9))
    have hg9 : Bx w9 (w.heap.size + 1) nilS (zeroB) := by rw [hw9.out]; exact Bx.row HZ.out _ _
    have ho9 : Onl [w.heap.size + 1] wz w9 := by rw [hw9.out]; exact Onl.setRow (Onl.refl _ _) (.inl (by simp)) _
    have hb9 : Below w.heap.size w w9 := belowOnl HB.out ho9 (by simp) HB.out.size
    have HG9 := Lib.hid hg9
    have HPOST : Hid (BrA w (zeroB) (.int .i64 2) (.returned (.tuple #[bv nilS (zeroB), .int .i64 2])) w9) := Lib.hid ⟨_, rfl, zeroOwn _ _ _, hb9⟩
    clear hw9 hg9 ho9 hb9
    go_wp2_with fail
    exact bodyPost_ret (v := .tuple #[bv nilS (zeroB), .int .i64 2]) (results_b1 Tryd.results15 _ _ HG9.out rfl rfl) rfl HPOST.out
  have t3 : decide (pa > 2) = false := decide_eq_false h3
  have HV : Hid (¬ VB B) := Lib.hid (fun h => hv ⟨h, by omega, by omega⟩)
  clear h0 h1 h2 h3 hv
  go_enter Tryd.func15, Tryd.ntmps15
  go_upto_region 1 with fail
  change Code.wp Tryd.prog _ _ _ ((w.alloc (.cells (bcells s B) 39)).alloc (.cells (bcells nilS zeroB) 39))
  obtain ⟨wz, hwz⟩ : ∃ W, W = (w.alloc (.cells (bcells s B) 39)).alloc (.cells (bcells nilS zeroB) 39) := ⟨_, rfl⟩
  have hsz : wz.heap.size = w.heap.size + 1 + 1 := by rw [hwz]; simp
  have b1 : Below w.heap.size w (w.alloc (.cells (bcells s B) 39)) := (Below.refl _ _).alloc (Nat.le_refl _) _
  have b2 : Below (w.alloc (.cells (bcells s B) 39)).heap.size (w.alloc (.cells (bcells s B) 39)) wz := by rw [hwz]; exact (Below.refl _ _).alloc (Nat.le_refl _) _
  have HX : Hid (Bx wz w.heap.size s B) := Lib.hid (Bx.below (w := w.alloc (.cells (bcells s B) 39)) (heap_alloc_new _ _) b2)
  have HZ : Hid (Bx wz (w.heap.size + 1) nilS zeroB) := Lib.hid (by rw [hwz, show w.heap.size + 1 = (w.alloc (.cells (bcells s B) 39)).heap.size by simp]; exact heap_alloc_new _ _)
  have HB : Hid (Below w.heap.size w wz) := Lib.hid (below_via b1 b2)
  rw [← hwz]
  clear hwz b1 b2
  clear hsz
  go_wp2_with (refine wpList_load_bx _ rfl rfl HX.out (by kernel_rfl) ?_)
  with_reducible refine (bvalid s B _ (HR.out.below HB.out) HK.out.i HK.out.sm).mono ?_
  rintro e w1 ⟨⟨r, rfl, hr⟩, hb⟩
  obtain rfl : r = false := by cases r with | false => rfl | true => exact absurd (hr.1 rfl) HV.out
  clear hr
  replace HX := Lib.hid (HX.out.below hb)
  replace HZ := Lib.hid (HZ.out.below hb)
  replace HB := Lib.hid (below_via HB.out hb)
  clear hb
  go_upto_region 2 with fail
  go_wp2_with (first | (refine wpList_store_bh (s := nilS) (B := zeroB) rfl _ _ rfl rfl rfl HZ.out rfl ?_; intro w9 hw9))
  have hg9 : Bx w9 (w.heap.size + 1) nilS (zeroB) := by rw [hw9.out]; exact Bx.row HZ.out _ _
  have ho9 : Onl [w.heap.size + 1] w1 w9 := by rw [hw9.out]; exact Onl.setRow (Onl.refl _ _) (.inl (by simp)) _
  have hb9 : Below w.heap.size w w9 := belowOnl HB.out ho9 (by simp) HB.out.size
  have HG9 := Lib.hid hg9
  have HPOST : Hid (BrA w (zeroB) (.int .i64 2) (.returned (.tuple #[bv nilS (zeroB), .int .i64 2])) w9) := Lib.hid ⟨_, rfl, zeroOwn _ _ _, hb9⟩
  clear hw9 hg9 ho9 hb9
  go_wp2_with fail
  exact bodyPost_ret (v := .tuple #[bv nilS (zeroB), .int .i64 2]) (results_b1 Tryd.results15 _ _ HG9.out rfl rfl) rfl HPOST.out
end Go.Proofs.YtkkpckkkcclhhaaDoor
