/- The law about the beginning and the end of a turn: the walk. -/
import Derived.Test.YtkkpckkkcclhhaaDoorBTk
import Derived.Test.YtkkpckkkcclhhaaDoorBLs
import Derived.Test.YtkkpckkkcclhhaaDoorBLg
import Derived.Test.YtkkpckkkcclhhaaDoorBCx
namespace Go.Proofs.YtkkpckkkcclhhaaDoor
open Go.RowKit Plain
set_option linter.unusedVariables false
set_option linter.unusedSimpArgs false

theorem rg5_9_ok {P : Program} {id : Nat} {Q : Exit → Act → World → Prop} {a : Act} {w : World} {o0 o1 o2 o3 o4 o5 o6 o7 o8 o9 o10 o11 o12 o13 o14 o15 o16 o17 o18 : Oper} (hB : (Region.noSelect [o0, o1, o2, o3, o4, o5, o6, o7, o8, o9, o10, o11, o12, o13, o14, o15, o16, o17, o18].toArray && Scr.ok .any [o0, o1, o2, o3, o4, o5, o6, o7, o8, o9, o10, o11, o12, o13, o14, o15, o16, o17, o18].toArray [0, 2, 4, 5, 8, 9, 11, 12] [1, 3, 7, 14, 15, 17, 18] (.free 1 (.free 3 (.read 0 (.read 2 (.read 4 (.read 5 (.alt 6 (.free 7 (.read 8 (.read 9 (.read 11 (.read 12 (.alt 10 (.altc 13 (.free 14 (.free 15 (.altc 16 (.free 17 (.free 18 .done)) .stop))) .stop) .stop)))))) .stop))))))) true true [o0, o1, o2, o3, o4, o5, o6, o7, o8, o9, o10, o11, o12, o13, o14, o15, o16, o17, o18].toArray.size (Array.replicate [o0, o1, o2, o3, o4, o5, o6, o7, o8, o9, o10, o11, o12, o13, o14, o15, o16, o17, o18].toArray.size false)) = true) (h : (Region.noSelect [o0, o1, o2, o3, o4, o5, o6, o7, o8, o9, o10, o11, o12, o13, o14, o15, o16, o17, o18].toArray && Scr.ok .any [o0, o1, o2, o3, o4, o5, o6, o7, o8, o9, o10, o11, o12, o13, o14, o15, o16, o17, o18].toArray [0, 2, 4, 5, 8, 9, 11, 12] [1, 3, 7, 14, 15, 17, 18] (.free 1 (.free 3 (.read 0 (.read 2 (.read 4 (.read 5 (.alt 6 (.free 7 (.read 8 (.read 9 (.read 11 (.read 12 (.alt 10 (.altc 13 (.free 14 (.free 15 (.altc 16 (.free 17 (.free 18 .done)) .stop))) .stop) .stop)))))) .stop))))))) true true [o0, o1, o2, o3, o4, o5, o6, o7, o8, o9, o10, o11, o12, o13, o14, o15, o16, o17, o18].toArray.size (Array.replicate [o0, o1, o2, o3, o4, o5, o6, o7, o8, o9, o10, o11, o12, o13, o14, o15, o16, o17, o18].toArray.size false)) = true → (Code.region id [o0, o1, o2, o3, o4, o5, o6, o7, o8, o9, o10, o11, o12, o13, o14, o15, o16, o17, o18].toArray true).wp P Q a w) : (Code.region id [o0, o1, o2, o3, o4, o5, o6, o7, o8, o9, o10, o11, o12, o13, o14, o15, o16, o17, o18].toArray true).wp P Q a w := h hB
theorem rg5_9 {P : Program} {B n : Nat} {w0 : World} {L : List (Nat × Nat × Value)} {E F : World → Prop} {id : Nat} {Q : Exit → Act → World → Prop} {a : Act} {w : World} {o0 o1 o2 o3 o4 o5 o6 o7 o8 o9 o10 o11 o12 o13 o14 o15 o16 o17 o18 : Oper} (hm : P.follows .mixedOrders = true)
    (hB : (Region.noSelect [o0, o1, o2, o3, o4, o5, o6, o7, o8, o9, o10, o11, o12, o13, o14, o15, o16, o17, o18].toArray && Scr.ok .any [o0, o1, o2, o3, o4, o5, o6, o7, o8, o9, o10, o11, o12, o13, o14, o15, o16, o17, o18].toArray [0, 2, 4, 5, 8, 9, 11, 12] [1, 3, 7, 14, 15, 17, 18] (.free 1 (.free 3 (.read 0 (.read 2 (.read 4 (.read 5 (.alt 6 (.free 7 (.read 8 (.read 9 (.read 11 (.read 12 (.alt 10 (.altc 13 (.free 14 (.free 15 (.altc 16 (.free 17 (.free 18 .done)) .stop))) .stop) .stop)))))) .stop))))))) true true [o0, o1, o2, o3, o4, o5, o6, o7, o8, o9, o10, o11, o12, o13, o14, o15, o16, o17, o18].toArray.size (Array.replicate [o0, o1, o2, o3, o4, o5, o6, o7, o8, o9, o10, o11, o12, o13, o14, o15, o16, o17, o18].toArray.size false)) = true)
    (k : Kept B w0 n L w) (he : E w) (hE : ∀ W W', E W → Below W.heap.size W W' → E W') (hf : F w) (hF : ∀ W W', F W → Below W.heap.size W W' → F W')
    (h : ∀ wk, Kept B w0 n L wk → E wk → F wk → wpQuiet P [o0, o1, o2, o3, o4, o5, o6, o7, o8, o9, o10, o11, o12, o13, o14, o15, o16, o17, o18].toArray (fun _ => True) (fun a0 => wpQuiet P [o0, o1, o2, o3, o4, o5, o6, o7, o8, o9, o10, o11, o12, o13, o14, o15, o16, o17, o18].toArray (fun w' => ∃ s : KX B w0 n L E, w' = s.val) (fun a1 => ((∀ K2 : Act → World → Prop, (∀ a2 w2, wpQuiet P [o0, o1, o2, o3, o4, o5, o6, o7, o8, o9, o10, o11, o12, o13, o14, o15, o16, o17, o18].toArray (fun _ => True) (fun a3 => wpQuiet P [o0, o1, o2, o3, o4, o5, o6, o7, o8, o9, o10, o11, o12, o13, o14, o15, o16, o17, o18].toArray (fun w' => ∃ s : KX B w0 n L E, w' = s.val) (fun a4 => ((∀ K5 : Act → World → Prop, (∀ a5 w5, ((∀ K6 : Act → World → Prop, (∀ a6 w6, wpQuiet P [o0, o1, o2, o3, o4, o5, o6, o7, o8, o9, o10, o11, o12, o13, o14, o15, o16, o17, o18].toArray (fun _ => True) (fun a7 => ((∀ K8 : Act → World → Prop, (∀ a8 w8, wpQuiet P [o0, o1, o2, o3, o4, o5, o6, o7, o8, o9, o10, o11, o12, o13, o14, o15, o16, o17, o18].toArray (fun _ => True) (fun a9 => Q .normal a9 w8) [o17, o18] a8 → K8 a8 w8) → wpList P [o0, o1, o2, o3, o4, o5, o6, o7, o8, o9, o10, o11, o12, o13, o14, o15, o16, o17, o18].toArray (fun e a8 w8 => e = .normal ∧ K8 a8 w8) [o16] a7 w6) ∧ True)) [o14, o15] a6 → K6 a6 w6) → wpList P [o0, o1, o2, o3, o4, o5, o6, o7, o8, o9, o10, o11, o12, o13, o14, o15, o16, o17, o18].toArray (fun e a6 w6 => e = .normal ∧ K6 a6 w6) [o13] a5 w5) ∧ True) → K5 a5 w5) → wpList P [o0, o1, o2, o3, o4, o5, o6, o7, o8, o9, o10, o11, o12, o13, o14, o15, o16, o17, o18].toArray (fun e a5 w5 => e = .normal ∧ (∃ s : KX B w0 n L E, w5 = s.val) ∧ K5 a5 w5) [o10] a4 w2) ∧ True)) [o8, o9, o11, o12] a3) [o7] a2 → K2 a2 w2) → wpList P [o0, o1, o2, o3, o4, o5, o6, o7, o8, o9, o10, o11, o12, o13, o14, o15, o16, o17, o18].toArray (fun e a2 w2 => e = .normal ∧ (∃ s : KX B w0 n L E, w2 = s.val) ∧ K2 a2 w2) [o6] a1 wk) ∧ True)) [o0, o2, o4, o5] a0) [o1, o3] a) : (Code.region id [o0, o1, o2, o3, o4, o5, o6, o7, o8, o9, o10, o11, o12, o13, o14, o15, o16, o17, o18].toArray true).wp P Q a w := by
  have e1 : E w.drew := hE _ _ he ((Below.refl _ _).drew)
  have g := h _ k.drew e1 (hF _ _ hf ((Below.refl _ _).drew))
  exact wp_region_scr (U := (fun w' => ∃ s : KX B w0 n L E, w' = s.val)) (ops := [o0, o1, o2, o3, o4, o5, o6, o7, o8, o9, o10, o11, o12, o13, o14, o15, o16, o17, o18].toArray) (.free 1 (.free 3 (.read 0 (.read 2 (.read 4 (.read 5 (.alt 6 (.free 7 (.read 8 (.read 9 (.read 11 (.read 12 (.alt 10 (.altc 13 (.free 14 (.free 15 (.altc 16 (.free 17 (.free 18 .done)) .stop))) .stop) .stop)))))) .stop))))))) [0, 2, 4, 5, 8, 9, 11, 12] [1, 3, 7, 14, 15, 17, 18] hm hB ⟨⟨_, k.drew, e1⟩, rfl⟩ (Scr.of_free rfl g (fun _ g0 => Scr.of_free rfl g0 (fun _ g1 => Scr.of_read rfl g1 (fun _ g2 => Scr.of_read rfl g2 (fun _ g3 => Scr.of_read rfl g3 (fun _ g4 => Scr.of_read rfl g4 (fun _ g5 => (Scr.of_alt rfl (g5.1 _ (fun _ _ g => g)) (fun _ _ g6 => Scr.of_free rfl g6 (fun _ g7 => Scr.of_read rfl g7 (fun _ g8 => Scr.of_read rfl g8 (fun _ g9 => Scr.of_read rfl g9 (fun _ g10 => Scr.of_read rfl g10 (fun _ g11 => (Scr.of_alt rfl (g11.1 _ (fun _ _ g => g)) (fun _ _ g12 => (Scr.of_altc rfl (g12.1 _ (fun _ _ g => g)) (fun _ _ g13 => Scr.of_free rfl g13 (fun _ g14 => Scr.of_free rfl g14 (fun _ g15 => (Scr.of_altc rfl (g15.1 _ (fun _ _ g => g)) (fun _ _ g16 => Scr.of_free rfl g16 (fun _ g17 => Scr.of_free rfl g17 (fun _ g18 => g18))) trivial)))) trivial)) trivial))))))) trivial))))))))
theorem Tiny.ok {B : Bd} (h : B.Tiny) (hi : B.I) : B.Ok := by
  have z : ∀ p z, ((B.seat p).zs z).length ≤ 1000 := fun p z => by
    have e : ∃ p' z', p' < 2 ∧ z' < 4 ∧ (B.seat p).zs z = (B.seat p').zs z' := by
      refine ⟨if p = 0 then 0 else 1, if z = 0 then 0 else if z = 1 then 1 else if z = 2 then 2 else 3, ?_, ?_, ?_⟩
      · split <;> omega
      · split <;> (try split) <;> (try split) <;> omega
      · unfold Bd.seat Se.zs
        by_cases h0 : p = 0 <;> by_cases h1 : z = 0 <;> by_cases h2 : z = 1 <;> by_cases h3 : z = 2 <;> simp [h0, h1, h2, h3]
    obtain ⟨p', z', hp, hz, e⟩ := e
    rw [e]
    have := h.zs p' z' hp hz
    omega
  exact ⟨hi, ⟨z, by have := h.ob; omega, by have := h.st; omega, by have := h.qu; omega, by have := h.att; omega, by have := h.bl; omega⟩, fun x hx => by have := h.stt x hx; omega, fun x hx => by have := h.qut x hx; omega⟩
/-- the whole board is read, in a region that draws its order -/
theorem quiet_load_bx {C : World → Prop} {K : Act → Prop} {a a' : Act} {op : Oper} {P : Nat} {s : Bs} {B : Bd} (x : Operand) (ho : op.op = .load 39 x) (hx : a.eval x = .pointer (some ⟨P, 0, none⟩)) (h : ∀ w, C w → Bx w P s B) (ha : a.put op.dst (bv s B) = a') (hk : K a') : op.quiet Tryd.prog a C K := by
  subst ha
  refine ⟨bv s B, fun w hw => ?_, hk⟩
  have e := (h w hw).load
  have r : (execOp a.eval op).run Tryd.prog w = .ok (.value (bv s B)) w := by
    unfold execOp
    rw [ho]
    show (Bind.bind (Instr.loadAt 39 (a.eval x)) (fun v => pure (Next.value v)) : Sem Next).run Tryd.prog w = _
    rw [hx, Sem.run_bind, e]
    rfl
  unfold Oper.quietAt
  rw [r]
  exact ⟨rfl, rfl⟩
set_option maxRecDepth 100000 in
set_option maxHeartbeats 4000000 in
theorem begins_ok (s : Bs) (B : Bd) (w : World) (h : BdR w s B) (hi : B.I) (hwd : Wds w) (hv : VB B) (ht : ¬ B.tu = 1000) : Calls Tryd.prog 5 #[bv s B] w fun e w' => e = .returned (.bool true) ∧ Below w.heap.size w w' := by
  have HV := Lib.hid hv
  have HT := Lib.hid ht
  clear hv ht
  go_enter Tryd.func5, Tryd.ntmps5
  go_upto_region 1 with fail
  change Code.wp Tryd.prog _ _ _ (w.alloc (.cells (bcells s B) 39))
  obtain ⟨w0, hw0⟩ : ∃ W, W = w.alloc (.cells (bcells s B) 39) := ⟨_, rfl⟩
  have hb : Below w.heap.size w w0 := by rw [hw0]; exact (Below.refl _ _).alloc (Nat.le_refl _) _
  have HXb : Hid (Bx w0 w.heap.size s B) := Lib.hid (by rw [hw0]; exact heap_alloc_new _ _)
  have HB := Lib.hid hb
  have HR := Lib.hid h
  have HWD : Hid (Wds w0) := Lib.hid (hwd.below hb)
  rw [← hw0]
  clear hw0 hb h hwd
  go_wp2_with (refine wpList_load_bx _ rfl rfl HXb.out (by kernel_rfl) ?_)
  with_reducible refine (bsmall s B _ (HR.out.below HB.out)).mono ?_
  rintro e w1 ⟨⟨r, rfl, hr⟩, hb⟩
  replace HB := Lib.hid (below_via HB.out hb)
  replace HXb := Lib.hid (HXb.out.below hb)
  replace HWD := Lib.hid (HWD.out.below hb)
  clear hb
  cases r
  · go_wp2_with fail
    with_reducible refine (known _ HWD.out).mono ?_
    rintro e w2 ⟨rfl, hb⟩
    replace HB := Lib.hid (below_via HB.out hb)
    clear hb
    go_wp2_with fail
    go_returns
    exact ⟨rfl, HB.out⟩
  have HK : Hid B.Ok := Lib.hid (Tiny.ok (hr rfl) hi)
  clear hr hi
  go_upto_region 3 with fail
  have HXb1 : Hid (w.heap.size < w1.heap.size) := Lib.hid HXb.out.lt
  go_wp2_with (refine wpList_load_bx _ rfl rfl HXb.out (by kernel_rfl) ?_)
  with_reducible refine (rcopy s B _ (HR.out.below HB.out) HK.out.sm ⟨HK.out.st, HK.out.qu⟩).mono ?_
  rintro e w2 ⟨sw, rfl, ho, hb⟩
  replace HB := Lib.hid (below_via HB.out hb)
  replace HXb := Lib.hid (HXb.out.below hb)
  replace HWD := Lib.hid (HWD.out.below hb)
  have HOw := Lib.hid ho
  have HXb0 : Hid (w.heap.size < w1.heap.size) := Lib.hid HXb1.out
  have HSn : Hid (w1.heap.size ≤ w2.heap.size) := Lib.hid hb.size
  clear ho hb
  go_wp2_with (refine wpList_store_bh rfl _ _ rfl rfl rfl (heap_alloc_new _ _) rfl ?_)
  intro w3 hw0
  have hbx := boxed hw0.out
  have hb := hbx.1
  replace HB := Lib.hid (below_via HB.out hb)
  replace HXb := Lib.hid (HXb.out.below hb)
  replace HOw := Lib.hid (HOw.out.below hb)
  replace HWD := Lib.hid (HWD.out.below hb)
  have HXw := Lib.hid hbx.2
  clear hw0 hbx hb
  obtain ⟨nw, hnw⟩ : ∃ n, n = w2.heap.size := ⟨_, rfl⟩
  rw [← hnw] at HXw HOw ⊢
  have HRW := Lib.hid HOw.out.rd
  have HBW : Hid (Below w3.heap.size w3 w3) := Lib.hid (Below.refl _ _)
  have HLW : Hid (w.heap.size < nw ∧ nw < w3.heap.size) := Lib.hid ⟨by have h1 := HXb.out.lt; have h2 := HSn.out; have h3 := HXb0.out; omega, HXw.out.lt⟩
  clear HOw HSn hnw HXb0
  go_wp2_with (refine wpList_load_bx _ rfl rfl HXb.out (by kernel_rfl) ?_)
  with_reducible refine (begin_ok s B _ (HR.out.below HB.out) HK.out HV.out HT.out).mono ?_
  rintro e w4 ⟨sx, rfl, ho, hb⟩
  replace HB := Lib.hid (below_via HB.out hb)
  replace HBW := Lib.hid (below_via HBW.out hb)
  replace HXb := Lib.hid (HXb.out.below hb)
  replace HXw := Lib.hid (HXw.out.below hb)
  replace HWD := Lib.hid (HWD.out.below hb)
  have HOx := Lib.hid ho
  have HLX := Lib.hid hb.size
  clear ho hb
  go_wp2_with (refine wpList_store_bh rfl _ _ rfl rfl rfl (heap_alloc_new _ _) rfl ?_)
  intro w5 hw0
  have hbx := boxed hw0.out
  have hb := hbx.1
  replace HB := Lib.hid (below_via HB.out hb)
  replace HBW := Lib.hid (below_via HBW.out hb)
  replace HXb := Lib.hid (HXb.out.below hb)
  replace HXw := Lib.hid (HXw.out.below hb)
  replace HOx := Lib.hid (HOx.out.below hb)
  replace HWD := Lib.hid (HWD.out.below hb)
  have HXx := Lib.hid hbx.2
  clear hw0 hbx hb
  obtain ⟨nx, hnx⟩ : ∃ n, n = w4.heap.size := ⟨_, rfl⟩
  rw [← hnx] at HXx HOx HLX ⊢
  have HLX2' : Hid (nx < w5.heap.size) := Lib.hid HXx.out.lt
  clear hnx
  go_wp2_with (refine wpList_load_bx _ rfl rfl HXb.out (by kernel_rfl) ?_)
  with_reducible refine (close_ok s B _ (HR.out.below HB.out) HK.out HV.out).mono ?_
  rintro e w6 ⟨sy, rfl, ho, hb⟩
  replace HB := Lib.hid (below_via HB.out hb)
  replace HBW := Lib.hid (below_via HBW.out hb)
  replace HXb := Lib.hid (HXb.out.below hb)
  replace HXw := Lib.hid (HXw.out.below hb)
  replace HXx := Lib.hid (HXx.out.below hb)
  replace HOx := Lib.hid (HOx.out.below hb)
  replace HWD := Lib.hid (HWD.out.below hb)
  have HOy := Lib.hid ho
  have HLY := Lib.hid hb.size
  clear ho hb
  go_wp2_with (refine wpList_store_bh rfl _ _ rfl rfl rfl (heap_alloc_new _ _) rfl ?_)
  intro w7 hw0
  have hbx := boxed hw0.out
  have hb := hbx.1
  replace HB := Lib.hid (below_via HB.out hb)
  replace HBW := Lib.hid (below_via HBW.out hb)
  replace HXb := Lib.hid (HXb.out.below hb)
  replace HXw := Lib.hid (HXw.out.below hb)
  replace HXx := Lib.hid (HXx.out.below hb)
  replace HOx := Lib.hid (HOx.out.below hb)
  replace HOy := Lib.hid (HOy.out.below hb)
  replace HWD := Lib.hid (HWD.out.below hb)
  have HXy := Lib.hid hbx.2
  clear hw0 hbx hb
  obtain ⟨ny, hny⟩ : ∃ n, n = w6.heap.size := ⟨_, rfl⟩
  rw [← hny] at HXy HOy HLY ⊢
  clear hny
  have HLX2 : Hid (nx < w5.heap.size) := Lib.hid HLX2'.out
  clear HLX2'
  go_wp2_with (refine wpList_load_bx _ rfl rfl HXb.out (by kernel_rfl) ?_)
  with_reducible refine (brvalid s B _ (HR.out.below HB.out) HK.out.i HK.out.sm).mono ?_
  rintro e w8 ⟨⟨r, rfl, hr⟩, hb⟩
  obtain rfl : r = true := hr.2 HV.out
  clear hr
  replace HB := Lib.hid (below_via HB.out hb)
  replace HBW := Lib.hid (below_via HBW.out hb)
  replace HXb := Lib.hid (HXb.out.below hb)
  replace HXw := Lib.hid (HXw.out.below hb)
  replace HXx := Lib.hid (HXx.out.below hb)
  replace HXy := Lib.hid (HXy.out.below hb)
  replace HOx := Lib.hid (HOx.out.below hb)
  replace HOy := Lib.hid (HOy.out.below hb)
  replace HWD := Lib.hid (HWD.out.below hb)
  clear hb
  go_wp2_with (refine wpList_load_bx _ rfl rfl HXb.out (by kernel_rfl) ?_)
  with_reducible refine (rbegin_ok s B _ (HR.out.below HB.out) HK.out HV.out HT.out).mono ?_
  rintro e w9 ⟨st, rfl, ho, hb⟩
  have HLT : Hid (ny ≤ w8.heap.size ∧ w8.heap.size ≤ w9.heap.size) := Lib.hid ⟨Nat.le_of_lt HXy.out.lt, hb.size⟩
  replace HB := Lib.hid (below_via HB.out hb)
  replace HBW := Lib.hid (below_via HBW.out hb)
  replace HXb := Lib.hid (HXb.out.below hb)
  replace HXw := Lib.hid (HXw.out.below hb)
  replace HXx := Lib.hid (HXx.out.below hb)
  replace HXy := Lib.hid (HXy.out.below hb)
  replace HOx := Lib.hid (HOx.out.below hb)
  replace HOy := Lib.hid (HOy.out.below hb)
  replace HWD := Lib.hid (HWD.out.below hb)
  have HOt := Lib.hid ho
  clear ho hb
  obtain ⟨lt, hlt⟩ : ∃ n, n = w8.heap.size := ⟨_, rfl⟩
  rw [← hlt] at HOt HLT
  clear hlt
  go_wp2_with (refine wpList_store_bh rfl _ _ rfl rfl rfl (heap_alloc_new _ _) rfl ?_)
  intro w10 hw0
  have hbx := boxed hw0.out
  have hb := hbx.1
  replace HB := Lib.hid (below_via HB.out hb)
  replace HBW := Lib.hid (below_via HBW.out hb)
  replace HXb := Lib.hid (HXb.out.below hb)
  replace HXw := Lib.hid (HXw.out.below hb)
  replace HXx := Lib.hid (HXx.out.below hb)
  replace HXy := Lib.hid (HXy.out.below hb)
  replace HOx := Lib.hid (HOx.out.below hb)
  replace HOy := Lib.hid (HOy.out.below hb)
  replace HOt := Lib.hid (HOt.out.below hb)
  replace HWD := Lib.hid (HWD.out.below hb)
  have HXt := Lib.hid hbx.2
  clear hw0 hbx hb
  obtain ⟨nt, hnt⟩ : ∃ n, n = w9.heap.size := ⟨_, rfl⟩
  rw [← hnt] at HXt HOt HLT ⊢
  clear hnt
  have HK9 : Hid (Kept w.heap.size w w.heap.size [] w10) := Lib.hid ⟨HB.out, HB.out.size, by simp⟩
  have hz9 := HB.out.size
  go_upto_region 9 with fail
  refine rg5_9 (w0 := w) (B := w.heap.size) (n := w.heap.size) (L := []) (E := fun W => Bx W w.heap.size s (B) ∧ Bx W nw sw (B) ∧ Bx W nx sx (beB B) ∧ Bx W ny sy (clB B) ∧ Bx W nt st (beB B)) (F := fun W => Below w.heap.size w W ∧ Below w3.heap.size w3 W ∧ BdO w3.heap.size nx W sx (beB B) ∧ BdO w5.heap.size ny W sy (clB B) ∧ BdO lt nt W st (beB B) ∧ Wds W ∧ Bx W w.heap.size s (B) ∧ Bx W nw sw (B) ∧ Bx W nx sx (beB B) ∧ Bx W ny sy (clB B) ∧ Bx W nt st (beB B)) (by kernel_rfl) (by kernel_rfl) (HK9.out.step (by omega) (by go_grown)) ⟨HXb.out, HXw.out, HXx.out, HXy.out, HXt.out⟩ (fun _ _ h hb => ⟨(h.1).below hb, (h.2.1).below hb, (h.2.2.1).below hb, (h.2.2.2.1).below hb, (h.2.2.2.2).below hb⟩) ⟨HB.out, HBW.out, HOx.out, HOy.out, HOt.out, HWD.out, HXb.out, HXw.out, HXx.out, HXy.out, HXt.out⟩ (fun _ _ h hb => ⟨below_via (h.1) hb, below_via (h.2.1) hb, (h.2.2.1).below hb, (h.2.2.2.1).below hb, (h.2.2.2.2.1).below hb, (h.2.2.2.2.2.1).below hb, (h.2.2.2.2.2.2.1).below hb, (h.2.2.2.2.2.2.2.1).below hb, (h.2.2.2.2.2.2.2.2.1).below hb, (h.2.2.2.2.2.2.2.2.2.1).below hb, (h.2.2.2.2.2.2.2.2.2.2).below hb⟩) (fun w41 K_w41 E_w41 F_w41 => ?_)
  have _ne : Nonempty (KX (w.heap.size) w (w.heap.size) [] (fun W => Bx W w.heap.size s (B) ∧ Bx W nw sw (B) ∧ Bx W nx sx (beB B) ∧ Bx W ny sy (clB B) ∧ Bx W nt st (beB B))) := ⟨⟨_, K_w41, E_w41⟩⟩
  have qb : ∀ W', (∃ s' : KX (w.heap.size) w (w.heap.size) [] (fun W => Bx W w.heap.size s (B) ∧ Bx W nw sw (B) ∧ Bx W nx sx (beB B) ∧ Bx W ny sy (clB B) ∧ Bx W nt st (beB B)), W' = s'.val) → Bx W' w.heap.size s (B) := by rintro _ ⟨s', rfl⟩; exact s'.ex.1
  have qw : ∀ W', (∃ s' : KX (w.heap.size) w (w.heap.size) [] (fun W => Bx W w.heap.size s (B) ∧ Bx W nw sw (B) ∧ Bx W nx sx (beB B) ∧ Bx W ny sy (clB B) ∧ Bx W nt st (beB B)), W' = s'.val) → Bx W' nw sw (B) := by rintro _ ⟨s', rfl⟩; exact s'.ex.2.1
  have qx : ∀ W', (∃ s' : KX (w.heap.size) w (w.heap.size) [] (fun W => Bx W w.heap.size s (B) ∧ Bx W nw sw (B) ∧ Bx W nx sx (beB B) ∧ Bx W ny sy (clB B) ∧ Bx W nt st (beB B)), W' = s'.val) → Bx W' nx sx (beB B) := by rintro _ ⟨s', rfl⟩; exact s'.ex.2.2.1
  have qy : ∀ W', (∃ s' : KX (w.heap.size) w (w.heap.size) [] (fun W => Bx W w.heap.size s (B) ∧ Bx W nw sw (B) ∧ Bx W nx sx (beB B) ∧ Bx W ny sy (clB B) ∧ Bx W nt st (beB B)), W' = s'.val) → Bx W' ny sy (clB B) := by rintro _ ⟨s', rfl⟩; exact s'.ex.2.2.2.1
  have qt : ∀ W', (∃ s' : KX (w.heap.size) w (w.heap.size) [] (fun W => Bx W w.heap.size s (B) ∧ Bx W nw sw (B) ∧ Bx W nx sx (beB B) ∧ Bx W ny sy (clB B) ∧ Bx W nt st (beB B)), W' = s'.val) → Bx W' nt st (beB B) := by rintro _ ⟨s', rfl⟩; exact s'.ex.2.2.2.2
  repeat (first | (go_big_quiet_want; (first | apply quiet_load_bx _ rfl rfl qb | apply quiet_load_bx _ rfl rfl qw | apply quiet_load_bx _ rfl rfl qx | apply quiet_load_bx _ rfl rfl qy | apply quiet_load_bx _ rfl rfl qt); (focus (simp [go_sem]; rfl)); go_big_quiet_on) | go_big_quiet_step (fail))
  refine wpQuiet_nil ?_
  repeat (first | (go_big_quiet_want; (first | apply quiet_load_bx _ rfl rfl qb | apply quiet_load_bx _ rfl rfl qw | apply quiet_load_bx _ rfl rfl qx | apply quiet_load_bx _ rfl rfl qy | apply quiet_load_bx _ rfl rfl qt); (focus (simp [go_sem]; rfl)); go_big_quiet_on) | go_big_quiet_step (fail))
  refine wpQuiet_nil ?_
  have KH_w41 := Lib.hid K_w41
  have hw_w41 := K_w41.below
  have hz_w41 := K_w41.size
  clear K_w41
  have HB := Lib.hid (F_w41.1)
  have HBW := Lib.hid (F_w41.2.1)
  have HOx := Lib.hid (F_w41.2.2.1)
  have HOy := Lib.hid (F_w41.2.2.2.1)
  have HOt := Lib.hid (F_w41.2.2.2.2.1)
  have HWD := Lib.hid (F_w41.2.2.2.2.2.1)
  have HXb := Lib.hid (F_w41.2.2.2.2.2.2.1)
  have HXw := Lib.hid (F_w41.2.2.2.2.2.2.2.1)
  have HXx := Lib.hid (F_w41.2.2.2.2.2.2.2.2.1)
  have HXy := Lib.hid (F_w41.2.2.2.2.2.2.2.2.2.1)
  have HXt := Lib.hid (F_w41.2.2.2.2.2.2.2.2.2.2)
  clear E_w41 F_w41
  refine ⟨fun K hK0 => ?_, trivial⟩
  have hK := Lib.hid hK0
  clear hK0
  go_wp2_with fail
  have hb0 := HB.out.size
  have hbw0 := HBW.out.size
  have hl1 := HLX.out
  have hl2 := HLX2.out
  have hlw := HLW.out
  have hlt := HXx.out.lt
  with_reducible refine (gives sx st s sw (beB B) B 0 w3.heap.size nx _ HOx.out (by omega) HOt.out.rd (fun W hr => HR.out.below (Rng.below HB.out hr (by omega) hb0)) (fun W hr => HRW.out.below (Rng.below HBW.out hr (by omega) hbw0))).mono ?_
  rintro e v0 ⟨rfl, hr⟩
  clear hb0 hbw0 hl1 hl2 hlw hlt
  have hb0 := HB.out.size
  have hbw0 := HBW.out.size
  have hlw := HLW.out
  have hl1 := HLX.out
  have hl2 := HLX2.out
  have hl3 := HLY.out
  have hl4 := HLT.out
  have hxb := HXb.out.lt
  have hxw := HXw.out.lt
  have hxx := HXx.out.lt
  have hxy := HXy.out.lt
  have hxt := HXt.out.lt
  replace HB := Lib.hid (Rng.below HB.out hr (by omega) hb0)
  replace HBW := Lib.hid (Rng.below HBW.out hr (by omega) hbw0)
  replace HXb : Hid (Bx v0 w.heap.size s (B)) := Lib.hid ((hr.block _ hxb (by omega)).trans HXb.out)
  replace HXw : Hid (Bx v0 nw sw (B)) := Lib.hid ((hr.block _ hxw (by omega)).trans HXw.out)
  replace HXx : Hid (Bx v0 nx sx (beB B)) := Lib.hid ((hr.block _ hxx (by omega)).trans HXx.out)
  replace HXy : Hid (Bx v0 ny sy (clB B)) := Lib.hid ((hr.block _ hxy (by omega)).trans HXy.out)
  replace HXt : Hid (Bx v0 nt st (beB B)) := Lib.hid ((hr.block _ hxt (by omega)).trans HXt.out)
  replace HOy := Lib.hid (HOy.out.rng hr (by omega) (by omega))
  replace HWD := Lib.hid (HWD.out.rng hr (by omega))
  clear hb0 hbw0 hlw hl1 hl2 hl3 hl4 hxb hxw hxx hxy hxt
  clear hr
  go_wp2_with fail
  first | (refine ⟨rfl, ⟨⟨_, (⟨HB.out, HB.out.size, by simp⟩ : Kept w.heap.size w w.heap.size [] v0), ⟨HXb.out, HXw.out, HXx.out, HXy.out, HXt.out⟩⟩, rfl⟩, hK.out _ _ ?_⟩; clear hK K) | (refine ⟨⟨⟨_, (⟨HB.out, HB.out.size, by simp⟩ : Kept w.heap.size w w.heap.size [] v0), ⟨HXb.out, HXw.out, HXx.out, HXy.out, HXt.out⟩⟩, rfl⟩, hK.out _ _ ?_⟩; clear hK K)
  repeat (first | (go_big_quiet_want; (first | apply quiet_load_bx _ rfl rfl qb | apply quiet_load_bx _ rfl rfl qw | apply quiet_load_bx _ rfl rfl qx | apply quiet_load_bx _ rfl rfl qy | apply quiet_load_bx _ rfl rfl qt); (focus (simp [go_sem]; rfl)); go_big_quiet_on) | go_big_quiet_step (fail))
  refine wpQuiet_nil ?_
  repeat (first | (go_big_quiet_want; (first | apply quiet_load_bx _ rfl rfl qb | apply quiet_load_bx _ rfl rfl qw | apply quiet_load_bx _ rfl rfl qx | apply quiet_load_bx _ rfl rfl qy | apply quiet_load_bx _ rfl rfl qt); (focus (simp [go_sem]; rfl)); go_big_quiet_on) | go_big_quiet_step (fail))
  refine wpQuiet_nil ?_
  refine ⟨fun K hK0 => ?_, trivial⟩
  have hK := Lib.hid hK0
  clear hK0
  go_wp2_with fail
  with_reducible refine (rclose s B _ (HR.out.below HB.out) HK.out HV.out).mono ?_
  rintro e v1 ⟨sc, rfl, ho, hb⟩
  have HRC := Lib.hid ho.rd
  replace HB := Lib.hid (below_via HB.out hb)
  replace HBW := Lib.hid (below_via HBW.out hb)
  replace HOy := Lib.hid (HOy.out.below hb)
  replace HWD := Lib.hid (HWD.out.below hb)
  replace HXb := Lib.hid (HXb.out.below hb)
  replace HXw := Lib.hid (HXw.out.below hb)
  replace HXx := Lib.hid (HXx.out.below hb)
  replace HXy := Lib.hid (HXy.out.below hb)
  replace HXt := Lib.hid (HXt.out.below hb)
  clear ho hb
  go_wp2_with fail
  first | (refine ⟨rfl, ⟨⟨_, (⟨HB.out, HB.out.size, by simp⟩ : Kept w.heap.size w w.heap.size [] v1), ⟨HXb.out, HXw.out, HXx.out, HXy.out, HXt.out⟩⟩, rfl⟩, hK.out _ _ ?_⟩; clear hK K) | (refine ⟨⟨⟨_, (⟨HB.out, HB.out.size, by simp⟩ : Kept w.heap.size w w.heap.size [] v1), ⟨HXb.out, HXw.out, HXx.out, HXy.out, HXt.out⟩⟩, rfl⟩, hK.out _ _ ?_⟩; clear hK K)
  refine ⟨fun K hK0 => ?_, trivial⟩
  have hK := Lib.hid hK0
  clear hK0
  go_wp2_with fail
  have hb0 := HB.out.size
  have hbw0 := HBW.out.size
  have hl1 := HLX.out
  have hl2 := HLX2.out
  have hlw := HLW.out
  have hlt := HXy.out.lt
  with_reducible refine (gives sy sc s sw (clB B) B 0 w5.heap.size ny _ HOy.out (by omega) HRC.out (fun W hr => HR.out.below (Rng.below HB.out hr (by omega) hb0)) (fun W hr => HRW.out.below (Rng.below HBW.out hr (by omega) hbw0))).mono ?_
  rintro e v2 ⟨rfl, hr⟩
  clear hb0 hbw0 hl1 hl2 hlw hlt
  have hb0 := HB.out.size
  have hbw0 := HBW.out.size
  have hlw := HLW.out
  have hl1 := HLX.out
  have hl2 := HLX2.out
  have hl3 := HLY.out
  have hl4 := HLT.out
  have hxb := HXb.out.lt
  have hxw := HXw.out.lt
  have hxx := HXx.out.lt
  have hxy := HXy.out.lt
  have hxt := HXt.out.lt
  replace HB := Lib.hid (Rng.below HB.out hr (by omega) hb0)
  replace HBW := Lib.hid (Rng.below HBW.out hr (by omega) hbw0)
  replace HXb : Hid (Bx v2 w.heap.size s (B)) := Lib.hid ((hr.block _ hxb (by omega)).trans HXb.out)
  replace HXw : Hid (Bx v2 nw sw (B)) := Lib.hid ((hr.block _ hxw (by omega)).trans HXw.out)
  replace HXx : Hid (Bx v2 nx sx (beB B)) := Lib.hid ((hr.block _ hxx (by omega)).trans HXx.out)
  replace HXy : Hid (Bx v2 ny sy (clB B)) := Lib.hid ((hr.block _ hxy (by omega)).trans HXy.out)
  replace HXt : Hid (Bx v2 nt st (beB B)) := Lib.hid ((hr.block _ hxt (by omega)).trans HXt.out)
  replace HWD := Lib.hid (HWD.out.rng hr (by omega))
  clear hb0 hbw0 hlw hl1 hl2 hl3 hl4 hxb hxw hxx hxy hxt
  clear hr
  go_wp2_with fail
  first | (refine ⟨rfl, hK.out _ _ ?_⟩; clear hK K) | (refine hK.out _ _ ?_; clear hK K)
  repeat (first | (go_big_quiet_want; (first | apply quiet_load_bx _ rfl rfl qb | apply quiet_load_bx _ rfl rfl qw | apply quiet_load_bx _ rfl rfl qx | apply quiet_load_bx _ rfl rfl qy | apply quiet_load_bx _ rfl rfl qt); (focus (simp [go_sem]; rfl)); go_big_quiet_on) | go_big_quiet_step (fail))
  refine wpQuiet_nil ?_
  refine ⟨fun K hK0 => ?_, trivial⟩
  have hK := Lib.hid hK0
  clear hK0
  go_wp2_with fail
  with_reducible refine (known _ HWD.out).mono ?_
  rintro e v3 ⟨rfl, hb⟩
  replace HB := Lib.hid (below_via HB.out hb)
  replace HBW := Lib.hid (below_via HBW.out hb)
  replace HWD := Lib.hid (HWD.out.below hb)
  replace HXb := Lib.hid (HXb.out.below hb)
  replace HXw := Lib.hid (HXw.out.below hb)
  replace HXx := Lib.hid (HXx.out.below hb)
  replace HXy := Lib.hid (HXy.out.below hb)
  replace HXt := Lib.hid (HXt.out.below hb)
  clear hb
  go_wp2_with fail
  first | (refine ⟨rfl, hK.out _ _ ?_⟩; clear hK K) | (refine hK.out _ _ ?_; clear hK K)
  repeat (first | (go_big_quiet_want; (first | apply quiet_load_bx _ rfl rfl qb | apply quiet_load_bx _ rfl rfl qw | apply quiet_load_bx _ rfl rfl qx | apply quiet_load_bx _ rfl rfl qy | apply quiet_load_bx _ rfl rfl qt); (focus (simp [go_sem]; rfl)); go_big_quiet_on) | go_big_quiet_step (fail))
  refine wpQuiet_nil ?_
  clear _ne
  go_wp2_with fail
  go_returns
  exact ⟨rfl, HB.out⟩
set_option maxRecDepth 100000 in
set_option maxHeartbeats 4000000 in
theorem begins_end (s : Bs) (B : Bd) (w : World) (h : BdR w s B) (hi : B.I) (hwd : Wds w) (hv : VB B) (ht : B.tu = 1000) : Calls Tryd.prog 5 #[bv s B] w fun e w' => e = .returned (.bool true) ∧ Below w.heap.size w w' := by
  have HV := Lib.hid hv
  have HT := Lib.hid ht
  clear hv ht
  go_enter Tryd.func5, Tryd.ntmps5
  go_upto_region 1 with fail
  change Code.wp Tryd.prog _ _ _ (w.alloc (.cells (bcells s B) 39))
  obtain ⟨w0, hw0⟩ : ∃ W, W = w.alloc (.cells (bcells s B) 39) := ⟨_, rfl⟩
  have hb : Below w.heap.size w w0 := by rw [hw0]; exact (Below.refl _ _).alloc (Nat.le_refl _) _
  have HXb : Hid (Bx w0 w.heap.size s B) := Lib.hid (by rw [hw0]; exact heap_alloc_new _ _)
  have HB := Lib.hid hb
  have HR := Lib.hid h
  have HWD : Hid (Wds w0) := Lib.hid (hwd.below hb)
  rw [← hw0]
  clear hw0 hb h hwd
  go_wp2_with (refine wpList_load_bx _ rfl rfl HXb.out (by kernel_rfl) ?_)
  with_reducible refine (bsmall s B _ (HR.out.below HB.out)).mono ?_
  rintro e w1 ⟨⟨r, rfl, hr⟩, hb⟩
  replace HB := Lib.hid (below_via HB.out hb)
  replace HXb := Lib.hid (HXb.out.below hb)
  replace HWD := Lib.hid (HWD.out.below hb)
  clear hb
  cases r
  · go_wp2_with fail
    with_reducible refine (known _ HWD.out).mono ?_
    rintro e w2 ⟨rfl, hb⟩
    replace HB := Lib.hid (below_via HB.out hb)
    clear hb
    go_wp2_with fail
    go_returns
    exact ⟨rfl, HB.out⟩
  have HK : Hid B.Ok := Lib.hid (Tiny.ok (hr rfl) hi)
  clear hr hi
  go_upto_region 3 with fail
  have HXb1 : Hid (w.heap.size < w1.heap.size) := Lib.hid HXb.out.lt
  go_wp2_with (refine wpList_load_bx _ rfl rfl HXb.out (by kernel_rfl) ?_)
  with_reducible refine (rcopy s B _ (HR.out.below HB.out) HK.out.sm ⟨HK.out.st, HK.out.qu⟩).mono ?_
  rintro e w2 ⟨sw, rfl, ho, hb⟩
  replace HB := Lib.hid (below_via HB.out hb)
  replace HXb := Lib.hid (HXb.out.below hb)
  replace HWD := Lib.hid (HWD.out.below hb)
  have HOw := Lib.hid ho
  have HXb0 : Hid (w.heap.size < w1.heap.size) := Lib.hid HXb1.out
  have HSn : Hid (w1.heap.size ≤ w2.heap.size) := Lib.hid hb.size
  clear ho hb
  go_wp2_with (refine wpList_store_bh rfl _ _ rfl rfl rfl (heap_alloc_new _ _) rfl ?_)
  intro w3 hw0
  have hbx := boxed hw0.out
  have hb := hbx.1
  replace HB := Lib.hid (below_via HB.out hb)
  replace HXb := Lib.hid (HXb.out.below hb)
  replace HOw := Lib.hid (HOw.out.below hb)
  replace HWD := Lib.hid (HWD.out.below hb)
  have HXw := Lib.hid hbx.2
  clear hw0 hbx hb
  obtain ⟨nw, hnw⟩ : ∃ n, n = w2.heap.size := ⟨_, rfl⟩
  rw [← hnw] at HXw HOw ⊢
  have HRW := Lib.hid HOw.out.rd
  have HBW : Hid (Below w3.heap.size w3 w3) := Lib.hid (Below.refl _ _)
  have HLW : Hid (w.heap.size < nw ∧ nw < w3.heap.size) := Lib.hid ⟨by have h1 := HXb.out.lt; have h2 := HSn.out; have h3 := HXb0.out; omega, HXw.out.lt⟩
  clear HOw HSn hnw HXb0
  go_wp2_with (refine wpList_load_bx _ rfl rfl HXb.out (by kernel_rfl) ?_)
  with_reducible refine (begin_end s B _ (HR.out.below HB.out) HK.out HV.out HT.out).mono ?_
  rintro e w4 ⟨sx, rfl, ho, hb⟩
  replace HB := Lib.hid (below_via HB.out hb)
  replace HBW := Lib.hid (below_via HBW.out hb)
  replace HXb := Lib.hid (HXb.out.below hb)
  replace HXw := Lib.hid (HXw.out.below hb)
  replace HWD := Lib.hid (HWD.out.below hb)
  have HOx := Lib.hid ho
  have HLX := Lib.hid hb.size
  clear ho hb
  go_wp2_with (refine wpList_store_bh rfl _ _ rfl rfl rfl (heap_alloc_new _ _) rfl ?_)
  intro w5 hw0
  have hbx := boxed hw0.out
  have hb := hbx.1
  replace HB := Lib.hid (below_via HB.out hb)
  replace HBW := Lib.hid (below_via HBW.out hb)
  replace HXb := Lib.hid (HXb.out.below hb)
  replace HXw := Lib.hid (HXw.out.below hb)
  replace HOx := Lib.hid (HOx.out.below hb)
  replace HWD := Lib.hid (HWD.out.below hb)
  have HXx := Lib.hid hbx.2
  clear hw0 hbx hb
  obtain ⟨nx, hnx⟩ : ∃ n, n = w4.heap.size := ⟨_, rfl⟩
  rw [← hnx] at HXx HOx HLX ⊢
  have HLX2' : Hid (nx < w5.heap.size) := Lib.hid HXx.out.lt
  clear hnx
  go_wp2_with (refine wpList_load_bx _ rfl rfl HXb.out (by kernel_rfl) ?_)
  with_reducible refine (close_ok s B _ (HR.out.below HB.out) HK.out HV.out).mono ?_
  rintro e w6 ⟨sy, rfl, ho, hb⟩
  replace HB := Lib.hid (below_via HB.out hb)
  replace HBW := Lib.hid (below_via HBW.out hb)
  replace HXb := Lib.hid (HXb.out.below hb)
  replace HXw := Lib.hid (HXw.out.below hb)
  replace HXx := Lib.hid (HXx.out.below hb)
  replace HOx := Lib.hid (HOx.out.below hb)
  replace HWD := Lib.hid (HWD.out.below hb)
  have HOy := Lib.hid ho
  have HLY := Lib.hid hb.size
  clear ho hb
  go_wp2_with (refine wpList_store_bh rfl _ _ rfl rfl rfl (heap_alloc_new _ _) rfl ?_)
  intro w7 hw0
  have hbx := boxed hw0.out
  have hb := hbx.1
  replace HB := Lib.hid (below_via HB.out hb)
  replace HBW := Lib.hid (below_via HBW.out hb)
  replace HXb := Lib.hid (HXb.out.below hb)
  replace HXw := Lib.hid (HXw.out.below hb)
  replace HXx := Lib.hid (HXx.out.below hb)
  replace HOx := Lib.hid (HOx.out.below hb)
  replace HOy := Lib.hid (HOy.out.below hb)
  replace HWD := Lib.hid (HWD.out.below hb)
  have HXy := Lib.hid hbx.2
  clear hw0 hbx hb
  obtain ⟨ny, hny⟩ : ∃ n, n = w6.heap.size := ⟨_, rfl⟩
  rw [← hny] at HXy HOy HLY ⊢
  clear hny
  have HLX2 : Hid (nx < w5.heap.size) := Lib.hid HLX2'.out
  clear HLX2'
  go_wp2_with (refine wpList_load_bx _ rfl rfl HXb.out (by kernel_rfl) ?_)
  with_reducible refine (brvalid s B _ (HR.out.below HB.out) HK.out.i HK.out.sm).mono ?_
  rintro e w8 ⟨⟨r, rfl, hr⟩, hb⟩
  obtain rfl : r = true := hr.2 HV.out
  clear hr
  replace HB := Lib.hid (below_via HB.out hb)
  replace HBW := Lib.hid (below_via HBW.out hb)
  replace HXb := Lib.hid (HXb.out.below hb)
  replace HXw := Lib.hid (HXw.out.below hb)
  replace HXx := Lib.hid (HXx.out.below hb)
  replace HXy := Lib.hid (HXy.out.below hb)
  replace HOx := Lib.hid (HOx.out.below hb)
  replace HOy := Lib.hid (HOy.out.below hb)
  replace HWD := Lib.hid (HWD.out.below hb)
  clear hb
  go_wp2_with (refine wpList_load_bx _ rfl rfl HXb.out (by kernel_rfl) ?_)
  with_reducible refine (rbegin_end s B _ HT.out).mono ?_
  rintro e w9 ⟨st, rfl, ho, hb⟩
  have HLT : Hid (ny ≤ w8.heap.size ∧ w8.heap.size ≤ w9.heap.size) := Lib.hid ⟨Nat.le_of_lt HXy.out.lt, hb.size⟩
  replace HB := Lib.hid (below_via HB.out hb)
  replace HBW := Lib.hid (below_via HBW.out hb)
  replace HXb := Lib.hid (HXb.out.below hb)
  replace HXw := Lib.hid (HXw.out.below hb)
  replace HXx := Lib.hid (HXx.out.below hb)
  replace HXy := Lib.hid (HXy.out.below hb)
  replace HOx := Lib.hid (HOx.out.below hb)
  replace HOy := Lib.hid (HOy.out.below hb)
  replace HWD := Lib.hid (HWD.out.below hb)
  have HOt := Lib.hid ho
  clear ho hb
  obtain ⟨lt, hlt⟩ : ∃ n, n = w8.heap.size := ⟨_, rfl⟩
  rw [← hlt] at HOt HLT
  clear hlt
  go_wp2_with (refine wpList_store_bh rfl _ _ rfl rfl rfl (heap_alloc_new _ _) rfl ?_)
  intro w10 hw0
  have hbx := boxed hw0.out
  have hb := hbx.1
  replace HB := Lib.hid (below_via HB.out hb)
  replace HBW := Lib.hid (below_via HBW.out hb)
  replace HXb := Lib.hid (HXb.out.below hb)
  replace HXw := Lib.hid (HXw.out.below hb)
  replace HXx := Lib.hid (HXx.out.below hb)
  replace HXy := Lib.hid (HXy.out.below hb)
  replace HOx := Lib.hid (HOx.out.below hb)
  replace HOy := Lib.hid (HOy.out.below hb)
  replace HOt := Lib.hid (HOt.out.below hb)
  replace HWD := Lib.hid (HWD.out.below hb)
  have HXt := Lib.hid hbx.2
  clear hw0 hbx hb
  obtain ⟨nt, hnt⟩ : ∃ n, n = w9.heap.size := ⟨_, rfl⟩
  rw [← hnt] at HXt HOt HLT ⊢
  clear hnt
  have HK9 : Hid (Kept w.heap.size w w.heap.size [] w10) := Lib.hid ⟨HB.out, HB.out.size, by simp⟩
  have hz9 := HB.out.size
  go_upto_region 9 with fail
  refine rg5_9 (w0 := w) (B := w.heap.size) (n := w.heap.size) (L := []) (E := fun W => Bx W w.heap.size s (B) ∧ Bx W nw sw (B) ∧ Bx W nx sx (zeroB) ∧ Bx W ny sy (clB B) ∧ Bx W nt st (zeroB)) (F := fun W => Below w.heap.size w W ∧ Below w3.heap.size w3 W ∧ BdO w3.heap.size nx W sx (zeroB) ∧ BdO w5.heap.size ny W sy (clB B) ∧ BdO lt nt W st (zeroB) ∧ Wds W ∧ Bx W w.heap.size s (B) ∧ Bx W nw sw (B) ∧ Bx W nx sx (zeroB) ∧ Bx W ny sy (clB B) ∧ Bx W nt st (zeroB)) (by kernel_rfl) (by kernel_rfl) (HK9.out.step (by omega) (by go_grown)) ⟨HXb.out, HXw.out, HXx.out, HXy.out, HXt.out⟩ (fun _ _ h hb => ⟨(h.1).below hb, (h.2.1).below hb, (h.2.2.1).below hb, (h.2.2.2.1).below hb, (h.2.2.2.2).below hb⟩) ⟨HB.out, HBW.out, HOx.out, HOy.out, HOt.out, HWD.out, HXb.out, HXw.out, HXx.out, HXy.out, HXt.out⟩ (fun _ _ h hb => ⟨below_via (h.1) hb, below_via (h.2.1) hb, (h.2.2.1).below hb, (h.2.2.2.1).below hb, (h.2.2.2.2.1).below hb, (h.2.2.2.2.2.1).below hb, (h.2.2.2.2.2.2.1).below hb, (h.2.2.2.2.2.2.2.1).below hb, (h.2.2.2.2.2.2.2.2.1).below hb, (h.2.2.2.2.2.2.2.2.2.1).below hb, (h.2.2.2.2.2.2.2.2.2.2).below hb⟩) (fun w41 K_w41 E_w41 F_w41 => ?_)
  have _ne : Nonempty (KX (w.heap.size) w (w.heap.size) [] (fun W => Bx W w.heap.size s (B) ∧ Bx W nw sw (B) ∧ Bx W nx sx (zeroB) ∧ Bx W ny sy (clB B) ∧ Bx W nt st (zeroB))) := ⟨⟨_, K_w41, E_w41⟩⟩
  have qb : ∀ W', (∃ s' : KX (w.heap.size) w (w.heap.size) [] (fun W => Bx W w.heap.size s (B) ∧ Bx W nw sw (B) ∧ Bx W nx sx (zeroB) ∧ Bx W ny sy (clB B) ∧ Bx W nt st (zeroB)), W' = s'.val) → Bx W' w.heap.size s (B) := by rintro _ ⟨s', rfl⟩; exact s'.ex.1
  have qw : ∀ W', (∃ s' : KX (w.heap.size) w (w.heap.size) [] (fun W => Bx W w.heap.size s (B) ∧ Bx W nw sw (B) ∧ Bx W nx sx (zeroB) ∧ Bx W ny sy (clB B) ∧ Bx W nt st (zeroB)), W' = s'.val) → Bx W' nw sw (B) := by rintro _ ⟨s', rfl⟩; exact s'.ex.2.1
  have qx : ∀ W', (∃ s' : KX (w.heap.size) w (w.heap.size) [] (fun W => Bx W w.heap.size s (B) ∧ Bx W nw sw (B) ∧ Bx W nx sx (zeroB) ∧ Bx W ny sy (clB B) ∧ Bx W nt st (zeroB)), W' = s'.val) → Bx W' nx sx (zeroB) := by rintro _ ⟨s', rfl⟩; exact s'.ex.2.2.1
  have qy : ∀ W', (∃ s' : KX (w.heap.size) w (w.heap.size) [] (fun W => Bx W w.heap.size s (B) ∧ Bx W nw sw (B) ∧ Bx W nx sx (zeroB) ∧ Bx W ny sy (clB B) ∧ Bx W nt st (zeroB)), W' = s'.val) → Bx W' ny sy (clB B) := by rintro _ ⟨s', rfl⟩; exact s'.ex.2.2.2.1
  have qt : ∀ W', (∃ s' : KX (w.heap.size) w (w.heap.size) [] (fun W => Bx W w.heap.size s (B) ∧ Bx W nw sw (B) ∧ Bx W nx sx (zeroB) ∧ Bx W ny sy (clB B) ∧ Bx W nt st (zeroB)), W' = s'.val) → Bx W' nt st (zeroB) := by rintro _ ⟨s', rfl⟩; exact s'.ex.2.2.2.2
  repeat (first | (go_big_quiet_want; (first | apply quiet_load_bx _ rfl rfl qb | apply quiet_load_bx _ rfl rfl qw | apply quiet_load_bx _ rfl rfl qx | apply quiet_load_bx _ rfl rfl qy | apply quiet_load_bx _ rfl rfl qt); (focus (simp [go_sem]; rfl)); go_big_quiet_on) | go_big_quiet_step (fail))
  refine wpQuiet_nil ?_
  repeat (first | (go_big_quiet_want; (first | apply quiet_load_bx _ rfl rfl qb | apply quiet_load_bx _ rfl rfl qw | apply quiet_load_bx _ rfl rfl qx | apply quiet_load_bx _ rfl rfl qy | apply quiet_load_bx _ rfl rfl qt); (focus (simp [go_sem]; rfl)); go_big_quiet_on) | go_big_quiet_step (fail))
  refine wpQuiet_nil ?_
  have KH_w41 := Lib.hid K_w41
  have hw_w41 := K_w41.below
  have hz_w41 := K_w41.size
  clear K_w41
  have HB := Lib.hid (F_w41.1)
  have HBW := Lib.hid (F_w41.2.1)
  have HOx := Lib.hid (F_w41.2.2.1)
  have HOy := Lib.hid (F_w41.2.2.2.1)
  have HOt := Lib.hid (F_w41.2.2.2.2.1)
  have HWD := Lib.hid (F_w41.2.2.2.2.2.1)
  have HXb := Lib.hid (F_w41.2.2.2.2.2.2.1)
  have HXw := Lib.hid (F_w41.2.2.2.2.2.2.2.1)
  have HXx := Lib.hid (F_w41.2.2.2.2.2.2.2.2.1)
  have HXy := Lib.hid (F_w41.2.2.2.2.2.2.2.2.2.1)
  have HXt := Lib.hid (F_w41.2.2.2.2.2.2.2.2.2.2)
  clear E_w41 F_w41
  refine ⟨fun K hK0 => ?_, trivial⟩
  have hK := Lib.hid hK0
  clear hK0
  go_wp2_with fail
  have hb0 := HB.out.size
  have hbw0 := HBW.out.size
  have hl1 := HLX.out
  have hl2 := HLX2.out
  have hlw := HLW.out
  have hlt := HXx.out.lt
  with_reducible refine (gives sx st s sw (zeroB) B 3 w3.heap.size nx _ HOx.out (by omega) HOt.out.rd (fun W hr => HR.out.below (Rng.below HB.out hr (by omega) hb0)) (fun W hr => HRW.out.below (Rng.below HBW.out hr (by omega) hbw0))).mono ?_
  rintro e v0 ⟨rfl, hr⟩
  clear hb0 hbw0 hl1 hl2 hlw hlt
  have hb0 := HB.out.size
  have hbw0 := HBW.out.size
  have hlw := HLW.out
  have hl1 := HLX.out
  have hl2 := HLX2.out
  have hl3 := HLY.out
  have hl4 := HLT.out
  have hxb := HXb.out.lt
  have hxw := HXw.out.lt
  have hxx := HXx.out.lt
  have hxy := HXy.out.lt
  have hxt := HXt.out.lt
  replace HB := Lib.hid (Rng.below HB.out hr (by omega) hb0)
  replace HBW := Lib.hid (Rng.below HBW.out hr (by omega) hbw0)
  replace HXb : Hid (Bx v0 w.heap.size s (B)) := Lib.hid ((hr.block _ hxb (by omega)).trans HXb.out)
  replace HXw : Hid (Bx v0 nw sw (B)) := Lib.hid ((hr.block _ hxw (by omega)).trans HXw.out)
  replace HXx : Hid (Bx v0 nx sx (zeroB)) := Lib.hid ((hr.block _ hxx (by omega)).trans HXx.out)
  replace HXy : Hid (Bx v0 ny sy (clB B)) := Lib.hid ((hr.block _ hxy (by omega)).trans HXy.out)
  replace HXt : Hid (Bx v0 nt st (zeroB)) := Lib.hid ((hr.block _ hxt (by omega)).trans HXt.out)
  replace HOy := Lib.hid (HOy.out.rng hr (by omega) (by omega))
  replace HWD := Lib.hid (HWD.out.rng hr (by omega))
  clear hb0 hbw0 hlw hl1 hl2 hl3 hl4 hxb hxw hxx hxy hxt
  clear hr
  go_wp2_with fail
  first | (refine ⟨rfl, ⟨⟨_, (⟨HB.out, HB.out.size, by simp⟩ : Kept w.heap.size w w.heap.size [] v0), ⟨HXb.out, HXw.out, HXx.out, HXy.out, HXt.out⟩⟩, rfl⟩, hK.out _ _ ?_⟩; clear hK K) | (refine ⟨⟨⟨_, (⟨HB.out, HB.out.size, by simp⟩ : Kept w.heap.size w w.heap.size [] v0), ⟨HXb.out, HXw.out, HXx.out, HXy.out, HXt.out⟩⟩, rfl⟩, hK.out _ _ ?_⟩; clear hK K)
  repeat (first | (go_big_quiet_want; (first | apply quiet_load_bx _ rfl rfl qb | apply quiet_load_bx _ rfl rfl qw | apply quiet_load_bx _ rfl rfl qx | apply quiet_load_bx _ rfl rfl qy | apply quiet_load_bx _ rfl rfl qt); (focus (simp [go_sem]; rfl)); go_big_quiet_on) | go_big_quiet_step (fail))
  refine wpQuiet_nil ?_
  repeat (first | (go_big_quiet_want; (first | apply quiet_load_bx _ rfl rfl qb | apply quiet_load_bx _ rfl rfl qw | apply quiet_load_bx _ rfl rfl qx | apply quiet_load_bx _ rfl rfl qy | apply quiet_load_bx _ rfl rfl qt); (focus (simp [go_sem]; rfl)); go_big_quiet_on) | go_big_quiet_step (fail))
  refine wpQuiet_nil ?_
  refine ⟨fun K hK0 => ?_, trivial⟩
  have hK := Lib.hid hK0
  clear hK0
  go_wp2_with fail
  with_reducible refine (rclose s B _ (HR.out.below HB.out) HK.out HV.out).mono ?_
  rintro e v1 ⟨sc, rfl, ho, hb⟩
  have HRC := Lib.hid ho.rd
  replace HB := Lib.hid (below_via HB.out hb)
  replace HBW := Lib.hid (below_via HBW.out hb)
  replace HOy := Lib.hid (HOy.out.below hb)
  replace HWD := Lib.hid (HWD.out.below hb)
  replace HXb := Lib.hid (HXb.out.below hb)
  replace HXw := Lib.hid (HXw.out.below hb)
  replace HXx := Lib.hid (HXx.out.below hb)
  replace HXy := Lib.hid (HXy.out.below hb)
  replace HXt := Lib.hid (HXt.out.below hb)
  clear ho hb
  go_wp2_with fail
  first | (refine ⟨rfl, ⟨⟨_, (⟨HB.out, HB.out.size, by simp⟩ : Kept w.heap.size w w.heap.size [] v1), ⟨HXb.out, HXw.out, HXx.out, HXy.out, HXt.out⟩⟩, rfl⟩, hK.out _ _ ?_⟩; clear hK K) | (refine ⟨⟨⟨_, (⟨HB.out, HB.out.size, by simp⟩ : Kept w.heap.size w w.heap.size [] v1), ⟨HXb.out, HXw.out, HXx.out, HXy.out, HXt.out⟩⟩, rfl⟩, hK.out _ _ ?_⟩; clear hK K)
  refine ⟨fun K hK0 => ?_, trivial⟩
  have hK := Lib.hid hK0
  clear hK0
  go_wp2_with fail
  have hb0 := HB.out.size
  have hbw0 := HBW.out.size
  have hl1 := HLX.out
  have hl2 := HLX2.out
  have hlw := HLW.out
  have hlt := HXy.out.lt
  with_reducible refine (gives sy sc s sw (clB B) B 0 w5.heap.size ny _ HOy.out (by omega) HRC.out (fun W hr => HR.out.below (Rng.below HB.out hr (by omega) hb0)) (fun W hr => HRW.out.below (Rng.below HBW.out hr (by omega) hbw0))).mono ?_
  rintro e v2 ⟨rfl, hr⟩
  clear hb0 hbw0 hl1 hl2 hlw hlt
  have hb0 := HB.out.size
  have hbw0 := HBW.out.size
  have hlw := HLW.out
  have hl1 := HLX.out
  have hl2 := HLX2.out
  have hl3 := HLY.out
  have hl4 := HLT.out
  have hxb := HXb.out.lt
  have hxw := HXw.out.lt
  have hxx := HXx.out.lt
  have hxy := HXy.out.lt
  have hxt := HXt.out.lt
  replace HB := Lib.hid (Rng.below HB.out hr (by omega) hb0)
  replace HBW := Lib.hid (Rng.below HBW.out hr (by omega) hbw0)
  replace HXb : Hid (Bx v2 w.heap.size s (B)) := Lib.hid ((hr.block _ hxb (by omega)).trans HXb.out)
  replace HXw : Hid (Bx v2 nw sw (B)) := Lib.hid ((hr.block _ hxw (by omega)).trans HXw.out)
  replace HXx : Hid (Bx v2 nx sx (zeroB)) := Lib.hid ((hr.block _ hxx (by omega)).trans HXx.out)
  replace HXy : Hid (Bx v2 ny sy (clB B)) := Lib.hid ((hr.block _ hxy (by omega)).trans HXy.out)
  replace HXt : Hid (Bx v2 nt st (zeroB)) := Lib.hid ((hr.block _ hxt (by omega)).trans HXt.out)
  replace HWD := Lib.hid (HWD.out.rng hr (by omega))
  clear hb0 hbw0 hlw hl1 hl2 hl3 hl4 hxb hxw hxx hxy hxt
  clear hr
  go_wp2_with fail
  first | (refine ⟨rfl, hK.out _ _ ?_⟩; clear hK K) | (refine hK.out _ _ ?_; clear hK K)
  repeat (first | (go_big_quiet_want; (first | apply quiet_load_bx _ rfl rfl qb | apply quiet_load_bx _ rfl rfl qw | apply quiet_load_bx _ rfl rfl qx | apply quiet_load_bx _ rfl rfl qy | apply quiet_load_bx _ rfl rfl qt); (focus (simp [go_sem]; rfl)); go_big_quiet_on) | go_big_quiet_step (fail))
  refine wpQuiet_nil ?_
  refine ⟨fun K hK0 => ?_, trivial⟩
  have hK := Lib.hid hK0
  clear hK0
  go_wp2_with fail
  with_reducible refine (known _ HWD.out).mono ?_
  rintro e v3 ⟨rfl, hb⟩
  replace HB := Lib.hid (below_via HB.out hb)
  replace HBW := Lib.hid (below_via HBW.out hb)
  replace HWD := Lib.hid (HWD.out.below hb)
  replace HXb := Lib.hid (HXb.out.below hb)
  replace HXw := Lib.hid (HXw.out.below hb)
  replace HXx := Lib.hid (HXx.out.below hb)
  replace HXy := Lib.hid (HXy.out.below hb)
  replace HXt := Lib.hid (HXt.out.below hb)
  clear hb
  go_wp2_with fail
  first | (refine ⟨rfl, hK.out _ _ ?_⟩; clear hK K) | (refine hK.out _ _ ?_; clear hK K)
  repeat (first | (go_big_quiet_want; (first | apply quiet_load_bx _ rfl rfl qb | apply quiet_load_bx _ rfl rfl qw | apply quiet_load_bx _ rfl rfl qx | apply quiet_load_bx _ rfl rfl qy | apply quiet_load_bx _ rfl rfl qt); (focus (simp [go_sem]; rfl)); go_big_quiet_on) | go_big_quiet_step (fail))
  refine wpQuiet_nil ?_
  clear _ne
  go_wp2_with fail
  go_returns
  exact ⟨rfl, HB.out⟩
set_option maxRecDepth 100000 in
set_option maxHeartbeats 4000000 in
theorem close_bad (s : Bs) (B : Bd) (w : World) (h : BdR w s B) (hk : B.Ok) (hv : ¬ VB B) : Calls Tryd.prog 22 #[bv s B] w (CpA w zeroB) := by
  have HR := Lib.hid h
  have HK := Lib.hid hk
  have HV := Lib.hid hv
  clear h hk hv
  go_enter Tryd.func22, Tryd.ntmps22
  go_upto_region 1 with fail
  change Code.wp Tryd.prog _ _ _ ((w.alloc (.cells (bcells s B) 39)).alloc (.cells (bcells nilS zeroB) 39))
  obtain ⟨wz, hwz⟩ : ∃ W, W = (w.alloc (.cells (bcells s B) 39)).alloc (.cells (bcells nilS zeroB) 39) := ⟨_, rfl⟩
  have hsz : wz.heap.size = w.heap.size + 1 + 1 := by rw [hwz]; simp
  have b1 : Below w.heap.size w (w.alloc (.cells (bcells s B) 39)) := (Below.refl _ _).alloc (Nat.le_refl _) _
  have b2 : Below (w.alloc (.cells (bcells s B) 39)).heap.size (w.alloc (.cells (bcells s B) 39)) wz := by rw [hwz]; exact (Below.refl _ _).alloc (Nat.le_refl _) _
  have HX : Hid (Bx wz w.heap.size s B) := Lib.hid (Bx.below (w := w.alloc (.cells (bcells s B) 39)) (heap_alloc_new _ _) b2)
  have HZ : Hid (Bx wz (w.heap.size + 1) nilS zeroB) := Lib.hid (by rw [hwz, show w.heap.size + 1 = (w.alloc (.cells (bcells s B) 39)).heap.size by simp]; exact heap_alloc_new _ _)
  have HB : Hid (Below w.heap.size w wz) := Lib.hid (below_via b1 b2)
  rw [← hwz]
  clear hwz b1 b2
  clear hsz
  go_wp2_with (refine wpList_load_bx _ rfl rfl HX.out (by kernel_rfl) ?_)
  with_reducible refine (bvalid s B _ (HR.out.below HB.out) HK.out.i HK.out.sm).mono ?_
  rintro e w1 ⟨⟨r, rfl, hr⟩, hb⟩
  obtain rfl : r = false := by cases r with | false => rfl | true => exact absurd (hr.1 rfl) HV.out
  clear hr
  replace HX := Lib.hid (HX.out.below hb)
  replace HZ := Lib.hid (HZ.out.below hb)
  replace HB := Lib.hid (below_via HB.out hb)
  clear hb
  go_upto_region 2 with fail
  go_wp2_with (first | (refine wpList_store_bh (s := nilS) (B := zeroB) rfl _ _ rfl rfl rfl HZ.out rfl ?_; intro w9 hw9))
  have hg9 : Bx w9 (w.heap.size + 1) nilS (zeroB) := by rw [hw9.out]; exact Bx.row HZ.out _ _
  have ho9 : Onl [w.heap.size + 1] w1 w9 := by rw [hw9.out]; exact Onl.setRow (Onl.refl _ _) (.inl (by simp)) _
  have hb9 : Below w.heap.size w w9 := belowOnl HB.out ho9 (by simp) HB.out.size
  have HG9 := Lib.hid hg9
  have HPOST : Hid (CpA w (zeroB) (.returned (bv nilS (zeroB))) w9) := Lib.hid ⟨_, rfl, zeroOwn _ _ _, hb9⟩
  clear hw9 hg9 ho9 hb9
  go_wp2_with fail
  exact bodyPost_ret (v := bv nilS (zeroB)) (results_b0 Tryd.results22 _ _ HG9.out rfl) rfl HPOST.out
theorem givesV (sx sf sb : Bs) (B : Bd) (en : Int) (lo hi : Nat) (w : World) {v : Value} (hv : bv nilS zeroB = v) (hx : BdO lo hi w sx zeroB) (hhi : hi ≤ w.heap.size) (hf : ∀ W, Rng lo hi w W → BdR W sf B) (hb : ∀ W, Rng lo hi w W → BdR W sb B) : Calls Tryd.prog 18 #[bv sx zeroB, .int .i64 en, v, .int .i64 en, bv sf B, bv sb B] w fun e w' => e = .returned (.bool true) ∧ Rng lo hi w w' := by
  subst hv
  exact gives sx nilS sf sb zeroB B en lo hi w hx hhi (zeroOwn 0 0 _).rd hf hb
set_option maxRecDepth 100000 in
set_option maxHeartbeats 4000000 in
theorem begins_bad (s : Bs) (B : Bd) (w : World) (h : BdR w s B) (hi : B.I) (hwd : Wds w) (hv : ¬ VB B) : Calls Tryd.prog 5 #[bv s B] w fun e w' => e = .returned (.bool true) ∧ Below w.heap.size w w' := by
  have HV := Lib.hid hv
  clear hv
  go_enter Tryd.func5, Tryd.ntmps5
  go_upto_region 1 with fail
  change Code.wp Tryd.prog _ _ _ (w.alloc (.cells (bcells s B) 39))
  obtain ⟨w0, hw0⟩ : ∃ W, W = w.alloc (.cells (bcells s B) 39) := ⟨_, rfl⟩
  have hb : Below w.heap.size w w0 := by rw [hw0]; exact (Below.refl _ _).alloc (Nat.le_refl _) _
  have HXb : Hid (Bx w0 w.heap.size s B) := Lib.hid (by rw [hw0]; exact heap_alloc_new _ _)
  have HB := Lib.hid hb
  have HR := Lib.hid h
  have HWD : Hid (Wds w0) := Lib.hid (hwd.below hb)
  rw [← hw0]
  clear hw0 hb h hwd
  go_wp2_with (refine wpList_load_bx _ rfl rfl HXb.out (by kernel_rfl) ?_)
  with_reducible refine (bsmall s B _ (HR.out.below HB.out)).mono ?_
  rintro e w1 ⟨⟨r, rfl, hr⟩, hb⟩
  replace HB := Lib.hid (below_via HB.out hb)
  replace HXb := Lib.hid (HXb.out.below hb)
  replace HWD := Lib.hid (HWD.out.below hb)
  clear hb
  cases r
  · go_wp2_with fail
    with_reducible refine (known _ HWD.out).mono ?_
    rintro e w2 ⟨rfl, hb⟩
    replace HB := Lib.hid (below_via HB.out hb)
    clear hb
    go_wp2_with fail
    go_returns
    exact ⟨rfl, HB.out⟩
  have HK : Hid B.Ok := Lib.hid (Tiny.ok (hr rfl) hi)
  clear hr hi
  go_upto_region 3 with fail
  have HXb1 : Hid (w.heap.size < w1.heap.size) := Lib.hid HXb.out.lt
  go_wp2_with (refine wpList_load_bx _ rfl rfl HXb.out (by kernel_rfl) ?_)
  with_reducible refine (rcopy s B _ (HR.out.below HB.out) HK.out.sm ⟨HK.out.st, HK.out.qu⟩).mono ?_
  rintro e w2 ⟨sw, rfl, ho, hb⟩
  replace HB := Lib.hid (below_via HB.out hb)
  replace HXb := Lib.hid (HXb.out.below hb)
  replace HWD := Lib.hid (HWD.out.below hb)
  have HOw := Lib.hid ho
  have HXb0 : Hid (w.heap.size < w1.heap.size) := Lib.hid HXb1.out
  have HSn : Hid (w1.heap.size ≤ w2.heap.size) := Lib.hid hb.size
  clear ho hb
  go_wp2_with (refine wpList_store_bh rfl _ _ rfl rfl rfl (heap_alloc_new _ _) rfl ?_)
  intro w3 hw0
  have hbx := boxed hw0.out
  have hb := hbx.1
  replace HB := Lib.hid (below_via HB.out hb)
  replace HXb := Lib.hid (HXb.out.below hb)
  replace HOw := Lib.hid (HOw.out.below hb)
  replace HWD := Lib.hid (HWD.out.below hb)
  have HXw := Lib.hid hbx.2
  clear hw0 hbx hb
  obtain ⟨nw, hnw⟩ : ∃ n, n = w2.heap.size := ⟨_, rfl⟩
  rw [← hnw] at HXw HOw ⊢
  have HRW := Lib.hid HOw.out.rd
  have HBW : Hid (Below w3.heap.size w3 w3) := Lib.hid (Below.refl _ _)
  have HLW : Hid (w.heap.size < nw ∧ nw < w3.heap.size) := Lib.hid ⟨by have h1 := HXb.out.lt; have h2 := HSn.out; have h3 := HXb0.out; omega, HXw.out.lt⟩
  clear HOw HSn hnw HXb0
  go_wp2_with (refine wpList_load_bx _ rfl rfl HXb.out (by kernel_rfl) ?_)
  with_reducible refine (begin_bad s B _ (HR.out.below HB.out) HK.out HV.out).mono ?_
  rintro e w4 ⟨sx, rfl, ho, hb⟩
  replace HB := Lib.hid (below_via HB.out hb)
  replace HBW := Lib.hid (below_via HBW.out hb)
  replace HXb := Lib.hid (HXb.out.below hb)
  replace HXw := Lib.hid (HXw.out.below hb)
  replace HWD := Lib.hid (HWD.out.below hb)
  have HOx := Lib.hid ho
  have HLX := Lib.hid hb.size
  clear ho hb
  go_wp2_with (refine wpList_store_bh rfl _ _ rfl rfl rfl (heap_alloc_new _ _) rfl ?_)
  intro w5 hw0
  have hbx := boxed hw0.out
  have hb := hbx.1
  replace HB := Lib.hid (below_via HB.out hb)
  replace HBW := Lib.hid (below_via HBW.out hb)
  replace HXb := Lib.hid (HXb.out.below hb)
  replace HXw := Lib.hid (HXw.out.below hb)
  replace HOx := Lib.hid (HOx.out.below hb)
  replace HWD := Lib.hid (HWD.out.below hb)
  have HXx := Lib.hid hbx.2
  clear hw0 hbx hb
  obtain ⟨nx, hnx⟩ : ∃ n, n = w4.heap.size := ⟨_, rfl⟩
  rw [← hnx] at HXx HOx HLX ⊢
  have HLX2' : Hid (nx < w5.heap.size) := Lib.hid HXx.out.lt
  clear hnx
  go_wp2_with (refine wpList_load_bx _ rfl rfl HXb.out (by kernel_rfl) ?_)
  with_reducible refine (close_bad s B _ (HR.out.below HB.out) HK.out HV.out).mono ?_
  rintro e w6 ⟨sy, rfl, ho, hb⟩
  replace HB := Lib.hid (below_via HB.out hb)
  replace HBW := Lib.hid (below_via HBW.out hb)
  replace HXb := Lib.hid (HXb.out.below hb)
  replace HXw := Lib.hid (HXw.out.below hb)
  replace HXx := Lib.hid (HXx.out.below hb)
  replace HOx := Lib.hid (HOx.out.below hb)
  replace HWD := Lib.hid (HWD.out.below hb)
  have HOy := Lib.hid ho
  have HLY := Lib.hid hb.size
  clear ho hb
  go_wp2_with (refine wpList_store_bh rfl _ _ rfl rfl rfl (heap_alloc_new _ _) rfl ?_)
  intro w7 hw0
  have hbx := boxed hw0.out
  have hb := hbx.1
  replace HB := Lib.hid (below_via HB.out hb)
  replace HBW := Lib.hid (below_via HBW.out hb)
  replace HXb := Lib.hid (HXb.out.below hb)
  replace HXw := Lib.hid (HXw.out.below hb)
  replace HXx := Lib.hid (HXx.out.below hb)
  replace HOx := Lib.hid (HOx.out.below hb)
  replace HOy := Lib.hid (HOy.out.below hb)
  replace HWD := Lib.hid (HWD.out.below hb)
  have HXy := Lib.hid hbx.2
  clear hw0 hbx hb
  obtain ⟨ny, hny⟩ : ∃ n, n = w6.heap.size := ⟨_, rfl⟩
  rw [← hny] at HXy HOy HLY ⊢
  clear hny
  have HLX2 : Hid (nx < w5.heap.size) := Lib.hid HLX2'.out
  clear HLX2'
  go_wp2_with (refine wpList_load_bx _ rfl rfl HXb.out (by kernel_rfl) ?_)
  with_reducible refine (brvalid s B _ (HR.out.below HB.out) HK.out.i HK.out.sm).mono ?_
  rintro e w8 ⟨⟨r, rfl, hr⟩, hb⟩
  obtain rfl : r = false := by cases r with | false => rfl | true => exact absurd (hr.1 rfl) HV.out
  clear hr
  replace HB := Lib.hid (below_via HB.out hb)
  replace HBW := Lib.hid (below_via HBW.out hb)
  replace HXb := Lib.hid (HXb.out.below hb)
  replace HXw := Lib.hid (HXw.out.below hb)
  replace HXx := Lib.hid (HXx.out.below hb)
  replace HXy := Lib.hid (HXy.out.below hb)
  replace HOx := Lib.hid (HOx.out.below hb)
  replace HOy := Lib.hid (HOy.out.below hb)
  replace HWD := Lib.hid (HWD.out.below hb)
  clear hb
  go_wp2_with (first | (refine wpList_load_bx _ rfl rfl HXx.out (by kernel_rfl) ?_) | (refine wpList_load_bx _ rfl rfl HXb.out (by kernel_rfl) ?_) | (refine wpList_load_bx _ rfl rfl HXw.out (by kernel_rfl) ?_))
  have hb0 := HB.out.size
  have hbw0 := HBW.out.size
  have hl1 := HLX.out
  have hl2 := HLX2.out
  have hl3 := HLY.out
  have hlw := HLW.out
  have hxb := HXb.out.lt
  have hxw := HXw.out.lt
  have hxx := HXx.out.lt
  have hxy := HXy.out.lt
  with_reducible refine (givesV sx s sw B 2 w3.heap.size nx _ (by with_unfolding_all rfl) HOx.out (by omega) (fun W hr => HR.out.below (Rng.below HB.out hr (by omega) hb0)) (fun W hr => HRW.out.below (Rng.below HBW.out hr (by omega) hbw0))).mono ?_
  rintro e w9 ⟨rfl, hr⟩
  replace HB := Lib.hid (Rng.below HB.out hr (by omega) hb0)
  replace HBW := Lib.hid (Rng.below HBW.out hr (by omega) hbw0)
  replace HXb : Hid (Bx w9 w.heap.size s B) := Lib.hid ((hr.block _ hxb (by omega)).trans HXb.out)
  replace HXw : Hid (Bx w9 nw sw B) := Lib.hid ((hr.block _ hxw (by omega)).trans HXw.out)
  replace HXx : Hid (Bx w9 nx sx zeroB) := Lib.hid ((hr.block _ hxx (by omega)).trans HXx.out)
  replace HXy : Hid (Bx w9 ny sy zeroB) := Lib.hid ((hr.block _ hxy (by omega)).trans HXy.out)
  replace HOy := Lib.hid (HOy.out.rng hr (by omega) (by omega))
  replace HWD := Lib.hid (HWD.out.rng hr (by omega))
  clear hb0 hbw0 hl1 hl2 hl3 hlw hr hxb hxw hxx hxy
  go_wp2_with (first | (refine wpList_load_bx _ rfl rfl HXy.out (by kernel_rfl) ?_) | (refine wpList_load_bx _ rfl rfl HXb.out (by kernel_rfl) ?_) | (refine wpList_load_bx _ rfl rfl HXw.out (by kernel_rfl) ?_))
  have hb0 := HB.out.size
  have hbw0 := HBW.out.size
  have hl1 := HLX.out
  have hl2 := HLX2.out
  have hl3 := HLY.out
  have hlw := HLW.out
  have hxb := HXb.out.lt
  have hxw := HXw.out.lt
  have hxx := HXx.out.lt
  have hxy := HXy.out.lt
  with_reducible refine (givesV sy s sw B 0 w5.heap.size ny _ (by with_unfolding_all rfl) HOy.out (by omega) (fun W hr => HR.out.below (Rng.below HB.out hr (by omega) hb0)) (fun W hr => HRW.out.below (Rng.below HBW.out hr (by omega) hbw0))).mono ?_
  rintro e w10 ⟨rfl, hr⟩
  replace HB := Lib.hid (Rng.below HB.out hr (by omega) hb0)
  replace HBW := Lib.hid (Rng.below HBW.out hr (by omega) hbw0)
  replace HXb : Hid (Bx w10 w.heap.size s B) := Lib.hid ((hr.block _ hxb (by omega)).trans HXb.out)
  replace HXw : Hid (Bx w10 nw sw B) := Lib.hid ((hr.block _ hxw (by omega)).trans HXw.out)
  replace HXx : Hid (Bx w10 nx sx zeroB) := Lib.hid ((hr.block _ hxx (by omega)).trans HXx.out)
  replace HXy : Hid (Bx w10 ny sy zeroB) := Lib.hid ((hr.block _ hxy (by omega)).trans HXy.out)
  replace HWD := Lib.hid (HWD.out.rng hr (by omega))
  clear hb0 hbw0 hl1 hl2 hl3 hlw hr hxb hxw hxx hxy
  go_wp2_with fail
  with_reducible refine (known _ HWD.out).mono ?_
  rintro e w11 ⟨rfl, hb⟩
  replace HB := Lib.hid (below_via HB.out hb)
  clear hb
  go_wp2_with fail
  go_returns
  exact ⟨rfl, HB.out⟩
theorem begins (s : Bs) (B : Bd) (w : World) (h : BdR w s B) (hi : B.I) (hwd : Wds w) : Calls Tryd.prog 5 #[bv s B] w fun e w' => e = .returned (.bool true) ∧ Below w.heap.size w w' := by
  by_cases hv : VB B
  · by_cases ht : B.tu = 1000
    · exact begins_end s B w h hi hwd hv ht
    · exact begins_ok s B w h hi hwd hv ht
  · exact begins_bad s B w h hi hwd hv
end Go.Proofs.YtkkpckkkcclhhaaDoor
