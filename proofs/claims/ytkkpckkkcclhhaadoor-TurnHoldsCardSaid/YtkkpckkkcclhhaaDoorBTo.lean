/- All objects on the battlefield of a player are changed. -/
import Derived.Test.YtkkpckkkcclhhaaDoorBSa
import Derived.Test.YtkkpckkkcclhhaaDoorBPt
import Derived.Test.YtkkpckkkcclhhaaDoorBFg
import Derived.Deep.DeepCutAuto
import Derived.LoopTactic
import Derived.Deep.MidRow
namespace Go.Proofs.YtkkpckkkcclhhaaDoor
open Go.RowKit Plain
set_option linter.unusedVariables false
set_option linter.unusedSimpArgs false

set_option maxRecDepth 100000 in
set_option maxHeartbeats 4000000 in
theorem ountap (o : Ob) (w : World) : Calls Tryd.prog 38 #[.agg #[.int .i64 o.id, .int .i64 o.cd, .int .i64 o.ow, .int .i64 o.po, .int .i64 o.tg, .int .i64 o.da, .int .i64 o.co, .int .i64 o.pp, .int .i64 o.pt, .bool o.ta, .bool o.si, .bool o.dm]] w fun e w' => e = .returned (.agg #[.int .i64 o.id, .int .i64 o.cd, .int .i64 o.ow, .int .i64 o.po, .int .i64 o.tg, .int .i64 o.da, .int .i64 o.co, .int .i64 o.pp, .int .i64 o.pt, .bool false, .bool false, .bool o.dm]) ∧ Below w.heap.size w w' := by
  go_enter Tryd.func38, Tryd.ntmps38
  go_wp2_with fail
  exact bodyPost_ret (v := .agg #[.int .i64 o.id, .int .i64 o.cd, .int .i64 o.ow, .int .i64 o.po, .int .i64 o.tg, .int .i64 o.da, .int .i64 o.co, .int .i64 o.pp, .int .i64 o.pt, .bool false, .bool false, .bool o.dm]) (by simp [results, Tryd.results38, go_sem]) rfl ⟨rfl, by go_grown⟩

set_option maxRecDepth 100000 in
set_option maxHeartbeats 4000000 in
theorem orest (o : Ob) (w : World) : Calls Tryd.prog 39 #[.agg #[.int .i64 o.id, .int .i64 o.cd, .int .i64 o.ow, .int .i64 o.po, .int .i64 o.tg, .int .i64 o.da, .int .i64 o.co, .int .i64 o.pp, .int .i64 o.pt, .bool o.ta, .bool o.si, .bool o.dm]] w fun e w' => e = .returned (.agg #[.int .i64 o.id, .int .i64 o.cd, .int .i64 o.ow, .int .i64 o.po, .int .i64 o.tg, .int .i64 0, .int .i64 o.co, .int .i64 0, .int .i64 0, .bool o.ta, .bool o.si, .bool o.dm]) ∧ Below w.heap.size w w' := by
  go_enter Tryd.func39, Tryd.ntmps39
  go_wp2_with fail
  exact bodyPost_ret (v := .agg #[.int .i64 o.id, .int .i64 o.cd, .int .i64 o.ow, .int .i64 o.po, .int .i64 o.tg, .int .i64 0, .int .i64 o.co, .int .i64 0, .int .i64 0, .bool o.ta, .bool o.si, .bool o.dm]) (by simp [results, Tryd.results39, go_sem]) rfl ⟨rfl, by go_grown⟩

set_option maxRecDepth 100000 in
set_option maxHeartbeats 4000000 in
theorem runtap (o : Ob) (w : World) : Calls Tryd.prog 40 #[.agg #[.int .i64 o.id, .int .i64 o.cd, .int .i64 o.ow, .int .i64 o.po, .int .i64 o.tg, .int .i64 o.da, .int .i64 o.co, .int .i64 o.pp, .int .i64 o.pt, .bool o.ta, .bool o.si, .bool o.dm]] w fun e w' => e = .returned (.agg #[.int .i64 o.id, .int .i64 o.cd, .int .i64 o.ow, .int .i64 o.po, .int .i64 o.tg, .int .i64 o.da, .int .i64 o.co, .int .i64 o.pp, .int .i64 o.pt, .bool false, .bool false, .bool o.dm]) ∧ Below w.heap.size w w' := by
  go_enter Tryd.func40, Tryd.ntmps40
  go_wp2_with fail
  exact bodyPost_ret (v := .agg #[.int .i64 o.id, .int .i64 o.cd, .int .i64 o.ow, .int .i64 o.po, .int .i64 o.tg, .int .i64 o.da, .int .i64 o.co, .int .i64 o.pp, .int .i64 o.pt, .bool false, .bool false, .bool o.dm]) (by simp [results, Tryd.results40, go_sem]) rfl ⟨rfl, by go_grown⟩

set_option maxRecDepth 100000 in
set_option maxHeartbeats 4000000 in
theorem rrest (o : Ob) (w : World) : Calls Tryd.prog 41 #[.agg #[.int .i64 o.id, .int .i64 o.cd, .int .i64 o.ow, .int .i64 o.po, .int .i64 o.tg, .int .i64 o.da, .int .i64 o.co, .int .i64 o.pp, .int .i64 o.pt, .bool o.ta, .bool o.si, .bool o.dm]] w fun e w' => e = .returned (.agg #[.int .i64 o.id, .int .i64 o.cd, .int .i64 o.ow, .int .i64 o.po, .int .i64 o.tg, .int .i64 0, .int .i64 o.co, .int .i64 0, .int .i64 0, .bool o.ta, .bool o.si, .bool o.dm]) ∧ Below w.heap.size w w' := by
  go_enter Tryd.func41, Tryd.ntmps41
  go_wp2_with fail
  exact bodyPost_ret (v := .agg #[.int .i64 o.id, .int .i64 o.cd, .int .i64 o.ow, .int .i64 o.po, .int .i64 o.tg, .int .i64 0, .int .i64 o.co, .int .i64 0, .int .i64 0, .bool o.ta, .bool o.si, .bool o.dm]) (by simp [results, Tryd.results41, go_sem]) rfl ⟨rfl, by go_grown⟩

/-- the objects' row is changed -/
theorem BdO.setOb {lo hi : Nat} {w w' : World} {s : Bs} {B : Bd} {l : List Ob} (h : BdO lo hi w s B) {g : Nat} (hg : s.ob.v.ownBlock = some g) (ho : Onl [g] w w') (hn : Ox oc 12 57 lo hi w' s.ob.v l) : BdO lo hi w' s { B with ob := l } := by
  obtain ⟨_, _, cur, hc⟩ := h.ob.1.typ g hg
  have key : ∀ {γ : Type} {f' : γ → List Value} {sz' : Nat} {e' : TypeId} {v' : Value} {m : List γ}, 57 ≠ e' → Ox f' sz' e' lo hi w v' m → Ox f' sz' e' lo hi w' v' m := fun he h2 => h2.keep (fun k a b hb => ho.block k (h2.blk hb).2.2 (fun hm => by
    simp at hm
    subst hm
    obtain ⟨_, _, c, hc2⟩ := h2.1.typ _ hb
    rw [hc] at hc2
    simp at hc2
    exact he hc2.2))
  exact ⟨hn, fun j hj => key (by decide) (h.il j hj), h.nd, h.st.onlT ho hc (by decide) (by decide), h.qu.onlT ho hc (by decide) (by decide), h.ns, key (by decide) (h.bl)⟩
theorem BdO.ob_eq {lo hi : Nat} {w : World} {s : Bs} {B : Bd} (h : BdO lo hi w s B) : BdO lo hi w s { B with ob := B.ob } := h
/-- a unit's answer: the box P holds a board of our own -/
def EvA (P : Nat) (s : Bs) (B : Bd) (lo hi : Nat) (w : World) (e : Ending) (w' : World) : Prop := e = .returned (.tuple #[]) ∧ Bx w' P s B ∧ BdO lo hi w' s B ∧ Rng lo hi w w'
def EvL (P : Nat) (s : Bs) (B : Bd) (lo hi : Nat) (g : Ob → Ob) (w : World) (i : Value) (wr : World) : Prop := ∃ k : Nat, k ≤ B.ob.length ∧ i = .int .i64 k ∧ Bx wr P s B ∧ BdO lo hi wr s { B with ob := mapTo g k B.ob } ∧ Rng lo hi w wr
theorem rg37_3 {P : Program} {B n : Nat} {w0 : World} {L : List (Nat × Nat × Value)} {E F : World → Prop} {id : Nat} {Q : Exit → Act → World → Prop} {a : Act} {w : World} {o0 o1 o2 o3 o4 o5 o6 o7 o8 o9 : Oper} (hm : P.follows .mixedOrders = true)
    (hB : (Region.noSelect [o0, o1, o2, o3, o4, o5, o6, o7, o8, o9].toArray && Scr.ok .any [o0, o1, o2, o3, o4, o5, o6, o7, o8, o9].toArray [6, 8] [0, 1, 2, 3, 4, 5, 7] (.free 0 (.free 1 (.free 2 (.free 3 (.free 4 (.free 5 (.free 7 (.read 6 (.read 8 (.altc 9 .done .stop)))))))))) true true [o0, o1, o2, o3, o4, o5, o6, o7, o8, o9].toArray.size (Array.replicate [o0, o1, o2, o3, o4, o5, o6, o7, o8, o9].toArray.size false)) = true)
    (k : Kept B w0 n L w) (he : E w) (hE : ∀ W W', E W → Below W.heap.size W W' → E W') (hf : F w) (hF : ∀ W W', F W → Below W.heap.size W W' → F W')
    (h : ∀ wk, Kept B w0 n L wk → E wk → F wk → wpQuiet P [o0, o1, o2, o3, o4, o5, o6, o7, o8, o9].toArray (fun _ => True) (fun a0 => wpQuiet P [o0, o1, o2, o3, o4, o5, o6, o7, o8, o9].toArray (fun w' => ∃ s : KX B w0 n L E, w' = s.val) (fun a1 => ((∀ K2 : Act → World → Prop, (∀ a2 w2, Q .normal a2 w2 → K2 a2 w2) → wpList P [o0, o1, o2, o3, o4, o5, o6, o7, o8, o9].toArray (fun e a2 w2 => e = .normal ∧ K2 a2 w2) [o9] a1 wk) ∧ True)) [o6, o8] a0) [o0, o1, o2, o3, o4, o5, o7] a) : (Code.region id [o0, o1, o2, o3, o4, o5, o6, o7, o8, o9].toArray true).wp P Q a w := by
  have e1 : E w.drew := hE _ _ he ((Below.refl _ _).drew)
  have g := h _ k.drew e1 (hF _ _ hf ((Below.refl _ _).drew))
  exact wp_region_scr (U := (fun w' => ∃ s : KX B w0 n L E, w' = s.val)) (ops := [o0, o1, o2, o3, o4, o5, o6, o7, o8, o9].toArray) (.free 0 (.free 1 (.free 2 (.free 3 (.free 4 (.free 5 (.free 7 (.read 6 (.read 8 (.altc 9 .done .stop)))))))))) [6, 8] [0, 1, 2, 3, 4, 5, 7] hm hB ⟨⟨_, k.drew, e1⟩, rfl⟩ (Scr.of_free rfl g (fun _ g0 => Scr.of_free rfl g0 (fun _ g1 => Scr.of_free rfl g1 (fun _ g2 => Scr.of_free rfl g2 (fun _ g3 => Scr.of_free rfl g3 (fun _ g4 => Scr.of_free rfl g4 (fun _ g5 => Scr.of_free rfl g5 (fun _ g6 => Scr.of_read rfl g6 (fun _ g7 => Scr.of_read rfl g7 (fun _ g8 => (Scr.of_altc rfl (g8.1 _ (fun _ _ g => g)) (fun _ _ g9 => g9) trivial)))))))))))
theorem rg37_4 {P : Program} {B n : Nat} {w0 : World} {L : List (Nat × Nat × Value)} {E F : World → Prop} {id : Nat} {Q : Exit → Act → World → Prop} {a : Act} {w : World} {o0 o1 o2 o3 o4 o5 o6 o7 o8 o9 : Oper} (hm : P.follows .mixedOrders = true)
    (hB : (Region.noSelect [o0, o1, o2, o3, o4, o5, o6, o7, o8, o9].toArray && Scr.ok .any [o0, o1, o2, o3, o4, o5, o6, o7, o8, o9].toArray [3, 6] [0, 1, 2, 4, 5, 8] (.free 0 (.free 1 (.free 2 (.free 4 (.free 5 (.read 3 (.read 6 (.alt 7 (.free 8 (.altc 9 .done .stop)) .stop)))))))) true true [o0, o1, o2, o3, o4, o5, o6, o7, o8, o9].toArray.size (Array.replicate [o0, o1, o2, o3, o4, o5, o6, o7, o8, o9].toArray.size false)) = true)
    (k : Kept B w0 n L w) (he : E w) (hE : ∀ W W', E W → Below W.heap.size W W' → E W') (hf : F w) (hF : ∀ W W', F W → Below W.heap.size W W' → F W')
    (h : ∀ wk, Kept B w0 n L wk → E wk → F wk → wpQuiet P [o0, o1, o2, o3, o4, o5, o6, o7, o8, o9].toArray (fun _ => True) (fun a0 => wpQuiet P [o0, o1, o2, o3, o4, o5, o6, o7, o8, o9].toArray (fun w' => ∃ s : KX B w0 n L E, w' = s.val) (fun a1 => ((∀ K2 : Act → World → Prop, (∀ a2 w2, wpQuiet P [o0, o1, o2, o3, o4, o5, o6, o7, o8, o9].toArray (fun _ => True) (fun a3 => ((∀ K4 : Act → World → Prop, (∀ a4 w4, Q .normal a4 w4 → K4 a4 w4) → wpList P [o0, o1, o2, o3, o4, o5, o6, o7, o8, o9].toArray (fun e a4 w4 => e = .normal ∧ K4 a4 w4) [o9] a3 w2) ∧ True)) [o8] a2 → K2 a2 w2) → wpList P [o0, o1, o2, o3, o4, o5, o6, o7, o8, o9].toArray (fun e a2 w2 => e = .normal ∧ (∃ s : KX B w0 n L E, w2 = s.val) ∧ K2 a2 w2) [o7] a1 wk) ∧ True)) [o3, o6] a0) [o0, o1, o2, o4, o5] a) : (Code.region id [o0, o1, o2, o3, o4, o5, o6, o7, o8, o9].toArray true).wp P Q a w := by
  have e1 : E w.drew := hE _ _ he ((Below.refl _ _).drew)
  have g := h _ k.drew e1 (hF _ _ hf ((Below.refl _ _).drew))
  exact wp_region_scr (U := (fun w' => ∃ s : KX B w0 n L E, w' = s.val)) (ops := [o0, o1, o2, o3, o4, o5, o6, o7, o8, o9].toArray) (.free 0 (.free 1 (.free 2 (.free 4 (.free 5 (.read 3 (.read 6 (.alt 7 (.free 8 (.altc 9 .done .stop)) .stop)))))))) [3, 6] [0, 1, 2, 4, 5, 8] hm hB ⟨⟨_, k.drew, e1⟩, rfl⟩ (Scr.of_free rfl g (fun _ g0 => Scr.of_free rfl g0 (fun _ g1 => Scr.of_free rfl g1 (fun _ g2 => Scr.of_free rfl g2 (fun _ g3 => Scr.of_free rfl g3 (fun _ g4 => Scr.of_read rfl g4 (fun _ g5 => Scr.of_read rfl g5 (fun _ g6 => (Scr.of_alt rfl (g6.1 _ (fun _ _ g => g)) (fun _ _ g7 => Scr.of_free rfl g7 (fun _ g8 => (Scr.of_altc rfl (g8.1 _ (fun _ _ g => g)) (fun _ _ g9 => g9) trivial))) trivial)))))))))
set_option maxRecDepth 100000 in
set_option maxHeartbeats 4000000 in
theorem everyUn (P : Nat) (s : Bs) (B : Bd) (pl : Int) (p : Nat) (lo hi : Nat) (w : World) (hx : Bx w P s B) (ho : BdO lo hi w s B) (hP : P < lo ∨ hi ≤ P) (hhi : hi ≤ w.heap.size) (hp : p < 2) (hpl : pl = (p : Nat)) : Calls Tryd.prog 37 #[.pointer (some ⟨P, 0, none⟩), .int .i64 pl, .func (.func 38) #[] #[]] w (EvA P s (B.every p unO) lo hi w) := by
  subst hpl
  obtain ⟨oa, oc', hvo⟩ := ho.ob.1.form
  have HC0 : Hid (∀ W, Bx W P s B → W.cell? ⟨P, 0, none⟩ = some (.slice oa B.ob.length oc')) := Lib.hid (fun W h => by rw [h.cell 0, ← hvo]; rfl)
  have HOV : Hid (s.ob.v = .slice oa B.ob.length oc') := Lib.hid hvo
  obtain ⟨⟨fa, fn, fc⟩, hfz⟩ : ∃ q, s.zl p 2 = q := ⟨_, rfl⟩
  have HC7 : Hid (∀ W, Bx W P s B → W.cell? ⟨P, 1 + p * 14 + 7, none⟩ = some (.slice fa fn fc)) := Lib.hid (fun W h => by
    have h1 := h.zone (p := p) (z := 2) hp (by omega)
    rw [hfz] at h1
    exact h1)
  have HFR : Hid (∀ (W : World) (l : List Ob), BdO lo hi W s { B with ob := l } → Rw ic 1 W (.slice fa fn fc) (B.seat p).fld) := Lib.hid (fun W l h => by
    have h1 := h.rd.zone p 2
    rw [hfz] at h1
    exact h1)
  have HX0 := Lib.hid hx
  have HO0 : Hid (BdO lo hi w s { B with ob := mapTo (onF (B.seat p).fld unO) 0 B.ob }) := Lib.hid (by rw [mapTo_zero]; exact ho)
  have HPP := Lib.hid hP
  have HHI := Lib.hid hhi
  have hom : B.ob.length ≤ 9223372036854775807 := by have := ho.ob.1.max; unfold maxLen at this; omega
  have c0 := HC0.out w hx
  have hp1 : (0 : Int) ≤ (p : Int) := by omega
  have hp2 : (p : Int) < 2 := by omega
  clear hx ho hP hhi hvo hfz
  go_enter Tryd.func37, Tryd.ntmps37
  go_wp2_with fail
  clear c0
  go_loopw [13] (fun i wr => EvL P s B lo hi (onF (B.seat p).fld unO) w i wr) (fun i _ => B.ob.length - (intOf i).toNat)
  case atStart => exact ⟨0, by omega, rfl, HX0.out, HO0.out, Rng.refl _ _ _⟩
  case round =>
    obtain ⟨k, hk, rfl, hx, ho, hg⟩ := hrel
    have HX := Lib.hid hx
    have HO := Lib.hid ho
    have HG := Lib.hid hg
    clear hx ho hg HX0 HO0
    by_cases hkl : k < B.ob.length
    · obtain ⟨x, hx⟩ : ∃ x, B.ob[k]? = some x := ⟨_, List.getElem?_eq_getElem hkl⟩
      have hlen : (mapTo (onF (B.seat p).fld unO) k B.ob).length = B.ob.length := mapTo_length _ _ _ hk
      obtain ⟨g0, cap, hv, hg1, hg2, hg3⟩ := HO.out.ob.pos (by show 0 < (mapTo _ _ _).length; omega)
      have hv2 := HOV.out
      change s.ob.v = .slice _ (mapTo (onF (B.seat p).fld unO) k B.ob).length _ at hv
      rw [hlen, hv2] at hv
      simp only [Value.slice.injEq, true_and] at hv
      obtain ⟨rfl, rfl⟩ := hv
      have hxm : (mapTo (onF (B.seat p).fld unO) k B.ob)[k]? = some x := by rw [mapTo_get _ _ _ hk]; exact hx
      have HOB : Hid (∀ W, BdO lo hi W s { B with ob := mapTo (onF (B.seat p).fld unO) k B.ob } → Ox oc 12 57 lo hi W (.slice (some ⟨g0, 0, none⟩) B.ob.length oc') (mapTo (onF (B.seat p).fld unO) k B.ob)) := Lib.hid (fun W h => by rw [← HOV.out]; exact h.ob)
      have hd : ∀ (j : Nat) (u : Value), (oc x)[j]? = some u → wr.cell? ⟨g0, k * 12 + j, none⟩ = some u := fun j u hu => ((HOB.out _ HO.out).at oc_len hxm hu (k * 12 + j) rfl).1
      have d0 : wr.cell? ⟨g0, k * 12, none⟩ = some (.int .i64 x.id) := hd 0 _ rfl
      have d1 : wr.cell? ⟨g0, k * 12 + 1, none⟩ = some (.int .i64 x.cd) := hd 1 _ rfl
      have d2 : wr.cell? ⟨g0, k * 12 + 2, none⟩ = some (.int .i64 x.ow) := hd 2 _ rfl
      have d3 : wr.cell? ⟨g0, k * 12 + 3, none⟩ = some (.int .i64 x.po) := hd 3 _ rfl
      have d4 : wr.cell? ⟨g0, k * 12 + 4, none⟩ = some (.int .i64 x.tg) := hd 4 _ rfl
      have d5 : wr.cell? ⟨g0, k * 12 + 5, none⟩ = some (.int .i64 x.da) := hd 5 _ rfl
      have d6 : wr.cell? ⟨g0, k * 12 + 6, none⟩ = some (.int .i64 x.co) := hd 6 _ rfl
      have d7 : wr.cell? ⟨g0, k * 12 + 7, none⟩ = some (.int .i64 x.pp) := hd 7 _ rfl
      have d8 : wr.cell? ⟨g0, k * 12 + 8, none⟩ = some (.int .i64 x.pt) := hd 8 _ rfl
      have d9 : wr.cell? ⟨g0, k * 12 + 9, none⟩ = some (.bool x.ta) := hd 9 _ rfl
      have d10 : wr.cell? ⟨g0, k * 12 + 10, none⟩ = some (.bool x.si) := hd 10 _ rfl
      have d11 : wr.cell? ⟨g0, k * 12 + 11, none⟩ = some (.bool x.dm) := hd 11 _ rfl
      have i1 : (0 : Int) ≤ (k : Int) := by omega
      have i2 : (k : Int) < (B.ob.length : Int) := by omega
      have HXS := Lib.hid hx
      have HGL := Lib.hid hg1
      have HGH := Lib.hid hg2
      clear hlen hv2 hxm hx hd hg1 hg2 hg3
      go_upto_region 3 with fail
      obtain ⟨wq, hwq⟩ : ∃ W, W = wr.alloc (.cells #[.int .i64 x.id, .int .i64 x.cd, .int .i64 x.ow, .int .i64 x.po, .int .i64 x.tg, .int .i64 x.da, .int .i64 x.co, .int .i64 x.pp, .int .i64 x.pt, .bool x.ta, .bool x.si, .bool x.dm] 57) := ⟨_, rfl⟩
      rw [← hwq]
      have hqb : Below wr.heap.size wr wq := by rw [hwq]; exact (Below.refl _ _).alloc (Nat.le_refl _) _
      have hqr : Ro wq wr.heap.size #[.int .i64 x.id, .int .i64 x.cd, .int .i64 x.ow, .int .i64 x.po, .int .i64 x.tg, .int .i64 x.da, .int .i64 x.co, .int .i64 x.pp, .int .i64 x.pt, .bool x.ta, .bool x.si, .bool x.dm] 57 := by rw [hwq]; exact Ro.new _ _ _
      clear hwq d0 d1 d2 d3 d4 d5 d6 d7 d8 d9 d10 d11
      obtain ⟨n0, hn0⟩ : ∃ n, n = wr.heap.size := ⟨_, rfl⟩
      rw [← hn0] at hqr ⊢
      have HQ := Lib.hid hqr
      replace HX := Lib.hid (HX.out.below hqb)
      replace HO := Lib.hid (HO.out.below hqb)
      replace HG := Lib.hid (HG.out.grow hqb)
      have q0 : wq.cell? ⟨n0, 0, none⟩ = some (.int .i64 x.id) := HQ.out.cell 0
      have ef := HC7.out wq HX.out
      have pP := HX.out.lt
      have pn := hqr.lt
      obtain ⟨rr, hrr⟩ : ∃ r, decide (x.id ∈ (B.seat p).fld) = r := ⟨_, rfl⟩
      have HRR := Lib.hid hrr
      clear hqr hn0 hqb hrr
      cases rr
      · have HS : Hid (mapTo (onF (B.seat p).fld unO) (k + 1) B.ob = mapTo (onF (B.seat p).fld unO) k B.ob) := Lib.hid (mapTo_same _ _ _ _ HXS.out (by unfold onF; rw [if_neg (of_decide_eq_false HRR.out)]))
        refine rg37_3 (w0 := wq) (B := wq.heap.size) (n := wq.heap.size) (L := []) (E := fun _ => True) (F := fun _ => True) (by kernel_rfl) (by kernel_rfl) ⟨by go_grown, by go_size, (by simp [go_sem] <;> omega)⟩ trivial (fun _ _ _ _ => trivial) trivial (fun _ _ _ _ => trivial) (fun w21 K_w21 E_w21 F_w21 => ?_)
        have _ne : Nonempty (KX (wq.heap.size) wq (wq.heap.size) [] (fun _ => True)) := ⟨⟨_, K_w21, E_w21⟩⟩
        repeat (go_big_quiet_step (fail))
        refine wpQuiet_nil ?_
        have rf : ∀ s : KX (wq.heap.size) wq (wq.heap.size) [] (fun _ => True), s.val.cell? ⟨P, 1 + p * 14 + 7, none⟩ = some (.slice fa fn fc) := fun s => (s.kept.below.cell (p := ⟨P, 1 + p * 14 + 7, none⟩) pP).trans ef
        have rn : ∀ s : KX (wq.heap.size) wq (wq.heap.size) [] (fun _ => True), s.val.cell? ⟨n0, 0, none⟩ = some (.int .i64 x.id) := fun s => (s.kept.below.cell (p := ⟨n0, 0, none⟩) pn).trans q0
        repeat (go_big_quiet_step (fail))
        refine wpQuiet_nil ?_
        clear rf rn
        have KH_w21 := Lib.hid K_w21
        have hw_w21 := K_w21.below
        have hz_w21 := K_w21.size
        clear K_w21
        clear E_w21 F_w21
        refine ⟨fun K hK0 => ?_, trivial⟩
        have hK := Lib.hid hK0
        clear hK0
        have hb := hw_w21
        clear hw_w21 hz_w21 KH_w21
        replace HX := Lib.hid (HX.out.below hb)
        replace HO := Lib.hid (HO.out.below hb)
        replace HQ := Lib.hid (HQ.out.below hb)
        replace HG := Lib.hid (HG.out.grow hb)
        clear hb
        go_wp2_with fail
        with_reducible refine (containsI _ (B.seat p).fld x.id false _ (HFR.out _ _ HO.out) HRR.out).mono ?_
        rintro e w22 ⟨rfl, hb⟩
        replace HX := Lib.hid (HX.out.below hb)
        replace HO := Lib.hid (HO.out.below hb)
        replace HQ := Lib.hid (HQ.out.below hb)
        replace HG := Lib.hid (HG.out.grow hb)
        clear hb
        go_wp2_with fail
        first | (refine ⟨rfl, hK.out _ _ ?_⟩; clear hK K) | (refine hK.out _ _ ?_; clear hK K)
        clear _ne
        clear q0 ef pP pn
        go_wp2_with fail
        go_roundw
        case rel => exact ⟨k + 1, by omega, by go_num, HX.out, by rw [HS.out]; exact HO.out, HG.out⟩
        case measure => simp [intOf]; omega
      · have HS : Hid ((mapTo (onF (B.seat p).fld unO) k B.ob).set k (unO x) = mapTo (onF (B.seat p).fld unO) (k + 1) B.ob) := Lib.hid (by rw [← mapTo_set _ _ _ _ HXS.out]; unfold onF; rw [if_pos (of_decide_eq_true HRR.out)])
        refine rg37_3 (w0 := wq) (B := wq.heap.size) (n := wq.heap.size) (L := []) (E := fun _ => True) (F := fun _ => True) (by kernel_rfl) (by kernel_rfl) ⟨by go_grown, by go_size, (by simp [go_sem] <;> omega)⟩ trivial (fun _ _ _ _ => trivial) trivial (fun _ _ _ _ => trivial) (fun w21 K_w21 E_w21 F_w21 => ?_)
        have _ne : Nonempty (KX (wq.heap.size) wq (wq.heap.size) [] (fun _ => True)) := ⟨⟨_, K_w21, E_w21⟩⟩
        repeat (go_big_quiet_step (fail))
        refine wpQuiet_nil ?_
        have rf : ∀ s : KX (wq.heap.size) wq (wq.heap.size) [] (fun _ => True), s.val.cell? ⟨P, 1 + p * 14 + 7, none⟩ = some (.slice fa fn fc) := fun s => (s.kept.below.cell (p := ⟨P, 1 + p * 14 + 7, none⟩) pP).trans ef
        have rn : ∀ s : KX (wq.heap.size) wq (wq.heap.size) [] (fun _ => True), s.val.cell? ⟨n0, 0, none⟩ = some (.int .i64 x.id) := fun s => (s.kept.below.cell (p := ⟨n0, 0, none⟩) pn).trans q0
        repeat (go_big_quiet_step (fail))
        refine wpQuiet_nil ?_
        clear rf rn
        have KH_w21 := Lib.hid K_w21
        have hw_w21 := K_w21.below
        have hz_w21 := K_w21.size
        clear K_w21
        clear E_w21 F_w21
        refine ⟨fun K hK0 => ?_, trivial⟩
        have hK := Lib.hid hK0
        clear hK0
        have hb := hw_w21
        clear hw_w21 hz_w21 KH_w21
        replace HX := Lib.hid (HX.out.below hb)
        replace HO := Lib.hid (HO.out.below hb)
        replace HQ := Lib.hid (HQ.out.below hb)
        replace HG := Lib.hid (HG.out.grow hb)
        clear hb
        go_wp2_with fail
        with_reducible refine (containsI _ (B.seat p).fld x.id true _ (HFR.out _ _ HO.out) HRR.out).mono ?_
        rintro e w22 ⟨rfl, hb⟩
        replace HX := Lib.hid (HX.out.below hb)
        replace HO := Lib.hid (HO.out.below hb)
        replace HQ := Lib.hid (HQ.out.below hb)
        replace HG := Lib.hid (HG.out.grow hb)
        clear hb
        go_wp2_with fail
        first | (refine ⟨rfl, hK.out _ _ ?_⟩; clear hK K) | (refine hK.out _ _ ?_; clear hK K)
        clear _ne
        clear q0 ef pP pn
        go_upto_region 4 with fail
        have e0 := HC0.out w22 HX.out
        have pP := HX.out.lt
        have pn := HQ.out.lt
        have q0 : w22.cell? ⟨n0, 0, none⟩ = some (.int .i64 x.id) := HQ.out.cell 0
        have q1 : w22.cell? ⟨n0, 1, none⟩ = some (.int .i64 x.cd) := HQ.out.cell 1
        have q2 : w22.cell? ⟨n0, 2, none⟩ = some (.int .i64 x.ow) := HQ.out.cell 2
        have q3 : w22.cell? ⟨n0, 3, none⟩ = some (.int .i64 x.po) := HQ.out.cell 3
        have q4 : w22.cell? ⟨n0, 4, none⟩ = some (.int .i64 x.tg) := HQ.out.cell 4
        have q5 : w22.cell? ⟨n0, 5, none⟩ = some (.int .i64 x.da) := HQ.out.cell 5
        have q6 : w22.cell? ⟨n0, 6, none⟩ = some (.int .i64 x.co) := HQ.out.cell 6
        have q7 : w22.cell? ⟨n0, 7, none⟩ = some (.int .i64 x.pp) := HQ.out.cell 7
        have q8 : w22.cell? ⟨n0, 8, none⟩ = some (.int .i64 x.pt) := HQ.out.cell 8
        have q9 : w22.cell? ⟨n0, 9, none⟩ = some (.bool x.ta) := HQ.out.cell 9
        have q10 : w22.cell? ⟨n0, 10, none⟩ = some (.bool x.si) := HQ.out.cell 10
        have q11 : w22.cell? ⟨n0, 11, none⟩ = some (.bool x.dm) := HQ.out.cell 11
        refine rg37_4 (w0 := w22) (B := w22.heap.size) (n := w22.heap.size) (L := []) (E := fun _ => True) (F := fun _ => True) (by kernel_rfl) (by kernel_rfl) ⟨by go_grown, by go_size, (by simp [go_sem] <;> omega)⟩ trivial (fun _ _ _ _ => trivial) trivial (fun _ _ _ _ => trivial) (fun w31 K_w31 E_w31 F_w31 => ?_)
        have _ne : Nonempty (KX (w22.heap.size) w22 (w22.heap.size) [] (fun _ => True)) := ⟨⟨_, K_w31, E_w31⟩⟩
        repeat (go_big_quiet_step (fail))
        refine wpQuiet_nil ?_
        have ro : ∀ s : KX (w22.heap.size) w22 (w22.heap.size) [] (fun _ => True), s.val.cell? ⟨P, 0, none⟩ = some (.slice (some ⟨g0, 0, none⟩) B.ob.length oc') := fun s => (s.kept.below.cell (p := ⟨P, 0, none⟩) pP).trans e0
        have r0 : ∀ s : KX (w22.heap.size) w22 (w22.heap.size) [] (fun _ => True), s.val.cell? ⟨n0, 0, none⟩ = some (.int .i64 x.id) := fun s => (s.kept.below.cell (p := ⟨n0, 0, none⟩) pn).trans q0
        have r1 : ∀ s : KX (w22.heap.size) w22 (w22.heap.size) [] (fun _ => True), s.val.cell? ⟨n0, 1, none⟩ = some (.int .i64 x.cd) := fun s => (s.kept.below.cell (p := ⟨n0, 1, none⟩) pn).trans q1
        have r2 : ∀ s : KX (w22.heap.size) w22 (w22.heap.size) [] (fun _ => True), s.val.cell? ⟨n0, 2, none⟩ = some (.int .i64 x.ow) := fun s => (s.kept.below.cell (p := ⟨n0, 2, none⟩) pn).trans q2
        have r3 : ∀ s : KX (w22.heap.size) w22 (w22.heap.size) [] (fun _ => True), s.val.cell? ⟨n0, 3, none⟩ = some (.int .i64 x.po) := fun s => (s.kept.below.cell (p := ⟨n0, 3, none⟩) pn).trans q3
        have r4 : ∀ s : KX (w22.heap.size) w22 (w22.heap.size) [] (fun _ => True), s.val.cell? ⟨n0, 4, none⟩ = some (.int .i64 x.tg) := fun s => (s.kept.below.cell (p := ⟨n0, 4, none⟩) pn).trans q4
        have r5 : ∀ s : KX (w22.heap.size) w22 (w22.heap.size) [] (fun _ => True), s.val.cell? ⟨n0, 5, none⟩ = some (.int .i64 x.da) := fun s => (s.kept.below.cell (p := ⟨n0, 5, none⟩) pn).trans q5
        have r6 : ∀ s : KX (w22.heap.size) w22 (w22.heap.size) [] (fun _ => True), s.val.cell? ⟨n0, 6, none⟩ = some (.int .i64 x.co) := fun s => (s.kept.below.cell (p := ⟨n0, 6, none⟩) pn).trans q6
        have r7 : ∀ s : KX (w22.heap.size) w22 (w22.heap.size) [] (fun _ => True), s.val.cell? ⟨n0, 7, none⟩ = some (.int .i64 x.pp) := fun s => (s.kept.below.cell (p := ⟨n0, 7, none⟩) pn).trans q7
        have r8 : ∀ s : KX (w22.heap.size) w22 (w22.heap.size) [] (fun _ => True), s.val.cell? ⟨n0, 8, none⟩ = some (.int .i64 x.pt) := fun s => (s.kept.below.cell (p := ⟨n0, 8, none⟩) pn).trans q8
        have r9 : ∀ s : KX (w22.heap.size) w22 (w22.heap.size) [] (fun _ => True), s.val.cell? ⟨n0, 9, none⟩ = some (.bool x.ta) := fun s => (s.kept.below.cell (p := ⟨n0, 9, none⟩) pn).trans q9
        have r10 : ∀ s : KX (w22.heap.size) w22 (w22.heap.size) [] (fun _ => True), s.val.cell? ⟨n0, 10, none⟩ = some (.bool x.si) := fun s => (s.kept.below.cell (p := ⟨n0, 10, none⟩) pn).trans q10
        have r11 : ∀ s : KX (w22.heap.size) w22 (w22.heap.size) [] (fun _ => True), s.val.cell? ⟨n0, 11, none⟩ = some (.bool x.dm) := fun s => (s.kept.below.cell (p := ⟨n0, 11, none⟩) pn).trans q11
        repeat (go_big_quiet_step (fail))
        refine wpQuiet_nil ?_
        clear ro r0 r1 r2 r3 r4 r5 r6 r7 r8 r9 r10 r11
        have KH_w31 := Lib.hid K_w31
        have hw_w31 := K_w31.below
        have hz_w31 := K_w31.size
        clear K_w31
        clear E_w31 F_w31
        refine ⟨fun K hK0 => ?_, trivial⟩
        have hK := Lib.hid hK0
        clear hK0
        have hb := hw_w31
        have HK := KH_w31
        clear hw_w31 hz_w31 KH_w31
        replace HX := Lib.hid (HX.out.below hb)
        replace HO := Lib.hid (HO.out.below hb)
        replace HG := Lib.hid (HG.out.grow hb)
        clear hb
        go_wp2_with fail
        with_reducible refine (ountap x _).mono ?_
        rintro e w32 ⟨rfl, hb⟩
        replace HK := Lib.hid (Kept.step HK.out (Nat.le_refl _) hb)
        replace HX := Lib.hid (HX.out.below hb)
        replace HO := Lib.hid (HO.out.below hb)
        replace HG := Lib.hid (HG.out.grow hb)
        clear hb
        go_wp2_with fail
        first | (refine ⟨rfl, ⟨⟨_, HK.out, trivial⟩, rfl⟩, hK.out _ _ ?_⟩; clear hK K) | (refine ⟨⟨⟨_, HK.out, trivial⟩, rfl⟩, hK.out _ _ ?_⟩; clear hK K)
        repeat (go_big_quiet_step (fail))
        refine wpQuiet_nil ?_
        refine ⟨fun K hK0 => ?_, trivial⟩
        have hK := Lib.hid hK0
        clear hK0
        have HTH : Hid (w32.there g0 (k * 12) 12) := Lib.hid (fun j hj => by
          obtain ⟨u, hu⟩ : ∃ u, (oc x)[j]? = some u := ⟨_, List.getElem?_eq_getElem hj⟩
          have h := (HOB.out _ HO.out).at (i := k) (x := x) oc_len (by rw [mapTo_get (onF (B.seat p).fld unO) k B.ob hk]; exact HXS.out) hu (k * 12 + j) rfl
          exact ⟨by rw [h.1]; rfl, h.2⟩)
        go_wp2_with (refine wpList_store_mid rfl 57 _ _ rfl g0 (k * 12) #[.int .i64 (unO x).id, .int .i64 (unO x).cd, .int .i64 (unO x).ow, .int .i64 (unO x).po, .int .i64 (unO x).tg, .int .i64 (unO x).da, .int .i64 (unO x).co, .int .i64 (unO x).pp, .int .i64 (unO x).pt, .bool (unO x).ta, .bool (unO x).si, .bool (unO x).dm] rfl rfl HTH.out (by kernel_rfl) (by simp [Value.oneCell']) ?_)
        obtain ⟨w33, h33⟩ : ∃ W, W = w32.setCells g0 (k * 12) [.int .i64 (unO x).id, .int .i64 (unO x).cd, .int .i64 (unO x).ow, .int .i64 (unO x).po, .int .i64 (unO x).tg, .int .i64 (unO x).da, .int .i64 (unO x).co, .int .i64 (unO x).pp, .int .i64 (unO x).pt, .bool (unO x).ta, .bool (unO x).si, .bool (unO x).dm] := ⟨_, rfl⟩
        change K _ (w32.setCells g0 (k * 12) [.int .i64 (unO x).id, .int .i64 (unO x).cd, .int .i64 (unO x).ow, .int .i64 (unO x).po, .int .i64 (unO x).tg, .int .i64 (unO x).da, .int .i64 (unO x).co, .int .i64 (unO x).pp, .int .i64 (unO x).pt, .bool (unO x).ta, .bool (unO x).si, .bool (unO x).dm])
        rw [← h33]
        clear HTH
        first | (refine ⟨rfl, hK.out _ _ ?_⟩; clear hK K) | (refine hK.out _ _ ?_; clear hK K)
        clear _ne
        have HO33 : Hid (BdO lo hi w33 s { B with ob := mapTo (onF (B.seat p).fld unO) (k + 1) B.ob }) := Lib.hid (by
          have ho2 : Onl [g0] w32 w33 := by rw [h33]; exact Onl.setCells _ _ _ (Onl.refl _ _) (.inl (by simp))
          have h1 := (HOB.out _ HO.out).setn (fun _ => rfl) (unO x) (i := k) (by rw [mapTo_length _ _ _ hk]; exact hkl) (k * 12) rfl _ rfl
          rw [HS.out, ← HOV.out] at h1
          have h2 := HO.out.setOb (g := g0) (by rw [HOV.out]; rfl) ho2 (by rw [h33]; exact h1)
          exact h2)
        have HG33 : Hid (Rng lo hi w w33) := Lib.hid (HG.out.trans (by rw [h33]; exact Rng.onl (S := [g0]) (Onl.setCells _ _ _ (Onl.refl _ _) (.inl (by simp))) (by have h1 := HGL.out; have h2 := HGH.out; simp; omega)))
        have HX33 : Hid (Bx w33 P s B) := Lib.hid (by
          rw [h33]
          exact HX.out.onl (S := [g0]) (Onl.setCells _ _ _ (Onl.refl _ _) (.inl (by simp))) (by have h1 := HGL.out; have h2 := HGH.out; have h3 := HPP.out; simp; omega))
        clear h33 e0 pP pn q0 q1 q2 q3 q4 q5 q6 q7 q8 q9 q10 q11
        go_wp2_with fail
        go_roundw
        case rel => exact ⟨k + 1, by omega, by go_num, HX33.out, HO33.out, HG33.out⟩
        case measure => simp [intOf]; omega
    · obtain rfl : k = B.ob.length := by omega
      have HOL : Hid (BdO lo hi wr s (B.every p unO)) := Lib.hid (by have h := HO.out; rw [mapTo_all] at h; exact h)
      go_wp2_with fail
      go_returns
      exact ⟨rfl, HX.out, HOL.out, HG.out⟩
set_option maxRecDepth 100000 in
set_option maxHeartbeats 4000000 in
theorem everyRe (P : Nat) (s : Bs) (B : Bd) (pl : Int) (p : Nat) (lo hi : Nat) (w : World) (hx : Bx w P s B) (ho : BdO lo hi w s B) (hP : P < lo ∨ hi ≤ P) (hhi : hi ≤ w.heap.size) (hp : p < 2) (hpl : pl = (p : Nat)) : Calls Tryd.prog 37 #[.pointer (some ⟨P, 0, none⟩), .int .i64 pl, .func (.func 39) #[] #[]] w (EvA P s (B.every p reO) lo hi w) := by
  subst hpl
  obtain ⟨oa, oc', hvo⟩ := ho.ob.1.form
  have HC0 : Hid (∀ W, Bx W P s B → W.cell? ⟨P, 0, none⟩ = some (.slice oa B.ob.length oc')) := Lib.hid (fun W h => by rw [h.cell 0, ← hvo]; rfl)
  have HOV : Hid (s.ob.v = .slice oa B.ob.length oc') := Lib.hid hvo
  obtain ⟨⟨fa, fn, fc⟩, hfz⟩ : ∃ q, s.zl p 2 = q := ⟨_, rfl⟩
  have HC7 : Hid (∀ W, Bx W P s B → W.cell? ⟨P, 1 + p * 14 + 7, none⟩ = some (.slice fa fn fc)) := Lib.hid (fun W h => by
    have h1 := h.zone (p := p) (z := 2) hp (by omega)
    rw [hfz] at h1
    exact h1)
  have HFR : Hid (∀ (W : World) (l : List Ob), BdO lo hi W s { B with ob := l } → Rw ic 1 W (.slice fa fn fc) (B.seat p).fld) := Lib.hid (fun W l h => by
    have h1 := h.rd.zone p 2
    rw [hfz] at h1
    exact h1)
  have HX0 := Lib.hid hx
  have HO0 : Hid (BdO lo hi w s { B with ob := mapTo (onF (B.seat p).fld reO) 0 B.ob }) := Lib.hid (by rw [mapTo_zero]; exact ho)
  have HPP := Lib.hid hP
  have HHI := Lib.hid hhi
  have hom : B.ob.length ≤ 9223372036854775807 := by have := ho.ob.1.max; unfold maxLen at this; omega
  have c0 := HC0.out w hx
  have hp1 : (0 : Int) ≤ (p : Int) := by omega
  have hp2 : (p : Int) < 2 := by omega
  clear hx ho hP hhi hvo hfz
  go_enter Tryd.func37, Tryd.ntmps37
  go_wp2_with fail
  clear c0
  go_loopw [13] (fun i wr => EvL P s B lo hi (onF (B.seat p).fld reO) w i wr) (fun i _ => B.ob.length - (intOf i).toNat)
  case atStart => exact ⟨0, by omega, rfl, HX0.out, HO0.out, Rng.refl _ _ _⟩
  case round =>
    obtain ⟨k, hk, rfl, hx, ho, hg⟩ := hrel
    have HX := Lib.hid hx
    have HO := Lib.hid ho
    have HG := Lib.hid hg
    clear hx ho hg HX0 HO0
    by_cases hkl : k < B.ob.length
    · obtain ⟨x, hx⟩ : ∃ x, B.ob[k]? = some x := ⟨_, List.getElem?_eq_getElem hkl⟩
      have hlen : (mapTo (onF (B.seat p).fld reO) k B.ob).length = B.ob.length := mapTo_length _ _ _ hk
      obtain ⟨g0, cap, hv, hg1, hg2, hg3⟩ := HO.out.ob.pos (by show 0 < (mapTo _ _ _).length; omega)
      have hv2 := HOV.out
      change s.ob.v = .slice _ (mapTo (onF (B.seat p).fld reO) k B.ob).length _ at hv
      rw [hlen, hv2] at hv
      simp only [Value.slice.injEq, true_and] at hv
      obtain ⟨rfl, rfl⟩ := hv
      have hxm : (mapTo (onF (B.seat p).fld reO) k B.ob)[k]? = some x := by rw [mapTo_get _ _ _ hk]; exact hx
      have HOB : Hid (∀ W, BdO lo hi W s { B with ob := mapTo (onF (B.seat p).fld reO) k B.ob } → Ox oc 12 57 lo hi W (.slice (some ⟨g0, 0, none⟩) B.ob.length oc') (mapTo (onF (B.seat p).fld reO) k B.ob)) := Lib.hid (fun W h => by rw [← HOV.out]; exact h.ob)
      have hd : ∀ (j : Nat) (u : Value), (oc x)[j]? = some u → wr.cell? ⟨g0, k * 12 + j, none⟩ = some u := fun j u hu => ((HOB.out _ HO.out).at oc_len hxm hu (k * 12 + j) rfl).1
      have d0 : wr.cell? ⟨g0, k * 12, none⟩ = some (.int .i64 x.id) := hd 0 _ rfl
      have d1 : wr.cell? ⟨g0, k * 12 + 1, none⟩ = some (.int .i64 x.cd) := hd 1 _ rfl
      have d2 : wr.cell? ⟨g0, k * 12 + 2, none⟩ = some (.int .i64 x.ow) := hd 2 _ rfl
      have d3 : wr.cell? ⟨g0, k * 12 + 3, none⟩ = some (.int .i64 x.po) := hd 3 _ rfl
      have d4 : wr.cell? ⟨g0, k * 12 + 4, none⟩ = some (.int .i64 x.tg) := hd 4 _ rfl
      have d5 : wr.cell? ⟨g0, k * 12 + 5, none⟩ = some (.int .i64 x.da) := hd 5 _ rfl
      have d6 : wr.cell? ⟨g0, k * 12 + 6, none⟩ = some (.int .i64 x.co) := hd 6 _ rfl
      have d7 : wr.cell? ⟨g0, k * 12 + 7, none⟩ = some (.int .i64 x.pp) := hd 7 _ rfl
      have d8 : wr.cell? ⟨g0, k * 12 + 8, none⟩ = some (.int .i64 x.pt) := hd 8 _ rfl
      have d9 : wr.cell? ⟨g0, k * 12 + 9, none⟩ = some (.bool x.ta) := hd 9 _ rfl
      have d10 : wr.cell? ⟨g0, k * 12 + 10, none⟩ = some (.bool x.si) := hd 10 _ rfl
      have d11 : wr.cell? ⟨g0, k * 12 + 11, none⟩ = some (.bool x.dm) := hd 11 _ rfl
      have i1 : (0 : Int) ≤ (k : Int) := by omega
      have i2 : (k : Int) < (B.ob.length : Int) := by omega
      have HXS := Lib.hid hx
      have HGL := Lib.hid hg1
      have HGH := Lib.hid hg2
      clear hlen hv2 hxm hx hd hg1 hg2 hg3
      go_upto_region 3 with fail
      obtain ⟨wq, hwq⟩ : ∃ W, W = wr.alloc (.cells #[.int .i64 x.id, .int .i64 x.cd, .int .i64 x.ow, .int .i64 x.po, .int .i64 x.tg, .int .i64 x.da, .int .i64 x.co, .int .i64 x.pp, .int .i64 x.pt, .bool x.ta, .bool x.si, .bool x.dm] 57) := ⟨_, rfl⟩
      rw [← hwq]
      have hqb : Below wr.heap.size wr wq := by rw [hwq]; exact (Below.refl _ _).alloc (Nat.le_refl _) _
      have hqr : Ro wq wr.heap.size #[.int .i64 x.id, .int .i64 x.cd, .int .i64 x.ow, .int .i64 x.po, .int .i64 x.tg, .int .i64 x.da, .int .i64 x.co, .int .i64 x.pp, .int .i64 x.pt, .bool x.ta, .bool x.si, .bool x.dm] 57 := by rw [hwq]; exact Ro.new _ _ _
      clear hwq d0 d1 d2 d3 d4 d5 d6 d7 d8 d9 d10 d11
      obtain ⟨n0, hn0⟩ : ∃ n, n = wr.heap.size := ⟨_, rfl⟩
      rw [← hn0] at hqr ⊢
      have HQ := Lib.hid hqr
      replace HX := Lib.hid (HX.out.below hqb)
      replace HO := Lib.hid (HO.out.below hqb)
      replace HG := Lib.hid (HG.out.grow hqb)
      have q0 : wq.cell? ⟨n0, 0, none⟩ = some (.int .i64 x.id) := HQ.out.cell 0
      have ef := HC7.out wq HX.out
      have pP := HX.out.lt
      have pn := hqr.lt
      obtain ⟨rr, hrr⟩ : ∃ r, decide (x.id ∈ (B.seat p).fld) = r := ⟨_, rfl⟩
      have HRR := Lib.hid hrr
      clear hqr hn0 hqb hrr
      cases rr
      · have HS : Hid (mapTo (onF (B.seat p).fld reO) (k + 1) B.ob = mapTo (onF (B.seat p).fld reO) k B.ob) := Lib.hid (mapTo_same _ _ _ _ HXS.out (by unfold onF; rw [if_neg (of_decide_eq_false HRR.out)]))
        refine rg37_3 (w0 := wq) (B := wq.heap.size) (n := wq.heap.size) (L := []) (E := fun _ => True) (F := fun _ => True) (by kernel_rfl) (by kernel_rfl) ⟨by go_grown, by go_size, (by simp [go_sem] <;> omega)⟩ trivial (fun _ _ _ _ => trivial) trivial (fun _ _ _ _ => trivial) (fun w21 K_w21 E_w21 F_w21 => ?_)
        have _ne : Nonempty (KX (wq.heap.size) wq (wq.heap.size) [] (fun _ => True)) := ⟨⟨_, K_w21, E_w21⟩⟩
        repeat (go_big_quiet_step (fail))
        refine wpQuiet_nil ?_
        have rf : ∀ s : KX (wq.heap.size) wq (wq.heap.size) [] (fun _ => True), s.val.cell? ⟨P, 1 + p * 14 + 7, none⟩ = some (.slice fa fn fc) := fun s => (s.kept.below.cell (p := ⟨P, 1 + p * 14 + 7, none⟩) pP).trans ef
        have rn : ∀ s : KX (wq.heap.size) wq (wq.heap.size) [] (fun _ => True), s.val.cell? ⟨n0, 0, none⟩ = some (.int .i64 x.id) := fun s => (s.kept.below.cell (p := ⟨n0, 0, none⟩) pn).trans q0
        repeat (go_big_quiet_step (fail))
        refine wpQuiet_nil ?_
        clear rf rn
        have KH_w21 := Lib.hid K_w21
        have hw_w21 := K_w21.below
        have hz_w21 := K_w21.size
        clear K_w21
        clear E_w21 F_w21
        refine ⟨fun K hK0 => ?_, trivial⟩
        have hK := Lib.hid hK0
        clear hK0
        have hb := hw_w21
        clear hw_w21 hz_w21 KH_w21
        replace HX := Lib.hid (HX.out.below hb)
        replace HO := Lib.hid (HO.out.below hb)
        replace HQ := Lib.hid (HQ.out.below hb)
        replace HG := Lib.hid (HG.out.grow hb)
        clear hb
        go_wp2_with fail
        with_reducible refine (containsI _ (B.seat p).fld x.id false _ (HFR.out _ _ HO.out) HRR.out).mono ?_
        rintro e w22 ⟨rfl, hb⟩
        replace HX := Lib.hid (HX.out.below hb)
        replace HO := Lib.hid (HO.out.below hb)
        replace HQ := Lib.hid (HQ.out.below hb)
        replace HG := Lib.hid (HG.out.grow hb)
        clear hb
        go_wp2_with fail
        first | (refine ⟨rfl, hK.out _ _ ?_⟩; clear hK K) | (refine hK.out _ _ ?_; clear hK K)
        clear _ne
        clear q0 ef pP pn
        go_wp2_with fail
        go_roundw
        case rel => exact ⟨k + 1, by omega, by go_num, HX.out, by rw [HS.out]; exact HO.out, HG.out⟩
        case measure => simp [intOf]; omega
      · have HS : Hid ((mapTo (onF (B.seat p).fld reO) k B.ob).set k (reO x) = mapTo (onF (B.seat p).fld reO) (k + 1) B.ob) := Lib.hid (by rw [← mapTo_set _ _ _ _ HXS.out]; unfold onF; rw [if_pos (of_decide_eq_true HRR.out)])
        refine rg37_3 (w0 := wq) (B := wq.heap.size) (n := wq.heap.size) (L := []) (E := fun _ => True) (F := fun _ => True) (by kernel_rfl) (by kernel_rfl) ⟨by go_grown, by go_size, (by simp [go_sem] <;> omega)⟩ trivial (fun _ _ _ _ => trivial) trivial (fun _ _ _ _ => trivial) (fun w21 K_w21 E_w21 F_w21 => ?_)
        have _ne : Nonempty (KX (wq.heap.size) wq (wq.heap.size) [] (fun _ => True)) := ⟨⟨_, K_w21, E_w21⟩⟩
        repeat (go_big_quiet_step (fail))
        refine wpQuiet_nil ?_
        have rf : ∀ s : KX (wq.heap.size) wq (wq.heap.size) [] (fun _ => True), s.val.cell? ⟨P, 1 + p * 14 + 7, none⟩ = some (.slice fa fn fc) := fun s => (s.kept.below.cell (p := ⟨P, 1 + p * 14 + 7, none⟩) pP).trans ef
        have rn : ∀ s : KX (wq.heap.size) wq (wq.heap.size) [] (fun _ => True), s.val.cell? ⟨n0, 0, none⟩ = some (.int .i64 x.id) := fun s => (s.kept.below.cell (p := ⟨n0, 0, none⟩) pn).trans q0
        repeat (go_big_quiet_step (fail))
        refine wpQuiet_nil ?_
        clear rf rn
        have KH_w21 := Lib.hid K_w21
        have hw_w21 := K_w21.below
        have hz_w21 := K_w21.size
        clear K_w21
        clear E_w21 F_w21
        refine ⟨fun K hK0 => ?_, trivial⟩
        have hK := Lib.hid hK0
        clear hK0
        have hb := hw_w21
        clear hw_w21 hz_w21 KH_w21
        replace HX := Lib.hid (HX.out.below hb)
        replace HO := Lib.hid (HO.out.below hb)
        replace HQ := Lib.hid (HQ.out.below hb)
        replace HG := Lib.hid (HG.out.grow hb)
        clear hb
        go_wp2_with fail
        with_reducible refine (containsI _ (B.seat p).fld x.id true _ (HFR.out _ _ HO.out) HRR.out).mono ?_
        rintro e w22 ⟨rfl, hb⟩
        replace HX := Lib.hid (HX.out.below hb)
        replace HO := Lib.hid (HO.out.below hb)
        replace HQ := Lib.hid (HQ.out.below hb)
        replace HG := Lib.hid (HG.out.grow hb)
        clear hb
        go_wp2_with fail
        first | (refine ⟨rfl, hK.out _ _ ?_⟩; clear hK K) | (refine hK.out _ _ ?_; clear hK K)
        clear _ne
        clear q0 ef pP pn
        go_upto_region 4 with fail
        have e0 := HC0.out w22 HX.out
        have pP := HX.out.lt
        have pn := HQ.out.lt
        have q0 : w22.cell? ⟨n0, 0, none⟩ = some (.int .i64 x.id) := HQ.out.cell 0
        have q1 : w22.cell? ⟨n0, 1, none⟩ = some (.int .i64 x.cd) := HQ.out.cell 1
        have q2 : w22.cell? ⟨n0, 2, none⟩ = some (.int .i64 x.ow) := HQ.out.cell 2
        have q3 : w22.cell? ⟨n0, 3, none⟩ = some (.int .i64 x.po) := HQ.out.cell 3
        have q4 : w22.cell? ⟨n0, 4, none⟩ = some (.int .i64 x.tg) := HQ.out.cell 4
        have q5 : w22.cell? ⟨n0, 5, none⟩ = some (.int .i64 x.da) := HQ.out.cell 5
        have q6 : w22.cell? ⟨n0, 6, none⟩ = some (.int .i64 x.co) := HQ.out.cell 6
        have q7 : w22.cell? ⟨n0, 7, none⟩ = some (.int .i64 x.pp) := HQ.out.cell 7
        have q8 : w22.cell? ⟨n0, 8, none⟩ = some (.int .i64 x.pt) := HQ.out.cell 8
        have q9 : w22.cell? ⟨n0, 9, none⟩ = some (.bool x.ta) := HQ.out.cell 9
        have q10 : w22.cell? ⟨n0, 10, none⟩ = some (.bool x.si) := HQ.out.cell 10
        have q11 : w22.cell? ⟨n0, 11, none⟩ = some (.bool x.dm) := HQ.out.cell 11
        refine rg37_4 (w0 := w22) (B := w22.heap.size) (n := w22.heap.size) (L := []) (E := fun _ => True) (F := fun _ => True) (by kernel_rfl) (by kernel_rfl) ⟨by go_grown, by go_size, (by simp [go_sem] <;> omega)⟩ trivial (fun _ _ _ _ => trivial) trivial (fun _ _ _ _ => trivial) (fun w31 K_w31 E_w31 F_w31 => ?_)
        have _ne : Nonempty (KX (w22.heap.size) w22 (w22.heap.size) [] (fun _ => True)) := ⟨⟨_, K_w31, E_w31⟩⟩
        repeat (go_big_quiet_step (fail))
        refine wpQuiet_nil ?_
        have ro : ∀ s : KX (w22.heap.size) w22 (w22.heap.size) [] (fun _ => True), s.val.cell? ⟨P, 0, none⟩ = some (.slice (some ⟨g0, 0, none⟩) B.ob.length oc') := fun s => (s.kept.below.cell (p := ⟨P, 0, none⟩) pP).trans e0
        have r0 : ∀ s : KX (w22.heap.size) w22 (w22.heap.size) [] (fun _ => True), s.val.cell? ⟨n0, 0, none⟩ = some (.int .i64 x.id) := fun s => (s.kept.below.cell (p := ⟨n0, 0, none⟩) pn).trans q0
        have r1 : ∀ s : KX (w22.heap.size) w22 (w22.heap.size) [] (fun _ => True), s.val.cell? ⟨n0, 1, none⟩ = some (.int .i64 x.cd) := fun s => (s.kept.below.cell (p := ⟨n0, 1, none⟩) pn).trans q1
        have r2 : ∀ s : KX (w22.heap.size) w22 (w22.heap.size) [] (fun _ => True), s.val.cell? ⟨n0, 2, none⟩ = some (.int .i64 x.ow) := fun s => (s.kept.below.cell (p := ⟨n0, 2, none⟩) pn).trans q2
        have r3 : ∀ s : KX (w22.heap.size) w22 (w22.heap.size) [] (fun _ => True), s.val.cell? ⟨n0, 3, none⟩ = some (.int .i64 x.po) := fun s => (s.kept.below.cell (p := ⟨n0, 3, none⟩) pn).trans q3
        have r4 : ∀ s : KX (w22.heap.size) w22 (w22.heap.size) [] (fun _ => True), s.val.cell? ⟨n0, 4, none⟩ = some (.int .i64 x.tg) := fun s => (s.kept.below.cell (p := ⟨n0, 4, none⟩) pn).trans q4
        have r5 : ∀ s : KX (w22.heap.size) w22 (w22.heap.size) [] (fun _ => True), s.val.cell? ⟨n0, 5, none⟩ = some (.int .i64 x.da) := fun s => (s.kept.below.cell (p := ⟨n0, 5, none⟩) pn).trans q5
        have r6 : ∀ s : KX (w22.heap.size) w22 (w22.heap.size) [] (fun _ => True), s.val.cell? ⟨n0, 6, none⟩ = some (.int .i64 x.co) := fun s => (s.kept.below.cell (p := ⟨n0, 6, none⟩) pn).trans q6
        have r7 : ∀ s : KX (w22.heap.size) w22 (w22.heap.size) [] (fun _ => True), s.val.cell? ⟨n0, 7, none⟩ = some (.int .i64 x.pp) := fun s => (s.kept.below.cell (p := ⟨n0, 7, none⟩) pn).trans q7
        have r8 : ∀ s : KX (w22.heap.size) w22 (w22.heap.size) [] (fun _ => True), s.val.cell? ⟨n0, 8, none⟩ = some (.int .i64 x.pt) := fun s => (s.kept.below.cell (p := ⟨n0, 8, none⟩) pn).trans q8
        have r9 : ∀ s : KX (w22.heap.size) w22 (w22.heap.size) [] (fun _ => True), s.val.cell? ⟨n0, 9, none⟩ = some (.bool x.ta) := fun s => (s.kept.below.cell (p := ⟨n0, 9, none⟩) pn).trans q9
        have r10 : ∀ s : KX (w22.heap.size) w22 (w22.heap.size) [] (fun _ => True), s.val.cell? ⟨n0, 10, none⟩ = some (.bool x.si) := fun s => (s.kept.below.cell (p := ⟨n0, 10, none⟩) pn).trans q10
        have r11 : ∀ s : KX (w22.heap.size) w22 (w22.heap.size) [] (fun _ => True), s.val.cell? ⟨n0, 11, none⟩ = some (.bool x.dm) := fun s => (s.kept.below.cell (p := ⟨n0, 11, none⟩) pn).trans q11
        repeat (go_big_quiet_step (fail))
        refine wpQuiet_nil ?_
        clear ro r0 r1 r2 r3 r4 r5 r6 r7 r8 r9 r10 r11
        have KH_w31 := Lib.hid K_w31
        have hw_w31 := K_w31.below
        have hz_w31 := K_w31.size
        clear K_w31
        clear E_w31 F_w31
        refine ⟨fun K hK0 => ?_, trivial⟩
        have hK := Lib.hid hK0
        clear hK0
        have hb := hw_w31
        have HK := KH_w31
        clear hw_w31 hz_w31 KH_w31
        replace HX := Lib.hid (HX.out.below hb)
        replace HO := Lib.hid (HO.out.below hb)
        replace HG := Lib.hid (HG.out.grow hb)
        clear hb
        go_wp2_with fail
        with_reducible refine (orest x _).mono ?_
        rintro e w32 ⟨rfl, hb⟩
        replace HK := Lib.hid (Kept.step HK.out (Nat.le_refl _) hb)
        replace HX := Lib.hid (HX.out.below hb)
        replace HO := Lib.hid (HO.out.below hb)
        replace HG := Lib.hid (HG.out.grow hb)
        clear hb
        go_wp2_with fail
        first | (refine ⟨rfl, ⟨⟨_, HK.out, trivial⟩, rfl⟩, hK.out _ _ ?_⟩; clear hK K) | (refine ⟨⟨⟨_, HK.out, trivial⟩, rfl⟩, hK.out _ _ ?_⟩; clear hK K)
        repeat (go_big_quiet_step (fail))
        refine wpQuiet_nil ?_
        refine ⟨fun K hK0 => ?_, trivial⟩
        have hK := Lib.hid hK0
        clear hK0
        have HTH : Hid (w32.there g0 (k * 12) 12) := Lib.hid (fun j hj => by
          obtain ⟨u, hu⟩ : ∃ u, (oc x)[j]? = some u := ⟨_, List.getElem?_eq_getElem hj⟩
          have h := (HOB.out _ HO.out).at (i := k) (x := x) oc_len (by rw [mapTo_get (onF (B.seat p).fld reO) k B.ob hk]; exact HXS.out) hu (k * 12 + j) rfl
          exact ⟨by rw [h.1]; rfl, h.2⟩)
        go_wp2_with (refine wpList_store_mid rfl 57 _ _ rfl g0 (k * 12) #[.int .i64 (reO x).id, .int .i64 (reO x).cd, .int .i64 (reO x).ow, .int .i64 (reO x).po, .int .i64 (reO x).tg, .int .i64 (reO x).da, .int .i64 (reO x).co, .int .i64 (reO x).pp, .int .i64 (reO x).pt, .bool (reO x).ta, .bool (reO x).si, .bool (reO x).dm] rfl rfl HTH.out (by kernel_rfl) (by simp [Value.oneCell']) ?_)
        obtain ⟨w33, h33⟩ : ∃ W, W = w32.setCells g0 (k * 12) [.int .i64 (reO x).id, .int .i64 (reO x).cd, .int .i64 (reO x).ow, .int .i64 (reO x).po, .int .i64 (reO x).tg, .int .i64 (reO x).da, .int .i64 (reO x).co, .int .i64 (reO x).pp, .int .i64 (reO x).pt, .bool (reO x).ta, .bool (reO x).si, .bool (reO x).dm] := ⟨_, rfl⟩
        change K _ (w32.setCells g0 (k * 12) [.int .i64 (reO x).id, .int .i64 (reO x).cd, .int .i64 (reO x).ow, .int .i64 (reO x).po, .int .i64 (reO x).tg, .int .i64 (reO x).da, .int .i64 (reO x).co, .int .i64 (reO x).pp, .int .i64 (reO x).pt, .bool (reO x).ta, .bool (reO x).si, .bool (reO x).dm])
        rw [← h33]
        clear HTH
        first | (refine ⟨rfl, hK.out _ _ ?_⟩; clear hK K) | (refine hK.out _ _ ?_; clear hK K)
        clear _ne
        have HO33 : Hid (BdO lo hi w33 s { B with ob := mapTo (onF (B.seat p).fld reO) (k + 1) B.ob }) := Lib.hid (by
          have ho2 : Onl [g0] w32 w33 := by rw [h33]; exact Onl.setCells _ _ _ (Onl.refl _ _) (.inl (by simp))
          have h1 := (HOB.out _ HO.out).setn (fun _ => rfl) (reO x) (i := k) (by rw [mapTo_length _ _ _ hk]; exact hkl) (k * 12) rfl _ rfl
          rw [HS.out, ← HOV.out] at h1
          have h2 := HO.out.setOb (g := g0) (by rw [HOV.out]; rfl) ho2 (by rw [h33]; exact h1)
          exact h2)
        have HG33 : Hid (Rng lo hi w w33) := Lib.hid (HG.out.trans (by rw [h33]; exact Rng.onl (S := [g0]) (Onl.setCells _ _ _ (Onl.refl _ _) (.inl (by simp))) (by have h1 := HGL.out; have h2 := HGH.out; simp; omega)))
        have HX33 : Hid (Bx w33 P s B) := Lib.hid (by
          rw [h33]
          exact HX.out.onl (S := [g0]) (Onl.setCells _ _ _ (Onl.refl _ _) (.inl (by simp))) (by have h1 := HGL.out; have h2 := HGH.out; have h3 := HPP.out; simp; omega))
        clear h33 e0 pP pn q0 q1 q2 q3 q4 q5 q6 q7 q8 q9 q10 q11
        go_wp2_with fail
        go_roundw
        case rel => exact ⟨k + 1, by omega, by go_num, HX33.out, HO33.out, HG33.out⟩
        case measure => simp [intOf]; omega
    · obtain rfl : k = B.ob.length := by omega
      have HOL : Hid (BdO lo hi wr s (B.every p reO)) := Lib.hid (by have h := HO.out; rw [mapTo_all] at h; exact h)
      go_wp2_with fail
      go_returns
      exact ⟨rfl, HX.out, HOL.out, HG.out⟩
end Go.Proofs.YtkkpckkkcclhhaaDoor
