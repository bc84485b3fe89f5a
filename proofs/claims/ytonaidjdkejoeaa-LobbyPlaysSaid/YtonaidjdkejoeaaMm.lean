/- The model's match. -/
import Derived.Test.YtonaidjdkejoeaaMw
import Derived.LoopTactic
import Derived.Deep.LoopGhost
namespace Go.Proofs.Ytonaidjdkejoeaa
open Go.RowKit Plain
set_option linter.unusedVariables false
set_option linter.unusedSimpArgs false

theorem rg32_6 {P : Program} {B n : Nat} {w0 : World} {L : List (Nat × Nat × Value)} {E F : World → Prop} {id : Nat} {Q : Exit → Act → World → Prop} {a : Act} {w : World} {o0 o1 o2 o3 o4 o5 o6 o7 o8 o9 o10 o11 o12 o13 o14 o15 o16 o17 o18 : Oper} (hm : P.follows .mixedOrders = true)
    (hB : (Region.noSelect [o0, o1, o2, o3, o4, o5, o6, o7, o8, o9, o10, o11, o12, o13, o14, o15, o16, o17, o18].toArray && Scr.ok .any [o0, o1, o2, o3, o4, o5, o6, o7, o8, o9, o10, o11, o12, o13, o14, o15, o16, o17, o18].toArray [3, 7, 11, 17] [0, 1, 2, 4, 5, 6, 8, 9, 10, 12, 13, 14, 15, 16, 18] (.free 0 (.free 1 (.free 2 (.free 4 (.free 5 (.free 6 (.free 8 (.free 13 (.free 14 (.free 15 (.free 16 (.read 3 (.read 7 (.free 9 (.free 10 (.read 11 (.free 12 (.read 17 (.free 18 .done))))))))))))))))))) true true [o0, o1, o2, o3, o4, o5, o6, o7, o8, o9, o10, o11, o12, o13, o14, o15, o16, o17, o18].toArray.size (Array.replicate [o0, o1, o2, o3, o4, o5, o6, o7, o8, o9, o10, o11, o12, o13, o14, o15, o16, o17, o18].toArray.size false)) = true)
    (k : Kept B w0 n L w) (he : E w) (hE : ∀ W W', E W → Below W.heap.size W W' → E W') (hf : F w) (hF : ∀ W W', F W → Below W.heap.size W W' → F W')
    (h : ∀ wk, Kept B w0 n L wk → E wk → F wk → wpQuiet P [o0, o1, o2, o3, o4, o5, o6, o7, o8, o9, o10, o11, o12, o13, o14, o15, o16, o17, o18].toArray (fun _ => True) (fun a0 => wpQuiet P [o0, o1, o2, o3, o4, o5, o6, o7, o8, o9, o10, o11, o12, o13, o14, o15, o16, o17, o18].toArray (fun w' => ∃ s : KX B w0 n L E, w' = s.val) (fun a1 => wpQuiet P [o0, o1, o2, o3, o4, o5, o6, o7, o8, o9, o10, o11, o12, o13, o14, o15, o16, o17, o18].toArray (fun _ => True) (fun a2 => wpQuiet P [o0, o1, o2, o3, o4, o5, o6, o7, o8, o9, o10, o11, o12, o13, o14, o15, o16, o17, o18].toArray (fun w' => ∃ s : KX B w0 n L E, w' = s.val) (fun a3 => wpQuiet P [o0, o1, o2, o3, o4, o5, o6, o7, o8, o9, o10, o11, o12, o13, o14, o15, o16, o17, o18].toArray (fun _ => True) (fun a4 => wpQuiet P [o0, o1, o2, o3, o4, o5, o6, o7, o8, o9, o10, o11, o12, o13, o14, o15, o16, o17, o18].toArray (fun w' => ∃ s : KX B w0 n L E, w' = s.val) (fun a5 => wpQuiet P [o0, o1, o2, o3, o4, o5, o6, o7, o8, o9, o10, o11, o12, o13, o14, o15, o16, o17, o18].toArray (fun _ => True) (fun a6 => Q .normal a6 wk) [o18] a5) [o17] a4) [o12] a3) [o11] a2) [o9, o10] a1) [o3, o7] a0) [o0, o1, o2, o4, o5, o6, o8, o13, o14, o15, o16] a) : (Code.region id [o0, o1, o2, o3, o4, o5, o6, o7, o8, o9, o10, o11, o12, o13, o14, o15, o16, o17, o18].toArray true).wp P Q a w := by
  have e1 : E w.drew := hE _ _ he ((Below.refl _ _).drew)
  have g := h _ k.drew e1 (hF _ _ hf ((Below.refl _ _).drew))
  exact wp_region_scr (U := (fun w' => ∃ s : KX B w0 n L E, w' = s.val)) (ops := [o0, o1, o2, o3, o4, o5, o6, o7, o8, o9, o10, o11, o12, o13, o14, o15, o16, o17, o18].toArray) (.free 0 (.free 1 (.free 2 (.free 4 (.free 5 (.free 6 (.free 8 (.free 13 (.free 14 (.free 15 (.free 16 (.read 3 (.read 7 (.free 9 (.free 10 (.read 11 (.free 12 (.read 17 (.free 18 .done))))))))))))))))))) [3, 7, 11, 17] [0, 1, 2, 4, 5, 6, 8, 9, 10, 12, 13, 14, 15, 16, 18] hm hB ⟨⟨_, k.drew, e1⟩, rfl⟩ (Scr.of_free rfl g (fun _ g0 => Scr.of_free rfl g0 (fun _ g1 => Scr.of_free rfl g1 (fun _ g2 => Scr.of_free rfl g2 (fun _ g3 => Scr.of_free rfl g3 (fun _ g4 => Scr.of_free rfl g4 (fun _ g5 => Scr.of_free rfl g5 (fun _ g6 => Scr.of_free rfl g6 (fun _ g7 => Scr.of_free rfl g7 (fun _ g8 => Scr.of_free rfl g8 (fun _ g9 => Scr.of_free rfl g9 (fun _ g10 => Scr.of_read rfl g10 (fun _ g11 => Scr.of_read rfl g11 (fun _ g12 => Scr.of_free rfl g12 (fun _ g13 => Scr.of_free rfl g13 (fun _ g14 => Scr.of_read rfl g14 (fun _ g15 => Scr.of_free rfl g15 (fun _ g16 => Scr.of_read rfl g16 (fun _ g17 => Scr.of_free rfl g17 (fun _ g18 => g18))))))))))))))))))))
theorem rg32_24 {P : Program} {B n : Nat} {w0 : World} {L : List (Nat × Nat × Value)} {E F : World → Prop} {id : Nat} {Q : Exit → Act → World → Prop} {a : Act} {w : World} {o0 o1 o2 o3 o4 o5 o6 o7 o8 o9 o10 o11 o12 o13 o14 : Oper} (hm : P.follows .mixedOrders = true)
    (hB : (Region.noSelect [o0, o1, o2, o3, o4, o5, o6, o7, o8, o9, o10, o11, o12, o13, o14].toArray && Scr.ok .any [o0, o1, o2, o3, o4, o5, o6, o7, o8, o9, o10, o11, o12, o13, o14].toArray [2, 6, 10] [0, 1, 3, 4, 5, 7, 8, 9, 11, 14] (.free 0 (.free 1 (.free 3 (.free 4 (.free 5 (.free 7 (.read 2 (.read 6 (.free 8 (.free 9 (.read 10 (.free 11 (.altc 12 (.altc 13 (.free 14 .done) .stop) .stop))))))))))))) true true [o0, o1, o2, o3, o4, o5, o6, o7, o8, o9, o10, o11, o12, o13, o14].toArray.size (Array.replicate [o0, o1, o2, o3, o4, o5, o6, o7, o8, o9, o10, o11, o12, o13, o14].toArray.size false)) = true)
    (k : Kept B w0 n L w) (he : E w) (hE : ∀ W W', E W → Below W.heap.size W W' → E W') (hf : F w) (hF : ∀ W W', F W → Below W.heap.size W W' → F W')
    (h : ∀ wk, Kept B w0 n L wk → E wk → F wk → wpQuiet P [o0, o1, o2, o3, o4, o5, o6, o7, o8, o9, o10, o11, o12, o13, o14].toArray (fun _ => True) (fun a0 => wpQuiet P [o0, o1, o2, o3, o4, o5, o6, o7, o8, o9, o10, o11, o12, o13, o14].toArray (fun w' => ∃ s : KX B w0 n L E, w' = s.val) (fun a1 => wpQuiet P [o0, o1, o2, o3, o4, o5, o6, o7, o8, o9, o10, o11, o12, o13, o14].toArray (fun _ => True) (fun a2 => wpQuiet P [o0, o1, o2, o3, o4, o5, o6, o7, o8, o9, o10, o11, o12, o13, o14].toArray (fun w' => ∃ s : KX B w0 n L E, w' = s.val) (fun a3 => wpQuiet P [o0, o1, o2, o3, o4, o5, o6, o7, o8, o9, o10, o11, o12, o13, o14].toArray (fun _ => True) (fun a4 => ((∀ K5 : Act → World → Prop, (∀ a5 w5, ((∀ K6 : Act → World → Prop, (∀ a6 w6, wpQuiet P [o0, o1, o2, o3, o4, o5, o6, o7, o8, o9, o10, o11, o12, o13, o14].toArray (fun _ => True) (fun a7 => Q .normal a7 w6) [o14] a6 → K6 a6 w6) → wpList P [o0, o1, o2, o3, o4, o5, o6, o7, o8, o9, o10, o11, o12, o13, o14].toArray (fun e a6 w6 => e = .normal ∧ K6 a6 w6) [o13] a5 w5) ∧ True) → K5 a5 w5) → wpList P [o0, o1, o2, o3, o4, o5, o6, o7, o8, o9, o10, o11, o12, o13, o14].toArray (fun e a5 w5 => e = .normal ∧ K5 a5 w5) [o12] a4 wk) ∧ True)) [o11] a3) [o10] a2) [o8, o9] a1) [o2, o6] a0) [o0, o1, o3, o4, o5, o7] a) : (Code.region id [o0, o1, o2, o3, o4, o5, o6, o7, o8, o9, o10, o11, o12, o13, o14].toArray true).wp P Q a w := by
  have e1 : E w.drew := hE _ _ he ((Below.refl _ _).drew)
  have g := h _ k.drew e1 (hF _ _ hf ((Below.refl _ _).drew))
  exact wp_region_scr (U := (fun w' => ∃ s : KX B w0 n L E, w' = s.val)) (ops := [o0, o1, o2, o3, o4, o5, o6, o7, o8, o9, o10, o11, o12, o13, o14].toArray) (.free 0 (.free 1 (.free 3 (.free 4 (.free 5 (.free 7 (.read 2 (.read 6 (.free 8 (.free 9 (.read 10 (.free 11 (.altc 12 (.altc 13 (.free 14 .done) .stop) .stop))))))))))))) [2, 6, 10] [0, 1, 3, 4, 5, 7, 8, 9, 11, 14] hm hB ⟨⟨_, k.drew, e1⟩, rfl⟩ (Scr.of_free rfl g (fun _ g0 => Scr.of_free rfl g0 (fun _ g1 => Scr.of_free rfl g1 (fun _ g2 => Scr.of_free rfl g2 (fun _ g3 => Scr.of_free rfl g3 (fun _ g4 => Scr.of_free rfl g4 (fun _ g5 => Scr.of_read rfl g5 (fun _ g6 => Scr.of_read rfl g6 (fun _ g7 => Scr.of_free rfl g7 (fun _ g8 => Scr.of_free rfl g8 (fun _ g9 => Scr.of_read rfl g9 (fun _ g10 => Scr.of_free rfl g10 (fun _ g11 => (Scr.of_altc rfl (g11.1 _ (fun _ _ g => g)) (fun _ _ g12 => (Scr.of_altc rfl (g12.1 _ (fun _ _ g => g)) (fun _ _ g13 => Scr.of_free rfl g13 (fun _ g14 => g14)) trivial)) trivial))))))))))))))
/-- what the model's match returns -/
def MmAt (M : Nat) (w : World) (x' : Lb) (ps : List (Int × Int)) (gs : List Int) (e : Ending) (w' : World) : Prop := ∃ pv gv lv', e = .returned (.tuple #[pv, gv]) ∧ Ow dc 2 50 w' w.heap.size pv ps ∧ Ow ic 1 3 w' w.heap.size gv gs ∧ ModAt w' M x' lv' ∧ Onl [M] w w'
def sty (y : Lb) (j : Nat) : List Pl := (y.l.take j).filter (fun p => !gvn y.to y.now p)
def gon (y : Lb) (j : Nat) : List Int := ((y.l.take j).filter (fun p => gvn y.to y.now p)).map Pl.id
theorem sty_len (y : Lb) (j : Nat) : (sty y j).length ≤ j := by
  unfold sty
  have h := List.length_filter_le (fun p => !gvn y.to y.now p) (y.l.take j)
  simp only [List.length_take] at h
  omega
theorem gon_len (y : Lb) (j : Nat) : (gon y j).length ≤ j := by
  unfold gon
  rw [List.length_map]
  have h := List.length_filter_le (fun p => gvn y.to y.now p) (y.l.take j)
  simp only [List.length_take] at h
  omega
def MB (w : World) (M : Nat) (z : Lb) (gv : Value) (gs : List Int) (g : Nat) (pv i : Value) (wr : World) : Prop := ∃ (j : Nat) (lv : Value), g = z.l.length - j ∧ j ≤ z.l.length ∧ i = .int .i64 ((rk (mtc z j).1 j : Nat) : Int) ∧ Ow dc 2 50 wr w.heap.size pv (mtc z j).2 ∧ Ow ic 1 3 wr w.heap.size gv gs ∧ ModAt wr M (z.lf (mtc z j).1) lv ∧ Onl [M] w wr
def MC (wo : World) (xl : Lb) (i N : Nat) (p : Pl) (best least t : Value) (wr : World) : Prop := ∃ (k : Nat) (l : Int), k ≤ N ∧ t = .int .i64 k ∧ best = .int .i64 (pa xl i (List.replicate N false) k) ∧ least = .int .i64 l ∧ (0 ≤ pa xl i (List.replicate N false) k → l = ap (xl.l.getD i noPl).ra (xl.l.getD (pa xl i (List.replicate N false) k).toNat noPl).ra) ∧ Kept wo.heap.size wo (wo.heap.size + 1) [(wo.heap.size, 0, .int .i64 p.id), (wo.heap.size, 1, .int .i64 p.ra), (wo.heap.size, 2, .int .u64 p.si)] wr
def MA (w : World) (M : Nat) (y : Lb) (g : Nat) (gv i : Value) (wr : World) : Prop := ∃ (j : Nat) (lv : Value), g = y.l.length - j ∧ j ≤ y.l.length ∧ i = .int .i64 ((sty y j).length : Nat) ∧ Ow ic 1 3 wr w.heap.size gv (gon y j) ∧ ModAt wr M { y with l := sty y j ++ y.l.drop j } lv ∧ Onl [M] w wr
theorem cut_at {y : Lb} {j : Nat} {p : Pl} (hp : y.l[j]? = some p) : (sty y j ++ y.l.drop j)[(sty y j).length]? = some p ∧ (sty y j ++ y.l.drop j).length = (sty y j).length + (y.l.length - j) := by
  refine ⟨?_, by simp⟩
  rw [List.getElem?_append_right (Nat.le_refl _), Nat.sub_self, List.getElem?_drop, Nat.add_zero, hp]
theorem drop_cons {y : Lb} {j : Nat} {p : Pl} (hp : y.l[j]? = some p) : y.l.drop j = p :: y.l.drop (j + 1) := by
  have h := (List.getElem?_eq_some_iff.1 hp)
  rw [List.drop_eq_getElem_cons h.1, h.2]
theorem sty_stay {y : Lb} {j : Nat} {p : Pl} (hp : y.l[j]? = some p) (hg : gvn y.to y.now p = false) : sty y (j + 1) = sty y j ++ [p] ∧ gon y (j + 1) = gon y j ∧ sty y (j + 1) ++ y.l.drop (j + 1) = sty y j ++ y.l.drop j := by
  have e1 : sty y (j + 1) = sty y j ++ [p] := by unfold sty; rw [filt_next hp, if_pos (by simp [hg])]
  refine ⟨e1, by unfold gon; rw [filt_next hp, if_neg (by simp [hg]), List.append_nil], ?_⟩
  rw [e1, drop_cons hp]
  simp
theorem sty_gone {y : Lb} {j : Nat} {p : Pl} (hp : y.l[j]? = some p) (hg : gvn y.to y.now p = true) : sty y (j + 1) = sty y j ∧ gon y (j + 1) = gon y j ++ [p.id] ∧ sty y (j + 1) ++ y.l.drop (j + 1) = (sty y j ++ y.l.drop j).eraseIdx (sty y j).length := by
  have e1 : sty y (j + 1) = sty y j := by unfold sty; rw [filt_next hp, if_neg (by simp [hg]), List.append_nil]
  refine ⟨e1, by unfold gon; rw [filt_next hp, if_pos hg, List.map_append]; rfl, ?_⟩
  rw [e1, List.eraseIdx_append_of_length_le (Nat.le_refl _), Nat.sub_self, drop_cons hp]
  rfl
theorem sty_all (y : Lb) : sty y y.l.length ++ y.l.drop y.l.length = y.stay.l := by
  unfold sty
  rw [List.take_length, List.drop_length, List.append_nil]
  rfl
theorem MNOT {w : World} {M base sz : Nat} {e : TypeId} {x : Lb} {v v' : Value} {α : Type} {f : α → List Value} {l : List α} (h : w.heap[M]? = some (.cells (lbc x v) 43 (0, 0))) (hr : Ow f sz e w base v' l) (he : e ≠ 43 := by decide) : ∀ b, v'.ownBlock = some b → b ≠ M := by
  rintro b hb rfl
  obtain ⟨_, _, cur, hc⟩ := hr.typ b hb
  rw [h] at hc
  simp at hc
  exact he hc.2.symm
/-- a model behind an append to a row of another type -/
theorem mod_grownI {w w' : World} {M base sz : Nat} {e : TypeId} {x : Lb} {v v' : Value} {α : Type} {f : α → List Value} {l : List α} (h : ModAt w M x v) (hr : Ow f sz e w base v' l) (hg : w.grownBy w' v'.ownBlock) (he : e ≠ 43 := by decide) (he2 : e ≠ 76 := by decide) : ModAt w' M x v :=
  ⟨(hg.block M h.lt (fun e2 => MNOT h.blk hr he M e2.symm rfl)).trans h.blk, h.row.grown hg (fun b hb e2 => hr.ne h.row he2 b e2 hb)⟩
theorem KLESS {B n n' : Nat} {w W : World} {L L' : List (Nat × Nat × Value)} (h : Kept B w n L' W) (hn : n' ≤ n) (hs : ∀ x ∈ L, x ∈ L' ∧ x.1 < n') : Kept B w n' L W :=
  ⟨h.below, Nat.le_trans hn h.size, fun x hx => ⟨(hs x hx).2, (h.cells x (hs x hx).1).2⟩⟩
set_option maxRecDepth 100000 in
set_option maxHeartbeats 8000000 in
theorem mmatch32 (M : Nat) (x : Lb) (v : Value) (t : Int) (w : World) (hl : ModAt w M x v) (ok : x.Ok) (ht : U t) : Calls Try.prog 32 #[.pointer (some ⟨M, 0, none⟩), .int .u64 t] w (MmAt M w (mtX x t) (mtP x t) (mtG x t)) := by
  have hM := hl.lt
  obtain ⟨m, hm⟩ : ∃ m, max x.now t = m := ⟨_, rfl⟩
  obtain ⟨y, hy⟩ : ∃ y, x.at t = y := ⟨_, rfl⟩
  have hyn : y = { x with now := m } := by rw [← hy, ← hm]; rfl
  have OKY : Hid (y.Ok) := Lib.hid (by rw [← hy]; exact at_ok ok ht)
  have HYT := Lib.hid hy
  have f3 : w.frozen? ⟨M, 3, none⟩ = false := hl.free 3
  have c3 : w.cell? ⟨M, 3, none⟩ = some (.int .u64 x.now) := hl.cell 3
  have HMY : Hid (ModAt (w.setCell ⟨M, 3, none⟩ (.int .u64 m)) M { y with l := sty y 0 ++ y.l.drop 0 } v) := Lib.hid (by rw [hyn]; exact mod_now hl m)
  have HOY : Hid (Onl [M] w (w.setCell ⟨M, 3, none⟩ (.int .u64 m))) := Lib.hid ((Onl.refl _ _).setCell (q := ⟨M, 3, none⟩) (.inl (by simp)) _)
  clear hl hy hyn
  by_cases g6 : t ≤ x.now
  · obtain rfl : x.now = m := by omega
    clear hm
    go_enter Try.func32, Try.ntmps32
    go_wp2_with fail
    go_loopg [6, 7] y.l.length (fun g gv i wr => MA w M y g gv i wr)
    case atStart => exact ⟨0, _, rfl, Nat.zero_le _, rfl, Ow.nil _ _ _, HMY.out, HOY.out⟩
    case round =>
      obtain ⟨j, lv, rfl, hj, rfl, hg, hmd, ho⟩ := hrel
      have HG := Lib.hid hg
      have HMD := Lib.hid hmd
      have HO := Lib.hid ho
      have hMr := hmd.lt
      have hz_wr := ho.size
      obtain ⟨ga, gc, hgv⟩ := hg.form
      obtain ⟨gn, hgn⟩ : ∃ n, (gon y j).length = n := ⟨_, rfl⟩
      have HGL : Hid ((gon y j).length ≤ 200) := Lib.hid (Nat.le_trans (gon_len y j) (by have := OKY.out.len; omega))
      obtain ⟨i, hi⟩ : ∃ i, (sty y j).length = i := ⟨_, rfl⟩
      obtain ⟨la, lc, hlv⟩ := hmd.row.form
      obtain ⟨n1, hn1⟩ : ∃ n, (sty y j ++ y.l.drop j).length = n := ⟨_, rfl⟩
      have hn2 : n1 = i + (y.l.length - j) := by rw [← hn1, ← hi]; simp
      have hsl := sty_len y j
      have h200 := OKY.out.len
      have HL2 : Hid ((sty y j ++ y.l.drop j).length ≤ 200) := Lib.hid (by rw [hn1]; omega)
      simp only at hlv
      rw [hn1] at hlv
      rw [hgn] at hgv
      subst hgv hlv
      have HI := Lib.hid hi
      rw [hi] at hsl ⊢
      have m2 : wr.cell? ⟨M, 2, none⟩ = some (.int .u64 y.to) := hmd.cell 2
      have m3 : wr.cell? ⟨M, 3, none⟩ = some (.int .u64 y.now) := hmd.cell 3
      have m4 : wr.cell? ⟨M, 4, none⟩ = some (.slice la n1 lc) := hmd.cell 4
      have HN1 := Lib.hid hn1
      clear hg hmd ho hgn hi hn1
      by_cases hjl : j < y.l.length
      · obtain ⟨p, hp⟩ : ∃ p, y.l[j]? = some p := ⟨y.l[j], List.getElem?_eq_getElem hjl⟩
        have hcut := cut_at hp
        rw [HI.out] at hcut
        obtain ⟨_, a1, c1, hv, hf⟩ := HMD.out.rw.form
        simp only [HN1.out] at hv hf
        obtain ⟨b1, o1, rfl, hb1, hc1⟩ := hf (by omega)
        simp only [Value.slice.injEq] at hv
        obtain ⟨rfl, hsl2, rfl⟩ := hv
        clear hsl2
        have qi0 : wr.cell? ⟨b1, o1 + i * 3, none⟩ = some (.int .i64 p.id) := hc1 i p hcut.1 0 _ rfl
        have qi2 : wr.cell? ⟨b1, o1 + i * 3 + 2, none⟩ = some (.int .u64 p.si) := hc1 i p hcut.1 2 _ rfl
        have hps := OKY.out.p p (List.mem_of_getElem? hp)
        have hny := OKY.out.n
        obtain ⟨d, hd⟩ : ∃ d, y.now - p.si = d := ⟨_, rfl⟩
        have hd1 : 0 ≤ d ∧ d ≤ 18446744073709551615 := by have := hps.s0; have := hps.s1; have := hny.2; omega
        have hq1 : IntKind.u64.wrap (y.now - p.si) = d := by
          rw [hd]
          simp [IntKind.wrap, IntKind.signed, IntKind.bits]
          omega
        have hgd : gvn y.to y.now p = decide (y.to ≤ d) := by
          unfold gvn since
          rw [show y.now - min y.now p.si = d by have := hps.s1; omega]
        have i1 : (0 : Int) ≤ (i : Int) := by omega
        have i2 : (i : Int) < (n1 : Int) := by omega
        have HIL : Hid (i < (sty y j ++ y.l.drop j).length) := Lib.hid (by rw [HN1.out]; omega)
        have HP := Lib.hid hp
        have hn3 : n1 ≤ 200 := by have h := HL2.out; rw [HN1.out] at h; exact h
        clear hf hc1 hps hny hd hcut hn2
        by_cases hgo : y.to ≤ d
        · have HSS := Lib.hid (sty_gone hp (by rw [hgd]; exact decide_eq_true hgo))
          have t1 : decide (y.to ≤ d) = true := by simpa using hgo
          clear hp hgd
          rw [HI.out] at HSS
          go_wp2_with fail
          refine rg32_6 (w0 := wr) (B := wr.heap.size) (n := wr.heap.size) (L := []) (E := fun _ => True) (F := fun _ => True) (by kernel_rfl) (by kernel_rfl) ⟨by go_grown, by go_size, (by simp [go_sem] <;> omega)⟩ trivial (fun _ _ _ _ => trivial) trivial (fun _ _ _ _ => trivial) (fun w21 K_w21 E_w21 F_w21 => ?_)
          have _ne : Nonempty (KX (wr.heap.size) wr (wr.heap.size) [] (fun _ => True)) := ⟨⟨_, K_w21, E_w21⟩⟩
          repeat (go_big_quiet_step (fail))
          refine wpQuiet_nil ?_
          have rm2 : ∀ s : KX (wr.heap.size) wr (wr.heap.size) [] (fun _ => True), s.val.cell? ⟨M, 2, none⟩ = some (.int .u64 y.to) := fun s => (s.kept.below.cell (p := ⟨M, 2, none⟩) hMr).trans m2
          have rm3 : ∀ s : KX (wr.heap.size) wr (wr.heap.size) [] (fun _ => True), s.val.cell? ⟨M, 3, none⟩ = some (.int .u64 y.now) := fun s => (s.kept.below.cell (p := ⟨M, 3, none⟩) hMr).trans m3
          have rm4 : ∀ s : KX (wr.heap.size) wr (wr.heap.size) [] (fun _ => True), s.val.cell? ⟨M, 4, none⟩ = some (.slice (some ⟨b1, o1, none⟩) n1 lc) := fun s => (s.kept.below.cell (p := ⟨M, 4, none⟩) hMr).trans m4
          have rsi : ∀ s : KX (wr.heap.size) wr (wr.heap.size) [] (fun _ => True), s.val.cell? ⟨b1, o1 + i * 3 + 2, none⟩ = some (.int .u64 p.si) := fun s => (s.kept.below.cell (p := ⟨b1, o1 + i * 3 + 2, none⟩) hb1).trans qi2
          repeat (go_big_quiet_step (fail))
          refine wpQuiet_nil ?_
          clear rm2 rm3 rm4 rsi
          repeat (go_big_quiet_step (fail))
          refine wpQuiet_nil ?_
          have rm2 : ∀ s : KX (wr.heap.size) wr (wr.heap.size) [] (fun _ => True), s.val.cell? ⟨M, 2, none⟩ = some (.int .u64 y.to) := fun s => (s.kept.below.cell (p := ⟨M, 2, none⟩) hMr).trans m2
          have rm3 : ∀ s : KX (wr.heap.size) wr (wr.heap.size) [] (fun _ => True), s.val.cell? ⟨M, 3, none⟩ = some (.int .u64 y.now) := fun s => (s.kept.below.cell (p := ⟨M, 3, none⟩) hMr).trans m3
          have rm4 : ∀ s : KX (wr.heap.size) wr (wr.heap.size) [] (fun _ => True), s.val.cell? ⟨M, 4, none⟩ = some (.slice (some ⟨b1, o1, none⟩) n1 lc) := fun s => (s.kept.below.cell (p := ⟨M, 4, none⟩) hMr).trans m4
          have rsi : ∀ s : KX (wr.heap.size) wr (wr.heap.size) [] (fun _ => True), s.val.cell? ⟨b1, o1 + i * 3 + 2, none⟩ = some (.int .u64 p.si) := fun s => (s.kept.below.cell (p := ⟨b1, o1 + i * 3 + 2, none⟩) hb1).trans qi2
          repeat (go_big_quiet_step (fail))
          refine wpQuiet_nil ?_
          clear rm2 rm3 rm4 rsi
          repeat (go_big_quiet_step (fail))
          refine wpQuiet_nil ?_
          have rm2 : ∀ s : KX (wr.heap.size) wr (wr.heap.size) [] (fun _ => True), s.val.cell? ⟨M, 2, none⟩ = some (.int .u64 y.to) := fun s => (s.kept.below.cell (p := ⟨M, 2, none⟩) hMr).trans m2
          have rm3 : ∀ s : KX (wr.heap.size) wr (wr.heap.size) [] (fun _ => True), s.val.cell? ⟨M, 3, none⟩ = some (.int .u64 y.now) := fun s => (s.kept.below.cell (p := ⟨M, 3, none⟩) hMr).trans m3
          have rm4 : ∀ s : KX (wr.heap.size) wr (wr.heap.size) [] (fun _ => True), s.val.cell? ⟨M, 4, none⟩ = some (.slice (some ⟨b1, o1, none⟩) n1 lc) := fun s => (s.kept.below.cell (p := ⟨M, 4, none⟩) hMr).trans m4
          have rsi : ∀ s : KX (wr.heap.size) wr (wr.heap.size) [] (fun _ => True), s.val.cell? ⟨b1, o1 + i * 3 + 2, none⟩ = some (.int .u64 p.si) := fun s => (s.kept.below.cell (p := ⟨b1, o1 + i * 3 + 2, none⟩) hb1).trans qi2
          repeat (go_big_quiet_step (fail))
          refine wpQuiet_nil ?_
          clear rm2 rm3 rm4 rsi
          repeat (go_big_quiet_step (fail))
          refine wpQuiet_nil ?_
          clear _ne
          have KH_w21 := Lib.hid K_w21
          have hw_w21 := K_w21.below
          have hz_w21 := K_w21.size
          clear K_w21
          clear E_w21 F_w21
          have n4 : w21.cell? ⟨M, 4, none⟩ = Option.some (.slice (some ⟨b1, o1, none⟩) n1 lc) := (hw_w21.cell (p := ⟨M, 4, none⟩) hMr).trans m4
          have nq : w21.cell? ⟨b1, o1 + i * 3, none⟩ = Option.some (.int .i64 p.id) := (hw_w21.cell (p := ⟨b1, o1 + i * 3, none⟩) hb1).trans qi0
          have HMD2 := Lib.hid (HMD.out.below hw_w21)
          have HG2 := Lib.hid (HG.out.below hw_w21)
          have HO2 := Lib.hid (HO.out.grow hw_w21)
          go_wp2_with (at_builtin; refine wpList_append_ow (f := ic) (sz := 1) rfl _ _ 33 rfl w.heap.size 3 (.int .i64 0) 8 Try.underlying33 info3 rfl (by decide) _ (gon y j) rfl (HG2.out.below (by go_grown)) ic_ok _ [p.id] rfl (Rw.one2 _ _ p.id _ rfl _ _ (by simp)) ?ca5 ?cb5 (by go_size) ?_)
          case ca5 => have q1 := HGL.out; simp only [maxLen, List.length_singleton]; omega
          case cb5 => have q1 := HGL.out; simp only [List.length_singleton]; omega
          intro v' wA hown hgrow hwh
          have HG3 : Hid (Ow ic 1 3 wA w.heap.size v' (gon y (j + 1))) := Lib.hid (by rw [HSS.out.2.1]; exact hown)
          have hgB := mod_grownI (HMD2.out.below (by go_grown)) (HG2.out.below (by go_grown)) hgrow
          have hOA : Onl [M] w wA := (HO2.out.grow (by go_grown)).grown hgrow (fun q hq => .inr (HG2.out.typ q ((ob_len _ _ _ _ _).trans hq)).1)
          have HMA := Lib.hid hgB
          have HOA := Lib.hid hOA
          have n4A : wA.cell? ⟨M, 4, none⟩ = Option.some (.slice (some ⟨b1, o1, none⟩) n1 lc) := hgB.cell 4
          obtain ⟨ga2, gc2, hv'⟩ := hown.form
          rw [List.length_append, List.length_singleton] at hv'
          subst hv'
          clear hown hgrow hwh hgB hOA
          go_wp2_with fail
          with_reducible refine (without39 _ (sty y j ++ y.l.drop j) i _ HMA.out.row HIL.out HL2.out).mono ?_
          rintro e wB ⟨v2, rfl, h2, hb2⟩
          have hB2 := (HMA.out.below hb2).blk
          have c4_2 : wB.cell? ⟨M, 4, none⟩ = Option.some (.slice (some ⟨b1, o1, none⟩) n1 lc) := cell_of_row wB M 4 _ 43 (0, 0) hB2
          have f4_2 : wB.frozen? ⟨M, 4, none⟩ = false := frozen_of_row wB M 4 _ 43 hB2
          obtain ⟨a', c', hv'⟩ := h2.form
          obtain ⟨n', hn'⟩ : ∃ n, ((sty y j ++ y.l.drop j).eraseIdx i).length = n := ⟨_, rfl⟩
          rw [hn'] at hv'
          subst hv'
          have HB := Lib.hid (mod_put hB2 h2)
          have HO3 := Lib.hid (HOA.out.grow hb2)
          have HG4 := Lib.hid ((HG3.out.below hb2).onl ((Onl.refl [M] wB).setCell (q := ⟨M, 4, none⟩) (.inl (by simp)) (.slice a' n' c')) (fun b hb => by simpa using fun e : b = M => MNOT hB2 (HG3.out.below hb2) (by decide) b hb e))
          clear hB2 h2 hb2 hn'
          go_wp2_with fail
          go_roundg (y.l.length - (j + 1))
          case rel => exact ⟨j + 1, _, rfl, by omega, by rw [HSS.out.1, HI.out], HG4.out, by rw [HSS.out.2.2]; exact HB.out, HO3.out.setCell (q := ⟨M, 4, none⟩) (.inl (by simp)) _⟩
          case measure => omega
        · have HSS := Lib.hid (sty_stay hp (by rw [hgd]; exact decide_eq_false hgo))
          have t1 : decide (y.to ≤ d) = false := by simpa using hgo
          clear hp hgd
          go_wp2_with fail
          refine rg32_6 (w0 := wr) (B := wr.heap.size) (n := wr.heap.size) (L := []) (E := fun _ => True) (F := fun _ => True) (by kernel_rfl) (by kernel_rfl) ⟨by go_grown, by go_size, (by simp [go_sem] <;> omega)⟩ trivial (fun _ _ _ _ => trivial) trivial (fun _ _ _ _ => trivial) (fun w21 K_w21 E_w21 F_w21 => ?_)
          have _ne : Nonempty (KX (wr.heap.size) wr (wr.heap.size) [] (fun _ => True)) := ⟨⟨_, K_w21, E_w21⟩⟩
          repeat (go_big_quiet_step (fail))
          refine wpQuiet_nil ?_
          have rm2 : ∀ s : KX (wr.heap.size) wr (wr.heap.size) [] (fun _ => True), s.val.cell? ⟨M, 2, none⟩ = some (.int .u64 y.to) := fun s => (s.kept.below.cell (p := ⟨M, 2, none⟩) hMr).trans m2
          have rm3 : ∀ s : KX (wr.heap.size) wr (wr.heap.size) [] (fun _ => True), s.val.cell? ⟨M, 3, none⟩ = some (.int .u64 y.now) := fun s => (s.kept.below.cell (p := ⟨M, 3, none⟩) hMr).trans m3
          have rm4 : ∀ s : KX (wr.heap.size) wr (wr.heap.size) [] (fun _ => True), s.val.cell? ⟨M, 4, none⟩ = some (.slice (some ⟨b1, o1, none⟩) n1 lc) := fun s => (s.kept.below.cell (p := ⟨M, 4, none⟩) hMr).trans m4
          have rsi : ∀ s : KX (wr.heap.size) wr (wr.heap.size) [] (fun _ => True), s.val.cell? ⟨b1, o1 + i * 3 + 2, none⟩ = some (.int .u64 p.si) := fun s => (s.kept.below.cell (p := ⟨b1, o1 + i * 3 + 2, none⟩) hb1).trans qi2
          repeat (go_big_quiet_step (fail))
          refine wpQuiet_nil ?_
          clear rm2 rm3 rm4 rsi
          repeat (go_big_quiet_step (fail))
          refine wpQuiet_nil ?_
          have rm2 : ∀ s : KX (wr.heap.size) wr (wr.heap.size) [] (fun _ => True), s.val.cell? ⟨M, 2, none⟩ = some (.int .u64 y.to) := fun s => (s.kept.below.cell (p := ⟨M, 2, none⟩) hMr).trans m2
          have rm3 : ∀ s : KX (wr.heap.size) wr (wr.heap.size) [] (fun _ => True), s.val.cell? ⟨M, 3, none⟩ = some (.int .u64 y.now) := fun s => (s.kept.below.cell (p := ⟨M, 3, none⟩) hMr).trans m3
          have rm4 : ∀ s : KX (wr.heap.size) wr (wr.heap.size) [] (fun _ => True), s.val.cell? ⟨M, 4, none⟩ = some (.slice (some ⟨b1, o1, none⟩) n1 lc) := fun s => (s.kept.below.cell (p := ⟨M, 4, none⟩) hMr).trans m4
          have rsi : ∀ s : KX (wr.heap.size) wr (wr.heap.size) [] (fun _ => True), s.val.cell? ⟨b1, o1 + i * 3 + 2, none⟩ = some (.int .u64 p.si) := fun s => (s.kept.below.cell (p := ⟨b1, o1 + i * 3 + 2, none⟩) hb1).trans qi2
          repeat (go_big_quiet_step (fail))
          refine wpQuiet_nil ?_
          clear rm2 rm3 rm4 rsi
          repeat (go_big_quiet_step (fail))
          refine wpQuiet_nil ?_
          have rm2 : ∀ s : KX (wr.heap.size) wr (wr.heap.size) [] (fun _ => True), s.val.cell? ⟨M, 2, none⟩ = some (.int .u64 y.to) := fun s => (s.kept.below.cell (p := ⟨M, 2, none⟩) hMr).trans m2
          have rm3 : ∀ s : KX (wr.heap.size) wr (wr.heap.size) [] (fun _ => True), s.val.cell? ⟨M, 3, none⟩ = some (.int .u64 y.now) := fun s => (s.kept.below.cell (p := ⟨M, 3, none⟩) hMr).trans m3
          have rm4 : ∀ s : KX (wr.heap.size) wr (wr.heap.size) [] (fun _ => True), s.val.cell? ⟨M, 4, none⟩ = some (.slice (some ⟨b1, o1, none⟩) n1 lc) := fun s => (s.kept.below.cell (p := ⟨M, 4, none⟩) hMr).trans m4
          have rsi : ∀ s : KX (wr.heap.size) wr (wr.heap.size) [] (fun _ => True), s.val.cell? ⟨b1, o1 + i * 3 + 2, none⟩ = some (.int .u64 p.si) := fun s => (s.kept.below.cell (p := ⟨b1, o1 + i * 3 + 2, none⟩) hb1).trans qi2
          repeat (go_big_quiet_step (fail))
          refine wpQuiet_nil ?_
          clear rm2 rm3 rm4 rsi
          repeat (go_big_quiet_step (fail))
          refine wpQuiet_nil ?_
          clear _ne
          have KH_w21 := Lib.hid K_w21
          have hw_w21 := K_w21.below
          have hz_w21 := K_w21.size
          clear K_w21
          clear E_w21 F_w21
          go_wp2_with fail
          go_roundg (y.l.length - (j + 1))
          case rel => exact ⟨j + 1, _, rfl, by omega, by rw [HSS.out.1, List.length_append, HI.out]; go_num, by rw [HSS.out.2.1]; exact HG.out.below hw_w21, by rw [HSS.out.2.2]; exact HMD.out.below hw_w21, HO.out.grow hw_w21⟩
          case measure => omega
      · obtain rfl : j = y.l.length := by omega
        obtain ⟨wa, rfl⟩ : ∃ wa, wa = wr := ⟨_, rfl⟩
        obtain ⟨z, hz⟩ : ∃ z, y.stay = z := ⟨_, rfl⟩
        have e0 : ({ y with l := sty y y.l.length ++ y.l.drop y.l.length } : Lb) = z := by rw [sty_all, ← hz]; rfl
        rw [e0] at HMD
        have OKZ : Hid (z.Ok) := Lib.hid (by rw [← hz]; exact stay_ok OKY.out)
        have HZ := Lib.hid hz
        obtain ⟨gs, hgs⟩ : ∃ gs, gon y y.l.length = gs := ⟨_, rfl⟩
        rw [hgs] at HG
        have HGS : Hid ((y.l.filter (fun p => gvn y.to y.now p)).map Pl.id = gs) := Lib.hid (by rw [← hgs]; unfold gon; rw [List.take_length])
        have tq : decide ((i : Int) < (n1 : Int)) = false := by simp; omega
        have tn : ¬ i < n1 := by omega
        clear e0 hz hgs hn2 m2 m3 HGL HL2 HI HN1
        go_wp2_with fail
        go_loopg [8, 9] z.l.length (fun g pv i wr => MB w M z (.slice ga gn gc) gs g pv i wr)
        case atStart => exact ⟨0, _, rfl, Nat.zero_le _, by simp [rk], Ow.nil _ _ _, HG.out, by rw [lf_none]; exact HMD.out, HO.out⟩
        case round =>
          obtain ⟨j, lv, rfl, hj2, hi0, hps, hgo, hmd, ho⟩ := hrel
          clear HG HMD HO m4 hMr hz_wr
          obtain ⟨j', hjj, hj3, e1, e2, e3⟩ := mtc_skip z (z.l.length - j) j (by omega)
          obtain ⟨tk, htk⟩ : ∃ tk, (mtc z j).1 = tk := ⟨_, rfl⟩
          obtain ⟨ps, hps2⟩ : ∃ ps, (mtc z j).2 = ps := ⟨_, rfl⟩
          have htkl : tk.length = z.l.length := by rw [← htk]; exact mt_len z j
          have HTK : Hid ((mtc z j').1 = tk) := Lib.hid (by rw [e1]; exact htk)
          have HPS2 : Hid ((mtc z j').2 = ps) := Lib.hid (by rw [e1]; exact hps2)
          have HPL : Hid (ps.length ≤ 200) := Lib.hid (by rw [← hps2]; exact Nat.le_trans (mt_plen z j) (by have := OKZ.out.len; omega))
          obtain ⟨i, hi⟩ : ∃ i, rk tk j' = i := ⟨_, rfl⟩
          rw [htk] at hmd e2 e3 hi0
          rw [hps2] at hps
          rw [← e2, hi] at hi0
          subst hi0
          obtain ⟨xl, hxl⟩ : ∃ xl, z.lf tk = xl := ⟨_, rfl⟩
          rw [hxl] at hmd
          have OKX : Hid (xl.Ok) := Lib.hid (by rw [← hxl]; exact lf_ok OKZ.out tk)
          have hxll : xl.l = lft z.l tk z.l.length := by rw [← hxl]; rfl
          obtain ⟨N, hN⟩ : ∃ N, xl.l.length = N := ⟨_, rfl⟩
          have hNr : N = rk tk z.l.length := by rw [← hN, hxll, lft_length htkl _ (Nat.le_refl _)]
          have hN200 : N ≤ 200 := by rw [← hN]; exact OKX.out.len
          have hz200 := OKZ.out.len
          have HPS := Lib.hid hps
          have HGO := Lib.hid hgo
          have HMO := Lib.hid hmd
          have HO := Lib.hid ho
          have hzo := ho.size
          obtain ⟨pa0, pc, hpv⟩ := hps.form
          obtain ⟨pn, hpn⟩ : ∃ n, ps.length = n := ⟨_, rfl⟩
          rw [hpn] at hpv
          subst hpv
          obtain ⟨la, lc, hlv⟩ := hmd.row.form
          rw [hN] at hlv
          subst hlv
          have hMo := hmd.lt
          have m4 : wr.cell? ⟨M, 4, none⟩ = some (.slice la N lc) := hmd.cell 4
          have HXL := Lib.hid hxl
          have HNR := Lib.hid hNr
          have HN := Lib.hid hN
          have HI := Lib.hid hi
          have HTL := Lib.hid htkl
          have HXLL := Lib.hid hxll
          clear hps hgo hmd ho hpn hxl hNr hN hi htkl hxll e1 e2 htk hps2 hj2
          rcases e3 with e3 | e3
          · have hiN : i = N := by rw [← HI.out, e3, HNR.out]
            have tq2 : decide ((i : Int) < (N : Int)) = false := by simp; omega
            have tn2 : ¬ i < N := by omega
            have E3 := Lib.hid e3
            clear hiN e3
            go_wp2_with fail
            refine bodyPost_ret (v := .tuple #[.slice pa0 pn pc, .slice ga gn gc]) (by simp [results, Try.results32, go_sem]) rfl ⟨.slice pa0 pn pc, .slice ga gn gc, .slice la N lc, rfl, ?_, ?_, ?_, HO.out⟩
            · have e : mtP x t = ps := by
                unfold mtP
                rw [HYT.out, HZ.out, ← E3.out]
                exact HPS2.out
              rw [e]
              exact HPS.out
            · have e : mtG x t = gs := by
                rw [← HGS.out, ← HYT.out]
                rfl
              rw [e]
              exact HGO.out
            · have e : mtX x t = xl := by
                rw [← HXL.out]
                unfold mtX Lb.lf
                rw [HYT.out, HZ.out, ← E3.out, HTK.out, ← HZ.out]
                rfl
              rw [e]
              exact HMO.out
          · have hjl : j' < z.l.length := by rw [← HTL.out]; exact (List.getElem?_eq_some_iff.1 e3).1
            obtain ⟨p, hp⟩ : ∃ p, z.l[j']? = some p := ⟨z.l[j'], List.getElem?_eq_getElem hjl⟩
            have hpi : xl.l[i]? = some p := by rw [HXLL.out, ← HI.out]; exact lft_at HTL.out hp e3
            have hiN : i < N := by rw [← HN.out]; exact (List.getElem?_eq_some_iff.1 hpi).1
            obtain ⟨_, a1, c1, hv, hf⟩ := HMO.out.rw.form
            rw [HN.out] at hv hf
            obtain ⟨b1, o1, rfl, hb1, hc1⟩ := hf (by omega)
            simp only [Value.slice.injEq] at hv
            obtain ⟨rfl, hsl2, rfl⟩ := hv
            clear hsl2
            have HC1 := Lib.hid hc1
            have HPI := Lib.hid hpi
            have HPJ := Lib.hid hp
            have E3 := Lib.hid e3
            have OKP : Hid (p.Ok xl.now) := Lib.hid (OKX.out.p p (List.mem_of_getElem? hpi))
            have i1 : (0 : Int) ≤ (i : Int) := by omega
            have i2 : (i : Int) < (N : Int) := by omega
            have qi0 : wr.cell? ⟨b1, o1 + i * 3, none⟩ = Option.some (.int .i64 p.id) := hc1 i p hpi 0 _ rfl
            have qi1 : wr.cell? ⟨b1, o1 + i * 3 + 1, none⟩ = Option.some (.int .i64 p.ra) := hc1 i p hpi 1 _ rfl
            have qi2 : wr.cell? ⟨b1, o1 + i * 3 + 2, none⟩ = Option.some (.int .u64 p.si) := hc1 i p hpi 2 _ rfl
            clear hf hc1 hpi hp e3
            obtain ⟨wo, rfl⟩ : ∃ wo, wo = wr := ⟨_, rfl⟩
            go_wp2_with fail
            go_loopw [11, 12, 13] (fun b l t wr => MC wo xl i N p b l t wr) (fun _ _ t _ => N - (intOf t).toNat)
            case atStart => exact ⟨0, 0, Nat.zero_le _, rfl, rfl, rfl, (fun h => by simp [pa] at h), ⟨by go_grown, by go_size, by simp [go_sem]⟩⟩
            case round =>
              obtain ⟨k, l, hk, rfl, rfl, rfl, hl0, hK⟩ := hrel
              have KH_wr := Lib.hid hK
              have hw_wr := hK.below
              have hz_wr := hK.size
              obtain ⟨nb, hnb⟩ : ∃ n, pa xl i (List.replicate N false) k = n := ⟨_, rfl⟩
              have hbd := pa_bd xl i (List.replicate N false) k
              rw [hnb] at hl0 hbd ⊢
              obtain ⟨hbd1, hbd2⟩ := hbd
              have HNB := Lib.hid hnb
              have HL0 := Lib.hid hl0
              have m4k := (hw_wr.cell (p := ⟨M, 4, none⟩) hMo).trans m4
              clear hK hnb hl0
              by_cases hkl : k < N
              · obtain ⟨q, hq⟩ : ∃ q, xl.l[k]? = some q := ⟨xl.l[k]'(by rw [HN.out]; exact hkl), List.getElem?_eq_getElem _⟩
                have hc2 : ∀ i x_1, xl.l[i]? = some x_1 → ∀ j u, (plc x_1)[j]? = some u → wr.cell? ⟨b1, o1 + (i * 3 + j), none⟩ = some u := fun i x_1 h j u hu => (hw_wr.cell (p := ⟨b1, o1 + (i * 3 + j), none⟩) hb1).trans (HC1.out i x_1 h j u hu)
                have OKQ : Hid (q.Ok xl.now) := Lib.hid (OKX.out.p q (List.mem_of_getElem? hq))
                have HCAN := Lib.hid (can_of (tk := List.replicate N false) (b := false) HPI.out hq (by rw [List.getElem?_replicate, if_pos hkl]))
                have HGI := Lib.hid (getD_of (d := noPl) HPI.out)
                have HGK := Lib.hid (getD_of (d := noPl) hq)
                obtain ⟨d, hd⟩ : ∃ d, ap p.ra q.ra = d := ⟨_, rfl⟩
                obtain ⟨dp, hdp⟩ : ∃ d, xl.w p = d := ⟨_, rfl⟩
                obtain ⟨dq, hdq⟩ : ∃ d, xl.w q = d := ⟨_, rfl⟩
                have HD := Lib.hid hd
                have HDP := Lib.hid hdp
                have HDQ := Lib.hid hdq
                have HAPK : Hid (d = ap (xl.l.getD i noPl).ra (xl.l.getD k noPl).ra) := Lib.hid (by rw [HGI.out, HGK.out]; exact hd.symm)
                have NOC : can xl i (List.replicate N false) k = false → Hid (pa xl i (List.replicate N false) (k + 1) = nb) := fun h => Lib.hid (by rw [pa_no h, HNB.out])
                have v1 : (0 : Int) ≤ (k : Int) := by omega
                have v2 : (k : Int) < (N : Int) := by omega
                have mk0 : wr.cell? ⟨b1, o1 + k * 3, none⟩ = Option.some (.int .i64 q.id) := hc2 k q hq 0 _ rfl
                have mk1 : wr.cell? ⟨b1, o1 + k * 3 + 1, none⟩ = Option.some (.int .i64 q.ra) := hc2 k q hq 1 _ rfl
                have mk2 : wr.cell? ⟨b1, o1 + k * 3 + 2, none⟩ = Option.some (.int .u64 q.si) := hc2 k q hq 2 _ rfl
                have dbd : 0 ≤ d ∧ d ≤ 4000 := by rw [← hd]; unfold ap; have := OKP.out.r0; have := OKP.out.r1; have := OKQ.out.r0; have := OKQ.out.r1; omega
                obtain ⟨db0, db1⟩ := dbd
                clear hc2 hq hdp hdq
                by_cases hs : q.ra ≤ p.ra
                · have hd1 : p.ra - q.ra = d := by unfold ap at hd; omega
                  have hd2 : q.ra - p.ra = -d := by unfold ap at hd; omega
                  have t0 : -d ≤ d := by omega
                  clear hd hs
                  by_cases a1 : k = i
                  · have HPA := NOC (by rw [HCAN.out, a1]; simp)
                    have u1 : ((k : Int) != (i : Int)) = false := by simp; omega
                    clear a1 NOC
                    have lA_wr : wo.heap.size < wr.heap.size := by omega
                    have cA0_wr := KH_wr.out.at (b := wo.heap.size) (o := 0) (v := .int .i64 p.id) (by simp)
                    have fA0_wr := KH_wr.out.free (b := wo.heap.size) (o := 0) (v := .int .i64 p.id) (by simp)
                    have cA1_wr := KH_wr.out.at (b := wo.heap.size) (o := 1) (v := .int .i64 p.ra) (by simp)
                    have fA1_wr := KH_wr.out.free (b := wo.heap.size) (o := 1) (v := .int .i64 p.ra) (by simp)
                    have cA2_wr := KH_wr.out.at (b := wo.heap.size) (o := 2) (v := .int .u64 p.si) (by simp)
                    have fA2_wr := KH_wr.out.free (b := wo.heap.size) (o := 2) (v := .int .u64 p.si) (by simp)
                    go_wp2_with fail
                    go_roundw
                    case rel => exact ⟨k + 1, l, by omega, by go_num, by rw [HPA.out], rfl, fun h => by rw [HPA.out] at h ⊢; exact HL0.out h, ⟨by go_grown, by go_size, by simp [go_sem, lA_wr, cA0_wr, fA0_wr, cA1_wr, fA1_wr, cA2_wr, fA2_wr] <;> omega⟩⟩
                    case measure => simp [intOf]; omega
                  · have u1 : ((k : Int) != (i : Int)) = true := by simp; omega
                    by_cases a3 : dp < d
                    · have HPA := NOC (by rw [HCAN.out, HD.out, HDP.out]; simp; omega)
                      have u3 : decide (d ≤ dp) = false := by simp; omega
                      clear a1 NOC
                      have lA_wr : wo.heap.size < wr.heap.size := by omega
                      have cA0_wr := KH_wr.out.at (b := wo.heap.size) (o := 0) (v := .int .i64 p.id) (by simp)
                      have fA0_wr := KH_wr.out.free (b := wo.heap.size) (o := 0) (v := .int .i64 p.id) (by simp)
                      have cA1_wr := KH_wr.out.at (b := wo.heap.size) (o := 1) (v := .int .i64 p.ra) (by simp)
                      have fA1_wr := KH_wr.out.free (b := wo.heap.size) (o := 1) (v := .int .i64 p.ra) (by simp)
                      have cA2_wr := KH_wr.out.at (b := wo.heap.size) (o := 2) (v := .int .u64 p.si) (by simp)
                      have fA2_wr := KH_wr.out.free (b := wo.heap.size) (o := 2) (v := .int .u64 p.si) (by simp)
                      go_wp2_with fail
                      with_reducible refine (mwindow28c M xl _ p dp _ (HMO.out.below (by go_grown)) OKX.out OKP.out HDP.out).mono ?_
                      rintro e w61 ⟨rfl, hb_w61⟩
                      have K_w61 : Kept wo.heap.size wo (wr.heap.size + 1) [(wo.heap.size, 0, .int .i64 p.id), (wo.heap.size, 1, .int .i64 p.ra), (wo.heap.size, 2, .int .u64 p.si), (wr.heap.size, 0, .int .i64 q.id), (wr.heap.size, 1, .int .i64 q.ra), (wr.heap.size, 2, .int .u64 q.si)] w61 := Kept.of hb_w61 (by go_grown) (by go_size) (by omega) (by simp [go_sem, lA_wr, cA0_wr, fA0_wr, cA1_wr, fA1_wr, cA2_wr, fA2_wr] <;> omega)
                      clear hb_w61
                      have KH_w61 := Lib.hid K_w61
                      have hw_w61 := K_w61.below
                      have hz_w61 := K_w61.size
                      have lA_w61 : wo.heap.size < w61.heap.size := by omega
                      have lB_w61 : wr.heap.size < w61.heap.size := by omega
                      clear lA_wr cA0_wr fA0_wr cA1_wr fA1_wr cA2_wr fA2_wr
                      clear K_w61
                      have cA0_w61 := KH_w61.out.at (b := wo.heap.size) (o := 0) (v := .int .i64 p.id) (by simp)
                      have fA0_w61 := KH_w61.out.free (b := wo.heap.size) (o := 0) (v := .int .i64 p.id) (by simp)
                      have cA1_w61 := KH_w61.out.at (b := wo.heap.size) (o := 1) (v := .int .i64 p.ra) (by simp)
                      have fA1_w61 := KH_w61.out.free (b := wo.heap.size) (o := 1) (v := .int .i64 p.ra) (by simp)
                      have cA2_w61 := KH_w61.out.at (b := wo.heap.size) (o := 2) (v := .int .u64 p.si) (by simp)
                      have fA2_w61 := KH_w61.out.free (b := wo.heap.size) (o := 2) (v := .int .u64 p.si) (by simp)
                      have cB0_w61 := KH_w61.out.at (b := wr.heap.size) (o := 0) (v := .int .i64 q.id) (by simp)
                      have fB0_w61 := KH_w61.out.free (b := wr.heap.size) (o := 0) (v := .int .i64 q.id) (by simp)
                      have cB1_w61 := KH_w61.out.at (b := wr.heap.size) (o := 1) (v := .int .i64 q.ra) (by simp)
                      have fB1_w61 := KH_w61.out.free (b := wr.heap.size) (o := 1) (v := .int .i64 q.ra) (by simp)
                      have cB2_w61 := KH_w61.out.at (b := wr.heap.size) (o := 2) (v := .int .u64 q.si) (by simp)
                      have fB2_w61 := KH_w61.out.free (b := wr.heap.size) (o := 2) (v := .int .u64 q.si) (by simp)
                      go_wp2_with fail
                      go_roundw
                      case rel => exact ⟨k + 1, l, by omega, by go_num, by rw [HPA.out], rfl, fun h => by rw [HPA.out] at h ⊢; exact HL0.out h, KLESS (L := [(wo.heap.size, 0, .int .i64 p.id), (wo.heap.size, 1, .int .i64 p.ra), (wo.heap.size, 2, .int .u64 p.si)]) KH_w61.out (by omega) (by simp)⟩
                      case measure => simp [intOf]; omega
                    · have u3 : decide (d ≤ dp) = true := by simp; omega
                      by_cases a4 : dq < d
                      · have HPA := NOC (by rw [HCAN.out, HD.out, HDP.out, HDQ.out]; simp; omega)
                        have u4 : decide (d ≤ dq) = false := by simp; omega
                        clear a1 NOC
                        have lA_wr : wo.heap.size < wr.heap.size := by omega
                        have cA0_wr := KH_wr.out.at (b := wo.heap.size) (o := 0) (v := .int .i64 p.id) (by simp)
                        have fA0_wr := KH_wr.out.free (b := wo.heap.size) (o := 0) (v := .int .i64 p.id) (by simp)
                        have cA1_wr := KH_wr.out.at (b := wo.heap.size) (o := 1) (v := .int .i64 p.ra) (by simp)
                        have fA1_wr := KH_wr.out.free (b := wo.heap.size) (o := 1) (v := .int .i64 p.ra) (by simp)
                        have cA2_wr := KH_wr.out.at (b := wo.heap.size) (o := 2) (v := .int .u64 p.si) (by simp)
                        have fA2_wr := KH_wr.out.free (b := wo.heap.size) (o := 2) (v := .int .u64 p.si) (by simp)
                        go_wp2_with fail
                        with_reducible refine (mwindow28c M xl _ p dp _ (HMO.out.below (by go_grown)) OKX.out OKP.out HDP.out).mono ?_
                        rintro e w61 ⟨rfl, hb_w61⟩
                        have K_w61 : Kept wo.heap.size wo (wr.heap.size + 1) [(wo.heap.size, 0, .int .i64 p.id), (wo.heap.size, 1, .int .i64 p.ra), (wo.heap.size, 2, .int .u64 p.si), (wr.heap.size, 0, .int .i64 q.id), (wr.heap.size, 1, .int .i64 q.ra), (wr.heap.size, 2, .int .u64 q.si)] w61 := Kept.of hb_w61 (by go_grown) (by go_size) (by omega) (by simp [go_sem, lA_wr, cA0_wr, fA0_wr, cA1_wr, fA1_wr, cA2_wr, fA2_wr] <;> omega)
                        clear hb_w61
                        have KH_w61 := Lib.hid K_w61
                        have hw_w61 := K_w61.below
                        have hz_w61 := K_w61.size
                        have lA_w61 : wo.heap.size < w61.heap.size := by omega
                        have lB_w61 : wr.heap.size < w61.heap.size := by omega
                        clear lA_wr cA0_wr fA0_wr cA1_wr fA1_wr cA2_wr fA2_wr
                        clear K_w61
                        have cA0_w61 := KH_w61.out.at (b := wo.heap.size) (o := 0) (v := .int .i64 p.id) (by simp)
                        have fA0_w61 := KH_w61.out.free (b := wo.heap.size) (o := 0) (v := .int .i64 p.id) (by simp)
                        have cA1_w61 := KH_w61.out.at (b := wo.heap.size) (o := 1) (v := .int .i64 p.ra) (by simp)
                        have fA1_w61 := KH_w61.out.free (b := wo.heap.size) (o := 1) (v := .int .i64 p.ra) (by simp)
                        have cA2_w61 := KH_w61.out.at (b := wo.heap.size) (o := 2) (v := .int .u64 p.si) (by simp)
                        have fA2_w61 := KH_w61.out.free (b := wo.heap.size) (o := 2) (v := .int .u64 p.si) (by simp)
                        have cB0_w61 := KH_w61.out.at (b := wr.heap.size) (o := 0) (v := .int .i64 q.id) (by simp)
                        have fB0_w61 := KH_w61.out.free (b := wr.heap.size) (o := 0) (v := .int .i64 q.id) (by simp)
                        have cB1_w61 := KH_w61.out.at (b := wr.heap.size) (o := 1) (v := .int .i64 q.ra) (by simp)
                        have fB1_w61 := KH_w61.out.free (b := wr.heap.size) (o := 1) (v := .int .i64 q.ra) (by simp)
                        have cB2_w61 := KH_w61.out.at (b := wr.heap.size) (o := 2) (v := .int .u64 q.si) (by simp)
                        have fB2_w61 := KH_w61.out.free (b := wr.heap.size) (o := 2) (v := .int .u64 q.si) (by simp)
                        go_wp2_with fail
                        with_reducible refine (mwindow28c M xl _ q dq _ (HMO.out.below (by go_grown)) OKX.out OKQ.out HDQ.out).mono ?_
                        rintro e w62 ⟨rfl, hb_w62⟩
                        have K_w62 := (KH_w61.out.step (by omega) (by go_grown)).step (by omega) hb_w62
                        clear hb_w62
                        have KH_w62 := Lib.hid K_w62
                        have hw_w62 := K_w62.below
                        have hz_w62 := K_w62.size
                        have lA_w62 : wo.heap.size < w62.heap.size := by omega
                        have lB_w62 : wr.heap.size < w62.heap.size := by omega
                        clear lA_w61 lB_w61 cA0_w61 fA0_w61 cA1_w61 fA1_w61 cA2_w61 fA2_w61 cB0_w61 fB0_w61 cB1_w61 fB1_w61 cB2_w61 fB2_w61
                        clear K_w62
                        go_wp2_with fail
                        go_roundw
                        case rel => exact ⟨k + 1, l, by omega, by go_num, by rw [HPA.out], rfl, fun h => by rw [HPA.out] at h ⊢; exact HL0.out h, KLESS (L := [(wo.heap.size, 0, .int .i64 p.id), (wo.heap.size, 1, .int .i64 p.ra), (wo.heap.size, 2, .int .u64 p.si)]) KH_w62.out (by omega) (by simp)⟩
                        case measure => simp [intOf]; omega
                      · have u4 : decide (d ≤ dq) = true := by simp; omega
                        have HY : Hid (can xl i (List.replicate N false) k = true) := Lib.hid (by rw [HCAN.out, HD.out, HDP.out, HDQ.out]; simp; omega)
                        clear a1 NOC
                        by_cases a5 : nb < 0
                        · have HPA : Hid (pa xl i (List.replicate N false) (k + 1) = k) := Lib.hid (pa_yes HY.out (.inl (by rw [HNB.out]; exact a5)))
                          have u5 : decide (nb < 0) = true := by simpa using a5
                          have lA_wr : wo.heap.size < wr.heap.size := by omega
                          have cA0_wr := KH_wr.out.at (b := wo.heap.size) (o := 0) (v := .int .i64 p.id) (by simp)
                          have fA0_wr := KH_wr.out.free (b := wo.heap.size) (o := 0) (v := .int .i64 p.id) (by simp)
                          have cA1_wr := KH_wr.out.at (b := wo.heap.size) (o := 1) (v := .int .i64 p.ra) (by simp)
                          have fA1_wr := KH_wr.out.free (b := wo.heap.size) (o := 1) (v := .int .i64 p.ra) (by simp)
                          have cA2_wr := KH_wr.out.at (b := wo.heap.size) (o := 2) (v := .int .u64 p.si) (by simp)
                          have fA2_wr := KH_wr.out.free (b := wo.heap.size) (o := 2) (v := .int .u64 p.si) (by simp)
                          go_wp2_with fail
                          with_reducible refine (mwindow28c M xl _ p dp _ (HMO.out.below (by go_grown)) OKX.out OKP.out HDP.out).mono ?_
                          rintro e w61 ⟨rfl, hb_w61⟩
                          have K_w61 : Kept wo.heap.size wo (wr.heap.size + 1) [(wo.heap.size, 0, .int .i64 p.id), (wo.heap.size, 1, .int .i64 p.ra), (wo.heap.size, 2, .int .u64 p.si), (wr.heap.size, 0, .int .i64 q.id), (wr.heap.size, 1, .int .i64 q.ra), (wr.heap.size, 2, .int .u64 q.si)] w61 := Kept.of hb_w61 (by go_grown) (by go_size) (by omega) (by simp [go_sem, lA_wr, cA0_wr, fA0_wr, cA1_wr, fA1_wr, cA2_wr, fA2_wr] <;> omega)
                          clear hb_w61
                          have KH_w61 := Lib.hid K_w61
                          have hw_w61 := K_w61.below
                          have hz_w61 := K_w61.size
                          have lA_w61 : wo.heap.size < w61.heap.size := by omega
                          have lB_w61 : wr.heap.size < w61.heap.size := by omega
                          clear lA_wr cA0_wr fA0_wr cA1_wr fA1_wr cA2_wr fA2_wr
                          clear K_w61
                          have cA0_w61 := KH_w61.out.at (b := wo.heap.size) (o := 0) (v := .int .i64 p.id) (by simp)
                          have fA0_w61 := KH_w61.out.free (b := wo.heap.size) (o := 0) (v := .int .i64 p.id) (by simp)
                          have cA1_w61 := KH_w61.out.at (b := wo.heap.size) (o := 1) (v := .int .i64 p.ra) (by simp)
                          have fA1_w61 := KH_w61.out.free (b := wo.heap.size) (o := 1) (v := .int .i64 p.ra) (by simp)
                          have cA2_w61 := KH_w61.out.at (b := wo.heap.size) (o := 2) (v := .int .u64 p.si) (by simp)
                          have fA2_w61 := KH_w61.out.free (b := wo.heap.size) (o := 2) (v := .int .u64 p.si) (by simp)
                          have cB0_w61 := KH_w61.out.at (b := wr.heap.size) (o := 0) (v := .int .i64 q.id) (by simp)
                          have fB0_w61 := KH_w61.out.free (b := wr.heap.size) (o := 0) (v := .int .i64 q.id) (by simp)
                          have cB1_w61 := KH_w61.out.at (b := wr.heap.size) (o := 1) (v := .int .i64 q.ra) (by simp)
                          have fB1_w61 := KH_w61.out.free (b := wr.heap.size) (o := 1) (v := .int .i64 q.ra) (by simp)
                          have cB2_w61 := KH_w61.out.at (b := wr.heap.size) (o := 2) (v := .int .u64 q.si) (by simp)
                          have fB2_w61 := KH_w61.out.free (b := wr.heap.size) (o := 2) (v := .int .u64 q.si) (by simp)
                          go_wp2_with fail
                          with_reducible refine (mwindow28c M xl _ q dq _ (HMO.out.below (by go_grown)) OKX.out OKQ.out HDQ.out).mono ?_
                          rintro e w62 ⟨rfl, hb_w62⟩
                          have K_w62 := (KH_w61.out.step (by omega) (by go_grown)).step (by omega) hb_w62
                          clear hb_w62
                          have KH_w62 := Lib.hid K_w62
                          have hw_w62 := K_w62.below
                          have hz_w62 := K_w62.size
                          have lA_w62 : wo.heap.size < w62.heap.size := by omega
                          have lB_w62 : wr.heap.size < w62.heap.size := by omega
                          clear lA_w61 lB_w61 cA0_w61 fA0_w61 cA1_w61 fA1_w61 cA2_w61 fA2_w61 cB0_w61 fB0_w61 cB1_w61 fB1_w61 cB2_w61 fB2_w61
                          clear K_w62
                          go_wp2_with fail
                          go_roundw
                          case rel => exact ⟨k + 1, d, by omega, by go_num, by rw [HPA.out], rfl, fun _ => by rw [HPA.out, Int.toNat_natCast]; exact HAPK.out, KLESS (L := [(wo.heap.size, 0, .int .i64 p.id), (wo.heap.size, 1, .int .i64 p.ra), (wo.heap.size, 2, .int .u64 p.si)]) KH_w62.out (by omega) (by simp)⟩
                          case measure => simp [intOf]; omega
                        · have u5 : decide (nb < 0) = false := by simpa using a5
                          have hl5 := HL0.out (by omega)
                          rw [HGI.out] at hl5
                          by_cases a6 : d < l
                          · have HPA : Hid (pa xl i (List.replicate N false) (k + 1) = k) := Lib.hid (pa_yes HY.out (.inr (by rw [HNB.out, HGI.out, HGK.out, ← hl5, HD.out]; exact a6)))
                            have u6 : decide (d < l) = true := by simpa using a6
                            clear hl5
                            have lA_wr : wo.heap.size < wr.heap.size := by omega
                            have cA0_wr := KH_wr.out.at (b := wo.heap.size) (o := 0) (v := .int .i64 p.id) (by simp)
                            have fA0_wr := KH_wr.out.free (b := wo.heap.size) (o := 0) (v := .int .i64 p.id) (by simp)
                            have cA1_wr := KH_wr.out.at (b := wo.heap.size) (o := 1) (v := .int .i64 p.ra) (by simp)
                            have fA1_wr := KH_wr.out.free (b := wo.heap.size) (o := 1) (v := .int .i64 p.ra) (by simp)
                            have cA2_wr := KH_wr.out.at (b := wo.heap.size) (o := 2) (v := .int .u64 p.si) (by simp)
                            have fA2_wr := KH_wr.out.free (b := wo.heap.size) (o := 2) (v := .int .u64 p.si) (by simp)
                            go_wp2_with fail
                            with_reducible refine (mwindow28c M xl _ p dp _ (HMO.out.below (by go_grown)) OKX.out OKP.out HDP.out).mono ?_
                            rintro e w61 ⟨rfl, hb_w61⟩
                            have K_w61 : Kept wo.heap.size wo (wr.heap.size + 1) [(wo.heap.size, 0, .int .i64 p.id), (wo.heap.size, 1, .int .i64 p.ra), (wo.heap.size, 2, .int .u64 p.si), (wr.heap.size, 0, .int .i64 q.id), (wr.heap.size, 1, .int .i64 q.ra), (wr.heap.size, 2, .int .u64 q.si)] w61 := Kept.of hb_w61 (by go_grown) (by go_size) (by omega) (by simp [go_sem, lA_wr, cA0_wr, fA0_wr, cA1_wr, fA1_wr, cA2_wr, fA2_wr] <;> omega)
                            clear hb_w61
                            have KH_w61 := Lib.hid K_w61
                            have hw_w61 := K_w61.below
                            have hz_w61 := K_w61.size
                            have lA_w61 : wo.heap.size < w61.heap.size := by omega
                            have lB_w61 : wr.heap.size < w61.heap.size := by omega
                            clear lA_wr cA0_wr fA0_wr cA1_wr fA1_wr cA2_wr fA2_wr
                            clear K_w61
                            have cA0_w61 := KH_w61.out.at (b := wo.heap.size) (o := 0) (v := .int .i64 p.id) (by simp)
                            have fA0_w61 := KH_w61.out.free (b := wo.heap.size) (o := 0) (v := .int .i64 p.id) (by simp)
                            have cA1_w61 := KH_w61.out.at (b := wo.heap.size) (o := 1) (v := .int .i64 p.ra) (by simp)
                            have fA1_w61 := KH_w61.out.free (b := wo.heap.size) (o := 1) (v := .int .i64 p.ra) (by simp)
                            have cA2_w61 := KH_w61.out.at (b := wo.heap.size) (o := 2) (v := .int .u64 p.si) (by simp)
                            have fA2_w61 := KH_w61.out.free (b := wo.heap.size) (o := 2) (v := .int .u64 p.si) (by simp)
                            have cB0_w61 := KH_w61.out.at (b := wr.heap.size) (o := 0) (v := .int .i64 q.id) (by simp)
                            have fB0_w61 := KH_w61.out.free (b := wr.heap.size) (o := 0) (v := .int .i64 q.id) (by simp)
                            have cB1_w61 := KH_w61.out.at (b := wr.heap.size) (o := 1) (v := .int .i64 q.ra) (by simp)
                            have fB1_w61 := KH_w61.out.free (b := wr.heap.size) (o := 1) (v := .int .i64 q.ra) (by simp)
                            have cB2_w61 := KH_w61.out.at (b := wr.heap.size) (o := 2) (v := .int .u64 q.si) (by simp)
                            have fB2_w61 := KH_w61.out.free (b := wr.heap.size) (o := 2) (v := .int .u64 q.si) (by simp)
                            go_wp2_with fail
                            with_reducible refine (mwindow28c M xl _ q dq _ (HMO.out.below (by go_grown)) OKX.out OKQ.out HDQ.out).mono ?_
                            rintro e w62 ⟨rfl, hb_w62⟩
                            have K_w62 := (KH_w61.out.step (by omega) (by go_grown)).step (by omega) hb_w62
                            clear hb_w62
                            have KH_w62 := Lib.hid K_w62
                            have hw_w62 := K_w62.below
                            have hz_w62 := K_w62.size
                            have lA_w62 : wo.heap.size < w62.heap.size := by omega
                            have lB_w62 : wr.heap.size < w62.heap.size := by omega
                            clear lA_w61 lB_w61 cA0_w61 fA0_w61 cA1_w61 fA1_w61 cA2_w61 fA2_w61 cB0_w61 fB0_w61 cB1_w61 fB1_w61 cB2_w61 fB2_w61
                            clear K_w62
                            go_wp2_with fail
                            go_roundw
                            case rel => exact ⟨k + 1, d, by omega, by go_num, by rw [HPA.out], rfl, fun _ => by rw [HPA.out, Int.toNat_natCast]; exact HAPK.out, KLESS (L := [(wo.heap.size, 0, .int .i64 p.id), (wo.heap.size, 1, .int .i64 p.ra), (wo.heap.size, 2, .int .u64 p.si)]) KH_w62.out (by omega) (by simp)⟩
                            case measure => simp [intOf]; omega
                          · have HPA : Hid (pa xl i (List.replicate N false) (k + 1) = nb) := Lib.hid (by rw [pa_less (by rw [HNB.out, HGI.out, HGK.out, ← hl5, HD.out]; omega), HNB.out])
                            have u6 : decide (d < l) = false := by simpa using a6
                            clear hl5
                            have lA_wr : wo.heap.size < wr.heap.size := by omega
                            have cA0_wr := KH_wr.out.at (b := wo.heap.size) (o := 0) (v := .int .i64 p.id) (by simp)
                            have fA0_wr := KH_wr.out.free (b := wo.heap.size) (o := 0) (v := .int .i64 p.id) (by simp)
                            have cA1_wr := KH_wr.out.at (b := wo.heap.size) (o := 1) (v := .int .i64 p.ra) (by simp)
                            have fA1_wr := KH_wr.out.free (b := wo.heap.size) (o := 1) (v := .int .i64 p.ra) (by simp)
                            have cA2_wr := KH_wr.out.at (b := wo.heap.size) (o := 2) (v := .int .u64 p.si) (by simp)
                            have fA2_wr := KH_wr.out.free (b := wo.heap.size) (o := 2) (v := .int .u64 p.si) (by simp)
                            go_wp2_with fail
                            with_reducible refine (mwindow28c M xl _ p dp _ (HMO.out.below (by go_grown)) OKX.out OKP.out HDP.out).mono ?_
                            rintro e w61 ⟨rfl, hb_w61⟩
                            have K_w61 : Kept wo.heap.size wo (wr.heap.size + 1) [(wo.heap.size, 0, .int .i64 p.id), (wo.heap.size, 1, .int .i64 p.ra), (wo.heap.size, 2, .int .u64 p.si), (wr.heap.size, 0, .int .i64 q.id), (wr.heap.size, 1, .int .i64 q.ra), (wr.heap.size, 2, .int .u64 q.si)] w61 := Kept.of hb_w61 (by go_grown) (by go_size) (by omega) (by simp [go_sem, lA_wr, cA0_wr, fA0_wr, cA1_wr, fA1_wr, cA2_wr, fA2_wr] <;> omega)
                            clear hb_w61
                            have KH_w61 := Lib.hid K_w61
                            have hw_w61 := K_w61.below
                            have hz_w61 := K_w61.size
                            have lA_w61 : wo.heap.size < w61.heap.size := by omega
                            have lB_w61 : wr.heap.size < w61.heap.size := by omega
                            clear lA_wr cA0_wr fA0_wr cA1_wr fA1_wr cA2_wr fA2_wr
                            clear K_w61
                            have cA0_w61 := KH_w61.out.at (b := wo.heap.size) (o := 0) (v := .int .i64 p.id) (by simp)
                            have fA0_w61 := KH_w61.out.free (b := wo.heap.size) (o := 0) (v := .int .i64 p.id) (by simp)
                            have cA1_w61 := KH_w61.out.at (b := wo.heap.size) (o := 1) (v := .int .i64 p.ra) (by simp)
                            have fA1_w61 := KH_w61.out.free (b := wo.heap.size) (o := 1) (v := .int .i64 p.ra) (by simp)
                            have cA2_w61 := KH_w61.out.at (b := wo.heap.size) (o := 2) (v := .int .u64 p.si) (by simp)
                            have fA2_w61 := KH_w61.out.free (b := wo.heap.size) (o := 2) (v := .int .u64 p.si) (by simp)
                            have cB0_w61 := KH_w61.out.at (b := wr.heap.size) (o := 0) (v := .int .i64 q.id) (by simp)
                            have fB0_w61 := KH_w61.out.free (b := wr.heap.size) (o := 0) (v := .int .i64 q.id) (by simp)
                            have cB1_w61 := KH_w61.out.at (b := wr.heap.size) (o := 1) (v := .int .i64 q.ra) (by simp)
                            have fB1_w61 := KH_w61.out.free (b := wr.heap.size) (o := 1) (v := .int .i64 q.ra) (by simp)
                            have cB2_w61 := KH_w61.out.at (b := wr.heap.size) (o := 2) (v := .int .u64 q.si) (by simp)
                            have fB2_w61 := KH_w61.out.free (b := wr.heap.size) (o := 2) (v := .int .u64 q.si) (by simp)
                            go_wp2_with fail
                            with_reducible refine (mwindow28c M xl _ q dq _ (HMO.out.below (by go_grown)) OKX.out OKQ.out HDQ.out).mono ?_
                            rintro e w62 ⟨rfl, hb_w62⟩
                            have K_w62 := (KH_w61.out.step (by omega) (by go_grown)).step (by omega) hb_w62
                            clear hb_w62
                            have KH_w62 := Lib.hid K_w62
                            have hw_w62 := K_w62.below
                            have hz_w62 := K_w62.size
                            have lA_w62 : wo.heap.size < w62.heap.size := by omega
                            have lB_w62 : wr.heap.size < w62.heap.size := by omega
                            clear lA_w61 lB_w61 cA0_w61 fA0_w61 cA1_w61 fA1_w61 cA2_w61 fA2_w61 cB0_w61 fB0_w61 cB1_w61 fB1_w61 cB2_w61 fB2_w61
                            clear K_w62
                            go_wp2_with fail
                            go_roundw
                            case rel => exact ⟨k + 1, l, by omega, by go_num, by rw [HPA.out], rfl, fun h => by rw [HPA.out] at h ⊢; exact HL0.out h, KLESS (L := [(wo.heap.size, 0, .int .i64 p.id), (wo.heap.size, 1, .int .i64 p.ra), (wo.heap.size, 2, .int .u64 p.si)]) KH_w62.out (by omega) (by simp)⟩
                            case measure => simp [intOf]; omega
                · have hd1 : p.ra - q.ra = -d := by unfold ap at hd; omega
                  have hd2 : q.ra - p.ra = d := by unfold ap at hd; omega
                  have t0 : ¬ (d ≤ -d) := by omega
                  have t00 : -d < d := by omega
                  clear hd hs
                  by_cases a1 : k = i
                  · have HPA := NOC (by rw [HCAN.out, a1]; simp)
                    have u1 : ((k : Int) != (i : Int)) = false := by simp; omega
                    clear a1 NOC
                    have lA_wr : wo.heap.size < wr.heap.size := by omega
                    have cA0_wr := KH_wr.out.at (b := wo.heap.size) (o := 0) (v := .int .i64 p.id) (by simp)
                    have fA0_wr := KH_wr.out.free (b := wo.heap.size) (o := 0) (v := .int .i64 p.id) (by simp)
                    have cA1_wr := KH_wr.out.at (b := wo.heap.size) (o := 1) (v := .int .i64 p.ra) (by simp)
                    have fA1_wr := KH_wr.out.free (b := wo.heap.size) (o := 1) (v := .int .i64 p.ra) (by simp)
                    have cA2_wr := KH_wr.out.at (b := wo.heap.size) (o := 2) (v := .int .u64 p.si) (by simp)
                    have fA2_wr := KH_wr.out.free (b := wo.heap.size) (o := 2) (v := .int .u64 p.si) (by simp)
                    go_wp2_with fail
                    go_roundw
                    case rel => exact ⟨k + 1, l, by omega, by go_num, by rw [HPA.out], rfl, fun h => by rw [HPA.out] at h ⊢; exact HL0.out h, ⟨by go_grown, by go_size, by simp [go_sem, lA_wr, cA0_wr, fA0_wr, cA1_wr, fA1_wr, cA2_wr, fA2_wr] <;> omega⟩⟩
                    case measure => simp [intOf]; omega
                  · have u1 : ((k : Int) != (i : Int)) = true := by simp; omega
                    by_cases a3 : dp < d
                    · have HPA := NOC (by rw [HCAN.out, HD.out, HDP.out]; simp; omega)
                      have u3 : decide (d ≤ dp) = false := by simp; omega
                      clear a1 NOC
                      have lA_wr : wo.heap.size < wr.heap.size := by omega
                      have cA0_wr := KH_wr.out.at (b := wo.heap.size) (o := 0) (v := .int .i64 p.id) (by simp)
                      have fA0_wr := KH_wr.out.free (b := wo.heap.size) (o := 0) (v := .int .i64 p.id) (by simp)
                      have cA1_wr := KH_wr.out.at (b := wo.heap.size) (o := 1) (v := .int .i64 p.ra) (by simp)
                      have fA1_wr := KH_wr.out.free (b := wo.heap.size) (o := 1) (v := .int .i64 p.ra) (by simp)
                      have cA2_wr := KH_wr.out.at (b := wo.heap.size) (o := 2) (v := .int .u64 p.si) (by simp)
                      have fA2_wr := KH_wr.out.free (b := wo.heap.size) (o := 2) (v := .int .u64 p.si) (by simp)
                      go_wp2_with fail
                      with_reducible refine (mwindow28c M xl _ p dp _ (HMO.out.below (by go_grown)) OKX.out OKP.out HDP.out).mono ?_
                      rintro e w61 ⟨rfl, hb_w61⟩
                      have K_w61 : Kept wo.heap.size wo (wr.heap.size + 1) [(wo.heap.size, 0, .int .i64 p.id), (wo.heap.size, 1, .int .i64 p.ra), (wo.heap.size, 2, .int .u64 p.si), (wr.heap.size, 0, .int .i64 q.id), (wr.heap.size, 1, .int .i64 q.ra), (wr.heap.size, 2, .int .u64 q.si)] w61 := Kept.of hb_w61 (by go_grown) (by go_size) (by omega) (by simp [go_sem, lA_wr, cA0_wr, fA0_wr, cA1_wr, fA1_wr, cA2_wr, fA2_wr] <;> omega)
                      clear hb_w61
                      have KH_w61 := Lib.hid K_w61
                      have hw_w61 := K_w61.below
                      have hz_w61 := K_w61.size
                      have lA_w61 : wo.heap.size < w61.heap.size := by omega
                      have lB_w61 : wr.heap.size < w61.heap.size := by omega
                      clear lA_wr cA0_wr fA0_wr cA1_wr fA1_wr cA2_wr fA2_wr
                      clear K_w61
                      have cA0_w61 := KH_w61.out.at (b := wo.heap.size) (o := 0) (v := .int .i64 p.id) (by simp)
                      have fA0_w61 := KH_w61.out.free (b := wo.heap.size) (o := 0) (v := .int .i64 p.id) (by simp)
                      have cA1_w61 := KH_w61.out.at (b := wo.heap.size) (o := 1) (v := .int .i64 p.ra) (by simp)
                      have fA1_w61 := KH_w61.out.free (b := wo.heap.size) (o := 1) (v := .int .i64 p.ra) (by simp)
                      have cA2_w61 := KH_w61.out.at (b := wo.heap.size) (o := 2) (v := .int .u64 p.si) (by simp)
                      have fA2_w61 := KH_w61.out.free (b := wo.heap.size) (o := 2) (v := .int .u64 p.si) (by simp)
                      have cB0_w61 := KH_w61.out.at (b := wr.heap.size) (o := 0) (v := .int .i64 q.id) (by simp)
                      have fB0_w61 := KH_w61.out.free (b := wr.heap.size) (o := 0) (v := .int .i64 q.id) (by simp)
                      have cB1_w61 := KH_w61.out.at (b := wr.heap.size) (o := 1) (v := .int .i64 q.ra) (by simp)
                      have fB1_w61 := KH_w61.out.free (b := wr.heap.size) (o := 1) (v := .int .i64 q.ra) (by simp)
                      have cB2_w61 := KH_w61.out.at (b := wr.heap.size) (o := 2) (v := .int .u64 q.si) (by simp)
                      have fB2_w61 := KH_w61.out.free (b := wr.heap.size) (o := 2) (v := .int .u64 q.si) (by simp)
                      go_wp2_with fail
                      go_roundw
                      case rel => exact ⟨k + 1, l, by omega, by go_num, by rw [HPA.out], rfl, fun h => by rw [HPA.out] at h ⊢; exact HL0.out h, KLESS (L := [(wo.heap.size, 0, .int .i64 p.id), (wo.heap.size, 1, .int .i64 p.ra), (wo.heap.size, 2, .int .u64 p.si)]) KH_w61.out (by omega) (by simp)⟩
                      case measure => simp [intOf]; omega
                    · have u3 : decide (d ≤ dp) = true := by simp; omega
                      by_cases a4 : dq < d
                      · have HPA := NOC (by rw [HCAN.out, HD.out, HDP.out, HDQ.out]; simp; omega)
                        have u4 : decide (d ≤ dq) = false := by simp; omega
                        clear a1 NOC
                        have lA_wr : wo.heap.size < wr.heap.size := by omega
                        have cA0_wr := KH_wr.out.at (b := wo.heap.size) (o := 0) (v := .int .i64 p.id) (by simp)
                        have fA0_wr := KH_wr.out.free (b := wo.heap.size) (o := 0) (v := .int .i64 p.id) (by simp)
                        have cA1_wr := KH_wr.out.at (b := wo.heap.size) (o := 1) (v := .int .i64 p.ra) (by simp)
                        have fA1_wr := KH_wr.out.free (b := wo.heap.size) (o := 1) (v := .int .i64 p.ra) (by simp)
                        have cA2_wr := KH_wr.out.at (b := wo.heap.size) (o := 2) (v := .int .u64 p.si) (by simp)
                        have fA2_wr := KH_wr.out.free (b := wo.heap.size) (o := 2) (v := .int .u64 p.si) (by simp)
                        go_wp2_with fail
                        with_reducible refine (mwindow28c M xl _ p dp _ (HMO.out.below (by go_grown)) OKX.out OKP.out HDP.out).mono ?_
                        rintro e w61 ⟨rfl, hb_w61⟩
                        have K_w61 : Kept wo.heap.size wo (wr.heap.size + 1) [(wo.heap.size, 0, .int .i64 p.id), (wo.heap.size, 1, .int .i64 p.ra), (wo.heap.size, 2, .int .u64 p.si), (wr.heap.size, 0, .int .i64 q.id), (wr.heap.size, 1, .int .i64 q.ra), (wr.heap.size, 2, .int .u64 q.si)] w61 := Kept.of hb_w61 (by go_grown) (by go_size) (by omega) (by simp [go_sem, lA_wr, cA0_wr, fA0_wr, cA1_wr, fA1_wr, cA2_wr, fA2_wr] <;> omega)
                        clear hb_w61
                        have KH_w61 := Lib.hid K_w61
                        have hw_w61 := K_w61.below
                        have hz_w61 := K_w61.size
                        have lA_w61 : wo.heap.size < w61.heap.size := by omega
                        have lB_w61 : wr.heap.size < w61.heap.size := by omega
                        clear lA_wr cA0_wr fA0_wr cA1_wr fA1_wr cA2_wr fA2_wr
                        clear K_w61
                        have cA0_w61 := KH_w61.out.at (b := wo.heap.size) (o := 0) (v := .int .i64 p.id) (by simp)
                        have fA0_w61 := KH_w61.out.free (b := wo.heap.size) (o := 0) (v := .int .i64 p.id) (by simp)
                        have cA1_w61 := KH_w61.out.at (b := wo.heap.size) (o := 1) (v := .int .i64 p.ra) (by simp)
                        have fA1_w61 := KH_w61.out.free (b := wo.heap.size) (o := 1) (v := .int .i64 p.ra) (by simp)
                        have cA2_w61 := KH_w61.out.at (b := wo.heap.size) (o := 2) (v := .int .u64 p.si) (by simp)
                        have fA2_w61 := KH_w61.out.free (b := wo.heap.size) (o := 2) (v := .int .u64 p.si) (by simp)
                        have cB0_w61 := KH_w61.out.at (b := wr.heap.size) (o := 0) (v := .int .i64 q.id) (by simp)
                        have fB0_w61 := KH_w61.out.free (b := wr.heap.size) (o := 0) (v := .int .i64 q.id) (by simp)
                        have cB1_w61 := KH_w61.out.at (b := wr.heap.size) (o := 1) (v := .int .i64 q.ra) (by simp)
                        have fB1_w61 := KH_w61.out.free (b := wr.heap.size) (o := 1) (v := .int .i64 q.ra) (by simp)
                        have cB2_w61 := KH_w61.out.at (b := wr.heap.size) (o := 2) (v := .int .u64 q.si) (by simp)
                        have fB2_w61 := KH_w61.out.free (b := wr.heap.size) (o := 2) (v := .int .u64 q.si) (by simp)
                        go_wp2_with fail
                        with_reducible refine (mwindow28c M xl _ q dq _ (HMO.out.below (by go_grown)) OKX.out OKQ.out HDQ.out).mono ?_
                        rintro e w62 ⟨rfl, hb_w62⟩
                        have K_w62 := (KH_w61.out.step (by omega) (by go_grown)).step (by omega) hb_w62
                        clear hb_w62
                        have KH_w62 := Lib.hid K_w62
                        have hw_w62 := K_w62.below
                        have hz_w62 := K_w62.size
                        have lA_w62 : wo.heap.size < w62.heap.size := by omega
                        have lB_w62 : wr.heap.size < w62.heap.size := by omega
                        clear lA_w61 lB_w61 cA0_w61 fA0_w61 cA1_w61 fA1_w61 cA2_w61 fA2_w61 cB0_w61 fB0_w61 cB1_w61 fB1_w61 cB2_w61 fB2_w61
                        clear K_w62
                        go_wp2_with fail
                        go_roundw
                        case rel => exact ⟨k + 1, l, by omega, by go_num, by rw [HPA.out], rfl, fun h => by rw [HPA.out] at h ⊢; exact HL0.out h, KLESS (L := [(wo.heap.size, 0, .int .i64 p.id), (wo.heap.size, 1, .int .i64 p.ra), (wo.heap.size, 2, .int .u64 p.si)]) KH_w62.out (by omega) (by simp)⟩
                        case measure => simp [intOf]; omega
                      · have u4 : decide (d ≤ dq) = true := by simp; omega
                        have HY : Hid (can xl i (List.replicate N false) k = true) := Lib.hid (by rw [HCAN.out, HD.out, HDP.out, HDQ.out]; simp; omega)
                        clear a1 NOC
                        by_cases a5 : nb < 0
                        · have HPA : Hid (pa xl i (List.replicate N false) (k + 1) = k) := Lib.hid (pa_yes HY.out (.inl (by rw [HNB.out]; exact a5)))
                          have u5 : decide (nb < 0) = true := by simpa using a5
                          have lA_wr : wo.heap.size < wr.heap.size := by omega
                          have cA0_wr := KH_wr.out.at (b := wo.heap.size) (o := 0) (v := .int .i64 p.id) (by simp)
                          have fA0_wr := KH_wr.out.free (b := wo.heap.size) (o := 0) (v := .int .i64 p.id) (by simp)
                          have cA1_wr := KH_wr.out.at (b := wo.heap.size) (o := 1) (v := .int .i64 p.ra) (by simp)
                          have fA1_wr := KH_wr.out.free (b := wo.heap.size) (o := 1) (v := .int .i64 p.ra) (by simp)
                          have cA2_wr := KH_wr.out.at (b := wo.heap.size) (o := 2) (v := .int .u64 p.si) (by simp)
                          have fA2_wr := KH_wr.out.free (b := wo.heap.size) (o := 2) (v := .int .u64 p.si) (by simp)
                          go_wp2_with fail
                          with_reducible refine (mwindow28c M xl _ p dp _ (HMO.out.below (by go_grown)) OKX.out OKP.out HDP.out).mono ?_
                          rintro e w61 ⟨rfl, hb_w61⟩
                          have K_w61 : Kept wo.heap.size wo (wr.heap.size + 1) [(wo.heap.size, 0, .int .i64 p.id), (wo.heap.size, 1, .int .i64 p.ra), (wo.heap.size, 2, .int .u64 p.si), (wr.heap.size, 0, .int .i64 q.id), (wr.heap.size, 1, .int .i64 q.ra), (wr.heap.size, 2, .int .u64 q.si)] w61 := Kept.of hb_w61 (by go_grown) (by go_size) (by omega) (by simp [go_sem, lA_wr, cA0_wr, fA0_wr, cA1_wr, fA1_wr, cA2_wr, fA2_wr] <;> omega)
                          clear hb_w61
                          have KH_w61 := Lib.hid K_w61
                          have hw_w61 := K_w61.below
                          have hz_w61 := K_w61.size
                          have lA_w61 : wo.heap.size < w61.heap.size := by omega
                          have lB_w61 : wr.heap.size < w61.heap.size := by omega
                          clear lA_wr cA0_wr fA0_wr cA1_wr fA1_wr cA2_wr fA2_wr
                          clear K_w61
                          have cA0_w61 := KH_w61.out.at (b := wo.heap.size) (o := 0) (v := .int .i64 p.id) (by simp)
                          have fA0_w61 := KH_w61.out.free (b := wo.heap.size) (o := 0) (v := .int .i64 p.id) (by simp)
                          have cA1_w61 := KH_w61.out.at (b := wo.heap.size) (o := 1) (v := .int .i64 p.ra) (by simp)
                          have fA1_w61 := KH_w61.out.free (b := wo.heap.size) (o := 1) (v := .int .i64 p.ra) (by simp)
                          have cA2_w61 := KH_w61.out.at (b := wo.heap.size) (o := 2) (v := .int .u64 p.si) (by simp)
                          have fA2_w61 := KH_w61.out.free (b := wo.heap.size) (o := 2) (v := .int .u64 p.si) (by simp)
                          have cB0_w61 := KH_w61.out.at (b := wr.heap.size) (o := 0) (v := .int .i64 q.id) (by simp)
                          have fB0_w61 := KH_w61.out.free (b := wr.heap.size) (o := 0) (v := .int .i64 q.id) (by simp)
                          have cB1_w61 := KH_w61.out.at (b := wr.heap.size) (o := 1) (v := .int .i64 q.ra) (by simp)
                          have fB1_w61 := KH_w61.out.free (b := wr.heap.size) (o := 1) (v := .int .i64 q.ra) (by simp)
                          have cB2_w61 := KH_w61.out.at (b := wr.heap.size) (o := 2) (v := .int .u64 q.si) (by simp)
                          have fB2_w61 := KH_w61.out.free (b := wr.heap.size) (o := 2) (v := .int .u64 q.si) (by simp)
                          go_wp2_with fail
                          with_reducible refine (mwindow28c M xl _ q dq _ (HMO.out.below (by go_grown)) OKX.out OKQ.out HDQ.out).mono ?_
                          rintro e w62 ⟨rfl, hb_w62⟩
                          have K_w62 := (KH_w61.out.step (by omega) (by go_grown)).step (by omega) hb_w62
                          clear hb_w62
                          have KH_w62 := Lib.hid K_w62
                          have hw_w62 := K_w62.below
                          have hz_w62 := K_w62.size
                          have lA_w62 : wo.heap.size < w62.heap.size := by omega
                          have lB_w62 : wr.heap.size < w62.heap.size := by omega
                          clear lA_w61 lB_w61 cA0_w61 fA0_w61 cA1_w61 fA1_w61 cA2_w61 fA2_w61 cB0_w61 fB0_w61 cB1_w61 fB1_w61 cB2_w61 fB2_w61
                          clear K_w62
                          go_wp2_with fail
                          go_roundw
                          case rel => exact ⟨k + 1, d, by omega, by go_num, by rw [HPA.out], rfl, fun _ => by rw [HPA.out, Int.toNat_natCast]; exact HAPK.out, KLESS (L := [(wo.heap.size, 0, .int .i64 p.id), (wo.heap.size, 1, .int .i64 p.ra), (wo.heap.size, 2, .int .u64 p.si)]) KH_w62.out (by omega) (by simp)⟩
                          case measure => simp [intOf]; omega
                        · have u5 : decide (nb < 0) = false := by simpa using a5
                          have hl5 := HL0.out (by omega)
                          rw [HGI.out] at hl5
                          by_cases a6 : d < l
                          · have HPA : Hid (pa xl i (List.replicate N false) (k + 1) = k) := Lib.hid (pa_yes HY.out (.inr (by rw [HNB.out, HGI.out, HGK.out, ← hl5, HD.out]; exact a6)))
                            have u6 : decide (d < l) = true := by simpa using a6
                            clear hl5
                            have lA_wr : wo.heap.size < wr.heap.size := by omega
                            have cA0_wr := KH_wr.out.at (b := wo.heap.size) (o := 0) (v := .int .i64 p.id) (by simp)
                            have fA0_wr := KH_wr.out.free (b := wo.heap.size) (o := 0) (v := .int .i64 p.id) (by simp)
                            have cA1_wr := KH_wr.out.at (b := wo.heap.size) (o := 1) (v := .int .i64 p.ra) (by simp)
                            have fA1_wr := KH_wr.out.free (b := wo.heap.size) (o := 1) (v := .int .i64 p.ra) (by simp)
                            have cA2_wr := KH_wr.out.at (b := wo.heap.size) (o := 2) (v := .int .u64 p.si) (by simp)
                            have fA2_wr := KH_wr.out.free (b := wo.heap.size) (o := 2) (v := .int .u64 p.si) (by simp)
                            go_wp2_with fail
                            with_reducible refine (mwindow28c M xl _ p dp _ (HMO.out.below (by go_grown)) OKX.out OKP.out HDP.out).mono ?_
                            rintro e w61 ⟨rfl, hb_w61⟩
                            have K_w61 : Kept wo.heap.size wo (wr.heap.size + 1) [(wo.heap.size, 0, .int .i64 p.id), (wo.heap.size, 1, .int .i64 p.ra), (wo.heap.size, 2, .int .u64 p.si), (wr.heap.size, 0, .int .i64 q.id), (wr.heap.size, 1, .int .i64 q.ra), (wr.heap.size, 2, .int .u64 q.si)] w61 := Kept.of hb_w61 (by go_grown) (by go_size) (by omega) (by simp [go_sem, lA_wr, cA0_wr, fA0_wr, cA1_wr, fA1_wr, cA2_wr, fA2_wr] <;> omega)
                            clear hb_w61
                            have KH_w61 := Lib.hid K_w61
                            have hw_w61 := K_w61.below
                            have hz_w61 := K_w61.size
                            have lA_w61 : wo.heap.size < w61.heap.size := by omega
                            have lB_w61 : wr.heap.size < w61.heap.size := by omega
                            clear lA_wr cA0_wr fA0_wr cA1_wr fA1_wr cA2_wr fA2_wr
                            clear K_w61
                            have cA0_w61 := KH_w61.out.at (b := wo.heap.size) (o := 0) (v := .int .i64 p.id) (by simp)
                            have fA0_w61 := KH_w61.out.free (b := wo.heap.size) (o := 0) (v := .int .i64 p.id) (by simp)
                            have cA1_w61 := KH_w61.out.at (b := wo.heap.size) (o := 1) (v := .int .i64 p.ra) (by simp)
                            have fA1_w61 := KH_w61.out.free (b := wo.heap.size) (o := 1) (v := .int .i64 p.ra) (by simp)
                            have cA2_w61 := KH_w61.out.at (b := wo.heap.size) (o := 2) (v := .int .u64 p.si) (by simp)
                            have fA2_w61 := KH_w61.out.free (b := wo.heap.size) (o := 2) (v := .int .u64 p.si) (by simp)
                            have cB0_w61 := KH_w61.out.at (b := wr.heap.size) (o := 0) (v := .int .i64 q.id) (by simp)
                            have fB0_w61 := KH_w61.out.free (b := wr.heap.size) (o := 0) (v := .int .i64 q.id) (by simp)
                            have cB1_w61 := KH_w61.out.at (b := wr.heap.size) (o := 1) (v := .int .i64 q.ra) (by simp)
                            have fB1_w61 := KH_w61.out.free (b := wr.heap.size) (o := 1) (v := .int .i64 q.ra) (by simp)
                            have cB2_w61 := KH_w61.out.at (b := wr.heap.size) (o := 2) (v := .int .u64 q.si) (by simp)
                            have fB2_w61 := KH_w61.out.free (b := wr.heap.size) (o := 2) (v := .int .u64 q.si) (by simp)
                            go_wp2_with fail
                            with_reducible refine (mwindow28c M xl _ q dq _ (HMO.out.below (by go_grown)) OKX.out OKQ.out HDQ.out).mono ?_
                            rintro e w62 ⟨rfl, hb_w62⟩
                            have K_w62 := (KH_w61.out.step (by omega) (by go_grown)).step (by omega) hb_w62
                            clear hb_w62
                            have KH_w62 := Lib.hid K_w62
                            have hw_w62 := K_w62.below
                            have hz_w62 := K_w62.size
                            have lA_w62 : wo.heap.size < w62.heap.size := by omega
                            have lB_w62 : wr.heap.size < w62.heap.size := by omega
                            clear lA_w61 lB_w61 cA0_w61 fA0_w61 cA1_w61 fA1_w61 cA2_w61 fA2_w61 cB0_w61 fB0_w61 cB1_w61 fB1_w61 cB2_w61 fB2_w61
                            clear K_w62
                            go_wp2_with fail
                            go_roundw
                            case rel => exact ⟨k + 1, d, by omega, by go_num, by rw [HPA.out], rfl, fun _ => by rw [HPA.out, Int.toNat_natCast]; exact HAPK.out, KLESS (L := [(wo.heap.size, 0, .int .i64 p.id), (wo.heap.size, 1, .int .i64 p.ra), (wo.heap.size, 2, .int .u64 p.si)]) KH_w62.out (by omega) (by simp)⟩
                            case measure => simp [intOf]; omega
                          · have HPA : Hid (pa xl i (List.replicate N false) (k + 1) = nb) := Lib.hid (by rw [pa_less (by rw [HNB.out, HGI.out, HGK.out, ← hl5, HD.out]; omega), HNB.out])
                            have u6 : decide (d < l) = false := by simpa using a6
                            clear hl5
                            have lA_wr : wo.heap.size < wr.heap.size := by omega
                            have cA0_wr := KH_wr.out.at (b := wo.heap.size) (o := 0) (v := .int .i64 p.id) (by simp)
                            have fA0_wr := KH_wr.out.free (b := wo.heap.size) (o := 0) (v := .int .i64 p.id) (by simp)
                            have cA1_wr := KH_wr.out.at (b := wo.heap.size) (o := 1) (v := .int .i64 p.ra) (by simp)
                            have fA1_wr := KH_wr.out.free (b := wo.heap.size) (o := 1) (v := .int .i64 p.ra) (by simp)
                            have cA2_wr := KH_wr.out.at (b := wo.heap.size) (o := 2) (v := .int .u64 p.si) (by simp)
                            have fA2_wr := KH_wr.out.free (b := wo.heap.size) (o := 2) (v := .int .u64 p.si) (by simp)
                            go_wp2_with fail
                            with_reducible refine (mwindow28c M xl _ p dp _ (HMO.out.below (by go_grown)) OKX.out OKP.out HDP.out).mono ?_
                            rintro e w61 ⟨rfl, hb_w61⟩
                            have K_w61 : Kept wo.heap.size wo (wr.heap.size + 1) [(wo.heap.size, 0, .int .i64 p.id), (wo.heap.size, 1, .int .i64 p.ra), (wo.heap.size, 2, .int .u64 p.si), (wr.heap.size, 0, .int .i64 q.id), (wr.heap.size, 1, .int .i64 q.ra), (wr.heap.size, 2, .int .u64 q.si)] w61 := Kept.of hb_w61 (by go_grown) (by go_size) (by omega) (by simp [go_sem, lA_wr, cA0_wr, fA0_wr, cA1_wr, fA1_wr, cA2_wr, fA2_wr] <;> omega)
                            clear hb_w61
                            have KH_w61 := Lib.hid K_w61
                            have hw_w61 := K_w61.below
                            have hz_w61 := K_w61.size
                            have lA_w61 : wo.heap.size < w61.heap.size := by omega
                            have lB_w61 : wr.heap.size < w61.heap.size := by omega
                            clear lA_wr cA0_wr fA0_wr cA1_wr fA1_wr cA2_wr fA2_wr
                            clear K_w61
                            have cA0_w61 := KH_w61.out.at (b := wo.heap.size) (o := 0) (v := .int .i64 p.id) (by simp)
                            have fA0_w61 := KH_w61.out.free (b := wo.heap.size) (o := 0) (v := .int .i64 p.id) (by simp)
                            have cA1_w61 := KH_w61.out.at (b := wo.heap.size) (o := 1) (v := .int .i64 p.ra) (by simp)
                            have fA1_w61 := KH_w61.out.free (b := wo.heap.size) (o := 1) (v := .int .i64 p.ra) (by simp)
                            have cA2_w61 := KH_w61.out.at (b := wo.heap.size) (o := 2) (v := .int .u64 p.si) (by simp)
                            have fA2_w61 := KH_w61.out.free (b := wo.heap.size) (o := 2) (v := .int .u64 p.si) (by simp)
                            have cB0_w61 := KH_w61.out.at (b := wr.heap.size) (o := 0) (v := .int .i64 q.id) (by simp)
                            have fB0_w61 := KH_w61.out.free (b := wr.heap.size) (o := 0) (v := .int .i64 q.id) (by simp)
                            have cB1_w61 := KH_w61.out.at (b := wr.heap.size) (o := 1) (v := .int .i64 q.ra) (by simp)
                            have fB1_w61 := KH_w61.out.free (b := wr.heap.size) (o := 1) (v := .int .i64 q.ra) (by simp)
                            have cB2_w61 := KH_w61.out.at (b := wr.heap.size) (o := 2) (v := .int .u64 q.si) (by simp)
                            have fB2_w61 := KH_w61.out.free (b := wr.heap.size) (o := 2) (v := .int .u64 q.si) (by simp)
                            go_wp2_with fail
                            with_reducible refine (mwindow28c M xl _ q dq _ (HMO.out.below (by go_grown)) OKX.out OKQ.out HDQ.out).mono ?_
                            rintro e w62 ⟨rfl, hb_w62⟩
                            have K_w62 := (KH_w61.out.step (by omega) (by go_grown)).step (by omega) hb_w62
                            clear hb_w62
                            have KH_w62 := Lib.hid K_w62
                            have hw_w62 := K_w62.below
                            have hz_w62 := K_w62.size
                            have lA_w62 : wo.heap.size < w62.heap.size := by omega
                            have lB_w62 : wr.heap.size < w62.heap.size := by omega
                            clear lA_w61 lB_w61 cA0_w61 fA0_w61 cA1_w61 fA1_w61 cA2_w61 fA2_w61 cB0_w61 fB0_w61 cB1_w61 fB1_w61 cB2_w61 fB2_w61
                            clear K_w62
                            go_wp2_with fail
                            go_roundw
                            case rel => exact ⟨k + 1, l, by omega, by go_num, by rw [HPA.out], rfl, fun h => by rw [HPA.out] at h ⊢; exact HL0.out h, KLESS (L := [(wo.heap.size, 0, .int .i64 p.id), (wo.heap.size, 1, .int .i64 p.ra), (wo.heap.size, 2, .int .u64 p.si)]) KH_w62.out (by omega) (by simp)⟩
                            case measure => simp [intOf]; omega
              · obtain rfl : N = k := by omega
                have hpl := pa_lf HTL.out HPJ.out E3.out (N := N) (by rw [← HN.out, HXLL.out]) z.l.length (Nat.le_refl _)
                rw [HXL.out, HI.out, ← HNR.out, HNB.out] at hpl
                rcases hpl with ⟨hp1, hp2⟩ | ⟨m, hp1, hp2, hp3, hp4⟩
                · have HMT : Hid (mtc z (j' + 1) = mtc z j') := Lib.hid (mt_none (by rw [HTK.out]; exact E3.out) (by rw [HTK.out, hp1]; omega))
                  have HRK : Hid (rk tk (j' + 1) = i + 1) := Lib.hid (by rw [rk_succ E3.out, if_neg (by simp), HI.out])
                  subst hp2
                  clear hp1
                  go_wp2_with fail
                  go_roundg (z.l.length - (j' + 1))
                  case rel => exact ⟨j' + 1, _, rfl, by omega, by rw [HMT.out, HTK.out, HRK.out]; go_num, by rw [HMT.out, HPS2.out]; exact HPS.out.below hw_wr, HGO.out.below hw_wr, by rw [HMT.out, HTK.out, HXL.out]; exact HMO.out.below hw_wr, HO.out.grow hw_wr⟩
                  case measure => omega
                · obtain ⟨q2, hq2⟩ : ∃ q, rk tk m = q := ⟨_, rfl⟩
                  rw [hq2] at hp4
                  subst hp4
                  obtain ⟨pm, hpm⟩ : ∃ q, z.l[m]? = some q := ⟨z.l[m], List.getElem?_eq_getElem hp2⟩
                  have hcase := mtc_case z hjl
                  have hxm : xl.l[q2]? = some pm := by rw [HXLL.out, ← hq2]; exact lft_at HTL.out hpm hp3
                  have HNX : Hid ((mtc z (j' + 1)).2 = ps ++ [(p.id, pm.id)] ∧ z.lf (mtc z (j' + 1)).1 = { xl with l := (xl.l.eraseIdx q2).eraseIdx i } ∧ i < q2 ∧ rk (mtc z (j' + 1)).1 (j' + 1) = i) := Lib.hid (by
                    obtain ⟨_, h1 | h1 | h1⟩ := hcase
                    · rw [HTK.out, E3.out] at h1
                      simp at h1
                    · rw [HTK.out, hp1] at h1
                      omega
                    · obtain ⟨m', p', pm', g1, g2, g3, g4, g5, g6, g7, g8, g9⟩ := h1
                      rw [HTK.out, hp1] at g2
                      obtain rfl : m = m' := by omega
                      rw [HPJ.out] at g6
                      rw [hpm] at g7
                      cases g6
                      cases g7
                      have hlt := mtc_later hjl g1 g4 g5 HPJ.out hpm g8
                      rw [HTK.out] at g5 g9
                      have h2 := mtc_lft HTL.out hlt hp2 E3.out g5
                      rw [hq2, HI.out] at h2
                      rw [g9]
                      refine ⟨by rw [HPS2.out], ?_, h2.2.2, h2.2.1⟩
                      rw [← HXL.out]
                      unfold Lb.lf
                      simp only
                      rw [h2.1])
                  have HQM := Lib.hid hxm
                  have hiq := HNX.out.2.2.1
                  have hqN : q2 < N := by rw [← HN.out]; exact (List.getElem?_eq_some_iff.1 hxm).1
                  have HQL : Hid (q2 < xl.l.length) := Lib.hid (by rw [HN.out]; exact hqN)
                  have HIE : Hid (i < (xl.l.eraseIdx q2).length) := Lib.hid (by rw [List.length_eraseIdx, if_pos HQL.out, HN.out]; omega)
                  have j1 : (0 : Int) ≤ (q2 : Int) := by omega
                  have j2 : (q2 : Int) < (N : Int) := by omega
                  have j3 : ¬ ((q2 : Int) ≤ (i : Int)) := by omega
                  have j4 : (i : Int) < (q2 : Int) := by omega
                  have j5 : (i : Int) ≤ (q2 : Int) := by omega
                  clear hp1 hp2 hp3 hq2 hpm hcase hxm
                  have gA0 : wr.cell? ⟨wo.heap.size, 0, none⟩ = Option.some (.int .i64 p.id) := KH_wr.out.at (b := wo.heap.size) (o := 0) (v := .int .i64 p.id) (by simp)
                  have lA : wo.heap.size < wr.heap.size := by omega
                  have HMR := Lib.hid (HMO.out.below hw_wr)
                  have HPR := Lib.hid (HPS.out.below hw_wr)
                  have HGR := Lib.hid (HGO.out.below hw_wr)
                  have HOR := Lib.hid (HO.out.grow hw_wr)
                  have m4r : wr.cell? ⟨M, 4, none⟩ = Option.some (.slice (some ⟨b1, o1, none⟩) N lc) := (hw_wr.cell (p := ⟨M, 4, none⟩) hMo).trans m4
                  have qq : wr.cell? ⟨b1, o1 + q2 * 3, none⟩ = Option.some (.int .i64 pm.id) := (hw_wr.cell (p := ⟨b1, o1 + q2 * 3, none⟩) hb1).trans (HC1.out q2 pm HQM.out 0 _ rfl)
                  have hMr : M < wr.heap.size := by omega
                  have hb1r : b1 < wr.heap.size := by omega
                  go_wp2_with fail
                  refine rg32_24 (w0 := wr) (B := wr.heap.size) (n := wr.heap.size) (L := []) (E := fun _ => True) (F := fun _ => True) (by kernel_rfl) (by kernel_rfl) ⟨by go_grown, by go_size, (by simp [go_sem] <;> omega)⟩ trivial (fun _ _ _ _ => trivial) trivial (fun _ _ _ _ => trivial) (fun w81 K_w81 E_w81 F_w81 => ?_)
                  have _ne : Nonempty (KX (wr.heap.size) wr (wr.heap.size) [] (fun _ => True)) := ⟨⟨_, K_w81, E_w81⟩⟩
                  repeat (go_big_quiet_step (fail))
                  refine wpQuiet_nil ?_
                  have ra0 : ∀ s : KX (wr.heap.size) wr (wr.heap.size) [] (fun _ => True), s.val.cell? ⟨wo.heap.size, 0, none⟩ = some (.int .i64 p.id) := fun s => (s.kept.below.cell (p := ⟨wo.heap.size, 0, none⟩) lA).trans gA0
                  have rm4 : ∀ s : KX (wr.heap.size) wr (wr.heap.size) [] (fun _ => True), s.val.cell? ⟨M, 4, none⟩ = some (.slice (some ⟨b1, o1, none⟩) N lc) := fun s => (s.kept.below.cell (p := ⟨M, 4, none⟩) hMr).trans m4r
                  have rqq : ∀ s : KX (wr.heap.size) wr (wr.heap.size) [] (fun _ => True), s.val.cell? ⟨b1, o1 + q2 * 3, none⟩ = some (.int .i64 pm.id) := fun s => (s.kept.below.cell (p := ⟨b1, o1 + q2 * 3, none⟩) hb1r).trans qq
                  repeat (go_big_quiet_step (fail))
                  refine wpQuiet_nil ?_
                  clear ra0 rm4 rqq
                  repeat (go_big_quiet_step (fail))
                  refine wpQuiet_nil ?_
                  have ra0 : ∀ s : KX (wr.heap.size) wr (wr.heap.size) [] (fun _ => True), s.val.cell? ⟨wo.heap.size, 0, none⟩ = some (.int .i64 p.id) := fun s => (s.kept.below.cell (p := ⟨wo.heap.size, 0, none⟩) lA).trans gA0
                  have rm4 : ∀ s : KX (wr.heap.size) wr (wr.heap.size) [] (fun _ => True), s.val.cell? ⟨M, 4, none⟩ = some (.slice (some ⟨b1, o1, none⟩) N lc) := fun s => (s.kept.below.cell (p := ⟨M, 4, none⟩) hMr).trans m4r
                  have rqq : ∀ s : KX (wr.heap.size) wr (wr.heap.size) [] (fun _ => True), s.val.cell? ⟨b1, o1 + q2 * 3, none⟩ = some (.int .i64 pm.id) := fun s => (s.kept.below.cell (p := ⟨b1, o1 + q2 * 3, none⟩) hb1r).trans qq
                  repeat (go_big_quiet_step (fail))
                  refine wpQuiet_nil ?_
                  clear ra0 rm4 rqq
                  repeat (go_big_quiet_step (fail))
                  refine wpQuiet_nil ?_
                  have KH_w81 := Lib.hid K_w81
                  have hw_w81 := K_w81.below
                  have hz_w81 := K_w81.size
                  clear K_w81
                  clear E_w81 F_w81
                  refine ⟨fun K hK0 => ?_, trivial⟩
                  have hK := Lib.hid hK0
                  clear hK0
                  go_wp2_with fail
                  first | (refine ⟨rfl, hK.out _ _ ?_⟩; clear hK K) | (refine hK.out _ _ ?_; clear hK K)
                  refine ⟨fun K hK0 => ?_, trivial⟩
                  have hK := Lib.hid hK0
                  clear hK0
                  go_wp2_with (at_builtin; refine wpList_append_ow (f := dc) (sz := 2) rfl _ _ 32 rfl w.heap.size 50 (.agg #[.int .i64 0, .int .i64 0]) 16 Try.underlying32 info50 rfl (by decide) _ ps rfl (HPR.out.below (by go_grown)) dc_ok _ [(p.id, pm.id)] rfl (Rw.one2 _ _ (p.id, pm.id) _ rfl _ _ (by simp)) ?ca6 ?cb6 (by go_size) ?_)
                  case ca6 => have q1 := HPL.out; simp only [maxLen, List.length_singleton]; omega
                  case cb6 => have q1 := HPL.out; simp only [List.length_singleton]; omega
                  intro v' wA hown hgrow hwh
                  have HP3 : Hid (Ow dc 2 50 wA w.heap.size v' (ps ++ [(p.id, pm.id)])) := Lib.hid hown
                  have hgB := mod_grownI (HMR.out.below (by go_grown)) (HPR.out.below (by go_grown)) hgrow
                  have HG3 : Hid (Ow ic 1 3 wA w.heap.size (.slice ga gn gc) gs) := Lib.hid ((HGR.out.below (by go_grown)).grown hgrow (fun b hb e => HPR.out.ne HGR.out (by decide) b ((ob_len _ _ _ _ _).trans e) hb))
                  have hOA : Onl [M] w wA := (HOR.out.grow (by go_grown)).grown hgrow (fun q hq => .inr (HPR.out.typ q ((ob_len _ _ _ _ _).trans hq)).1)
                  have HMA := Lib.hid hgB
                  have HOA := Lib.hid hOA
                  have n4A : wA.cell? ⟨M, 4, none⟩ = Option.some (.slice (some ⟨b1, o1, none⟩) N lc) := hgB.cell 4
                  obtain ⟨ga2, gc2, hv'⟩ := hown.form
                  rw [List.length_append, List.length_singleton] at hv'
                  subst hv'
                  clear hown hgrow hwh hgB hOA
                  go_wp2_with fail
                  first | (refine ⟨rfl, hK.out _ _ ?_⟩; clear hK K) | (refine hK.out _ _ ?_; clear hK K)
                  repeat (go_big_quiet_step (fail))
                  refine wpQuiet_nil ?_
                  clear _ne
                  go_wp2_with fail
                  with_reducible refine (without39 _ xl.l q2 _ HMA.out.row HQL.out OKX.out.len).mono ?_
                  rintro e wB ⟨v2, rfl, h2, hb2⟩
                  have HR2 := Lib.hid (h2.base (base' := 0) (fun b _ => Nat.zero_le b))
                  have HB2 := Lib.hid hb2
                  have hB2 := (HMA.out.below hb2).blk
                  have c4_2 : wB.cell? ⟨M, 4, none⟩ = Option.some (.slice (some ⟨b1, o1, none⟩) N lc) := cell_of_row wB M 4 _ 43 (0, 0) hB2
                  clear h2 hb2 hB2
                  go_wp2_with fail
                  with_reducible refine (without39 _ (xl.l.eraseIdx q2) i _ HR2.out HIE.out (Nat.le_trans (List.length_eraseIdx_le _ _) OKX.out.len)).mono ?_
                  rintro e wC ⟨v3, rfl, h3, hb3⟩
                  have hbb := below_via HB2.out hb3
                  have hB3 := (HMA.out.below hbb).blk
                  have c4_3 : wC.cell? ⟨M, 4, none⟩ = Option.some (.slice (some ⟨b1, o1, none⟩) N lc) := cell_of_row wC M 4 _ 43 (0, 0) hB3
                  have f4_3 : wC.frozen? ⟨M, 4, none⟩ = false := frozen_of_row wC M 4 _ 43 hB3
                  obtain ⟨a', c', hv'⟩ := h3.form
                  obtain ⟨n', hn'⟩ : ∃ n, ((xl.l.eraseIdx q2).eraseIdx i).length = n := ⟨_, rfl⟩
                  rw [hn'] at hv'
                  subst hv'
                  have HB := Lib.hid (mod_put hB3 h3)
                  have HO3 := Lib.hid (HOA.out.grow hbb)
                  have hs : Onl [M] wC (wC.setCell ⟨M, 4, none⟩ (.slice a' n' c')) := (Onl.refl [M] wC).setCell (q := ⟨M, 4, none⟩) (.inl (by simp)) _
                  have HG4 := Lib.hid ((HG3.out.below hbb).onl hs (fun b hb => by simpa using fun e : b = M => MNOT hB3 (HG3.out.below hbb) (by decide) b hb e))
                  have HP4 := Lib.hid ((HP3.out.below hbb).onl hs (fun b hb => by simpa using fun e : b = M => MNOT hB3 (HP3.out.below hbb) (by decide) b hb e))
                  clear hB3 h3 hb3 hbb hn' hs
                  go_wp2_with fail
                  go_roundg (z.l.length - (j' + 1))
                  case rel => exact ⟨j' + 1, _, rfl, by omega, by rw [HNX.out.2.2.2], by rw [HNX.out.1]; exact HP4.out, HG4.out, by rw [HNX.out.2.1]; exact HB.out, HO3.out.setCell (q := ⟨M, 4, none⟩) (.inl (by simp)) _⟩
                  case measure => omega
  · have g7 : x.now < t := by omega
    obtain rfl : t = m := by omega
    clear hm
    go_enter Try.func32, Try.ntmps32
    go_wp2_with fail
    go_loopg [6, 7] y.l.length (fun g gv i wr => MA w M y g gv i wr)
    case atStart => exact ⟨0, _, rfl, Nat.zero_le _, rfl, Ow.nil _ _ _, HMY.out, HOY.out⟩
    case round =>
      obtain ⟨j, lv, rfl, hj, rfl, hg, hmd, ho⟩ := hrel
      have HG := Lib.hid hg
      have HMD := Lib.hid hmd
      have HO := Lib.hid ho
      have hMr := hmd.lt
      have hz_wr := ho.size
      obtain ⟨ga, gc, hgv⟩ := hg.form
      obtain ⟨gn, hgn⟩ : ∃ n, (gon y j).length = n := ⟨_, rfl⟩
      have HGL : Hid ((gon y j).length ≤ 200) := Lib.hid (Nat.le_trans (gon_len y j) (by have := OKY.out.len; omega))
      obtain ⟨i, hi⟩ : ∃ i, (sty y j).length = i := ⟨_, rfl⟩
      obtain ⟨la, lc, hlv⟩ := hmd.row.form
      obtain ⟨n1, hn1⟩ : ∃ n, (sty y j ++ y.l.drop j).length = n := ⟨_, rfl⟩
      have hn2 : n1 = i + (y.l.length - j) := by rw [← hn1, ← hi]; simp
      have hsl := sty_len y j
      have h200 := OKY.out.len
      have HL2 : Hid ((sty y j ++ y.l.drop j).length ≤ 200) := Lib.hid (by rw [hn1]; omega)
      simp only at hlv
      rw [hn1] at hlv
      rw [hgn] at hgv
      subst hgv hlv
      have HI := Lib.hid hi
      rw [hi] at hsl ⊢
      have m2 : wr.cell? ⟨M, 2, none⟩ = some (.int .u64 y.to) := hmd.cell 2
      have m3 : wr.cell? ⟨M, 3, none⟩ = some (.int .u64 y.now) := hmd.cell 3
      have m4 : wr.cell? ⟨M, 4, none⟩ = some (.slice la n1 lc) := hmd.cell 4
      have HN1 := Lib.hid hn1
      clear hg hmd ho hgn hi hn1
      by_cases hjl : j < y.l.length
      · obtain ⟨p, hp⟩ : ∃ p, y.l[j]? = some p := ⟨y.l[j], List.getElem?_eq_getElem hjl⟩
        have hcut := cut_at hp
        rw [HI.out] at hcut
        obtain ⟨_, a1, c1, hv, hf⟩ := HMD.out.rw.form
        simp only [HN1.out] at hv hf
        obtain ⟨b1, o1, rfl, hb1, hc1⟩ := hf (by omega)
        simp only [Value.slice.injEq] at hv
        obtain ⟨rfl, hsl2, rfl⟩ := hv
        clear hsl2
        have qi0 : wr.cell? ⟨b1, o1 + i * 3, none⟩ = some (.int .i64 p.id) := hc1 i p hcut.1 0 _ rfl
        have qi2 : wr.cell? ⟨b1, o1 + i * 3 + 2, none⟩ = some (.int .u64 p.si) := hc1 i p hcut.1 2 _ rfl
        have hps := OKY.out.p p (List.mem_of_getElem? hp)
        have hny := OKY.out.n
        obtain ⟨d, hd⟩ : ∃ d, y.now - p.si = d := ⟨_, rfl⟩
        have hd1 : 0 ≤ d ∧ d ≤ 18446744073709551615 := by have := hps.s0; have := hps.s1; have := hny.2; omega
        have hq1 : IntKind.u64.wrap (y.now - p.si) = d := by
          rw [hd]
          simp [IntKind.wrap, IntKind.signed, IntKind.bits]
          omega
        have hgd : gvn y.to y.now p = decide (y.to ≤ d) := by
          unfold gvn since
          rw [show y.now - min y.now p.si = d by have := hps.s1; omega]
        have i1 : (0 : Int) ≤ (i : Int) := by omega
        have i2 : (i : Int) < (n1 : Int) := by omega
        have HIL : Hid (i < (sty y j ++ y.l.drop j).length) := Lib.hid (by rw [HN1.out]; omega)
        have HP := Lib.hid hp
        have hn3 : n1 ≤ 200 := by have h := HL2.out; rw [HN1.out] at h; exact h
        clear hf hc1 hps hny hd hcut hn2
        by_cases hgo : y.to ≤ d
        · have HSS := Lib.hid (sty_gone hp (by rw [hgd]; exact decide_eq_true hgo))
          have t1 : decide (y.to ≤ d) = true := by simpa using hgo
          clear hp hgd
          rw [HI.out] at HSS
          go_wp2_with fail
          refine rg32_6 (w0 := wr) (B := wr.heap.size) (n := wr.heap.size) (L := []) (E := fun _ => True) (F := fun _ => True) (by kernel_rfl) (by kernel_rfl) ⟨by go_grown, by go_size, (by simp [go_sem] <;> omega)⟩ trivial (fun _ _ _ _ => trivial) trivial (fun _ _ _ _ => trivial) (fun w21 K_w21 E_w21 F_w21 => ?_)
          have _ne : Nonempty (KX (wr.heap.size) wr (wr.heap.size) [] (fun _ => True)) := ⟨⟨_, K_w21, E_w21⟩⟩
          repeat (go_big_quiet_step (fail))
          refine wpQuiet_nil ?_
          have rm2 : ∀ s : KX (wr.heap.size) wr (wr.heap.size) [] (fun _ => True), s.val.cell? ⟨M, 2, none⟩ = some (.int .u64 y.to) := fun s => (s.kept.below.cell (p := ⟨M, 2, none⟩) hMr).trans m2
          have rm3 : ∀ s : KX (wr.heap.size) wr (wr.heap.size) [] (fun _ => True), s.val.cell? ⟨M, 3, none⟩ = some (.int .u64 y.now) := fun s => (s.kept.below.cell (p := ⟨M, 3, none⟩) hMr).trans m3
          have rm4 : ∀ s : KX (wr.heap.size) wr (wr.heap.size) [] (fun _ => True), s.val.cell? ⟨M, 4, none⟩ = some (.slice (some ⟨b1, o1, none⟩) n1 lc) := fun s => (s.kept.below.cell (p := ⟨M, 4, none⟩) hMr).trans m4
          have rsi : ∀ s : KX (wr.heap.size) wr (wr.heap.size) [] (fun _ => True), s.val.cell? ⟨b1, o1 + i * 3 + 2, none⟩ = some (.int .u64 p.si) := fun s => (s.kept.below.cell (p := ⟨b1, o1 + i * 3 + 2, none⟩) hb1).trans qi2
          repeat (go_big_quiet_step (fail))
          refine wpQuiet_nil ?_
          clear rm2 rm3 rm4 rsi
          repeat (go_big_quiet_step (fail))
          refine wpQuiet_nil ?_
          have rm2 : ∀ s : KX (wr.heap.size) wr (wr.heap.size) [] (fun _ => True), s.val.cell? ⟨M, 2, none⟩ = some (.int .u64 y.to) := fun s => (s.kept.below.cell (p := ⟨M, 2, none⟩) hMr).trans m2
          have rm3 : ∀ s : KX (wr.heap.size) wr (wr.heap.size) [] (fun _ => True), s.val.cell? ⟨M, 3, none⟩ = some (.int .u64 y.now) := fun s => (s.kept.below.cell (p := ⟨M, 3, none⟩) hMr).trans m3
          have rm4 : ∀ s : KX (wr.heap.size) wr (wr.heap.size) [] (fun _ => True), s.val.cell? ⟨M, 4, none⟩ = some (.slice (some ⟨b1, o1, none⟩) n1 lc) := fun s => (s.kept.below.cell (p := ⟨M, 4, none⟩) hMr).trans m4
          have rsi : ∀ s : KX (wr.heap.size) wr (wr.heap.size) [] (fun _ => True), s.val.cell? ⟨b1, o1 + i * 3 + 2, none⟩ = some (.int .u64 p.si) := fun s => (s.kept.below.cell (p := ⟨b1, o1 + i * 3 + 2, none⟩) hb1).trans qi2
          repeat (go_big_quiet_step (fail))
          refine wpQuiet_nil ?_
          clear rm2 rm3 rm4 rsi
          repeat (go_big_quiet_step (fail))
          refine wpQuiet_nil ?_
          have rm2 : ∀ s : KX (wr.heap.size) wr (wr.heap.size) [] (fun _ => True), s.val.cell? ⟨M, 2, none⟩ = some (.int .u64 y.to) := fun s => (s.kept.below.cell (p := ⟨M, 2, none⟩) hMr).trans m2
          have rm3 : ∀ s : KX (wr.heap.size) wr (wr.heap.size) [] (fun _ => True), s.val.cell? ⟨M, 3, none⟩ = some (.int .u64 y.now) := fun s => (s.kept.below.cell (p := ⟨M, 3, none⟩) hMr).trans m3
          have rm4 : ∀ s : KX (wr.heap.size) wr (wr.heap.size) [] (fun _ => True), s.val.cell? ⟨M, 4, none⟩ = some (.slice (some ⟨b1, o1, none⟩) n1 lc) := fun s => (s.kept.below.cell (p := ⟨M, 4, none⟩) hMr).trans m4
          have rsi : ∀ s : KX (wr.heap.size) wr (wr.heap.size) [] (fun _ => True), s.val.cell? ⟨b1, o1 + i * 3 + 2, none⟩ = some (.int .u64 p.si) := fun s => (s.kept.below.cell (p := ⟨b1, o1 + i * 3 + 2, none⟩) hb1).trans qi2
          repeat (go_big_quiet_step (fail))
          refine wpQuiet_nil ?_
          clear rm2 rm3 rm4 rsi
          repeat (go_big_quiet_step (fail))
          refine wpQuiet_nil ?_
          clear _ne
          have KH_w21 := Lib.hid K_w21
          have hw_w21 := K_w21.below
          have hz_w21 := K_w21.size
          clear K_w21
          clear E_w21 F_w21
          have n4 : w21.cell? ⟨M, 4, none⟩ = Option.some (.slice (some ⟨b1, o1, none⟩) n1 lc) := (hw_w21.cell (p := ⟨M, 4, none⟩) hMr).trans m4
          have nq : w21.cell? ⟨b1, o1 + i * 3, none⟩ = Option.some (.int .i64 p.id) := (hw_w21.cell (p := ⟨b1, o1 + i * 3, none⟩) hb1).trans qi0
          have HMD2 := Lib.hid (HMD.out.below hw_w21)
          have HG2 := Lib.hid (HG.out.below hw_w21)
          have HO2 := Lib.hid (HO.out.grow hw_w21)
          go_wp2_with (at_builtin; refine wpList_append_ow (f := ic) (sz := 1) rfl _ _ 33 rfl w.heap.size 3 (.int .i64 0) 8 Try.underlying33 info3 rfl (by decide) _ (gon y j) rfl (HG2.out.below (by go_grown)) ic_ok _ [p.id] rfl (Rw.one2 _ _ p.id _ rfl _ _ (by simp)) ?ca5 ?cb5 (by go_size) ?_)
          case ca5 => have q1 := HGL.out; simp only [maxLen, List.length_singleton]; omega
          case cb5 => have q1 := HGL.out; simp only [List.length_singleton]; omega
          intro v' wA hown hgrow hwh
          have HG3 : Hid (Ow ic 1 3 wA w.heap.size v' (gon y (j + 1))) := Lib.hid (by rw [HSS.out.2.1]; exact hown)
          have hgB := mod_grownI (HMD2.out.below (by go_grown)) (HG2.out.below (by go_grown)) hgrow
          have hOA : Onl [M] w wA := (HO2.out.grow (by go_grown)).grown hgrow (fun q hq => .inr (HG2.out.typ q ((ob_len _ _ _ _ _).trans hq)).1)
          have HMA := Lib.hid hgB
          have HOA := Lib.hid hOA
          have n4A : wA.cell? ⟨M, 4, none⟩ = Option.some (.slice (some ⟨b1, o1, none⟩) n1 lc) := hgB.cell 4
          obtain ⟨ga2, gc2, hv'⟩ := hown.form
          rw [List.length_append, List.length_singleton] at hv'
          subst hv'
          clear hown hgrow hwh hgB hOA
          go_wp2_with fail
          with_reducible refine (without39 _ (sty y j ++ y.l.drop j) i _ HMA.out.row HIL.out HL2.out).mono ?_
          rintro e wB ⟨v2, rfl, h2, hb2⟩
          have hB2 := (HMA.out.below hb2).blk
          have c4_2 : wB.cell? ⟨M, 4, none⟩ = Option.some (.slice (some ⟨b1, o1, none⟩) n1 lc) := cell_of_row wB M 4 _ 43 (0, 0) hB2
          have f4_2 : wB.frozen? ⟨M, 4, none⟩ = false := frozen_of_row wB M 4 _ 43 hB2
          obtain ⟨a', c', hv'⟩ := h2.form
          obtain ⟨n', hn'⟩ : ∃ n, ((sty y j ++ y.l.drop j).eraseIdx i).length = n := ⟨_, rfl⟩
          rw [hn'] at hv'
          subst hv'
          have HB := Lib.hid (mod_put hB2 h2)
          have HO3 := Lib.hid (HOA.out.grow hb2)
          have HG4 := Lib.hid ((HG3.out.below hb2).onl ((Onl.refl [M] wB).setCell (q := ⟨M, 4, none⟩) (.inl (by simp)) (.slice a' n' c')) (fun b hb => by simpa using fun e : b = M => MNOT hB2 (HG3.out.below hb2) (by decide) b hb e))
          clear hB2 h2 hb2 hn'
          go_wp2_with fail
          go_roundg (y.l.length - (j + 1))
          case rel => exact ⟨j + 1, _, rfl, by omega, by rw [HSS.out.1, HI.out], HG4.out, by rw [HSS.out.2.2]; exact HB.out, HO3.out.setCell (q := ⟨M, 4, none⟩) (.inl (by simp)) _⟩
          case measure => omega
        · have HSS := Lib.hid (sty_stay hp (by rw [hgd]; exact decide_eq_false hgo))
          have t1 : decide (y.to ≤ d) = false := by simpa using hgo
          clear hp hgd
          go_wp2_with fail
          refine rg32_6 (w0 := wr) (B := wr.heap.size) (n := wr.heap.size) (L := []) (E := fun _ => True) (F := fun _ => True) (by kernel_rfl) (by kernel_rfl) ⟨by go_grown, by go_size, (by simp [go_sem] <;> omega)⟩ trivial (fun _ _ _ _ => trivial) trivial (fun _ _ _ _ => trivial) (fun w21 K_w21 E_w21 F_w21 => ?_)
          have _ne : Nonempty (KX (wr.heap.size) wr (wr.heap.size) [] (fun _ => True)) := ⟨⟨_, K_w21, E_w21⟩⟩
          repeat (go_big_quiet_step (fail))
          refine wpQuiet_nil ?_
          have rm2 : ∀ s : KX (wr.heap.size) wr (wr.heap.size) [] (fun _ => True), s.val.cell? ⟨M, 2, none⟩ = some (.int .u64 y.to) := fun s => (s.kept.below.cell (p := ⟨M, 2, none⟩) hMr).trans m2
          have rm3 : ∀ s : KX (wr.heap.size) wr (wr.heap.size) [] (fun _ => True), s.val.cell? ⟨M, 3, none⟩ = some (.int .u64 y.now) := fun s => (s.kept.below.cell (p := ⟨M, 3, none⟩) hMr).trans m3
          have rm4 : ∀ s : KX (wr.heap.size) wr (wr.heap.size) [] (fun _ => True), s.val.cell? ⟨M, 4, none⟩ = some (.slice (some ⟨b1, o1, none⟩) n1 lc) := fun s => (s.kept.below.cell (p := ⟨M, 4, none⟩) hMr).trans m4
          have rsi : ∀ s : KX (wr.heap.size) wr (wr.heap.size) [] (fun _ => True), s.val.cell? ⟨b1, o1 + i * 3 + 2, none⟩ = some (.int .u64 p.si) := fun s => (s.kept.below.cell (p := ⟨b1, o1 + i * 3 + 2, none⟩) hb1).trans qi2
          repeat (go_big_quiet_step (fail))
          refine wpQuiet_nil ?_
          clear rm2 rm3 rm4 rsi
          repeat (go_big_quiet_step (fail))
          refine wpQuiet_nil ?_
          have rm2 : ∀ s : KX (wr.heap.size) wr (wr.heap.size) [] (fun _ => True), s.val.cell? ⟨M, 2, none⟩ = some (.int .u64 y.to) := fun s => (s.kept.below.cell (p := ⟨M, 2, none⟩) hMr).trans m2
          have rm3 : ∀ s : KX (wr.heap.size) wr (wr.heap.size) [] (fun _ => True), s.val.cell? ⟨M, 3, none⟩ = some (.int .u64 y.now) := fun s => (s.kept.below.cell (p := ⟨M, 3, none⟩) hMr).trans m3
          have rm4 : ∀ s : KX (wr.heap.size) wr (wr.heap.size) [] (fun _ => True), s.val.cell? ⟨M, 4, none⟩ = some (.slice (some ⟨b1, o1, none⟩) n1 lc) := fun s => (s.kept.below.cell (p := ⟨M, 4, none⟩) hMr).trans m4
          have rsi : ∀ s : KX (wr.heap.size) wr (wr.heap.size) [] (fun _ => True), s.val.cell? ⟨b1, o1 + i * 3 + 2, none⟩ = some (.int .u64 p.si) := fun s => (s.kept.below.cell (p := ⟨b1, o1 + i * 3 + 2, none⟩) hb1).trans qi2
          repeat (go_big_quiet_step (fail))
          refine wpQuiet_nil ?_
          clear rm2 rm3 rm4 rsi
          repeat (go_big_quiet_step (fail))
          refine wpQuiet_nil ?_
          have rm2 : ∀ s : KX (wr.heap.size) wr (wr.heap.size) [] (fun _ => True), s.val.cell? ⟨M, 2, none⟩ = some (.int .u64 y.to) := fun s => (s.kept.below.cell (p := ⟨M, 2, none⟩) hMr).trans m2
          have rm3 : ∀ s : KX (wr.heap.size) wr (wr.heap.size) [] (fun _ => True), s.val.cell? ⟨M, 3, none⟩ = some (.int .u64 y.now) := fun s => (s.kept.below.cell (p := ⟨M, 3, none⟩) hMr).trans m3
          have rm4 : ∀ s : KX (wr.heap.size) wr (wr.heap.size) [] (fun _ => True), s.val.cell? ⟨M, 4, none⟩ = some (.slice (some ⟨b1, o1, none⟩) n1 lc) := fun s => (s.kept.below.cell (p := ⟨M, 4, none⟩) hMr).trans m4
          have rsi : ∀ s : KX (wr.heap.size) wr (wr.heap.size) [] (fun _ => True), s.val.cell? ⟨b1, o1 + i * 3 + 2, none⟩ = some (.int .u64 p.si) := fun s => (s.kept.below.cell (p := ⟨b1, o1 + i * 3 + 2, none⟩) hb1).trans qi2
          repeat (go_big_quiet_step (fail))
          refine wpQuiet_nil ?_
          clear rm2 rm3 rm4 rsi
          repeat (go_big_quiet_step (fail))
          refine wpQuiet_nil ?_
          clear _ne
          have KH_w21 := Lib.hid K_w21
          have hw_w21 := K_w21.below
          have hz_w21 := K_w21.size
          clear K_w21
          clear E_w21 F_w21
          go_wp2_with fail
          go_roundg (y.l.length - (j + 1))
          case rel => exact ⟨j + 1, _, rfl, by omega, by rw [HSS.out.1, List.length_append, HI.out]; go_num, by rw [HSS.out.2.1]; exact HG.out.below hw_w21, by rw [HSS.out.2.2]; exact HMD.out.below hw_w21, HO.out.grow hw_w21⟩
          case measure => omega
      · obtain rfl : j = y.l.length := by omega
        obtain ⟨wa, rfl⟩ : ∃ wa, wa = wr := ⟨_, rfl⟩
        obtain ⟨z, hz⟩ : ∃ z, y.stay = z := ⟨_, rfl⟩
        have e0 : ({ y with l := sty y y.l.length ++ y.l.drop y.l.length } : Lb) = z := by rw [sty_all, ← hz]; rfl
        rw [e0] at HMD
        have OKZ : Hid (z.Ok) := Lib.hid (by rw [← hz]; exact stay_ok OKY.out)
        have HZ := Lib.hid hz
        obtain ⟨gs, hgs⟩ : ∃ gs, gon y y.l.length = gs := ⟨_, rfl⟩
        rw [hgs] at HG
        have HGS : Hid ((y.l.filter (fun p => gvn y.to y.now p)).map Pl.id = gs) := Lib.hid (by rw [← hgs]; unfold gon; rw [List.take_length])
        have tq : decide ((i : Int) < (n1 : Int)) = false := by simp; omega
        have tn : ¬ i < n1 := by omega
        clear e0 hz hgs hn2 m2 m3 HGL HL2 HI HN1
        go_wp2_with fail
        go_loopg [8, 9] z.l.length (fun g pv i wr => MB w M z (.slice ga gn gc) gs g pv i wr)
        case atStart => exact ⟨0, _, rfl, Nat.zero_le _, by simp [rk], Ow.nil _ _ _, HG.out, by rw [lf_none]; exact HMD.out, HO.out⟩
        case round =>
          obtain ⟨j, lv, rfl, hj2, hi0, hps, hgo, hmd, ho⟩ := hrel
          clear HG HMD HO m4 hMr hz_wr
          obtain ⟨j', hjj, hj3, e1, e2, e3⟩ := mtc_skip z (z.l.length - j) j (by omega)
          obtain ⟨tk, htk⟩ : ∃ tk, (mtc z j).1 = tk := ⟨_, rfl⟩
          obtain ⟨ps, hps2⟩ : ∃ ps, (mtc z j).2 = ps := ⟨_, rfl⟩
          have htkl : tk.length = z.l.length := by rw [← htk]; exact mt_len z j
          have HTK : Hid ((mtc z j').1 = tk) := Lib.hid (by rw [e1]; exact htk)
          have HPS2 : Hid ((mtc z j').2 = ps) := Lib.hid (by rw [e1]; exact hps2)
          have HPL : Hid (ps.length ≤ 200) := Lib.hid (by rw [← hps2]; exact Nat.le_trans (mt_plen z j) (by have := OKZ.out.len; omega))
          obtain ⟨i, hi⟩ : ∃ i, rk tk j' = i := ⟨_, rfl⟩
          rw [htk] at hmd e2 e3 hi0
          rw [hps2] at hps
          rw [← e2, hi] at hi0
          subst hi0
          obtain ⟨xl, hxl⟩ : ∃ xl, z.lf tk = xl := ⟨_, rfl⟩
          rw [hxl] at hmd
          have OKX : Hid (xl.Ok) := Lib.hid (by rw [← hxl]; exact lf_ok OKZ.out tk)
          have hxll : xl.l = lft z.l tk z.l.length := by rw [← hxl]; rfl
          obtain ⟨N, hN⟩ : ∃ N, xl.l.length = N := ⟨_, rfl⟩
          have hNr : N = rk tk z.l.length := by rw [← hN, hxll, lft_length htkl _ (Nat.le_refl _)]
          have hN200 : N ≤ 200 := by rw [← hN]; exact OKX.out.len
          have hz200 := OKZ.out.len
          have HPS := Lib.hid hps
          have HGO := Lib.hid hgo
          have HMO := Lib.hid hmd
          have HO := Lib.hid ho
          have hzo := ho.size
          obtain ⟨pa0, pc, hpv⟩ := hps.form
          obtain ⟨pn, hpn⟩ : ∃ n, ps.length = n := ⟨_, rfl⟩
          rw [hpn] at hpv
          subst hpv
          obtain ⟨la, lc, hlv⟩ := hmd.row.form
          rw [hN] at hlv
          subst hlv
          have hMo := hmd.lt
          have m4 : wr.cell? ⟨M, 4, none⟩ = some (.slice la N lc) := hmd.cell 4
          have HXL := Lib.hid hxl
          have HNR := Lib.hid hNr
          have HN := Lib.hid hN
          have HI := Lib.hid hi
          have HTL := Lib.hid htkl
          have HXLL := Lib.hid hxll
          clear hps hgo hmd ho hpn hxl hNr hN hi htkl hxll e1 e2 htk hps2 hj2
          rcases e3 with e3 | e3
          · have hiN : i = N := by rw [← HI.out, e3, HNR.out]
            have tq2 : decide ((i : Int) < (N : Int)) = false := by simp; omega
            have tn2 : ¬ i < N := by omega
            have E3 := Lib.hid e3
            clear hiN e3
            go_wp2_with fail
            refine bodyPost_ret (v := .tuple #[.slice pa0 pn pc, .slice ga gn gc]) (by simp [results, Try.results32, go_sem]) rfl ⟨.slice pa0 pn pc, .slice ga gn gc, .slice la N lc, rfl, ?_, ?_, ?_, HO.out⟩
            · have e : mtP x t = ps := by
                unfold mtP
                rw [HYT.out, HZ.out, ← E3.out]
                exact HPS2.out
              rw [e]
              exact HPS.out
            · have e : mtG x t = gs := by
                rw [← HGS.out, ← HYT.out]
                rfl
              rw [e]
              exact HGO.out
            · have e : mtX x t = xl := by
                rw [← HXL.out]
                unfold mtX Lb.lf
                rw [HYT.out, HZ.out, ← E3.out, HTK.out, ← HZ.out]
                rfl
              rw [e]
              exact HMO.out
          · have hjl : j' < z.l.length := by rw [← HTL.out]; exact (List.getElem?_eq_some_iff.1 e3).1
            obtain ⟨p, hp⟩ : ∃ p, z.l[j']? = some p := ⟨z.l[j'], List.getElem?_eq_getElem hjl⟩
            have hpi : xl.l[i]? = some p := by rw [HXLL.out, ← HI.out]; exact lft_at HTL.out hp e3
            have hiN : i < N := by rw [← HN.out]; exact (List.getElem?_eq_some_iff.1 hpi).1
            obtain ⟨_, a1, c1, hv, hf⟩ := HMO.out.rw.form
            rw [HN.out] at hv hf
            obtain ⟨b1, o1, rfl, hb1, hc1⟩ := hf (by omega)
            simp only [Value.slice.injEq] at hv
            obtain ⟨rfl, hsl2, rfl⟩ := hv
            clear hsl2
            have HC1 := Lib.hid hc1
            have HPI := Lib.hid hpi
            have HPJ := Lib.hid hp
            have E3 := Lib.hid e3
            have OKP : Hid (p.Ok xl.now) := Lib.hid (OKX.out.p p (List.mem_of_getElem? hpi))
            have i1 : (0 : Int) ≤ (i : Int) := by omega
            have i2 : (i : Int) < (N : Int) := by omega
            have qi0 : wr.cell? ⟨b1, o1 + i * 3, none⟩ = Option.some (.int .i64 p.id) := hc1 i p hpi 0 _ rfl
            have qi1 : wr.cell? ⟨b1, o1 + i * 3 + 1, none⟩ = Option.some (.int .i64 p.ra) := hc1 i p hpi 1 _ rfl
            have qi2 : wr.cell? ⟨b1, o1 + i * 3 + 2, none⟩ = Option.some (.int .u64 p.si) := hc1 i p hpi 2 _ rfl
            clear hf hc1 hpi hp e3
            obtain ⟨wo, rfl⟩ : ∃ wo, wo = wr := ⟨_, rfl⟩
            go_wp2_with fail
            go_loopw [11, 12, 13] (fun b l t wr => MC wo xl i N p b l t wr) (fun _ _ t _ => N - (intOf t).toNat)
            case atStart => exact ⟨0, 0, Nat.zero_le _, rfl, rfl, rfl, (fun h => by simp [pa] at h), ⟨by go_grown, by go_size, by simp [go_sem]⟩⟩
            case round =>
              obtain ⟨k, l, hk, rfl, rfl, rfl, hl0, hK⟩ := hrel
              have KH_wr := Lib.hid hK
              have hw_wr := hK.below
              have hz_wr := hK.size
              obtain ⟨nb, hnb⟩ : ∃ n, pa xl i (List.replicate N false) k = n := ⟨_, rfl⟩
              have hbd := pa_bd xl i (List.replicate N false) k
              rw [hnb] at hl0 hbd ⊢
              obtain ⟨hbd1, hbd2⟩ := hbd
              have HNB := Lib.hid hnb
              have HL0 := Lib.hid hl0
              have m4k := (hw_wr.cell (p := ⟨M, 4, none⟩) hMo).trans m4
              clear hK hnb hl0
              by_cases hkl : k < N
              · obtain ⟨q, hq⟩ : ∃ q, xl.l[k]? = some q := ⟨xl.l[k]'(by rw [HN.out]; exact hkl), List.getElem?_eq_getElem _⟩
                have hc2 : ∀ i x_1, xl.l[i]? = some x_1 → ∀ j u, (plc x_1)[j]? = some u → wr.cell? ⟨b1, o1 + (i * 3 + j), none⟩ = some u := fun i x_1 h j u hu => (hw_wr.cell (p := ⟨b1, o1 + (i * 3 + j), none⟩) hb1).trans (HC1.out i x_1 h j u hu)
                have OKQ : Hid (q.Ok xl.now) := Lib.hid (OKX.out.p q (List.mem_of_getElem? hq))
                have HCAN := Lib.hid (can_of (tk := List.replicate N false) (b := false) HPI.out hq (by rw [List.getElem?_replicate, if_pos hkl]))
                have HGI := Lib.hid (getD_of (d := noPl) HPI.out)
                have HGK := Lib.hid (getD_of (d := noPl) hq)
                obtain ⟨d, hd⟩ : ∃ d, ap p.ra q.ra = d := ⟨_, rfl⟩
                obtain ⟨dp, hdp⟩ : ∃ d, xl.w p = d := ⟨_, rfl⟩
                obtain ⟨dq, hdq⟩ : ∃ d, xl.w q = d := ⟨_, rfl⟩
                have HD := Lib.hid hd
                have HDP := Lib.hid hdp
                have HDQ := Lib.hid hdq
                have HAPK : Hid (d = ap (xl.l.getD i noPl).ra (xl.l.getD k noPl).ra) := Lib.hid (by rw [HGI.out, HGK.out]; exact hd.symm)
                have NOC : can xl i (List.replicate N false) k = false → Hid (pa xl i (List.replicate N false) (k + 1) = nb) := fun h => Lib.hid (by rw [pa_no h, HNB.out])
                have v1 : (0 : Int) ≤ (k : Int) := by omega
                have v2 : (k : Int) < (N : Int) := by omega
                have mk0 : wr.cell? ⟨b1, o1 + k * 3, none⟩ = Option.some (.int .i64 q.id) := hc2 k q hq 0 _ rfl
                have mk1 : wr.cell? ⟨b1, o1 + k * 3 + 1, none⟩ = Option.some (.int .i64 q.ra) := hc2 k q hq 1 _ rfl
                have mk2 : wr.cell? ⟨b1, o1 + k * 3 + 2, none⟩ = Option.some (.int .u64 q.si) := hc2 k q hq 2 _ rfl
                have dbd : 0 ≤ d ∧ d ≤ 4000 := by rw [← hd]; unfold ap; have := OKP.out.r0; have := OKP.out.r1; have := OKQ.out.r0; have := OKQ.out.r1; omega
                obtain ⟨db0, db1⟩ := dbd
                clear hc2 hq hdp hdq
                by_cases hs : q.ra ≤ p.ra
                · have hd1 : p.ra - q.ra = d := by unfold ap at hd; omega
                  have hd2 : q.ra - p.ra = -d := by unfold ap at hd; omega
                  have t0 : -d ≤ d := by omega
                  clear hd hs
                  by_cases a1 : k = i
                  · have HPA := NOC (by rw [HCAN.out, a1]; simp)
                    have u1 : ((k : Int) != (i : Int)) = false := by simp; omega
                    clear a1 NOC
                    have lA_wr : wo.heap.size < wr.heap.size := by omega
                    have cA0_wr := KH_wr.out.at (b := wo.heap.size) (o := 0) (v := .int .i64 p.id) (by simp)
                    have fA0_wr := KH_wr.out.free (b := wo.heap.size) (o := 0) (v := .int .i64 p.id) (by simp)
                    have cA1_wr := KH_wr.out.at (b := wo.heap.size) (o := 1) (v := .int .i64 p.ra) (by simp)
                    have fA1_wr := KH_wr.out.free (b := wo.heap.size) (o := 1) (v := .int .i64 p.ra) (by simp)
                    have cA2_wr := KH_wr.out.at (b := wo.heap.size) (o := 2) (v := .int .u64 p.si) (by simp)
                    have fA2_wr := KH_wr.out.free (b := wo.heap.size) (o := 2) (v := .int .u64 p.si) (by simp)
                    go_wp2_with fail
                    go_roundw
                    case rel => exact ⟨k + 1, l, by omega, by go_num, by rw [HPA.out], rfl, fun h => by rw [HPA.out] at h ⊢; exact HL0.out h, ⟨by go_grown, by go_size, by simp [go_sem, lA_wr, cA0_wr, fA0_wr, cA1_wr, fA1_wr, cA2_wr, fA2_wr] <;> omega⟩⟩
                    case measure => simp [intOf]; omega
                  · have u1 : ((k : Int) != (i : Int)) = true := by simp; omega
                    by_cases a3 : dp < d
                    · have HPA := NOC (by rw [HCAN.out, HD.out, HDP.out]; simp; omega)
                      have u3 : decide (d ≤ dp) = false := by simp; omega
                      clear a1 NOC
                      have lA_wr : wo.heap.size < wr.heap.size := by omega
                      have cA0_wr := KH_wr.out.at (b := wo.heap.size) (o := 0) (v := .int .i64 p.id) (by simp)
                      have fA0_wr := KH_wr.out.free (b := wo.heap.size) (o := 0) (v := .int .i64 p.id) (by simp)
                      have cA1_wr := KH_wr.out.at (b := wo.heap.size) (o := 1) (v := .int .i64 p.ra) (by simp)
                      have fA1_wr := KH_wr.out.free (b := wo.heap.size) (o := 1) (v := .int .i64 p.ra) (by simp)
                      have cA2_wr := KH_wr.out.at (b := wo.heap.size) (o := 2) (v := .int .u64 p.si) (by simp)
                      have fA2_wr := KH_wr.out.free (b := wo.heap.size) (o := 2) (v := .int .u64 p.si) (by simp)
                      go_wp2_with fail
                      with_reducible refine (mwindow28c M xl _ p dp _ (HMO.out.below (by go_grown)) OKX.out OKP.out HDP.out).mono ?_
                      rintro e w61 ⟨rfl, hb_w61⟩
                      have K_w61 : Kept wo.heap.size wo (wr.heap.size + 1) [(wo.heap.size, 0, .int .i64 p.id), (wo.heap.size, 1, .int .i64 p.ra), (wo.heap.size, 2, .int .u64 p.si), (wr.heap.size, 0, .int .i64 q.id), (wr.heap.size, 1, .int .i64 q.ra), (wr.heap.size, 2, .int .u64 q.si)] w61 := Kept.of hb_w61 (by go_grown) (by go_size) (by omega) (by simp [go_sem, lA_wr, cA0_wr, fA0_wr, cA1_wr, fA1_wr, cA2_wr, fA2_wr] <;> omega)
                      clear hb_w61
                      have KH_w61 := Lib.hid K_w61
                      have hw_w61 := K_w61.below
                      have hz_w61 := K_w61.size
                      have lA_w61 : wo.heap.size < w61.heap.size := by omega
                      have lB_w61 : wr.heap.size < w61.heap.size := by omega
                      clear lA_wr cA0_wr fA0_wr cA1_wr fA1_wr cA2_wr fA2_wr
                      clear K_w61
                      have cA0_w61 := KH_w61.out.at (b := wo.heap.size) (o := 0) (v := .int .i64 p.id) (by simp)
                      have fA0_w61 := KH_w61.out.free (b := wo.heap.size) (o := 0) (v := .int .i64 p.id) (by simp)
                      have cA1_w61 := KH_w61.out.at (b := wo.heap.size) (o := 1) (v := .int .i64 p.ra) (by simp)
                      have fA1_w61 := KH_w61.out.free (b := wo.heap.size) (o := 1) (v := .int .i64 p.ra) (by simp)
                      have cA2_w61 := KH_w61.out.at (b := wo.heap.size) (o := 2) (v := .int .u64 p.si) (by simp)
                      have fA2_w61 := KH_w61.out.free (b := wo.heap.size) (o := 2) (v := .int .u64 p.si) (by simp)
                      have cB0_w61 := KH_w61.out.at (b := wr.heap.size) (o := 0) (v := .int .i64 q.id) (by simp)
                      have fB0_w61 := KH_w61.out.free (b := wr.heap.size) (o := 0) (v := .int .i64 q.id) (by simp)
                      have cB1_w61 := KH_w61.out.at (b := wr.heap.size) (o := 1) (v := .int .i64 q.ra) (by simp)
                      have fB1_w61 := KH_w61.out.free (b := wr.heap.size) (o := 1) (v := .int .i64 q.ra) (by simp)
                      have cB2_w61 := KH_w61.out.at (b := wr.heap.size) (o := 2) (v := .int .u64 q.si) (by simp)
                      have fB2_w61 := KH_w61.out.free (b := wr.heap.size) (o := 2) (v := .int .u64 q.si) (by simp)
                      go_wp2_with fail
                      go_roundw
                      case rel => exact ⟨k + 1, l, by omega, by go_num, by rw [HPA.out], rfl, fun h => by rw [HPA.out] at h ⊢; exact HL0.out h, KLESS (L := [(wo.heap.size, 0, .int .i64 p.id), (wo.heap.size, 1, .int .i64 p.ra), (wo.heap.size, 2, .int .u64 p.si)]) KH_w61.out (by omega) (by simp)⟩
                      case measure => simp [intOf]; omega
                    · have u3 : decide (d ≤ dp) = true := by simp; omega
                      by_cases a4 : dq < d
                      · have HPA := NOC (by rw [HCAN.out, HD.out, HDP.out, HDQ.out]; simp; omega)
                        have u4 : decide (d ≤ dq) = false := by simp; omega
                        clear a1 NOC
                        have lA_wr : wo.heap.size < wr.heap.size := by omega
                        have cA0_wr := KH_wr.out.at (b := wo.heap.size) (o := 0) (v := .int .i64 p.id) (by simp)
                        have fA0_wr := KH_wr.out.free (b := wo.heap.size) (o := 0) (v := .int .i64 p.id) (by simp)
                        have cA1_wr := KH_wr.out.at (b := wo.heap.size) (o := 1) (v := .int .i64 p.ra) (by simp)
                        have fA1_wr := KH_wr.out.free (b := wo.heap.size) (o := 1) (v := .int .i64 p.ra) (by simp)
                        have cA2_wr := KH_wr.out.at (b := wo.heap.size) (o := 2) (v := .int .u64 p.si) (by simp)
                        have fA2_wr := KH_wr.out.free (b := wo.heap.size) (o := 2) (v := .int .u64 p.si) (by simp)
                        go_wp2_with fail
                        with_reducible refine (mwindow28c M xl _ p dp _ (HMO.out.below (by go_grown)) OKX.out OKP.out HDP.out).mono ?_
                        rintro e w61 ⟨rfl, hb_w61⟩
                        have K_w61 : Kept wo.heap.size wo (wr.heap.size + 1) [(wo.heap.size, 0, .int .i64 p.id), (wo.heap.size, 1, .int .i64 p.ra), (wo.heap.size, 2, .int .u64 p.si), (wr.heap.size, 0, .int .i64 q.id), (wr.heap.size, 1, .int .i64 q.ra), (wr.heap.size, 2, .int .u64 q.si)] w61 := Kept.of hb_w61 (by go_grown) (by go_size) (by omega) (by simp [go_sem, lA_wr, cA0_wr, fA0_wr, cA1_wr, fA1_wr, cA2_wr, fA2_wr] <;> omega)
                        clear hb_w61
                        have KH_w61 := Lib.hid K_w61
                        have hw_w61 := K_w61.below
                        have hz_w61 := K_w61.size
                        have lA_w61 : wo.heap.size < w61.heap.size := by omega
                        have lB_w61 : wr.heap.size < w61.heap.size := by omega
                        clear lA_wr cA0_wr fA0_wr cA1_wr fA1_wr cA2_wr fA2_wr
                        clear K_w61
                        have cA0_w61 := KH_w61.out.at (b := wo.heap.size) (o := 0) (v := .int .i64 p.id) (by simp)
                        have fA0_w61 := KH_w61.out.free (b := wo.heap.size) (o := 0) (v := .int .i64 p.id) (by simp)
                        have cA1_w61 := KH_w61.out.at (b := wo.heap.size) (o := 1) (v := .int .i64 p.ra) (by simp)
                        have fA1_w61 := KH_w61.out.free (b := wo.heap.size) (o := 1) (v := .int .i64 p.ra) (by simp)
                        have cA2_w61 := KH_w61.out.at (b := wo.heap.size) (o := 2) (v := .int .u64 p.si) (by simp)
                        have fA2_w61 := KH_w61.out.free (b := wo.heap.size) (o := 2) (v := .int .u64 p.si) (by simp)
                        have cB0_w61 := KH_w61.out.at (b := wr.heap.size) (o := 0) (v := .int .i64 q.id) (by simp)
                        have fB0_w61 := KH_w61.out.free (b := wr.heap.size) (o := 0) (v := .int .i64 q.id) (by simp)
                        have cB1_w61 := KH_w61.out.at (b := wr.heap.size) (o := 1) (v := .int .i64 q.ra) (by simp)
                        have fB1_w61 := KH_w61.out.free (b := wr.heap.size) (o := 1) (v := .int .i64 q.ra) (by simp)
                        have cB2_w61 := KH_w61.out.at (b := wr.heap.size) (o := 2) (v := .int .u64 q.si) (by simp)
                        have fB2_w61 := KH_w61.out.free (b := wr.heap.size) (o := 2) (v := .int .u64 q.si) (by simp)
                        go_wp2_with fail
                        with_reducible refine (mwindow28c M xl _ q dq _ (HMO.out.below (by go_grown)) OKX.out OKQ.out HDQ.out).mono ?_
                        rintro e w62 ⟨rfl, hb_w62⟩
                        have K_w62 := (KH_w61.out.step (by omega) (by go_grown)).step (by omega) hb_w62
                        clear hb_w62
                        have KH_w62 := Lib.hid K_w62
                        have hw_w62 := K_w62.below
                        have hz_w62 := K_w62.size
                        have lA_w62 : wo.heap.size < w62.heap.size := by omega
                        have lB_w62 : wr.heap.size < w62.heap.size := by omega
                        clear lA_w61 lB_w61 cA0_w61 fA0_w61 cA1_w61 fA1_w61 cA2_w61 fA2_w61 cB0_w61 fB0_w61 cB1_w61 fB1_w61 cB2_w61 fB2_w61
                        clear K_w62
                        go_wp2_with fail
                        go_roundw
                        case rel => exact ⟨k + 1, l, by omega, by go_num, by rw [HPA.out], rfl, fun h => by rw [HPA.out] at h ⊢; exact HL0.out h, KLESS (L := [(wo.heap.size, 0, .int .i64 p.id), (wo.heap.size, 1, .int .i64 p.ra), (wo.heap.size, 2, .int .u64 p.si)]) KH_w62.out (by omega) (by simp)⟩
                        case measure => simp [intOf]; omega
                      · have u4 : decide (d ≤ dq) = true := by simp; omega
                        have HY : Hid (can xl i (List.replicate N false) k = true) := Lib.hid (by rw [HCAN.out, HD.out, HDP.out, HDQ.out]; simp; omega)
                        clear a1 NOC
                        by_cases a5 : nb < 0
                        · have HPA : Hid (pa xl i (List.replicate N false) (k + 1) = k) := Lib.hid (pa_yes HY.out (.inl (by rw [HNB.out]; exact a5)))
                          have u5 : decide (nb < 0) = true := by simpa using a5
                          have lA_wr : wo.heap.size < wr.heap.size := by omega
                          have cA0_wr := KH_wr.out.at (b := wo.heap.size) (o := 0) (v := .int .i64 p.id) (by simp)
                          have fA0_wr := KH_wr.out.free (b := wo.heap.size) (o := 0) (v := .int .i64 p.id) (by simp)
                          have cA1_wr := KH_wr.out.at (b := wo.heap.size) (o := 1) (v := .int .i64 p.ra) (by simp)
                          have fA1_wr := KH_wr.out.free (b := wo.heap.size) (o := 1) (v := .int .i64 p.ra) (by simp)
                          have cA2_wr := KH_wr.out.at (b := wo.heap.size) (o := 2) (v := .int .u64 p.si) (by simp)
                          have fA2_wr := KH_wr.out.free (b := wo.heap.size) (o := 2) (v := .int .u64 p.si) (by simp)
                          go_wp2_with fail
                          with_reducible refine (mwindow28c M xl _ p dp _ (HMO.out.below (by go_grown)) OKX.out OKP.out HDP.out).mono ?_
                          rintro e w61 ⟨rfl, hb_w61⟩
                          have K_w61 : Kept wo.heap.size wo (wr.heap.size + 1) [(wo.heap.size, 0, .int .i64 p.id), (wo.heap.size, 1, .int .i64 p.ra), (wo.heap.size, 2, .int .u64 p.si), (wr.heap.size, 0, .int .i64 q.id), (wr.heap.size, 1, .int .i64 q.ra), (wr.heap.size, 2, .int .u64 q.si)] w61 := Kept.of hb_w61 (by go_grown) (by go_size) (by omega) (by simp [go_sem, lA_wr, cA0_wr, fA0_wr, cA1_wr, fA1_wr, cA2_wr, fA2_wr] <;> omega)
                          clear hb_w61
                          have KH_w61 := Lib.hid K_w61
                          have hw_w61 := K_w61.below
                          have hz_w61 := K_w61.size
                          have lA_w61 : wo.heap.size < w61.heap.size := by omega
                          have lB_w61 : wr.heap.size < w61.heap.size := by omega
                          clear lA_wr cA0_wr fA0_wr cA1_wr fA1_wr cA2_wr fA2_wr
                          clear K_w61
                          have cA0_w61 := KH_w61.out.at (b := wo.heap.size) (o := 0) (v := .int .i64 p.id) (by simp)
                          have fA0_w61 := KH_w61.out.free (b := wo.heap.size) (o := 0) (v := .int .i64 p.id) (by simp)
                          have cA1_w61 := KH_w61.out.at (b := wo.heap.size) (o := 1) (v := .int .i64 p.ra) (by simp)
                          have fA1_w61 := KH_w61.out.free (b := wo.heap.size) (o := 1) (v := .int .i64 p.ra) (by simp)
                          have cA2_w61 := KH_w61.out.at (b := wo.heap.size) (o := 2) (v := .int .u64 p.si) (by simp)
                          have fA2_w61 := KH_w61.out.free (b := wo.heap.size) (o := 2) (v := .int .u64 p.si) (by simp)
                          have cB0_w61 := KH_w61.out.at (b := wr.heap.size) (o := 0) (v := .int .i64 q.id) (by simp)
                          have fB0_w61 := KH_w61.out.free (b := wr.heap.size) (o := 0) (v := .int .i64 q.id) (by simp)
                          have cB1_w61 := KH_w61.out.at (b := wr.heap.size) (o := 1) (v := .int .i64 q.ra) (by simp)
                          have fB1_w61 := KH_w61.out.free (b := wr.heap.size) (o := 1) (v := .int .i64 q.ra) (by simp)
                          have cB2_w61 := KH_w61.out.at (b := wr.heap.size) (o := 2) (v := .int .u64 q.si) (by simp)
                          have fB2_w61 := KH_w61.out.free (b := wr.heap.size) (o := 2) (v := .int .u64 q.si) (by simp)
                          go_wp2_with fail
                          with_reducible refine (mwindow28c M xl _ q dq _ (HMO.out.below (by go_grown)) OKX.out OKQ.out HDQ.out).mono ?_
                          rintro e w62 ⟨rfl, hb_w62⟩
                          have K_w62 := (KH_w61.out.step (by omega) (by go_grown)).step (by omega) hb_w62
                          clear hb_w62
                          have KH_w62 := Lib.hid K_w62
                          have hw_w62 := K_w62.below
                          have hz_w62 := K_w62.size
                          have lA_w62 : wo.heap.size < w62.heap.size := by omega
                          have lB_w62 : wr.heap.size < w62.heap.size := by omega
                          clear lA_w61 lB_w61 cA0_w61 fA0_w61 cA1_w61 fA1_w61 cA2_w61 fA2_w61 cB0_w61 fB0_w61 cB1_w61 fB1_w61 cB2_w61 fB2_w61
                          clear K_w62
                          go_wp2_with fail
                          go_roundw
                          case rel => exact ⟨k + 1, d, by omega, by go_num, by rw [HPA.out], rfl, fun _ => by rw [HPA.out, Int.toNat_natCast]; exact HAPK.out, KLESS (L := [(wo.heap.size, 0, .int .i64 p.id), (wo.heap.size, 1, .int .i64 p.ra), (wo.heap.size, 2, .int .u64 p.si)]) KH_w62.out (by omega) (by simp)⟩
                          case measure => simp [intOf]; omega
                        · have u5 : decide (nb < 0) = false := by simpa using a5
                          have hl5 := HL0.out (by omega)
                          rw [HGI.out] at hl5
                          by_cases a6 : d < l
                          · have HPA : Hid (pa xl i (List.replicate N false) (k + 1) = k) := Lib.hid (pa_yes HY.out (.inr (by rw [HNB.out, HGI.out, HGK.out, ← hl5, HD.out]; exact a6)))
                            have u6 : decide (d < l) = true := by simpa using a6
                            clear hl5
                            have lA_wr : wo.heap.size < wr.heap.size := by omega
                            have cA0_wr := KH_wr.out.at (b := wo.heap.size) (o := 0) (v := .int .i64 p.id) (by simp)
                            have fA0_wr := KH_wr.out.free (b := wo.heap.size) (o := 0) (v := .int .i64 p.id) (by simp)
                            have cA1_wr := KH_wr.out.at (b := wo.heap.size) (o := 1) (v := .int .i64 p.ra) (by simp)
                            have fA1_wr := KH_wr.out.free (b := wo.heap.size) (o := 1) (v := .int .i64 p.ra) (by simp)
                            have cA2_wr := KH_wr.out.at (b := wo.heap.size) (o := 2) (v := .int .u64 p.si) (by simp)
                            have fA2_wr := KH_wr.out.free (b := wo.heap.size) (o := 2) (v := .int .u64 p.si) (by simp)
                            go_wp2_with fail
                            with_reducible refine (mwindow28c M xl _ p dp _ (HMO.out.below (by go_grown)) OKX.out OKP.out HDP.out).mono ?_
                            rintro e w61 ⟨rfl, hb_w61⟩
                            have K_w61 : Kept wo.heap.size wo (wr.heap.size + 1) [(wo.heap.size, 0, .int .i64 p.id), (wo.heap.size, 1, .int .i64 p.ra), (wo.heap.size, 2, .int .u64 p.si), (wr.heap.size, 0, .int .i64 q.id), (wr.heap.size, 1, .int .i64 q.ra), (wr.heap.size, 2, .int .u64 q.si)] w61 := Kept.of hb_w61 (by go_grown) (by go_size) (by omega) (by simp [go_sem, lA_wr, cA0_wr, fA0_wr, cA1_wr, fA1_wr, cA2_wr, fA2_wr] <;> omega)
                            clear hb_w61
                            have KH_w61 := Lib.hid K_w61
                            have hw_w61 := K_w61.below
                            have hz_w61 := K_w61.size
                            have lA_w61 : wo.heap.size < w61.heap.size := by omega
                            have lB_w61 : wr.heap.size < w61.heap.size := by omega
                            clear lA_wr cA0_wr fA0_wr cA1_wr fA1_wr cA2_wr fA2_wr
                            clear K_w61
                            have cA0_w61 := KH_w61.out.at (b := wo.heap.size) (o := 0) (v := .int .i64 p.id) (by simp)
                            have fA0_w61 := KH_w61.out.free (b := wo.heap.size) (o := 0) (v := .int .i64 p.id) (by simp)
                            have cA1_w61 := KH_w61.out.at (b := wo.heap.size) (o := 1) (v := .int .i64 p.ra) (by simp)
                            have fA1_w61 := KH_w61.out.free (b := wo.heap.size) (o := 1) (v := .int .i64 p.ra) (by simp)
                            have cA2_w61 := KH_w61.out.at (b := wo.heap.size) (o := 2) (v := .int .u64 p.si) (by simp)
                            have fA2_w61 := KH_w61.out.free (b := wo.heap.size) (o := 2) (v := .int .u64 p.si) (by simp)
                            have cB0_w61 := KH_w61.out.at (b := wr.heap.size) (o := 0) (v := .int .i64 q.id) (by simp)
                            have fB0_w61 := KH_w61.out.free (b := wr.heap.size) (o := 0) (v := .int .i64 q.id) (by simp)
                            have cB1_w61 := KH_w61.out.at (b := wr.heap.size) (o := 1) (v := .int .i64 q.ra) (by simp)
                            have fB1_w61 := KH_w61.out.free (b := wr.heap.size) (o := 1) (v := .int .i64 q.ra) (by simp)
                            have cB2_w61 := KH_w61.out.at (b := wr.heap.size) (o := 2) (v := .int .u64 q.si) (by simp)
                            have fB2_w61 := KH_w61.out.free (b := wr.heap.size) (o := 2) (v := .int .u64 q.si) (by simp)
                            go_wp2_with fail
                            with_reducible refine (mwindow28c M xl _ q dq _ (HMO.out.below (by go_grown)) OKX.out OKQ.out HDQ.out).mono ?_
                            rintro e w62 ⟨rfl, hb_w62⟩
                            have K_w62 := (KH_w61.out.step (by omega) (by go_grown)).step (by omega) hb_w62
                            clear hb_w62
                            have KH_w62 := Lib.hid K_w62
                            have hw_w62 := K_w62.below
                            have hz_w62 := K_w62.size
                            have lA_w62 : wo.heap.size < w62.heap.size := by omega
                            have lB_w62 : wr.heap.size < w62.heap.size := by omega
                            clear lA_w61 lB_w61 cA0_w61 fA0_w61 cA1_w61 fA1_w61 cA2_w61 fA2_w61 cB0_w61 fB0_w61 cB1_w61 fB1_w61 cB2_w61 fB2_w61
                            clear K_w62
                            go_wp2_with fail
                            go_roundw
                            case rel => exact ⟨k + 1, d, by omega, by go_num, by rw [HPA.out], rfl, fun _ => by rw [HPA.out, Int.toNat_natCast]; exact HAPK.out, KLESS (L := [(wo.heap.size, 0, .int .i64 p.id), (wo.heap.size, 1, .int .i64 p.ra), (wo.heap.size, 2, .int .u64 p.si)]) KH_w62.out (by omega) (by simp)⟩
                            case measure => simp [intOf]; omega
                          · have HPA : Hid (pa xl i (List.replicate N false) (k + 1) = nb) := Lib.hid (by rw [pa_less (by rw [HNB.out, HGI.out, HGK.out, ← hl5, HD.out]; omega), HNB.out])
                            have u6 : decide (d < l) = false := by simpa using a6
                            clear hl5
                            have lA_wr : wo.heap.size < wr.heap.size := by omega
                            have cA0_wr := KH_wr.out.at (b := wo.heap.size) (o := 0) (v := .int .i64 p.id) (by simp)
                            have fA0_wr := KH_wr.out.free (b := wo.heap.size) (o := 0) (v := .int .i64 p.id) (by simp)
                            have cA1_wr := KH_wr.out.at (b := wo.heap.size) (o := 1) (v := .int .i64 p.ra) (by simp)
                            have fA1_wr := KH_wr.out.free (b := wo.heap.size) (o := 1) (v := .int .i64 p.ra) (by simp)
                            have cA2_wr := KH_wr.out.at (b := wo.heap.size) (o := 2) (v := .int .u64 p.si) (by simp)
                            have fA2_wr := KH_wr.out.free (b := wo.heap.size) (o := 2) (v := .int .u64 p.si) (by simp)
                            go_wp2_with fail
                            with_reducible refine (mwindow28c M xl _ p dp _ (HMO.out.below (by go_grown)) OKX.out OKP.out HDP.out).mono ?_
                            rintro e w61 ⟨rfl, hb_w61⟩
                            have K_w61 : Kept wo.heap.size wo (wr.heap.size + 1) [(wo.heap.size, 0, .int .i64 p.id), (wo.heap.size, 1, .int .i64 p.ra), (wo.heap.size, 2, .int .u64 p.si), (wr.heap.size, 0, .int .i64 q.id), (wr.heap.size, 1, .int .i64 q.ra), (wr.heap.size, 2, .int .u64 q.si)] w61 := Kept.of hb_w61 (by go_grown) (by go_size) (by omega) (by simp [go_sem, lA_wr, cA0_wr, fA0_wr, cA1_wr, fA1_wr, cA2_wr, fA2_wr] <;> omega)
                            clear hb_w61
                            have KH_w61 := Lib.hid K_w61
                            have hw_w61 := K_w61.below
                            have hz_w61 := K_w61.size
                            have lA_w61 : wo.heap.size < w61.heap.size := by omega
                            have lB_w61 : wr.heap.size < w61.heap.size := by omega
                            clear lA_wr cA0_wr fA0_wr cA1_wr fA1_wr cA2_wr fA2_wr
                            clear K_w61
                            have cA0_w61 := KH_w61.out.at (b := wo.heap.size) (o := 0) (v := .int .i64 p.id) (by simp)
                            have fA0_w61 := KH_w61.out.free (b := wo.heap.size) (o := 0) (v := .int .i64 p.id) (by simp)
                            have cA1_w61 := KH_w61.out.at (b := wo.heap.size) (o := 1) (v := .int .i64 p.ra) (by simp)
                            have fA1_w61 := KH_w61.out.free (b := wo.heap.size) (o := 1) (v := .int .i64 p.ra) (by simp)
                            have cA2_w61 := KH_w61.out.at (b := wo.heap.size) (o := 2) (v := .int .u64 p.si) (by simp)
                            have fA2_w61 := KH_w61.out.free (b := wo.heap.size) (o := 2) (v := .int .u64 p.si) (by simp)
                            have cB0_w61 := KH_w61.out.at (b := wr.heap.size) (o := 0) (v := .int .i64 q.id) (by simp)
                            have fB0_w61 := KH_w61.out.free (b := wr.heap.size) (o := 0) (v := .int .i64 q.id) (by simp)
                            have cB1_w61 := KH_w61.out.at (b := wr.heap.size) (o := 1) (v := .int .i64 q.ra) (by simp)
                            have fB1_w61 := KH_w61.out.free (b := wr.heap.size) (o := 1) (v := .int .i64 q.ra) (by simp)
                            have cB2_w61 := KH_w61.out.at (b := wr.heap.size) (o := 2) (v := .int .u64 q.si) (by simp)
                            have fB2_w61 := KH_w61.out.free (b := wr.heap.size) (o := 2) (v := .int .u64 q.si) (by simp)
                            go_wp2_with fail
                            with_reducible refine (mwindow28c M xl _ q dq _ (HMO.out.below (by go_grown)) OKX.out OKQ.out HDQ.out).mono ?_
                            rintro e w62 ⟨rfl, hb_w62⟩
                            have K_w62 := (KH_w61.out.step (by omega) (by go_grown)).step (by omega) hb_w62
                            clear hb_w62
                            have KH_w62 := Lib.hid K_w62
                            have hw_w62 := K_w62.below
                            have hz_w62 := K_w62.size
                            have lA_w62 : wo.heap.size < w62.heap.size := by omega
                            have lB_w62 : wr.heap.size < w62.heap.size := by omega
                            clear lA_w61 lB_w61 cA0_w61 fA0_w61 cA1_w61 fA1_w61 cA2_w61 fA2_w61 cB0_w61 fB0_w61 cB1_w61 fB1_w61 cB2_w61 fB2_w61
                            clear K_w62
                            go_wp2_with fail
                            go_roundw
                            case rel => exact ⟨k + 1, l, by omega, by go_num, by rw [HPA.out], rfl, fun h => by rw [HPA.out] at h ⊢; exact HL0.out h, KLESS (L := [(wo.heap.size, 0, .int .i64 p.id), (wo.heap.size, 1, .int .i64 p.ra), (wo.heap.size, 2, .int .u64 p.si)]) KH_w62.out (by omega) (by simp)⟩
                            case measure => simp [intOf]; omega
                · have hd1 : p.ra - q.ra = -d := by unfold ap at hd; omega
                  have hd2 : q.ra - p.ra = d := by unfold ap at hd; omega
                  have t0 : ¬ (d ≤ -d) := by omega
                  have t00 : -d < d := by omega
                  clear hd hs
                  by_cases a1 : k = i
                  · have HPA := NOC (by rw [HCAN.out, a1]; simp)
                    have u1 : ((k : Int) != (i : Int)) = false := by simp; omega
                    clear a1 NOC
                    have lA_wr : wo.heap.size < wr.heap.size := by omega
                    have cA0_wr := KH_wr.out.at (b := wo.heap.size) (o := 0) (v := .int .i64 p.id) (by simp)
                    have fA0_wr := KH_wr.out.free (b := wo.heap.size) (o := 0) (v := .int .i64 p.id) (by simp)
                    have cA1_wr := KH_wr.out.at (b := wo.heap.size) (o := 1) (v := .int .i64 p.ra) (by simp)
                    have fA1_wr := KH_wr.out.free (b := wo.heap.size) (o := 1) (v := .int .i64 p.ra) (by simp)
                    have cA2_wr := KH_wr.out.at (b := wo.heap.size) (o := 2) (v := .int .u64 p.si) (by simp)
                    have fA2_wr := KH_wr.out.free (b := wo.heap.size) (o := 2) (v := .int .u64 p.si) (by simp)
                    go_wp2_with fail
                    go_roundw
                    case rel => exact ⟨k + 1, l, by omega, by go_num, by rw [HPA.out], rfl, fun h => by rw [HPA.out] at h ⊢; exact HL0.out h, ⟨by go_grown, by go_size, by simp [go_sem, lA_wr, cA0_wr, fA0_wr, cA1_wr, fA1_wr, cA2_wr, fA2_wr] <;> omega⟩⟩
                    case measure => simp [intOf]; omega
                  · have u1 : ((k : Int) != (i : Int)) = true := by simp; omega
                    by_cases a3 : dp < d
                    · have HPA := NOC (by rw [HCAN.out, HD.out, HDP.out]; simp; omega)
                      have u3 : decide (d ≤ dp) = false := by simp; omega
                      clear a1 NOC
                      have lA_wr : wo.heap.size < wr.heap.size := by omega
                      have cA0_wr := KH_wr.out.at (b := wo.heap.size) (o := 0) (v := .int .i64 p.id) (by simp)
                      have fA0_wr := KH_wr.out.free (b := wo.heap.size) (o := 0) (v := .int .i64 p.id) (by simp)
                      have cA1_wr := KH_wr.out.at (b := wo.heap.size) (o := 1) (v := .int .i64 p.ra) (by simp)
                      have fA1_wr := KH_wr.out.free (b := wo.heap.size) (o := 1) (v := .int .i64 p.ra) (by simp)
                      have cA2_wr := KH_wr.out.at (b := wo.heap.size) (o := 2) (v := .int .u64 p.si) (by simp)
                      have fA2_wr := KH_wr.out.free (b := wo.heap.size) (o := 2) (v := .int .u64 p.si) (by simp)
                      go_wp2_with fail
                      with_reducible refine (mwindow28c M xl _ p dp _ (HMO.out.below (by go_grown)) OKX.out OKP.out HDP.out).mono ?_
                      rintro e w61 ⟨rfl, hb_w61⟩
                      have K_w61 : Kept wo.heap.size wo (wr.heap.size + 1) [(wo.heap.size, 0, .int .i64 p.id), (wo.heap.size, 1, .int .i64 p.ra), (wo.heap.size, 2, .int .u64 p.si), (wr.heap.size, 0, .int .i64 q.id), (wr.heap.size, 1, .int .i64 q.ra), (wr.heap.size, 2, .int .u64 q.si)] w61 := Kept.of hb_w61 (by go_grown) (by go_size) (by omega) (by simp [go_sem, lA_wr, cA0_wr, fA0_wr, cA1_wr, fA1_wr, cA2_wr, fA2_wr] <;> omega)
                      clear hb_w61
                      have KH_w61 := Lib.hid K_w61
                      have hw_w61 := K_w61.below
                      have hz_w61 := K_w61.size
                      have lA_w61 : wo.heap.size < w61.heap.size := by omega
                      have lB_w61 : wr.heap.size < w61.heap.size := by omega
                      clear lA_wr cA0_wr fA0_wr cA1_wr fA1_wr cA2_wr fA2_wr
                      clear K_w61
                      have cA0_w61 := KH_w61.out.at (b := wo.heap.size) (o := 0) (v := .int .i64 p.id) (by simp)
                      have fA0_w61 := KH_w61.out.free (b := wo.heap.size) (o := 0) (v := .int .i64 p.id) (by simp)
                      have cA1_w61 := KH_w61.out.at (b := wo.heap.size) (o := 1) (v := .int .i64 p.ra) (by simp)
                      have fA1_w61 := KH_w61.out.free (b := wo.heap.size) (o := 1) (v := .int .i64 p.ra) (by simp)
                      have cA2_w61 := KH_w61.out.at (b := wo.heap.size) (o := 2) (v := .int .u64 p.si) (by simp)
                      have fA2_w61 := KH_w61.out.free (b := wo.heap.size) (o := 2) (v := .int .u64 p.si) (by simp)
                      have cB0_w61 := KH_w61.out.at (b := wr.heap.size) (o := 0) (v := .int .i64 q.id) (by simp)
                      have fB0_w61 := KH_w61.out.free (b := wr.heap.size) (o := 0) (v := .int .i64 q.id) (by simp)
                      have cB1_w61 := KH_w61.out.at (b := wr.heap.size) (o := 1) (v := .int .i64 q.ra) (by simp)
                      have fB1_w61 := KH_w61.out.free (b := wr.heap.size) (o := 1) (v := .int .i64 q.ra) (by simp)
                      have cB2_w61 := KH_w61.out.at (b := wr.heap.size) (o := 2) (v := .int .u64 q.si) (by simp)
                      have fB2_w61 := KH_w61.out.free (b := wr.heap.size) (o := 2) (v := .int .u64 q.si) (by simp)
                      go_wp2_with fail
                      go_roundw
                      case rel => exact ⟨k + 1, l, by omega, by go_num, by rw [HPA.out], rfl, fun h => by rw [HPA.out] at h ⊢; exact HL0.out h, KLESS (L := [(wo.heap.size, 0, .int .i64 p.id), (wo.heap.size, 1, .int .i64 p.ra), (wo.heap.size, 2, .int .u64 p.si)]) KH_w61.out (by omega) (by simp)⟩
                      case measure => simp [intOf]; omega
                    · have u3 : decide (d ≤ dp) = true := by simp; omega
                      by_cases a4 : dq < d
                      · have HPA := NOC (by rw [HCAN.out, HD.out, HDP.out, HDQ.out]; simp; omega)
                        have u4 : decide (d ≤ dq) = false := by simp; omega
                        clear a1 NOC
                        have lA_wr : wo.heap.size < wr.heap.size := by omega
                        have cA0_wr := KH_wr.out.at (b := wo.heap.size) (o := 0) (v := .int .i64 p.id) (by simp)
                        have fA0_wr := KH_wr.out.free (b := wo.heap.size) (o := 0) (v := .int .i64 p.id) (by simp)
                        have cA1_wr := KH_wr.out.at (b := wo.heap.size) (o := 1) (v := .int .i64 p.ra) (by simp)
                        have fA1_wr := KH_wr.out.free (b := wo.heap.size) (o := 1) (v := .int .i64 p.ra) (by simp)
                        have cA2_wr := KH_wr.out.at (b := wo.heap.size) (o := 2) (v := .int .u64 p.si) (by simp)
                        have fA2_wr := KH_wr.out.free (b := wo.heap.size) (o := 2) (v := .int .u64 p.si) (by simp)
                        go_wp2_with fail
                        with_reducible refine (mwindow28c M xl _ p dp _ (HMO.out.below (by go_grown)) OKX.out OKP.out HDP.out).mono ?_
                        rintro e w61 ⟨rfl, hb_w61⟩
                        have K_w61 : Kept wo.heap.size wo (wr.heap.size + 1) [(wo.heap.size, 0, .int .i64 p.id), (wo.heap.size, 1, .int .i64 p.ra), (wo.heap.size, 2, .int .u64 p.si), (wr.heap.size, 0, .int .i64 q.id), (wr.heap.size, 1, .int .i64 q.ra), (wr.heap.size, 2, .int .u64 q.si)] w61 := Kept.of hb_w61 (by go_grown) (by go_size) (by omega) (by simp [go_sem, lA_wr, cA0_wr, fA0_wr, cA1_wr, fA1_wr, cA2_wr, fA2_wr] <;> omega)
                        clear hb_w61
                        have KH_w61 := Lib.hid K_w61
                        have hw_w61 := K_w61.below
                        have hz_w61 := K_w61.size
                        have lA_w61 : wo.heap.size < w61.heap.size := by omega
                        have lB_w61 : wr.heap.size < w61.heap.size := by omega
                        clear lA_wr cA0_wr fA0_wr cA1_wr fA1_wr cA2_wr fA2_wr
                        clear K_w61
                        have cA0_w61 := KH_w61.out.at (b := wo.heap.size) (o := 0) (v := .int .i64 p.id) (by simp)
                        have fA0_w61 := KH_w61.out.free (b := wo.heap.size) (o := 0) (v := .int .i64 p.id) (by simp)
                        have cA1_w61 := KH_w61.out.at (b := wo.heap.size) (o := 1) (v := .int .i64 p.ra) (by simp)
                        have fA1_w61 := KH_w61.out.free (b := wo.heap.size) (o := 1) (v := .int .i64 p.ra) (by simp)
                        have cA2_w61 := KH_w61.out.at (b := wo.heap.size) (o := 2) (v := .int .u64 p.si) (by simp)
                        have fA2_w61 := KH_w61.out.free (b := wo.heap.size) (o := 2) (v := .int .u64 p.si) (by simp)
                        have cB0_w61 := KH_w61.out.at (b := wr.heap.size) (o := 0) (v := .int .i64 q.id) (by simp)
                        have fB0_w61 := KH_w61.out.free (b := wr.heap.size) (o := 0) (v := .int .i64 q.id) (by simp)
                        have cB1_w61 := KH_w61.out.at (b := wr.heap.size) (o := 1) (v := .int .i64 q.ra) (by simp)
                        have fB1_w61 := KH_w61.out.free (b := wr.heap.size) (o := 1) (v := .int .i64 q.ra) (by simp)
                        have cB2_w61 := KH_w61.out.at (b := wr.heap.size) (o := 2) (v := .int .u64 q.si) (by simp)
                        have fB2_w61 := KH_w61.out.free (b := wr.heap.size) (o := 2) (v := .int .u64 q.si) (by simp)
                        go_wp2_with fail
                        with_reducible refine (mwindow28c M xl _ q dq _ (HMO.out.below (by go_grown)) OKX.out OKQ.out HDQ.out).mono ?_
                        rintro e w62 ⟨rfl, hb_w62⟩
                        have K_w62 := (KH_w61.out.step (by omega) (by go_grown)).step (by omega) hb_w62
                        clear hb_w62
                        have KH_w62 := Lib.hid K_w62
                        have hw_w62 := K_w62.below
                        have hz_w62 := K_w62.size
                        have lA_w62 : wo.heap.size < w62.heap.size := by omega
                        have lB_w62 : wr.heap.size < w62.heap.size := by omega
                        clear lA_w61 lB_w61 cA0_w61 fA0_w61 cA1_w61 fA1_w61 cA2_w61 fA2_w61 cB0_w61 fB0_w61 cB1_w61 fB1_w61 cB2_w61 fB2_w61
                        clear K_w62
                        go_wp2_with fail
                        go_roundw
                        case rel => exact ⟨k + 1, l, by omega, by go_num, by rw [HPA.out], rfl, fun h => by rw [HPA.out] at h ⊢; exact HL0.out h, KLESS (L := [(wo.heap.size, 0, .int .i64 p.id), (wo.heap.size, 1, .int .i64 p.ra), (wo.heap.size, 2, .int .u64 p.si)]) KH_w62.out (by omega) (by simp)⟩
                        case measure => simp [intOf]; omega
                      · have u4 : decide (d ≤ dq) = true := by simp; omega
                        have HY : Hid (can xl i (List.replicate N false) k = true) := Lib.hid (by rw [HCAN.out, HD.out, HDP.out, HDQ.out]; simp; omega)
                        clear a1 NOC
                        by_cases a5 : nb < 0
                        · have HPA : Hid (pa xl i (List.replicate N false) (k + 1) = k) := Lib.hid (pa_yes HY.out (.inl (by rw [HNB.out]; exact a5)))
                          have u5 : decide (nb < 0) = true := by simpa using a5
                          have lA_wr : wo.heap.size < wr.heap.size := by omega
                          have cA0_wr := KH_wr.out.at (b := wo.heap.size) (o := 0) (v := .int .i64 p.id) (by simp)
                          have fA0_wr := KH_wr.out.free (b := wo.heap.size) (o := 0) (v := .int .i64 p.id) (by simp)
                          have cA1_wr := KH_wr.out.at (b := wo.heap.size) (o := 1) (v := .int .i64 p.ra) (by simp)
                          have fA1_wr := KH_wr.out.free (b := wo.heap.size) (o := 1) (v := .int .i64 p.ra) (by simp)
                          have cA2_wr := KH_wr.out.at (b := wo.heap.size) (o := 2) (v := .int .u64 p.si) (by simp)
                          have fA2_wr := KH_wr.out.free (b := wo.heap.size) (o := 2) (v := .int .u64 p.si) (by simp)
                          go_wp2_with fail
                          with_reducible refine (mwindow28c M xl _ p dp _ (HMO.out.below (by go_grown)) OKX.out OKP.out HDP.out).mono ?_
                          rintro e w61 ⟨rfl, hb_w61⟩
                          have K_w61 : Kept wo.heap.size wo (wr.heap.size + 1) [(wo.heap.size, 0, .int .i64 p.id), (wo.heap.size, 1, .int .i64 p.ra), (wo.heap.size, 2, .int .u64 p.si), (wr.heap.size, 0, .int .i64 q.id), (wr.heap.size, 1, .int .i64 q.ra), (wr.heap.size, 2, .int .u64 q.si)] w61 := Kept.of hb_w61 (by go_grown) (by go_size) (by omega) (by simp [go_sem, lA_wr, cA0_wr, fA0_wr, cA1_wr, fA1_wr, cA2_wr, fA2_wr] <;> omega)
                          clear hb_w61
                          have KH_w61 := Lib.hid K_w61
                          have hw_w61 := K_w61.below
                          have hz_w61 := K_w61.size
                          have lA_w61 : wo.heap.size < w61.heap.size := by omega
                          have lB_w61 : wr.heap.size < w61.heap.size := by omega
                          clear lA_wr cA0_wr fA0_wr cA1_wr fA1_wr cA2_wr fA2_wr
                          clear K_w61
                          have cA0_w61 := KH_w61.out.at (b := wo.heap.size) (o := 0) (v := .int .i64 p.id) (by simp)
                          have fA0_w61 := KH_w61.out.free (b := wo.heap.size) (o := 0) (v := .int .i64 p.id) (by simp)
                          have cA1_w61 := KH_w61.out.at (b := wo.heap.size) (o := 1) (v := .int .i64 p.ra) (by simp)
                          have fA1_w61 := KH_w61.out.free (b := wo.heap.size) (o := 1) (v := .int .i64 p.ra) (by simp)
                          have cA2_w61 := KH_w61.out.at (b := wo.heap.size) (o := 2) (v := .int .u64 p.si) (by simp)
                          have fA2_w61 := KH_w61.out.free (b := wo.heap.size) (o := 2) (v := .int .u64 p.si) (by simp)
                          have cB0_w61 := KH_w61.out.at (b := wr.heap.size) (o := 0) (v := .int .i64 q.id) (by simp)
                          have fB0_w61 := KH_w61.out.free (b := wr.heap.size) (o := 0) (v := .int .i64 q.id) (by simp)
                          have cB1_w61 := KH_w61.out.at (b := wr.heap.size) (o := 1) (v := .int .i64 q.ra) (by simp)
                          have fB1_w61 := KH_w61.out.free (b := wr.heap.size) (o := 1) (v := .int .i64 q.ra) (by simp)
                          have cB2_w61 := KH_w61.out.at (b := wr.heap.size) (o := 2) (v := .int .u64 q.si) (by simp)
                          have fB2_w61 := KH_w61.out.free (b := wr.heap.size) (o := 2) (v := .int .u64 q.si) (by simp)
                          go_wp2_with fail
                          with_reducible refine (mwindow28c M xl _ q dq _ (HMO.out.below (by go_grown)) OKX.out OKQ.out HDQ.out).mono ?_
                          rintro e w62 ⟨rfl, hb_w62⟩
                          have K_w62 := (KH_w61.out.step (by omega) (by go_grown)).step (by omega) hb_w62
                          clear hb_w62
                          have KH_w62 := Lib.hid K_w62
                          have hw_w62 := K_w62.below
                          have hz_w62 := K_w62.size
                          have lA_w62 : wo.heap.size < w62.heap.size := by omega
                          have lB_w62 : wr.heap.size < w62.heap.size := by omega
                          clear lA_w61 lB_w61 cA0_w61 fA0_w61 cA1_w61 fA1_w61 cA2_w61 fA2_w61 cB0_w61 fB0_w61 cB1_w61 fB1_w61 cB2_w61 fB2_w61
                          clear K_w62
                          go_wp2_with fail
                          go_roundw
                          case rel => exact ⟨k + 1, d, by omega, by go_num, by rw [HPA.out], rfl, fun _ => by rw [HPA.out, Int.toNat_natCast]; exact HAPK.out, KLESS (L := [(wo.heap.size, 0, .int .i64 p.id), (wo.heap.size, 1, .int .i64 p.ra), (wo.heap.size, 2, .int .u64 p.si)]) KH_w62.out (by omega) (by simp)⟩
                          case measure => simp [intOf]; omega
                        · have u5 : decide (nb < 0) = false := by simpa using a5
                          have hl5 := HL0.out (by omega)
                          rw [HGI.out] at hl5
                          by_cases a6 : d < l
                          · have HPA : Hid (pa xl i (List.replicate N false) (k + 1) = k) := Lib.hid (pa_yes HY.out (.inr (by rw [HNB.out, HGI.out, HGK.out, ← hl5, HD.out]; exact a6)))
                            have u6 : decide (d < l) = true := by simpa using a6
                            clear hl5
                            have lA_wr : wo.heap.size < wr.heap.size := by omega
                            have cA0_wr := KH_wr.out.at (b := wo.heap.size) (o := 0) (v := .int .i64 p.id) (by simp)
                            have fA0_wr := KH_wr.out.free (b := wo.heap.size) (o := 0) (v := .int .i64 p.id) (by simp)
                            have cA1_wr := KH_wr.out.at (b := wo.heap.size) (o := 1) (v := .int .i64 p.ra) (by simp)
                            have fA1_wr := KH_wr.out.free (b := wo.heap.size) (o := 1) (v := .int .i64 p.ra) (by simp)
                            have cA2_wr := KH_wr.out.at (b := wo.heap.size) (o := 2) (v := .int .u64 p.si) (by simp)
                            have fA2_wr := KH_wr.out.free (b := wo.heap.size) (o := 2) (v := .int .u64 p.si) (by simp)
                            go_wp2_with fail
                            with_reducible refine (mwindow28c M xl _ p dp _ (HMO.out.below (by go_grown)) OKX.out OKP.out HDP.out).mono ?_
                            rintro e w61 ⟨rfl, hb_w61⟩
                            have K_w61 : Kept wo.heap.size wo (wr.heap.size + 1) [(wo.heap.size, 0, .int .i64 p.id), (wo.heap.size, 1, .int .i64 p.ra), (wo.heap.size, 2, .int .u64 p.si), (wr.heap.size, 0, .int .i64 q.id), (wr.heap.size, 1, .int .i64 q.ra), (wr.heap.size, 2, .int .u64 q.si)] w61 := Kept.of hb_w61 (by go_grown) (by go_size) (by omega) (by simp [go_sem, lA_wr, cA0_wr, fA0_wr, cA1_wr, fA1_wr, cA2_wr, fA2_wr] <;> omega)
                            clear hb_w61
                            have KH_w61 := Lib.hid K_w61
                            have hw_w61 := K_w61.below
                            have hz_w61 := K_w61.size
                            have lA_w61 : wo.heap.size < w61.heap.size := by omega
                            have lB_w61 : wr.heap.size < w61.heap.size := by omega
                            clear lA_wr cA0_wr fA0_wr cA1_wr fA1_wr cA2_wr fA2_wr
                            clear K_w61
                            have cA0_w61 := KH_w61.out.at (b := wo.heap.size) (o := 0) (v := .int .i64 p.id) (by simp)
                            have fA0_w61 := KH_w61.out.free (b := wo.heap.size) (o := 0) (v := .int .i64 p.id) (by simp)
                            have cA1_w61 := KH_w61.out.at (b := wo.heap.size) (o := 1) (v := .int .i64 p.ra) (by simp)
                            have fA1_w61 := KH_w61.out.free (b := wo.heap.size) (o := 1) (v := .int .i64 p.ra) (by simp)
                            have cA2_w61 := KH_w61.out.at (b := wo.heap.size) (o := 2) (v := .int .u64 p.si) (by simp)
                            have fA2_w61 := KH_w61.out.free (b := wo.heap.size) (o := 2) (v := .int .u64 p.si) (by simp)
                            have cB0_w61 := KH_w61.out.at (b := wr.heap.size) (o := 0) (v := .int .i64 q.id) (by simp)
                            have fB0_w61 := KH_w61.out.free (b := wr.heap.size) (o := 0) (v := .int .i64 q.id) (by simp)
                            have cB1_w61 := KH_w61.out.at (b := wr.heap.size) (o := 1) (v := .int .i64 q.ra) (by simp)
                            have fB1_w61 := KH_w61.out.free (b := wr.heap.size) (o := 1) (v := .int .i64 q.ra) (by simp)
                            have cB2_w61 := KH_w61.out.at (b := wr.heap.size) (o := 2) (v := .int .u64 q.si) (by simp)
                            have fB2_w61 := KH_w61.out.free (b := wr.heap.size) (o := 2) (v := .int .u64 q.si) (by simp)
                            go_wp2_with fail
                            with_reducible refine (mwindow28c M xl _ q dq _ (HMO.out.below (by go_grown)) OKX.out OKQ.out HDQ.out).mono ?_
                            rintro e w62 ⟨rfl, hb_w62⟩
                            have K_w62 := (KH_w61.out.step (by omega) (by go_grown)).step (by omega) hb_w62
                            clear hb_w62
                            have KH_w62 := Lib.hid K_w62
                            have hw_w62 := K_w62.below
                            have hz_w62 := K_w62.size
                            have lA_w62 : wo.heap.size < w62.heap.size := by omega
                            have lB_w62 : wr.heap.size < w62.heap.size := by omega
                            clear lA_w61 lB_w61 cA0_w61 fA0_w61 cA1_w61 fA1_w61 cA2_w61 fA2_w61 cB0_w61 fB0_w61 cB1_w61 fB1_w61 cB2_w61 fB2_w61
                            clear K_w62
                            go_wp2_with fail
                            go_roundw
                            case rel => exact ⟨k + 1, d, by omega, by go_num, by rw [HPA.out], rfl, fun _ => by rw [HPA.out, Int.toNat_natCast]; exact HAPK.out, KLESS (L := [(wo.heap.size, 0, .int .i64 p.id), (wo.heap.size, 1, .int .i64 p.ra), (wo.heap.size, 2, .int .u64 p.si)]) KH_w62.out (by omega) (by simp)⟩
                            case measure => simp [intOf]; omega
                          · have HPA : Hid (pa xl i (List.replicate N false) (k + 1) = nb) := Lib.hid (by rw [pa_less (by rw [HNB.out, HGI.out, HGK.out, ← hl5, HD.out]; omega), HNB.out])
                            have u6 : decide (d < l) = false := by simpa using a6
                            clear hl5
                            have lA_wr : wo.heap.size < wr.heap.size := by omega
                            have cA0_wr := KH_wr.out.at (b := wo.heap.size) (o := 0) (v := .int .i64 p.id) (by simp)
                            have fA0_wr := KH_wr.out.free (b := wo.heap.size) (o := 0) (v := .int .i64 p.id) (by simp)
                            have cA1_wr := KH_wr.out.at (b := wo.heap.size) (o := 1) (v := .int .i64 p.ra) (by simp)
                            have fA1_wr := KH_wr.out.free (b := wo.heap.size) (o := 1) (v := .int .i64 p.ra) (by simp)
                            have cA2_wr := KH_wr.out.at (b := wo.heap.size) (o := 2) (v := .int .u64 p.si) (by simp)
                            have fA2_wr := KH_wr.out.free (b := wo.heap.size) (o := 2) (v := .int .u64 p.si) (by simp)
                            go_wp2_with fail
                            with_reducible refine (mwindow28c M xl _ p dp _ (HMO.out.below (by go_grown)) OKX.out OKP.out HDP.out).mono ?_
                            rintro e w61 ⟨rfl, hb_w61⟩
                            have K_w61 : Kept wo.heap.size wo (wr.heap.size + 1) [(wo.heap.size, 0, .int .i64 p.id), (wo.heap.size, 1, .int .i64 p.ra), (wo.heap.size, 2, .int .u64 p.si), (wr.heap.size, 0, .int .i64 q.id), (wr.heap.size, 1, .int .i64 q.ra), (wr.heap.size, 2, .int .u64 q.si)] w61 := Kept.of hb_w61 (by go_grown) (by go_size) (by omega) (by simp [go_sem, lA_wr, cA0_wr, fA0_wr, cA1_wr, fA1_wr, cA2_wr, fA2_wr] <;> omega)
                            clear hb_w61
                            have KH_w61 := Lib.hid K_w61
                            have hw_w61 := K_w61.below
                            have hz_w61 := K_w61.size
                            have lA_w61 : wo.heap.size < w61.heap.size := by omega
                            have lB_w61 : wr.heap.size < w61.heap.size := by omega
                            clear lA_wr cA0_wr fA0_wr cA1_wr fA1_wr cA2_wr fA2_wr
                            clear K_w61
                            have cA0_w61 := KH_w61.out.at (b := wo.heap.size) (o := 0) (v := .int .i64 p.id) (by simp)
                            have fA0_w61 := KH_w61.out.free (b := wo.heap.size) (o := 0) (v := .int .i64 p.id) (by simp)
                            have cA1_w61 := KH_w61.out.at (b := wo.heap.size) (o := 1) (v := .int .i64 p.ra) (by simp)
                            have fA1_w61 := KH_w61.out.free (b := wo.heap.size) (o := 1) (v := .int .i64 p.ra) (by simp)
                            have cA2_w61 := KH_w61.out.at (b := wo.heap.size) (o := 2) (v := .int .u64 p.si) (by simp)
                            have fA2_w61 := KH_w61.out.free (b := wo.heap.size) (o := 2) (v := .int .u64 p.si) (by simp)
                            have cB0_w61 := KH_w61.out.at (b := wr.heap.size) (o := 0) (v := .int .i64 q.id) (by simp)
                            have fB0_w61 := KH_w61.out.free (b := wr.heap.size) (o := 0) (v := .int .i64 q.id) (by simp)
                            have cB1_w61 := KH_w61.out.at (b := wr.heap.size) (o := 1) (v := .int .i64 q.ra) (by simp)
                            have fB1_w61 := KH_w61.out.free (b := wr.heap.size) (o := 1) (v := .int .i64 q.ra) (by simp)
                            have cB2_w61 := KH_w61.out.at (b := wr.heap.size) (o := 2) (v := .int .u64 q.si) (by simp)
                            have fB2_w61 := KH_w61.out.free (b := wr.heap.size) (o := 2) (v := .int .u64 q.si) (by simp)
                            go_wp2_with fail
                            with_reducible refine (mwindow28c M xl _ q dq _ (HMO.out.below (by go_grown)) OKX.out OKQ.out HDQ.out).mono ?_
                            rintro e w62 ⟨rfl, hb_w62⟩
                            have K_w62 := (KH_w61.out.step (by omega) (by go_grown)).step (by omega) hb_w62
                            clear hb_w62
                            have KH_w62 := Lib.hid K_w62
                            have hw_w62 := K_w62.below
                            have hz_w62 := K_w62.size
                            have lA_w62 : wo.heap.size < w62.heap.size := by omega
                            have lB_w62 : wr.heap.size < w62.heap.size := by omega
                            clear lA_w61 lB_w61 cA0_w61 fA0_w61 cA1_w61 fA1_w61 cA2_w61 fA2_w61 cB0_w61 fB0_w61 cB1_w61 fB1_w61 cB2_w61 fB2_w61
                            clear K_w62
                            go_wp2_with fail
                            go_roundw
                            case rel => exact ⟨k + 1, l, by omega, by go_num, by rw [HPA.out], rfl, fun h => by rw [HPA.out] at h ⊢; exact HL0.out h, KLESS (L := [(wo.heap.size, 0, .int .i64 p.id), (wo.heap.size, 1, .int .i64 p.ra), (wo.heap.size, 2, .int .u64 p.si)]) KH_w62.out (by omega) (by simp)⟩
                            case measure => simp [intOf]; omega
              · obtain rfl : N = k := by omega
                have hpl := pa_lf HTL.out HPJ.out E3.out (N := N) (by rw [← HN.out, HXLL.out]) z.l.length (Nat.le_refl _)
                rw [HXL.out, HI.out, ← HNR.out, HNB.out] at hpl
                rcases hpl with ⟨hp1, hp2⟩ | ⟨m, hp1, hp2, hp3, hp4⟩
                · have HMT : Hid (mtc z (j' + 1) = mtc z j') := Lib.hid (mt_none (by rw [HTK.out]; exact E3.out) (by rw [HTK.out, hp1]; omega))
                  have HRK : Hid (rk tk (j' + 1) = i + 1) := Lib.hid (by rw [rk_succ E3.out, if_neg (by simp), HI.out])
                  subst hp2
                  clear hp1
                  go_wp2_with fail
                  go_roundg (z.l.length - (j' + 1))
                  case rel => exact ⟨j' + 1, _, rfl, by omega, by rw [HMT.out, HTK.out, HRK.out]; go_num, by rw [HMT.out, HPS2.out]; exact HPS.out.below hw_wr, HGO.out.below hw_wr, by rw [HMT.out, HTK.out, HXL.out]; exact HMO.out.below hw_wr, HO.out.grow hw_wr⟩
                  case measure => omega
                · obtain ⟨q2, hq2⟩ : ∃ q, rk tk m = q := ⟨_, rfl⟩
                  rw [hq2] at hp4
                  subst hp4
                  obtain ⟨pm, hpm⟩ : ∃ q, z.l[m]? = some q := ⟨z.l[m], List.getElem?_eq_getElem hp2⟩
                  have hcase := mtc_case z hjl
                  have hxm : xl.l[q2]? = some pm := by rw [HXLL.out, ← hq2]; exact lft_at HTL.out hpm hp3
                  have HNX : Hid ((mtc z (j' + 1)).2 = ps ++ [(p.id, pm.id)] ∧ z.lf (mtc z (j' + 1)).1 = { xl with l := (xl.l.eraseIdx q2).eraseIdx i } ∧ i < q2 ∧ rk (mtc z (j' + 1)).1 (j' + 1) = i) := Lib.hid (by
                    obtain ⟨_, h1 | h1 | h1⟩ := hcase
                    · rw [HTK.out, E3.out] at h1
                      simp at h1
                    · rw [HTK.out, hp1] at h1
                      omega
                    · obtain ⟨m', p', pm', g1, g2, g3, g4, g5, g6, g7, g8, g9⟩ := h1
                      rw [HTK.out, hp1] at g2
                      obtain rfl : m = m' := by omega
                      rw [HPJ.out] at g6
                      rw [hpm] at g7
                      cases g6
                      cases g7
                      have hlt := mtc_later hjl g1 g4 g5 HPJ.out hpm g8
                      rw [HTK.out] at g5 g9
                      have h2 := mtc_lft HTL.out hlt hp2 E3.out g5
                      rw [hq2, HI.out] at h2
                      rw [g9]
                      refine ⟨by rw [HPS2.out], ?_, h2.2.2, h2.2.1⟩
                      rw [← HXL.out]
                      unfold Lb.lf
                      simp only
                      rw [h2.1])
                  have HQM := Lib.hid hxm
                  have hiq := HNX.out.2.2.1
                  have hqN : q2 < N := by rw [← HN.out]; exact (List.getElem?_eq_some_iff.1 hxm).1
                  have HQL : Hid (q2 < xl.l.length) := Lib.hid (by rw [HN.out]; exact hqN)
                  have HIE : Hid (i < (xl.l.eraseIdx q2).length) := Lib.hid (by rw [List.length_eraseIdx, if_pos HQL.out, HN.out]; omega)
                  have j1 : (0 : Int) ≤ (q2 : Int) := by omega
                  have j2 : (q2 : Int) < (N : Int) := by omega
                  have j3 : ¬ ((q2 : Int) ≤ (i : Int)) := by omega
                  have j4 : (i : Int) < (q2 : Int) := by omega
                  have j5 : (i : Int) ≤ (q2 : Int) := by omega
                  clear hp1 hp2 hp3 hq2 hpm hcase hxm
                  have gA0 : wr.cell? ⟨wo.heap.size, 0, none⟩ = Option.some (.int .i64 p.id) := KH_wr.out.at (b := wo.heap.size) (o := 0) (v := .int .i64 p.id) (by simp)
                  have lA : wo.heap.size < wr.heap.size := by omega
                  have HMR := Lib.hid (HMO.out.below hw_wr)
                  have HPR := Lib.hid (HPS.out.below hw_wr)
                  have HGR := Lib.hid (HGO.out.below hw_wr)
                  have HOR := Lib.hid (HO.out.grow hw_wr)
                  have m4r : wr.cell? ⟨M, 4, none⟩ = Option.some (.slice (some ⟨b1, o1, none⟩) N lc) := (hw_wr.cell (p := ⟨M, 4, none⟩) hMo).trans m4
                  have qq : wr.cell? ⟨b1, o1 + q2 * 3, none⟩ = Option.some (.int .i64 pm.id) := (hw_wr.cell (p := ⟨b1, o1 + q2 * 3, none⟩) hb1).trans (HC1.out q2 pm HQM.out 0 _ rfl)
                  have hMr : M < wr.heap.size := by omega
                  have hb1r : b1 < wr.heap.size := by omega
                  go_wp2_with fail
                  refine rg32_24 (w0 := wr) (B := wr.heap.size) (n := wr.heap.size) (L := []) (E := fun _ => True) (F := fun _ => True) (by kernel_rfl) (by kernel_rfl) ⟨by go_grown, by go_size, (by simp [go_sem] <;> omega)⟩ trivial (fun _ _ _ _ => trivial) trivial (fun _ _ _ _ => trivial) (fun w81 K_w81 E_w81 F_w81 => ?_)
                  have _ne : Nonempty (KX (wr.heap.size) wr (wr.heap.size) [] (fun _ => True)) := ⟨⟨_, K_w81, E_w81⟩⟩
                  repeat (go_big_quiet_step (fail))
                  refine wpQuiet_nil ?_
                  have ra0 : ∀ s : KX (wr.heap.size) wr (wr.heap.size) [] (fun _ => True), s.val.cell? ⟨wo.heap.size, 0, none⟩ = some (.int .i64 p.id) := fun s => (s.kept.below.cell (p := ⟨wo.heap.size, 0, none⟩) lA).trans gA0
                  have rm4 : ∀ s : KX (wr.heap.size) wr (wr.heap.size) [] (fun _ => True), s.val.cell? ⟨M, 4, none⟩ = some (.slice (some ⟨b1, o1, none⟩) N lc) := fun s => (s.kept.below.cell (p := ⟨M, 4, none⟩) hMr).trans m4r
                  have rqq : ∀ s : KX (wr.heap.size) wr (wr.heap.size) [] (fun _ => True), s.val.cell? ⟨b1, o1 + q2 * 3, none⟩ = some (.int .i64 pm.id) := fun s => (s.kept.below.cell (p := ⟨b1, o1 + q2 * 3, none⟩) hb1r).trans qq
                  repeat (go_big_quiet_step (fail))
                  refine wpQuiet_nil ?_
                  clear ra0 rm4 rqq
                  repeat (go_big_quiet_step (fail))
                  refine wpQuiet_nil ?_
                  have ra0 : ∀ s : KX (wr.heap.size) wr (wr.heap.size) [] (fun _ => True), s.val.cell? ⟨wo.heap.size, 0, none⟩ = some (.int .i64 p.id) := fun s => (s.kept.below.cell (p := ⟨wo.heap.size, 0, none⟩) lA).trans gA0
                  have rm4 : ∀ s : KX (wr.heap.size) wr (wr.heap.size) [] (fun _ => True), s.val.cell? ⟨M, 4, none⟩ = some (.slice (some ⟨b1, o1, none⟩) N lc) := fun s => (s.kept.below.cell (p := ⟨M, 4, none⟩) hMr).trans m4r
                  have rqq : ∀ s : KX (wr.heap.size) wr (wr.heap.size) [] (fun _ => True), s.val.cell? ⟨b1, o1 + q2 * 3, none⟩ = some (.int .i64 pm.id) := fun s => (s.kept.below.cell (p := ⟨b1, o1 + q2 * 3, none⟩) hb1r).trans qq
                  repeat (go_big_quiet_step (fail))
                  refine wpQuiet_nil ?_
                  clear ra0 rm4 rqq
                  repeat (go_big_quiet_step (fail))
                  refine wpQuiet_nil ?_
                  have KH_w81 := Lib.hid K_w81
                  have hw_w81 := K_w81.below
                  have hz_w81 := K_w81.size
                  clear K_w81
                  clear E_w81 F_w81
                  refine ⟨fun K hK0 => ?_, trivial⟩
                  have hK := Lib.hid hK0
                  clear hK0
                  go_wp2_with fail
                  first | (refine ⟨rfl, hK.out _ _ ?_⟩; clear hK K) | (refine hK.out _ _ ?_; clear hK K)
                  refine ⟨fun K hK0 => ?_, trivial⟩
                  have hK := Lib.hid hK0
                  clear hK0
                  go_wp2_with (at_builtin; refine wpList_append_ow (f := dc) (sz := 2) rfl _ _ 32 rfl w.heap.size 50 (.agg #[.int .i64 0, .int .i64 0]) 16 Try.underlying32 info50 rfl (by decide) _ ps rfl (HPR.out.below (by go_grown)) dc_ok _ [(p.id, pm.id)] rfl (Rw.one2 _ _ (p.id, pm.id) _ rfl _ _ (by simp)) ?ca6 ?cb6 (by go_size) ?_)
                  case ca6 => have q1 := HPL.out; simp only [maxLen, List.length_singleton]; omega
                  case cb6 => have q1 := HPL.out; simp only [List.length_singleton]; omega
                  intro v' wA hown hgrow hwh
                  have HP3 : Hid (Ow dc 2 50 wA w.heap.size v' (ps ++ [(p.id, pm.id)])) := Lib.hid hown
                  have hgB := mod_grownI (HMR.out.below (by go_grown)) (HPR.out.below (by go_grown)) hgrow
                  have HG3 : Hid (Ow ic 1 3 wA w.heap.size (.slice ga gn gc) gs) := Lib.hid ((HGR.out.below (by go_grown)).grown hgrow (fun b hb e => HPR.out.ne HGR.out (by decide) b ((ob_len _ _ _ _ _).trans e) hb))
                  have hOA : Onl [M] w wA := (HOR.out.grow (by go_grown)).grown hgrow (fun q hq => .inr (HPR.out.typ q ((ob_len _ _ _ _ _).trans hq)).1)
                  have HMA := Lib.hid hgB
                  have HOA := Lib.hid hOA
                  have n4A : wA.cell? ⟨M, 4, none⟩ = Option.some (.slice (some ⟨b1, o1, none⟩) N lc) := hgB.cell 4
                  obtain ⟨ga2, gc2, hv'⟩ := hown.form
                  rw [List.length_append, List.length_singleton] at hv'
                  subst hv'
                  clear hown hgrow hwh hgB hOA
                  go_wp2_with fail
                  first | (refine ⟨rfl, hK.out _ _ ?_⟩; clear hK K) | (refine hK.out _ _ ?_; clear hK K)
                  repeat (go_big_quiet_step (fail))
                  refine wpQuiet_nil ?_
                  clear _ne
                  go_wp2_with fail
                  with_reducible refine (without39 _ xl.l q2 _ HMA.out.row HQL.out OKX.out.len).mono ?_
                  rintro e wB ⟨v2, rfl, h2, hb2⟩
                  have HR2 := Lib.hid (h2.base (base' := 0) (fun b _ => Nat.zero_le b))
                  have HB2 := Lib.hid hb2
                  have hB2 := (HMA.out.below hb2).blk
                  have c4_2 : wB.cell? ⟨M, 4, none⟩ = Option.some (.slice (some ⟨b1, o1, none⟩) N lc) := cell_of_row wB M 4 _ 43 (0, 0) hB2
                  clear h2 hb2 hB2
                  go_wp2_with fail
                  with_reducible refine (without39 _ (xl.l.eraseIdx q2) i _ HR2.out HIE.out (Nat.le_trans (List.length_eraseIdx_le _ _) OKX.out.len)).mono ?_
                  rintro e wC ⟨v3, rfl, h3, hb3⟩
                  have hbb := below_via HB2.out hb3
                  have hB3 := (HMA.out.below hbb).blk
                  have c4_3 : wC.cell? ⟨M, 4, none⟩ = Option.some (.slice (some ⟨b1, o1, none⟩) N lc) := cell_of_row wC M 4 _ 43 (0, 0) hB3
                  have f4_3 : wC.frozen? ⟨M, 4, none⟩ = false := frozen_of_row wC M 4 _ 43 hB3
                  obtain ⟨a', c', hv'⟩ := h3.form
                  obtain ⟨n', hn'⟩ : ∃ n, ((xl.l.eraseIdx q2).eraseIdx i).length = n := ⟨_, rfl⟩
                  rw [hn'] at hv'
                  subst hv'
                  have HB := Lib.hid (mod_put hB3 h3)
                  have HO3 := Lib.hid (HOA.out.grow hbb)
                  have hs : Onl [M] wC (wC.setCell ⟨M, 4, none⟩ (.slice a' n' c')) := (Onl.refl [M] wC).setCell (q := ⟨M, 4, none⟩) (.inl (by simp)) _
                  have HG4 := Lib.hid ((HG3.out.below hbb).onl hs (fun b hb => by simpa using fun e : b = M => MNOT hB3 (HG3.out.below hbb) (by decide) b hb e))
                  have HP4 := Lib.hid ((HP3.out.below hbb).onl hs (fun b hb => by simpa using fun e : b = M => MNOT hB3 (HP3.out.below hbb) (by decide) b hb e))
                  clear hB3 h3 hb3 hbb hn' hs
                  go_wp2_with fail
                  go_roundg (z.l.length - (j' + 1))
                  case rel => exact ⟨j' + 1, _, rfl, by omega, by rw [HNX.out.2.2.2], by rw [HNX.out.1]; exact HP4.out, HG4.out, by rw [HNX.out.2.1]; exact HB.out, HO3.out.setCell (q := ⟨M, 4, none⟩) (.inl (by simp)) _⟩
                  case measure => omega

end Go.Proofs.Ytonaidjdkejoeaa
