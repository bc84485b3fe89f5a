/- Delete and Leave. -/
import Derived.Test.YtonaidjdkejoeaaEn
import Derived.LoopTactic
import Derived.Laws.AppendOwn
import Derived.Laws.IdiomCopy
import Derived.Lib.SliceRun
namespace Go.Proofs.Ytonaidjdkejoeaa
open Go.RowKit Plain
set_option linter.unusedVariables false
set_option linter.unusedSimpArgs false

theorem rg33_5 {P : Program} {B n : Nat} {w0 : World} {L : List (Nat × Nat × Value)} {E F : World → Prop} {id : Nat} {Q : Exit → Act → World → Prop} {a : Act} {w : World} {o0 o1 o2 o3 o4 o5 o6 o7 : Oper} (hm : P.follows .mixedOrders = true)
    (hB : (Region.noSelect [o0, o1, o2, o3, o4, o5, o6, o7].toArray && Scr.ok .any [o0, o1, o2, o3, o4, o5, o6, o7].toArray [] [0, 1, 2, 3, 4, 5, 7] (.free 0 (.free 1 (.free 2 (.free 3 (.free 4 (.free 5 (.altc 6 (.free 7 .done) .stop))))))) true true [o0, o1, o2, o3, o4, o5, o6, o7].toArray.size (Array.replicate [o0, o1, o2, o3, o4, o5, o6, o7].toArray.size false)) = true)
    (k : Kept B w0 n L w) (he : E w) (hE : ∀ W W', E W → Below W.heap.size W W' → E W') (hf : F w) (hF : ∀ W W', F W → Below W.heap.size W W' → F W')
    (h : ∀ wk, Kept B w0 n L wk → E wk → F wk → wpQuiet P [o0, o1, o2, o3, o4, o5, o6, o7].toArray (fun _ => True) (fun a0 => ((∀ K1 : Act → World → Prop, (∀ a1 w1, wpQuiet P [o0, o1, o2, o3, o4, o5, o6, o7].toArray (fun _ => True) (fun a2 => Q .normal a2 w1) [o7] a1 → K1 a1 w1) → wpList P [o0, o1, o2, o3, o4, o5, o6, o7].toArray (fun e a1 w1 => e = .normal ∧ K1 a1 w1) [o6] a0 wk) ∧ True)) [o0, o1, o2, o3, o4, o5] a) : (Code.region id [o0, o1, o2, o3, o4, o5, o6, o7].toArray true).wp P Q a w := by
  have e1 : E w.drew := hE _ _ he ((Below.refl _ _).drew)
  have g := h _ k.drew e1 (hF _ _ hf ((Below.refl _ _).drew))
  exact wp_region_scr (U := (fun w' => ∃ s : KX B w0 n L E, w' = s.val)) (ops := [o0, o1, o2, o3, o4, o5, o6, o7].toArray) (.free 0 (.free 1 (.free 2 (.free 3 (.free 4 (.free 5 (.altc 6 (.free 7 .done) .stop))))))) [] [0, 1, 2, 3, 4, 5, 7] hm hB ⟨⟨_, k.drew, e1⟩, rfl⟩ (Scr.of_free rfl g (fun _ g0 => Scr.of_free rfl g0 (fun _ g1 => Scr.of_free rfl g1 (fun _ g2 => Scr.of_free rfl g2 (fun _ g3 => Scr.of_free rfl g3 (fun _ g4 => Scr.of_free rfl g4 (fun _ g5 => (Scr.of_altc rfl (g5.1 _ (fun _ _ g => g)) (fun _ _ g6 => Scr.of_free rfl g6 (fun _ g7 => g7)) trivial))))))))
theorem run_clear_one {P : Program} (w : World) (t e ty : TypeId) (z : Value) (zs : List Value) (ht : P.underlying t = some (.slice e)) (hv : ∀ w, (zeroValue e).run P w = .ok z w) (hz : z.cells.toList = zs) (h1 : ∀ u ∈ zs, u.oneCell' = true) (b o c : Nat)
    (hc : ∀ j, j < zs.length → (w.cell? ⟨b, o + j, none⟩).isSome = true) (hf : ∀ j, j < zs.length → w.frozen? ⟨b, o + j, none⟩ = false) :
    (Builtin.clear_ #[t] ty #[.slice (some ⟨b, o, none⟩) 1 c]).run P w = .ok (.tuple #[]) (w.setCells b o zs) := by
  have hzc : (Builtin.zeroCells z.cells 1).toList = zs := by
    rw [← hz]
    apply List.ext_getElem
    · simp [Builtin.zeroCells]
    · intro i h1 h2
      have h3 : i < z.cells.size := by simpa using h2
      simp [Builtin.zeroCells, Nat.mod_eq_of_lt h3, getElem!_pos, h3]
  have hst := run_storeCells_cells (P := P) b o zs 0 w (by simpa using hc) (by simpa using hf) h1
  simp only [Nat.add_zero] at hst
  simp [Builtin.clear_, run_underlying ht, hv, hzc, hst]
theorem wpList_append_room {P : Program} {w : World} {ops : Array Oper} {rest : List Oper} {o : Oper} {a : Act} {Q : Exit → Act → World → Prop} (hgd : o.guard = none) (s x : Operand) (t : TypeId)
    (ho : o.op = .call { callee := .builtin .append, args := #[s, x], argTypes := #[t, t] }) (e : TypeId) (i : TypeInfo) (ht : P.underlying t = some (.slice e)) (hi : P.info? e = some i)
    (g n cap : Nat) (cur : Array Value) (hg : w.heap[g]? = some (.cells cur e (0, 0))) (hs : a.eval s = .slice (some ⟨g, 0, none⟩) n cap)
    (ad : Addr) (m c : Nat) (news : List Value) (hx : a.eval x = .slice (some ad) m c) (hl : news.length = m * i.size) (hnews : ∀ j u, news[j]? = some u → w.cell? (ad.add j) = some u) (h1 : ∀ u ∈ news, u.oneCell' = true)
    (hroom : n + m ≤ cap) (hfit : n * i.size + news.length ≤ cur.size) (W1 : World) (hW : W1 = w.setRow g (cur.toList.take (n * i.size) ++ news ++ cur.toList.drop (n * i.size + news.length)).toArray)
    (h : wpList P ops Q rest (a.put o.dst (.slice (some ⟨g, 0, none⟩) (n + m) cap)) W1) : wpList P ops Q (o :: rest) a w := by
  refine wpList_plain hgd fun K hK => ?_
  have hr := run_append_room (P := P) w t o.type e i ht hi g n cap cur hg ad m c news hl hnews h1 hroom hfit
  rw [← hW] at hr
  unfold Oper.wp execOp
  simp only [ho, resolve, invoke, builtin, Sem.run_bind, Sem.run_pure, Result.andThen_ok, List.map_toArray, List.map_cons, List.map_nil, hs, hx, hr]
  exact hK _ _ h
theorem owns_past {w : World} {base : Nat} {e : TypeId} {size g n cap : Nat} {xs : List Value} : ∀ (vs : List Value) (o : Nat) (w : World), w.ownsRow base e size (.slice (some ⟨g, 0, none⟩) n cap) n xs → n * size ≤ o → (w.setCells g o vs).ownsRow base e size (.slice (some ⟨g, 0, none⟩) n cap) n xs
  | [], _, _, h, _ => h
  | u :: vs, o, w, h, hge => by
    have h1 := (h.stored o u).1
    have h2 : xs.set o u = xs := List.set_eq_of_length_le (by rw [h.1]; exact hge)
    rw [h2] at h1
    exact owns_past (w := w) vs (o + 1) _ h1 (by omega)
theorem zero71 (w : World) : (zeroValue 71).run Try.prog w = .ok (.agg #[.int .i64 0, .int .i64 0, .int .u64 0]) w := by kernel_rfl
theorem flat_take {α : Type} {f : α → List Value} {sz : Nat} (hs : ∀ x, (f x).length = sz) : ∀ (l : List α) (k : Nat), (l.flatMap f).take (k * sz) = (l.take k).flatMap f
  | [], k => by simp
  | a :: l, 0 => by simp
  | a :: l, k + 1 => by
    rw [List.flatMap_cons, List.take_succ_cons, List.flatMap_cons, List.take_append, hs a, show (k + 1) * sz - sz = k * sz by rw [Nat.add_mul]; omega, flat_take hs l k, List.take_of_length_le (by rw [hs a, Nat.add_mul]; omega)]
/-- Delete of one player -/
def DelAt (w : World) (g n cap : Nat) (l : List Pl) (e : Ending) (w' : World) : Prop := e = .returned (.slice (some ⟨g, 0, none⟩) n cap) ∧ Ow plc 3 71 w' 0 (.slice (some ⟨g, 0, none⟩) n cap) l ∧ Onl [g] w w'
set_option maxRecDepth 100000 in
set_option maxHeartbeats 2000000 in
theorem delete33 (g cap k m : Nat) (l : List Pl) (w : World) (h : Ow plc 3 71 w 0 (.slice (some ⟨g, 0, none⟩) l.length cap) l) (hl : l.length = k + m + 1) (h200 : l.length ≤ 200) : Calls Try.prog 33 #[.slice (some ⟨g, 0, none⟩) (k + m + 1) cap, .int .i64 k, .int .i64 ((k : Int) + 1)] w (DelAt w g (k + m) cap (l.eraseIdx k)) := by
  obtain ⟨i71, hi71, hz71⟩ : ∃ i, Try.prog.info? 71 = some i ∧ (i.zero, i.size, i.bytes) = (some (Value.agg #[.int .i64 0, .int .i64 0, .int .u64 0]), 3, 24) := by
    have h := info71
    cases hi : Try.prog.info? 71 with
    | none => rw [hi] at h; simp at h
    | some i => rw [hi] at h; exact ⟨i, rfl, by simpa using h⟩
  simp only [Prod.mk.injEq] at hz71
  obtain ⟨_, z2, _⟩ := hz71
  obtain ⟨cur, hg0, hn, hcap, hsz, ht⟩ : ∃ cur, w.heap[g]? = some (.cells cur 71 (0, 0)) ∧ l.length ≤ cap ∧ cap ≤ maxLen ∧ cur.size = cap * 3 ∧ cur.toList.take (l.length * 3) = l.flatMap plc := by
    rcases h.2 with ⟨h1, _⟩ | ⟨g', cap', cur, h1, _, h3, h4, h5, h6, h7⟩
    · cases h1
    · cases h1
      exact ⟨cur, h3, h4, h5, h6, h7⟩
  have HG := Lib.hid hg0
  have HT := Lib.hid ht
  have hdl : ((l.drop (k + 1)).flatMap plc).length = m * 3 := by rw [flat_length (fun x _ => (plc_ok x).1), List.length_drop]; omega
  have HS1 : Hid (((l.drop (k + 1)).flatMap plc).length = m * i71.size) := Lib.hid (by rw [z2]; exact hdl)
  have HS2 : Hid (∀ u ∈ (l.drop (k + 1)).flatMap plc, u.oneCell' = true) := Lib.hid (fun u hu => by
    obtain ⟨x, _, hx⟩ := List.mem_flatMap.1 hu
    exact (plc_ok x).2 u hx)
  have HS3 : Hid (k * i71.size + ((l.drop (k + 1)).flatMap plc).length ≤ cur.size) := Lib.hid (by rw [z2, hdl, hsz]; omega)
  have HSZ : Hid ((k + m) * 3 + 3 ≤ (cur.toList.take (k * i71.size) ++ (l.drop (k + 1)).flatMap plc ++ cur.toList.drop (k * i71.size + ((l.drop (k + 1)).flatMap plc).length)).toArray.size) := Lib.hid (by
    simp only [List.size_toArray, List.length_append, List.length_take, List.length_drop, Array.length_toList, z2, hdl, hsz]
    omega)
  have HDEL : Hid (∀ W1 : World, W1.heap[g]? = Option.some (.cells (cur.toList.take (k * i71.size) ++ (l.drop (k + 1)).flatMap plc ++ cur.toList.drop (k * i71.size + ((l.drop (k + 1)).flatMap plc).length)).toArray 71 (0, 0)) → W1.ownsRow 0 71 3 (.slice (some ⟨g, 0, none⟩) (k + m) cap) (k + m) ((l.eraseIdx k).flatMap plc)) := Lib.hid (fun W1 hg1 => by
    have e1 : (l.eraseIdx k).flatMap plc = (l.take k).flatMap plc ++ (l.drop (k + 1)).flatMap plc := by rw [← List.flatMap_append, List.eraseIdx_eq_take_drop_succ]
    have e2 : (l.take k).flatMap plc = cur.toList.take (k * 3) := by
      rw [← flat_take (fun x => (plc_ok x).1), ← ht, List.take_take]
      congr 1
      omega
    have l1 : (cur.toList.take (k * 3)).length = k * 3 := by rw [List.length_take, Array.length_toList, hsz]; omega
    refine ⟨by rw [e1, e2, List.length_append, l1, hdl]; omega, .inr ⟨g, cap, _, rfl, Nat.zero_le _, hg1, by omega, hcap, ?_, ?_⟩⟩
    · simp only [List.size_toArray, List.length_append, List.length_take, List.length_drop, Array.length_toList, z2, hdl, hsz]
      omega
    · rw [z2, e1, e2]
      exact List.take_left' (by rw [List.length_append, l1, hdl]; omega))
  have HFIN : Hid (∀ W2 : World, W2.ownsRow 0 71 3 (.slice (some ⟨g, 0, none⟩) (k + m) cap) (k + m) ((l.eraseIdx k).flatMap plc) → Ow plc 3 71 W2 0 (.slice (some ⟨g, 0, none⟩) (k + m) cap) (l.eraseIdx k)) := Lib.hid (fun W2 h2 => by
    have e : (l.eraseIdx k).length = k + m := by rw [List.length_eraseIdx]; split <;> omega
    unfold Ow
    rw [e]
    exact h2)
  unfold maxLen at hcap
  have hkc : k + m + 1 ≤ cap := by omega
  have hk2 : k ≤ cap := by omega
  have hm200 : k + m + 1 ≤ 200 := by omega
  clear h hg0 ht hdl hsz hn h200 z2
  obtain ⟨A, hA, hA2⟩ : ∃ A : Addr, (if cap = k + 1 then (some (⟨g, 0, none⟩ : Addr)) else some ⟨g, (k + 1) * 3, none⟩) = some A ∧ (0 < m → A = ⟨g, (k + 1) * 3, none⟩) := by
    by_cases h : cap = k + 1
    · exact ⟨_, by rw [if_pos h], fun h2 => by omega⟩
    · exact ⟨_, by rw [if_neg h], fun _ => rfl⟩
  have HNW : Hid (∀ W : World, W.heap[g]? = some (.cells cur 71 (0, 0)) → ∀ j u, ((l.drop (k + 1)).flatMap plc)[j]? = some u → W.cell? (A.add j) = some u) := Lib.hid (fun W hg j u hu => by
    obtain ⟨i, j', y, h2, h3, rfl⟩ := flat_of (fun x _ => (plc_ok x).1) hu
    rw [List.getElem?_drop] at h2
    have hm := (List.getElem?_eq_some_iff.1 h2).1
    have hq := flat_at (sz := 3) (fun x _ => (plc_ok x).1) (l := l) (i := k + 1 + i) (j := j') h2 h3
    rw [hA2 (by omega), WideShapes.add_plain]
    rw [cell_of_row W g _ cur 71 (0, 0) hg, ← Array.getElem?_toList]
    rw [← HT.out, List.getElem?_take] at hq
    split at hq
    · rw [← hq]; congr 1; rw [Nat.add_mul (k + 1)]; omega
    · cases hq)
  clear hl hA2
  go_enter Try.func33, Try.ntmps33
  go_wp2_with fail
  refine rg33_5 (w0 := w) (B := 0) (n := 0) (L := []) (E := fun W => W.heap[g]? = Option.some (.cells cur 71 (0, 0))) (F := fun W => Onl [g] w W) (by kernel_rfl) (by kernel_rfl) ⟨by go_grown, by go_size, (by simp [go_sem] <;> omega)⟩ HG.out (fun _ _ h hb => (hb.block g (Array.getElem?_eq_some_iff.1 h).1).trans h) (Onl.refl _ _) (fun _ _ h hb => h.grow hb) (fun w1 K_w1 E_w1 F_w1 => ?_)
  have _ne : Nonempty (KX (0) w (0) [] (fun W => W.heap[g]? = Option.some (.cells cur 71 (0, 0)))) := ⟨⟨_, K_w1, E_w1⟩⟩
  repeat (go_big_quiet_step (fail))
  refine wpQuiet_nil ?_
  have KH_w1 := Lib.hid K_w1
  have hw_w1 := K_w1.below
  have hz_w1 := K_w1.size
  clear K_w1
  have HE := Lib.hid E_w1
  have HE2 := Lib.hid (F_w1)
  clear E_w1 F_w1
  refine ⟨fun K hK0 => ?_, trivial⟩
  have hK := Lib.hid hK0
  clear hK0
  have hg := HE.out
  obtain ⟨W1, hW1⟩ : ∃ W1, W1 = w1.setRow g (cur.toList.take (k * i71.size) ++ (l.drop (k + 1)).flatMap plc ++ cur.toList.drop (k * i71.size + ((l.drop (k + 1)).flatMap plc).length)).toArray := ⟨_, rfl⟩
  have hg1 : W1.heap[g]? = Option.some (.cells (cur.toList.take (k * i71.size) ++ (l.drop (k + 1)).flatMap plc ++ cur.toList.drop (k * i71.size + ((l.drop (k + 1)).flatMap plc).length)).toArray 71 (0, 0)) := by rw [hW1]; exact setRow_heap _ g cur _ 71 _ hg
  have hO1 : Onl [g] w W1 := by rw [hW1]; exact (Onl.setRow HE2.out (.inl (by simp)) _)
  have HOW1 : Hid (W1.ownsRow 0 71 3 (.slice (some ⟨g, 0, none⟩) (k + m) cap) (k + m) ((l.eraseIdx k).flatMap plc)) := Lib.hid (HDEL.out W1 hg1)
  have hcl : ∀ ty, (Builtin.clear_ #[59] ty #[.slice (some ⟨g, (k + m) * 3, none⟩) 1 (cap - (k + m))]).run Try.prog W1 = .ok (.tuple #[]) (W1.setCells g ((k + m) * 3) [.int .i64 0, .int .i64 0, .int .u64 0]) := fun ty => run_clear_one W1 59 71 ty _ [.int .i64 0, .int .i64 0, .int .u64 0] Try.underlying59 zero71 rfl (by simp [Value.oneCell']) g _ _ (fun j hj => by
    rw [cell_of_row W1 g _ _ 71 (0, 0) hg1]
    have := HSZ.out
    simp only [List.length_cons, List.length_nil] at hj
    rw [Array.getElem?_eq_getElem (by omega)]
    rfl) (fun j hj => frozen_of_row W1 g _ _ 71 hg1)
  obtain ⟨W2, hW2⟩ : ∃ W2, W2 = W1.setCells g ((k + m) * 3) [.int .i64 0, .int .i64 0, .int .u64 0] := ⟨_, rfl⟩
  rw [← hW2] at hcl
  have HR2 : Hid (W2.ownsRow 0 71 3 (.slice (some ⟨g, 0, none⟩) (k + m) cap) (k + m) ((l.eraseIdx k).flatMap plc)) := Lib.hid (by rw [hW2]; exact owns_past (w := W1) _ _ _ HOW1.out (Nat.le_refl _))
  have HO2 : Hid (Onl [g] w W2) := Lib.hid (by rw [hW2]; exact Onl.setCells _ _ _ hO1 (.inl (by simp)))
  have HW1 := Lib.hid hW1
  have HGG := Lib.hid hg
  clear hW1 hW2 hg hg1 hO1
  go_wp2_with (at_builtin; refine wpList_append_room rfl (.tmp 22) (.tmp 25) 59 rfl 71 i71 Try.underlying59 hi71 g k cap cur HGG.out (by simp [Act.eval, Act.put]) A m (cap - (k + 1)) ((l.drop (k + 1)).flatMap plc) (by simp [Act.eval, Act.put]) HS1.out (fun j u hu => HNW.out _ HGG.out j u hu) HS2.out (by omega) HS3.out W1 HW1.out ?_)
  go_wp2_with fail
  first | (refine ⟨rfl, hK.out _ _ ?_⟩; clear hK K) | (refine hK.out _ _ ?_; clear hK K)
  repeat (go_big_quiet_step (fail))
  refine wpQuiet_nil ?_
  clear _ne
  go_wp2_with fail
  go_returns
  exact ⟨rfl, HFIN.out W2 HR2.out, HO2.out⟩

end Go.Proofs.Ytonaidjdkejoeaa
