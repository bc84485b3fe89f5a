/- A lobby of the call's own; the examples of the chapter. -/
import Derived.Test.YtonaidjdkejoeaaLk
namespace Go.Proofs.Ytonaidjdkejoeaa
open Go.RowKit Plain
set_option linter.unusedVariables false
set_option linter.unusedSimpArgs false

/-- block P is a lobby x of the call's own, which began in w -/
structure Mine (w W : World) (P : Nat) (x : Lb) : Prop where
  new : w.heap.size ≤ P
  lob : ∃ v, LobAt W P x v ∧ ∀ b, v.ownBlock = some b → w.heap.size ≤ b
  ok : x.Ok
  bel : Below w.heap.size w W
theorem Mine.below {w W W' : World} {P : Nat} {x : Lb} (h : Mine w W P x) (hb : Below W.heap.size W W') : Mine w W' P x := by
  obtain ⟨v, h1, h2⟩ := h.lob
  exact ⟨h.new, ⟨v, h1.below hb, h2⟩, h.ok, below_via h.bel hb⟩
theorem Mine.lt {w W : World} {P : Nat} {x : Lb} (h : Mine w W P x) : P < W.heap.size := by
  obtain ⟨v, h1, h2⟩ := h.lob
  exact h1.lt
theorem Mine.mut {w W W' : World} {P : Nat} {x x' : Lb} {v : Value} {r e : Ending} (h : Mine w W P x) (hv : ∀ b, v.ownBlock = some b → w.heap.size ≤ b) (ok : x'.Ok) (hm : MutAt P v W r x' e W') : e = r ∧ Mine w W' P x' := by
  obtain ⟨v', h1, h2, h3, h4⟩ := hm
  refine ⟨h1, h.new, ⟨v', h2, fun b hb => ?_⟩, ok, ?_⟩
  · rcases h3 b hb with h5 | h5
    · exact hv b h5
    · exact Nat.le_trans h.bel.size h5
  · exact ((Onl.of h.bel : Onl (foot P v) w W).trans (⟨h4.os, h4.tape, h4.output, h4.size, h4.block⟩ : Onl (foot P v) W W')).below (fun k hk => by
      rcases mem_foot.1 hk with rfl | h5
      · exact h.new
      · exact hv k h5)
def MineAt (w : World) (P : Nat) (x' : Lb) (r e : Ending) (w' : World) : Prop := e = r ∧ Mine w w' P x'
theorem newM (ba st to' : Int) (w0 w : World) (hb : Below w0.heap.size w0 w) (h : vC ba st to' = true) : Calls Try.prog 9 #[.agg #[.int .i64 ba, .int .i64 st, .int .u64 to']] w fun e w' => ∃ P, e = .returned (.tuple #[.pointer (some ⟨P, 0, none⟩), .int .i64 0]) ∧ Mine w0 w' P ⟨ba, st, to', 0, []⟩ ∧ w.heap.size ≤ P :=
  (new9 ba st to' w h).mono fun e w' ⟨P, h1, h2, h3, h4⟩ => ⟨P, h1, ⟨Nat.le_trans hb.size h2, ⟨_, h3, fun b hb => by simp [Value.ownBlock] at hb⟩, by
    unfold vC at h
    have h := of_decide_eq_true h
    exact ⟨h.1, h.2.1, h.2.2.1, h.2.2.2.1, h.2.2.2.2.1, h.2.2.2.2.2, (by unfold U; simp), (fun p hp => by cases hp), (by simp)⟩, below_via hb h4⟩, h2⟩
theorem enterM (P : Nat) (x x' : Lb) (t id ra no : Int) (w W : World) (hm : Mine w W P x) (ht : U t) (hE : enE x id ra = no) (hX : enX x t id ra = x') : Calls Try.prog 10 #[.pointer (some ⟨P, 0, none⟩), .int .u64 t, .int .i64 id, .int .i64 ra] W (MineAt w P x' (.returned (.int .i64 no))) := by
  obtain ⟨v, h1, h2⟩ := hm.lob
  subst hE hX
  exact (enter10 P x v t id ra W h1 hm.ok ht).mono fun e w' h => hm.mut h2 (enX_ok hm.ok ht id ra) h
theorem leaveM (P : Nat) (x x' : Lb) (id no : Int) (w W : World) (hm : Mine w W P x) (hE : leE x id = no) (hX : leX x id = x') : Calls Try.prog 18 #[.pointer (some ⟨P, 0, none⟩), .int .i64 id] W (MineAt w P x' (.returned (.int .i64 no))) := by
  obtain ⟨v, h1, h2⟩ := hm.lob
  subst hE hX
  exact (leave18 P x v id W h1 hm.ok).mono fun e w' h => hm.mut h2 (leX_ok hm.ok id) h
theorem matchesM (P : Nat) (x x' : Lb) (t : Int) (pv gv : Value) (ps : List (Int × Int)) (gs : List Int) (w W : World) (hm : Mine w W P x) (ht : U t) (hp : Rw dc 2 W pv ps) (hg : Rw ic 1 W gv gs) (hbP : ∀ b, pv.ownBlock = some b → b ≠ P) (hbG : ∀ b, gv.ownBlock = some b → b ≠ P) (h1 : mtP x t = ps) (h2 : mtG x t = gs) (hX : mtX x t = x') : Calls Try.prog 19 #[.pointer (some ⟨P, 0, none⟩), .int .u64 t, pv, gv, .int .i64 0] W (MineAt w P x' (.returned (.bool true))) := by
  obtain ⟨v, h3, h4⟩ := hm.lob
  subst hX
  exact (matches19 P x v t pv gv ps gs W h3 hm.ok ht hp hg hbP hbG h1 h2).mono fun e w' h => hm.mut h4 (mtX_ok hm.ok ht) h
theorem windowsM (P : Nat) (x : Lb) (id n no : Int) (w W : World) (hm : Mine w W P x) (hn : winN x id = n) (he : winE x id = no) : Calls Try.prog 20 #[.pointer (some ⟨P, 0, none⟩), .int .i64 id, .int .i64 n, .int .i64 no] W (MineAt w P x (.returned (.bool true))) := by
  obtain ⟨v, h3, h4⟩ := hm.lob
  exact (windows20 P x v id n no W h3 hm.ok hn he).mono fun e w' h => ⟨h.1, hm.below h.2⟩
theorem waitingM (P : Nat) (x : Lb) (ids : List Int) (w W : World) (hm : Mine w W P x) (h : x.l.map Pl.id = ids) : Calls Try.prog 12 #[.pointer (some ⟨P, 0, none⟩)] W fun e w' => ∃ v, e = .returned v ∧ Ow ic 1 3 w' W.heap.size v ids ∧ Mine w w' P x := by
  obtain ⟨v, h3, h4⟩ := hm.lob
  subst h
  exact (waiting12 P x v W h3 hm.ok.o0 hm.ok.len).mono fun e w' ⟨v, h1, h2, h3⟩ => ⟨v, h1, h2, hm.below h3⟩
theorem Rw.litI (w : World) (l : List Int) (cs : Array Value) (hne : l ≠ []) (h : cs.toList = l.flatMap ic) (hm : l.length ≤ maxLen) (n : Nat) (hn : n = l.length) : Rw ic 1 (w.alloc (.cells cs 3)) (.slice (some ⟨w.heap.size, 0, none⟩) n n) l := by
  subst hn
  exact (Ow.lit w 3 l cs h (fun _ _ => rfl) 0 (Nat.zero_le _) hm).rw (fun _ _ => rfl)
set_option maxRecDepth 100000 in
set_option maxHeartbeats 4000000 in
theorem known (w : World) : Calls Try.prog 8 #[] w fun e w' => e = .returned (.bool true) ∧ Below w.heap.size w w' := by
  go_enter Try.func8, Try.ntmps8
  go_wp2_with fail
  with_reducible refine (newM 50 10 30 w _ (Below.refl _ _) (by kernel_rfl)).mono ?_
  rintro e w0 ⟨P, rfl, hm, _⟩
  have HM := Lib.hid hm
  have hP0 := hm.lt
  clear hm
  go_wp2_with fail
  with_reducible refine (enterM P ⟨50, 10, 30, 0, []⟩ ⟨50, 10, 30, 0, [⟨1, 1000, 0⟩]⟩ 0 1 1000 0 w _ (HM.out.below (by go_grown)) (by unfold U; omega) (by kernel_rfl) (by kernel_rfl)).mono ?_
  rintro e w1 ⟨rfl, hm⟩
  have HM := Lib.hid hm
  clear hm
  have hP1 := HM.out.lt
  go_wp2_with fail
  with_reducible refine (enterM P ⟨50, 10, 30, 0, [⟨1, 1000, 0⟩]⟩ ⟨50, 10, 30, 0, [⟨1, 1000, 0⟩, ⟨2, 1100, 0⟩]⟩ 0 2 1100 0 w _ (HM.out.below (by go_grown)) (by unfold U; omega) (by kernel_rfl) (by kernel_rfl)).mono ?_
  rintro e w2 ⟨rfl, hm⟩
  have HM := Lib.hid hm
  clear hm
  have hP2 := HM.out.lt
  go_wp2_with fail
  with_reducible refine (enterM P ⟨50, 10, 30, 0, [⟨1, 1000, 0⟩, ⟨2, 1100, 0⟩]⟩ ⟨50, 10, 30, 2, [⟨1, 1000, 0⟩, ⟨2, 1100, 0⟩, ⟨3, 1060, 2⟩]⟩ 2 3 1060 0 w _ (HM.out.below (by go_grown)) (by unfold U; omega) (by kernel_rfl) (by kernel_rfl)).mono ?_
  rintro e w3 ⟨rfl, hm⟩
  have HM := Lib.hid hm
  clear hm
  have hP3 := HM.out.lt
  have hQ3 := HM.out.lt
  go_wp2_with fail
  with_reducible refine (matchesM P ⟨50, 10, 30, 2, [⟨1, 1000, 0⟩, ⟨2, 1100, 0⟩, ⟨3, 1060, 2⟩]⟩ ⟨50, 10, 30, 2, [⟨1, 1000, 0⟩]⟩ 2 _ _ [(2, 3)] [] w _ (HM.out.below (by go_grown)) (by unfold U; omega) (Rw.one2 (f := dc) (sz := 2) _ _ (2, 3) #[.int .i64 2, .int .i64 3] rfl _ _ (by simp)) (Rw.nil _) (fun b hb => by simp [Value.ownBlock] at hb <;> omega) (fun b hb => by simp [Value.ownBlock] at hb <;> omega) (by kernel_rfl) (by kernel_rfl) (by kernel_rfl)).mono ?_
  rintro e w4 ⟨rfl, hm⟩
  have HM := Lib.hid hm
  clear hm
  have hP4 := HM.out.lt
  go_wp2_with fail
  with_reducible refine (windowsM P ⟨50, 10, 30, 2, [⟨1, 1000, 0⟩]⟩ 1 70 0 w _ (HM.out.below (by go_grown)) (by kernel_rfl) (by kernel_rfl)).mono ?_
  rintro e w5 ⟨rfl, hm⟩
  have HM := Lib.hid hm
  clear hm
  go_wp2_with fail
  with_reducible refine (waitingM P ⟨50, 10, 30, 2, [⟨1, 1000, 0⟩]⟩ [1] w _ (HM.out.below (by go_grown)) rfl).mono ?_
  rintro e w6 ⟨v, rfl, hown, hm⟩
  have HM := Lib.hid hm
  have HO := Lib.hid hown
  have hsz : _ ≤ _ := hm.bel.size
  obtain ⟨av, cv, hv⟩ := hown.form
  simp only [List.length_cons, List.length_nil, Nat.zero_add] at hv
  subst hv
  clear hm hown hsz
  go_wp2_with fail
  with_reducible refine (ints22c _ _ [1] [1] _ ((HO.out.rw (fun _ _ => rfl)).below (by go_grown)) (Rw.litI (w6) [1] #[.int .i64 1] (by decide) rfl (by simp [maxLen]) 1 rfl) rfl).mono ?_
  rintro e w7 ⟨rfl, hb⟩
  replace HM := Lib.hid (HM.out.below (below_via ((Below.refl _ _).alloc (Nat.le_refl _) _) hb))
  clear HO
  go_wp2_with fail
  with_reducible refine (enterM P ⟨50, 10, 30, 2, [⟨1, 1000, 0⟩]⟩ ⟨50, 10, 30, 4, [⟨1, 1000, 0⟩, ⟨4, 1150, 4⟩]⟩ 4 4 1150 0 w _ (HM.out.below (by go_grown)) (by unfold U; omega) (by kernel_rfl) (by kernel_rfl)).mono ?_
  rintro e w8 ⟨rfl, hm⟩
  have HM := Lib.hid hm
  clear hm
  have hP8 := HM.out.lt
  have hQ8 := HM.out.lt
  go_wp2_with fail
  with_reducible refine (matchesM P ⟨50, 10, 30, 4, [⟨1, 1000, 0⟩, ⟨4, 1150, 4⟩]⟩ ⟨50, 10, 30, 9, [⟨1, 1000, 0⟩, ⟨4, 1150, 4⟩]⟩ 9 _ _ [] [] w _ (HM.out.below (by go_grown)) (by unfold U; omega) (Rw.nil _) (Rw.nil _) (fun b hb => by simp [Value.ownBlock] at hb <;> omega) (fun b hb => by simp [Value.ownBlock] at hb <;> omega) (by kernel_rfl) (by kernel_rfl) (by kernel_rfl)).mono ?_
  rintro e w9 ⟨rfl, hm⟩
  have HM := Lib.hid hm
  clear hm
  have hP9 := HM.out.lt
  have hQ9 := HM.out.lt
  go_wp2_with fail
  with_reducible refine (matchesM P ⟨50, 10, 30, 9, [⟨1, 1000, 0⟩, ⟨4, 1150, 4⟩]⟩ ⟨50, 10, 30, 12, [⟨1, 1000, 0⟩, ⟨4, 1150, 4⟩]⟩ 12 _ _ [] [] w _ (HM.out.below (by go_grown)) (by unfold U; omega) (Rw.nil _) (Rw.nil _) (fun b hb => by simp [Value.ownBlock] at hb <;> omega) (fun b hb => by simp [Value.ownBlock] at hb <;> omega) (by kernel_rfl) (by kernel_rfl) (by kernel_rfl)).mono ?_
  rintro e w10 ⟨rfl, hm⟩
  have HM := Lib.hid hm
  clear hm
  have hP10 := HM.out.lt
  go_wp2_with fail
  with_reducible refine (waitingM P ⟨50, 10, 30, 12, [⟨1, 1000, 0⟩, ⟨4, 1150, 4⟩]⟩ [1, 4] w _ (HM.out.below (by go_grown)) rfl).mono ?_
  rintro e w11 ⟨v, rfl, hown, hm⟩
  have HM := Lib.hid hm
  have HO := Lib.hid hown
  have hsz : _ ≤ _ := hm.bel.size
  obtain ⟨av, cv, hv⟩ := hown.form
  simp only [List.length_cons, List.length_nil, Nat.zero_add] at hv
  subst hv
  clear hm hown hsz
  go_wp2_with fail
  with_reducible refine (ints22c _ _ [1, 4] [1, 4] _ ((HO.out.rw (fun _ _ => rfl)).below (by go_grown)) (Rw.litI (w11) [1, 4] #[.int .i64 1, .int .i64 4] (by decide) rfl (by simp [maxLen]) 2 rfl) rfl).mono ?_
  rintro e w12 ⟨rfl, hb⟩
  replace HM := Lib.hid (HM.out.below (below_via ((Below.refl _ _).alloc (Nat.le_refl _) _) hb))
  clear HO
  have hQ12 := HM.out.lt
  go_wp2_with fail
  with_reducible refine (matchesM P ⟨50, 10, 30, 12, [⟨1, 1000, 0⟩, ⟨4, 1150, 4⟩]⟩ ⟨50, 10, 30, 14, []⟩ 14 _ _ [(1, 4)] [] w _ (HM.out.below (by go_grown)) (by unfold U; omega) (Rw.one2 (f := dc) (sz := 2) _ _ (1, 4) #[.int .i64 1, .int .i64 4] rfl _ _ (by simp)) (Rw.nil _) (fun b hb => by simp [Value.ownBlock] at hb <;> omega) (fun b hb => by simp [Value.ownBlock] at hb <;> omega) (by kernel_rfl) (by kernel_rfl) (by kernel_rfl)).mono ?_
  rintro e w13 ⟨rfl, hm⟩
  have HM := Lib.hid hm
  clear hm
  have hP13 := HM.out.lt
  go_wp2_with fail
  with_reducible refine (enterM P ⟨50, 10, 30, 14, []⟩ ⟨50, 10, 30, 14, [⟨5, 2000, 14⟩]⟩ 14 5 2000 0 w _ (HM.out.below (by go_grown)) (by unfold U; omega) (by kernel_rfl) (by kernel_rfl)).mono ?_
  rintro e w14 ⟨rfl, hm⟩
  have HM := Lib.hid hm
  clear hm
  have hP14 := HM.out.lt
  go_wp2_with fail
  with_reducible refine (enterM P ⟨50, 10, 30, 14, [⟨5, 2000, 14⟩]⟩ ⟨50, 10, 30, 14, [⟨5, 2000, 14⟩]⟩ 14 5 2000 11 w _ (HM.out.below (by go_grown)) (by unfold U; omega) (by kernel_rfl) (by kernel_rfl)).mono ?_
  rintro e w15 ⟨rfl, hm⟩
  have HM := Lib.hid hm
  clear hm
  have hP15 := HM.out.lt
  have hQ15 := HM.out.lt
  go_wp2_with fail
  with_reducible refine (matchesM P ⟨50, 10, 30, 14, [⟨5, 2000, 14⟩]⟩ ⟨50, 10, 30, 44, []⟩ 44 _ _ [] [5] w _ (HM.out.below (by go_grown)) (by unfold U; omega) (Rw.nil _) (Rw.one2 (f := ic) (sz := 1) _ _ 5 #[.int .i64 5] rfl _ _ (by simp)) (fun b hb => by simp [Value.ownBlock] at hb <;> omega) (fun b hb => by simp [Value.ownBlock] at hb <;> omega) (by kernel_rfl) (by kernel_rfl) (by kernel_rfl)).mono ?_
  rintro e w16 ⟨rfl, hm⟩
  have HM := Lib.hid hm
  clear hm
  have hP16 := HM.out.lt
  go_wp2_with fail
  with_reducible refine (waitingM P ⟨50, 10, 30, 44, []⟩ [] w _ (HM.out.below (by go_grown)) rfl).mono ?_
  rintro e w17 ⟨v, rfl, hown, hm⟩
  have HM := Lib.hid hm
  have HO := Lib.hid hown
  have hsz : _ ≤ _ := hm.bel.size
  obtain ⟨av, cv, hv⟩ := hown.form
  simp only [List.length_cons, List.length_nil, Nat.zero_add] at hv
  subst hv
  clear hm hown hsz
  go_wp2_with fail
  with_reducible refine (leaveM P ⟨50, 10, 30, 44, []⟩ ⟨50, 10, 30, 44, []⟩ 5 9 w _ (HM.out.below (by go_grown)) (by kernel_rfl) (by kernel_rfl)).mono ?_
  rintro e w18 ⟨rfl, hm⟩
  have HM := Lib.hid hm
  clear hm
  go_wp2_with fail
  go_returns
  exact ⟨rfl, HM.out.bel⟩

end Go.Proofs.Ytonaidjdkejoeaa
