/- A new board with the cards of two decks. -/
import Derived.Test.YteoeahmnonolmaaBPg
namespace Go.Proofs.Yteoeahmnonolmaa.Plain
set_option linter.unusedVariables false
/-- a new card in a match; the cards of a deck, from the i-th id on; so many ids from the i-th one on -/
def mkO (p : Int) (i : Nat) (c : Int) : Ob := ⟨((i + 1 : Nat) : Int), c, p, 0, 0, 0, 0, 0, 0, false, false, false⟩
def mkL (p : Int) : Nat → List Int → List Ob
  | _, [] => []
  | i, c :: l => mkO p i c :: mkL p (i + 1) l
def upL (i n : Nat) : List Int := (List.range n).map (fun j => ((i + j + 1 : Nat) : Int))
def emptyS (life : Int) (l : List Int) : Se := ⟨life, 0, 0, 0, 0, l, [], [], [], false, false, false, 0, 0⟩
/-- a board with the cards of two decks as libraries -/
def newB (life : Int) (d0 d1 : List Int) : Bd := ⟨mkL 0 0 d0 ++ mkL 1 d0.length d1, emptyS life (upL 0 d0.length), emptyS life (upL d0.length d1.length), [], [], [], [], 0, 0, 0, -1, 0⟩
theorem mkL_length (p : Int) (i : Nat) (l : List Int) : (mkL p i l).length = l.length := by
  induction l generalizing i with
  | nil => rfl
  | cons c l ih => simp [mkL, ih]
theorem mkL_get (p : Int) (i : Nat) (l : List Int) (k : Nat) : (mkL p i l)[k]? = (l[k]?).map (mkO p (i + k)) := by
  induction l generalizing i k with
  | nil => simp [mkL]
  | cons c l ih =>
    cases k with
    | zero => simp [mkL]
    | succ k =>
      simp only [mkL, List.getElem?_cons_succ]
      rw [ih, Nat.add_assoc, Nat.add_comm 1 k]
theorem mkL_snoc (p : Int) (i : Nat) (l : List Int) (c : Int) : mkL p i (l ++ [c]) = mkL p i l ++ [mkO p (i + l.length) c] := by
  induction l generalizing i with
  | nil => simp [mkL]
  | cons a l ih =>
    simp only [List.cons_append, mkL, List.length_cons]
    rw [ih, Nat.add_assoc, Nat.add_comm 1 l.length]
theorem upL_length (i n : Nat) : (upL i n).length = n := by simp [upL]
theorem upL_snoc (i n : Nat) : upL i (n + 1) = upL i n ++ [((i + n + 1 : Nat) : Int)] := by simp [upL, List.range_succ]
theorem upL_get (i n k : Nat) : (upL i n)[k]? = if k < n then some ((i + k + 1 : Nat) : Int) else none := by
  unfold upL
  rw [List.getElem?_map]
  by_cases h : k < n
  · rw [if_pos h, List.getElem?_range h]; rfl
  · rw [if_neg h, List.getElem?_eq_none (by simp; omega)]; rfl
theorem upL_mem {i n : Nat} {z : Int} : z ∈ upL i n ↔ ∃ j, j < n ∧ z = ((i + j + 1 : Nat) : Int) := by
  unfold upL
  rw [List.mem_map]
  exact ⟨fun ⟨j, h, e⟩ => ⟨j, List.mem_range.1 h, e.symm⟩, fun ⟨j, h, e⟩ => ⟨j, List.mem_range.2 h, e.symm⟩⟩
theorem upL_nodup (i n : Nat) : (upL i n).Nodup := by
  refine nodup_of (fun a b x hab ha hb => ?_)
  rw [upL_get] at ha hb
  split at ha <;> split at hb <;> simp at ha hb
  omega
theorem newB_ob (life : Int) (d0 d1 : List Int) (k : Nat) (o : Ob) (h : (newB life d0 d1).ob[k]? = some o) : k < d0.length + d1.length ∧ o.id = ((k + 1 : Nat) : Int) ∧ (o.cd ∈ d0 ∨ o.cd ∈ d1) ∧ o.po = 0 ∧ o.tg = 0 ∧ o.da = 0 ∧ o.co = 0 ∧ o.pp = 0 ∧ o.pt = 0 ∧ ((k < d0.length ∧ o.ow = 0) ∨ (d0.length ≤ k ∧ o.ow = 1)) := by
  have hk := (List.getElem?_eq_some_iff.1 h).1
  simp only [newB, List.length_append, mkL_length] at hk
  by_cases h0 : k < d0.length
  · simp only [newB] at h
    rw [List.getElem?_append_left (by rw [mkL_length]; exact h0), mkL_get, List.getElem?_eq_getElem h0] at h
    simp only [Option.map_some, Option.some.injEq] at h
    subst h
    exact ⟨hk, by simp [mkO], .inl (List.getElem_mem h0), rfl, rfl, rfl, rfl, rfl, rfl, .inl ⟨h0, rfl⟩⟩
  · simp only [newB] at h
    rw [List.getElem?_append_right (by rw [mkL_length]; omega), mkL_get, mkL_length, List.getElem?_eq_getElem (show k - d0.length < d1.length by omega)] at h
    simp only [Option.map_some, Option.some.injEq] at h
    subst h
    exact ⟨hk, by simp [mkO]; omega, .inr (List.getElem_mem _), rfl, rfl, rfl, rfl, rfl, rfl, .inr ⟨by omega, rfl⟩⟩
theorem newB_prs (life : Int) (d0 d1 : List Int) : (newB life d0 d1).prs = pr 0 (upL 0 d0.length) ++ pr 1 (upL d0.length d1.length) := by
  simp [Bd.prs, newB, emptyS, Se.all, cst]
theorem newB_valid {life : Int} {d0 d1 : List Int} (hl : 0 ≤ life ∧ life ≤ 9999) (h0 : ∀ c ∈ d0, 0 ≤ c ∧ c ≤ 399) (h1 : ∀ c ∈ d1, 0 ≤ c ∧ c ≤ 399) (hn : d0.length + d1.length ≤ 500) : VB (newB life d0 d1) := by
  have se : ∀ l, seB (emptyS life l) = true := fun l => by simp [seB, emptyS, poolB, hl.1, hl.2]
  have ob : ∀ i o, (newB life d0 d1).ob[i]? = some o → vO o = true ∧ rise (newB life d0 d1).ob i o ∧ (o.id, o.ow) ∈ (newB life d0 d1).prs ∧ ∀ x ∈ cst (newB life d0 d1).st, x.id = o.id → x.cd = o.cd := fun i o h => by
    obtain ⟨a1, a2, a3, a4, a5, a6, a7, a8, a9, a10⟩ := newB_ob life d0 d1 i o h
    have hc : 0 ≤ o.cd ∧ o.cd ≤ 399 := a3.elim (h0 _) (h1 _)
    refine ⟨?_, ?_, ?_, ?_⟩
    · simp only [vO, decide_eq_true_eq]
      refine ⟨by omega, by omega, by omega, by omega, by omega, by omega, by omega, by omega, by omega, by omega, by omega, by omega⟩
    · intro j q hj hq
      obtain ⟨_, b2, _⟩ := newB_ob life d0 d1 j q hq
      omega
    · rw [newB_prs, List.mem_append]
      rcases a10 with ⟨hk, ho⟩ | ⟨hk, ho⟩
      · exact .inl (List.mem_map.2 ⟨o.id, upL_mem.2 ⟨i, hk, by rw [a2]; simp⟩, by rw [ho]⟩)
      · exact .inr (List.mem_map.2 ⟨o.id, upL_mem.2 ⟨i - d0.length, by omega, by rw [a2]; omega⟩, by rw [ho]⟩)
    · intro x hx; simp [newB, cst] at hx
  refine ⟨?_, se _, se _, ?_, ⟨?_, ob, ?_⟩, ?_⟩
  · simp only [vNum, newB, List.length_append, mkL_length, List.length_nil]
    omega
  · exact ⟨by simp [newB], by simp [newB]⟩
  · rw [newB_prs]
    simp only [pr, List.map_append, List.map_map]
    have e : ∀ (p : Int) (l : List Int), l.map (Prod.fst ∘ fun i => (i, p)) = l := fun p l => by rw [show (Prod.fst ∘ fun i : Int => (i, p)) = id from rfl, List.map_id]
    rw [e, e]
    refine List.nodup_append.2 ⟨upL_nodup _ _, upL_nodup _ _, fun a ha b hb => ?_⟩
    obtain ⟨j, hj, rfl⟩ := upL_mem.1 ha
    obtain ⟨k, hk, rfl⟩ := upL_mem.1 hb
    omega
  · rw [newB_prs]
    simp [pr, upL_length, newB, mkL_length]
  · refine ⟨by simp [newB], by simp [newB], by simp [newB], by simp [newB], by simp [newB]⟩
/-- a board with these objects and libraries -/
def numB (l0 l1 : Int) (L : List Ob) (U0 U1 : List Int) : Bd := ⟨L, emptyS l0 U0, emptyS l1 U1, [], [], [], [], 0, 0, 0, -1, 0⟩
theorem np_ob0 {d0 : List Int} {i : Nat} {c : Int} (h : d0[i]? = some c) : mkL 0 0 (d0.take i) ++ [mkO 0 i c] = mkL 0 0 (d0.take (i + 1)) := by
  have hi := (List.getElem?_eq_some_iff.1 h).1
  rw [List.take_add_one, h]
  show _ = mkL 0 0 (d0.take i ++ [c])
  rw [mkL_snoc, List.length_take, Nat.min_eq_left (by omega), Nat.zero_add]
theorem np_ob1 (d0 : List Int) {d1 : List Int} {i : Nat} {c : Int} (h : d1[i]? = some c) : (mkL 0 0 d0 ++ mkL 1 d0.length (d1.take i)) ++ [mkO 1 (d0.length + i) c] = mkL 0 0 d0 ++ mkL 1 d0.length (d1.take (i + 1)) := by
  have hi := (List.getElem?_eq_some_iff.1 h).1
  rw [List.take_add_one, h]
  show _ = mkL 0 0 d0 ++ mkL 1 d0.length (d1.take i ++ [c])
  rw [mkL_snoc, List.length_take, Nat.min_eq_left (by omega), List.append_assoc]
end Go.Proofs.Yteoeahmnonolmaa.Plain
