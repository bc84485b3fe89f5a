/- A stand as the model says. -/
import Derived.Test.YteoeahmnonolmaaSTp
namespace Go.Proofs.Yteoeahmnonolmaa.Plain
set_option linter.unusedVariables false
/-- the last board that is to be seen, or -1 -/
def Bst {α : Type} (D N : Int) (l : List (α × Int)) (b : Int) : Prop :=
  (b = -1 ∧ ∀ (i : Nat) x, l[i]? = some x → dueT D N x.2 = false) ∨ (∃ k : Nat, b = k ∧ (∃ x, l[k]? = some x ∧ dueT D N x.2 = true) ∧ ∀ (j : Nat) y, k < j → l[j]? = some y → dueT D N y.2 = false)
theorem Bst.nil {α : Type} (D N : Int) : Bst D N ([] : List (α × Int)) (-1) := .inl ⟨rfl, fun i x h => by simp at h⟩
theorem Bst.snoc_yes {α : Type} {D N : Int} {l : List (α × Int)} {k : Nat} {x : α × Int} (hx : l[k]? = some x) (hd : dueT D N x.2 = true) : Bst D N (l.take (k + 1)) k :=
  .inr ⟨k, rfl, ⟨x, by rw [List.getElem?_take_of_lt (by omega)]; exact hx, hd⟩, fun j y hj hy => by
    have := (List.getElem?_eq_some_iff.1 hy).1
    simp at this
    omega⟩
theorem Bst.snoc_no {α : Type} {D N : Int} {l : List (α × Int)} {k : Nat} {b : Int} {x : α × Int} (h : Bst D N (l.take k) b) (hx : l[k]? = some x) (hd : dueT D N x.2 = false) : Bst D N (l.take (k + 1)) b := by
  have e : l.take (k + 1) = l.take k ++ [x] := by rw [List.take_add_one, hx]; rfl
  have hk : (l.take k).length = k := by have := (List.getElem?_eq_some_iff.1 hx).1; simp; omega
  have last : ∀ (j : Nat) y, (l.take k ++ [x])[j]? = some y → (j < k ∧ (l.take k)[j]? = some y) ∨ y = x := fun j y hy => by
    by_cases hj : j < k
    · rw [List.getElem?_append_left (by omega)] at hy; exact .inl ⟨hj, hy⟩
    · rw [List.getElem?_append_right (by omega)] at hy
      have h1 : j - (l.take k).length = 0 := by have := (List.getElem?_eq_some_iff.1 hy).1; simp at this; omega
      rw [h1] at hy
      simp at hy
      exact .inr hy.symm
  rw [e]
  rcases h with ⟨rfl, h⟩ | ⟨i, rfl, ⟨y, hy, hyd⟩, h⟩
  · refine .inl ⟨rfl, fun j y hy => ?_⟩
    rcases last j y hy with ⟨_, h1⟩ | rfl
    · exact h j y h1
    · exact hd
  · have hi : i < k := by have := (List.getElem?_eq_some_iff.1 hy).1; omega
    refine .inr ⟨i, rfl, ⟨y, by rw [List.getElem?_append_left (by omega)]; exact hy, hyd⟩, fun j z hj hz => ?_⟩
    rcases last j z hz with ⟨_, h1⟩ | rfl
    · exact h j z hj h1
    · exact hd
theorem Bst.lt {α : Type} {D N : Int} {l : List (α × Int)} {b : Int} (h : Bst D N l b) : -1 ≤ b ∧ b < l.length := by
  rcases h with ⟨rfl, _⟩ | ⟨i, rfl, ⟨y, hy, _⟩, _⟩
  · omega
  · have := (List.getElem?_eq_some_iff.1 hy).1; omega
theorem Bst.uniq {α : Type} {D N : Int} {l : List (α × Int)} {b c : Int} (h : Bst D N l b) (g : Bst D N l c) : b = c := by
  rcases h with ⟨rfl, h⟩ | ⟨i, rfl, ⟨y, hy, hyd⟩, h⟩
  · rcases g with ⟨rfl, g⟩ | ⟨j, rfl, ⟨z, hz, hzd⟩, g⟩
    · rfl
    · rw [h j z hz] at hzd; cases hzd
  · rcases g with ⟨rfl, g⟩ | ⟨j, rfl, ⟨z, hz, hzd⟩, g⟩
    · rw [g i y hy] at hyd; cases hyd
    · rcases Nat.lt_trichotomy i j with h1 | h1 | h1
      · rw [h j z h1 hz] at hzd; cases hzd
      · rw [h1]
      · rw [g i y h1 hy] at hyd; cases hyd
theorem Bst.ex {α : Type} (D N : Int) (l : List (α × Int)) : ∃ b, Bst D N l b := by
  have : ∀ k, k ≤ l.length → ∃ b, Bst D N (l.take k) b := fun k => by
    induction k with
    | zero => exact fun _ => ⟨-1, Bst.nil _ _⟩
    | succ k ih =>
      intro hk
      obtain ⟨b, hb⟩ := ih (by omega)
      have hx := List.getElem?_eq_getElem (show k < l.length by omega)
      cases hd : dueT D N (l[k]).2
      · exact ⟨b, hb.snoc_no hx hd⟩
      · exact ⟨k, Bst.snoc_yes hx hd⟩
  have h := this l.length (Nat.le_refl _)
  rwa [List.take_length] at h
/-- times do not go back -/
def Srt {α : Type} (l : List (α × Int)) : Prop := ∀ (i j : Nat) x y, i ≤ j → l[i]? = some x → l[j]? = some y → x.2 ≤ y.2
theorem due_iff {D N a : Int} (ha : U a) (hd : U D) : dueT D N a = true ↔ a + D < 18446744073709551615 ∧ a + D ≤ N := by
  unfold dueT over addN U at *
  split
  · simp; omega
  · simp only [Bool.and_eq_true, bne_iff_ne, ne_eq, decide_eq_true_eq]; omega
theorem due_anti {D N a b : Int} (ha : U a) (hb : U b) (hd : U D) (hab : a ≤ b) (h : dueT D N b = true) : dueT D N a = true := by
  rw [due_iff hb hd] at h
  rw [due_iff ha hd]
  omega
theorem due_mono {D N M a : Int} (ha : U a) (hd : U D) (hNM : N ≤ M) (h : dueT D N a = true) : dueT D M a = true := by
  rw [due_iff ha hd] at h ⊢
  omega
/-- what is forgotten: all before the last one that is to be seen -/
theorem drp_drop {α : Type} {D N : Int} {l : List (α × Int)} (hs : Srt l) (hu : ∀ x ∈ l, U x.2) (hd : U D) {b : Int} (hb : Bst D N l b) : ∀ (n k : Nat), k + n = (max b 0).toNat → drp D N (l.drop k) = l.drop (max b 0).toNat
  | 0, k, h => by
    have hk : k = (max b 0).toNat := by omega
    rw [← hk]
    match e : l.drop k with
    | [] => rfl
    | [a] => rfl
    | a :: c :: r =>
      have hc : l[k + 1]? = some c := by
        have := congrArg (fun m => m[1]?) e
        simpa using this
      have : dueT D N c.2 = false := by
        rcases hb with ⟨rfl, hb⟩ | ⟨i, rfl, _, hb⟩
        · exact hb _ _ hc
        · exact hb _ _ (by omega) hc
      rw [drp, if_neg (by rw [this]; simp)]
  | n + 1, k, h => by
    have hlt := hb.lt
    rcases hb with ⟨rfl, hb⟩ | ⟨i, rfl, ⟨y, hy, hyd⟩, hb⟩
    · omega
    · have hi : (max (i : Int) 0).toNat = i := by omega
      rw [hi] at h ⊢
      have hil : i < l.length := (List.getElem?_eq_some_iff.1 hy).1
      have e1 : l.drop k = l[k] :: l.drop (k + 1) := List.drop_eq_getElem_cons (by omega)
      have e2 : l.drop (k + 1) = l[k + 1] :: l.drop (k + 1 + 1) := List.drop_eq_getElem_cons (by omega)
      have hdue : dueT D N (l[k + 1]).2 = true := due_anti (hu _ (List.getElem_mem _)) (hu _ (List.mem_of_getElem? hy)) hd (hs (k + 1) i _ _ (by omega) (List.getElem?_eq_getElem (by omega)) hy) hyd
      have ih := drp_drop hs hu hd (b := (i : Int)) (N := N) (.inr ⟨i, rfl, ⟨y, hy, hyd⟩, hb⟩) n (k + 1) (by rw [hi]; omega)
      rw [hi] at ih
      rw [e1, e2, drp, if_pos hdue, ← e2]
      exact ih
/-- a stand is as the model says -/
structure Mdl {α : Type} (s : Sd) (f : α → Pu) (D N : Int) (L : List (α × Int)) : Prop where
  dl : s.dl = D
  nw : s.nw = N
  ud : U D
  un : U N
  srt : Srt L
  us : ∀ x ∈ L, U x.2 ∧ x.2 ≤ N
  l : ∃ b, Bst D N L b ∧ s.l = (L.drop (max b 0).toNat).map (fun x => (f x.1, x.2))
theorem drp_map {α : Type} (f : α → Pu) (D N : Int) : ∀ l : List (α × Int), drp D N (l.map (fun x => (f x.1, x.2))) = (drp D N l).map (fun x => (f x.1, x.2))
  | [] => rfl
  | [a] => rfl
  | a :: b :: l => by
    simp only [List.map_cons]
    rw [drp, drp]
    have ih := drp_map f D N (b :: l)
    simp only [List.map_cons] at ih
    split
    · rename_i h; exact ih
    · rename_i h; simp
theorem Mdl.new {α : Type} (f : α → Pu) {D : Int} (hd : U D) : Mdl ⟨D, 0, []⟩ f D 0 ([] : List (α × Int)) :=
  ⟨rfl, rfl, hd, by unfold U; omega, fun i j x y _ h => by simp at h, by simp, -1, Bst.nil _ _, rfl⟩
theorem bst_mono {α : Type} {D N M : Int} {L : List (α × Int)} {b c : Int} (hu : ∀ x ∈ L, U x.2) (hd : U D) (hNM : N ≤ M) (h : Bst D N L b) (g : Bst D M L c) : b ≤ c := by
  have hl := g.lt
  rcases h with ⟨rfl, h⟩ | ⟨i, rfl, ⟨y, hy, hyd⟩, h⟩
  · omega
  · have hyM := due_mono (hu _ (List.mem_of_getElem? hy)) hd hNM hyd
    rcases g with ⟨rfl, g⟩ | ⟨j, rfl, ⟨z, hz, hzd⟩, g⟩
    · rw [g i y hy] at hyM; cases hyM
    · rcases Nat.lt_or_ge j i with h1 | h1
      · rw [g i y h1 hy] at hyM; cases hyM
      · omega
theorem U.max {a b : Int} (ha : U a) (hb : U b) : U (max a b) := by unfold U at *; omega
theorem Mdl.go {α : Type} {s : Sd} {f : α → Pu} {D N : Int} {L : List (α × Int)} (h : Mdl s f D N L) {t : Int} (ht : U t) : Mdl (s.go t) f D (max N t) L := by
  obtain ⟨b, hb, hl⟩ := h.l
  obtain ⟨c, hc⟩ := Bst.ex D (max N t) L
  have hu : ∀ x ∈ L, U x.2 := fun x hx => (h.us x hx).1
  have hbc := bst_mono hu h.ud (Int.le_max_left N t) hb hc
  refine ⟨h.dl, by show max s.nw t = _; rw [h.nw], h.ud, U.max h.un ht, h.srt, fun x hx => ⟨hu x hx, by have := (h.us x hx).2; omega⟩, c, hc, ?_⟩
  show drp s.dl (max s.nw t) s.l = _
  rw [h.dl, h.nw, hl, drp_map, drp_drop h.srt hu h.ud hc ((max c 0).toNat - (max b 0).toNat) _ (by omega)]
theorem Srt.snoc {α : Type} {L : List (α × Int)} (h : Srt L) {x : α × Int} (hx : ∀ y ∈ L, y.2 ≤ x.2) : Srt (L ++ [x]) := fun i j y z hij hy hz => by
  have last : ∀ (j : Nat) y, (L ++ [x])[j]? = some y → (j < L.length ∧ L[j]? = some y) ∨ (L.length ≤ j ∧ y = x) := fun j y hy => by
    by_cases hj : j < L.length
    · rw [List.getElem?_append_left hj] at hy; exact .inl ⟨hj, hy⟩
    · rw [List.getElem?_append_right (by omega)] at hy
      have h1 : j - L.length = 0 := by have := (List.getElem?_eq_some_iff.1 hy).1; simp at this; omega
      rw [h1] at hy
      simp at hy
      exact .inr ⟨by omega, hy.symm⟩
  rcases last i y hy with ⟨h1, h2⟩ | ⟨h1, rfl⟩
  · rcases last j z hz with ⟨h3, h4⟩ | ⟨h3, rfl⟩
    · exact h i j y z hij h2 h4
    · exact hx _ (List.mem_of_getElem? h2)
  · rcases last j z hz with ⟨h3, h4⟩ | ⟨h3, rfl⟩
    · omega
    · exact Int.le_refl _
/-- a board is shown -/
theorem Mdl.app {α : Type} {s : Sd} {f : α → Pu} {D N : Int} {L : List (α × Int)} (h : Mdl s f D N L) (x : α) : ∃ s' : Sd, s' = Sd.go { s with l := s.l ++ [(f x, s.nw)] } N ∧ Mdl s' f D N (L ++ [(x, N)]) := by
  refine ⟨_, rfl, ?_⟩
  obtain ⟨b, hb, hl⟩ := h.l
  have hs : Srt (L ++ [(x, N)]) := h.srt.snoc (fun y hy => (h.us y hy).2)
  have hu : ∀ y ∈ L ++ [(x, N)], U y.2 ∧ y.2 ≤ N := fun y hy => by
    rcases List.mem_append.1 hy with h1 | h1
    · exact h.us y h1
    · simp at h1; subst h1; exact ⟨h.un, Int.le_refl _⟩
  obtain ⟨c, hc⟩ := Bst.ex D N (L ++ [(x, N)])
  have hlt := hb.lt
  have hbc : b ≤ c := by
    rcases hb with ⟨rfl, hb⟩ | ⟨i, rfl, ⟨y, hy, hyd⟩, hb⟩
    · exact hc.lt.1
    · have hil := (List.getElem?_eq_some_iff.1 hy).1
      have hy2 : (L ++ [(x, N)])[i]? = some y := by rw [List.getElem?_append_left hil]; exact hy
      rcases hc with ⟨rfl, hc⟩ | ⟨j, rfl, _, hc⟩
      · rw [hc i y hy2] at hyd; cases hyd
      · rcases Nat.lt_or_ge j i with h1 | h1
        · rw [hc i y h1 hy2] at hyd; cases hyd
        · omega
  refine ⟨h.dl, by show max s.nw N = _; rw [h.nw]; omega, h.ud, h.un, hs, hu, c, hc, ?_⟩
  show drp s.dl (max s.nw N) (s.l ++ [(f x, s.nw)]) = _
  have e : s.l ++ [(f x, s.nw)] = ((L ++ [(x, N)]).drop (max b 0).toNat).map (fun x => (f x.1, x.2)) := by
    rw [hl, List.drop_append_of_le_length (by omega), List.map_append, h.nw]
    rfl
  rw [e, h.dl, h.nw, Int.max_self, drp_map, drp_drop hs (fun y hy => (hu y hy).1) h.ud hc ((max c 0).toNat - (max b 0).toNat) _ (by omega)]
theorem Mdl.shw {α : Type} {s : Sd} {f : α → Pu} {D N : Int} {L : List (α × Int)} (h : Mdl s f D N L) {t : Int} (ht : U t) (x : α) : Mdl (Sd.go { s.go t with l := (s.go t).l ++ [(f x, (s.go t).nw)] } t) f D (max N t) (L ++ [(x, max N t)]) := by
  have h1 := h.go ht
  obtain ⟨s', e, h2⟩ := h1.app x
  have e2 : Sd.go { s.go t with l := (s.go t).l ++ [(f x, (s.go t).nw)] } (max N t) = Sd.go { s.go t with l := (s.go t).l ++ [(f x, (s.go t).nw)] } t := by
    have hn : (s.go t).nw = max N t := h1.nw
    unfold Sd.go at hn ⊢
    simp only at hn ⊢
    rw [hn]
    have : max (max N t) (max N t) = max (max N t) t := by omega
    rw [this]
  rw [← e2, ← e]
  exact h2
theorem Mdl.go_same {α : Type} {s : Sd} {f : α → Pu} {D N : Int} {L : List (α × Int)} (h : Mdl s f D N L) {t : Int} (ht : U t) (htn : t ≤ N) : Mdl (s.go t) f D N L := by
  have := h.go ht
  rwa [show max N t = N by omega] at this
/-- how many are kept -/
theorem Mdl.len {α : Type} {s : Sd} {f : α → Pu} {D N : Int} {L : List (α × Int)} (h : Mdl s f D N L) {b : Int} (hb : Bst D N L b) : (s.l.length : Int) = L.length - max 0 b := by
  obtain ⟨c, hc, hl⟩ := h.l
  have := hb.uniq hc
  subst this
  have := hb.lt
  rw [hl, List.length_map, List.length_drop]
  omega
theorem Mdl.len_le {α : Type} {s : Sd} {f : α → Pu} {D N : Int} {L : List (α × Int)} (h : Mdl s f D N L) : s.l.length ≤ L.length := by
  obtain ⟨c, hc, hl⟩ := h.l
  rw [hl, List.length_map, List.length_drop]
  omega
/-- nothing is to be seen -/
theorem Mdl.no {α : Type} {s : Sd} {f : α → Pu} {D N : Int} {L : List (α × Int)} (h : Mdl s f D N L) (hb : Bst D N L (-1)) : s.l = [] ∨ ∃ x xs, s.l = x :: xs ∧ dueT D N x.2 = false := by
  obtain ⟨c, hc, hl⟩ := h.l
  have := hb.uniq hc
  subst this
  cases L with
  | nil => exact Or.inl (by rw [hl]; simp)
  | cons x xs =>
    refine Or.inr ⟨(f x.1, x.2), xs.map (fun x => (f x.1, x.2)), (by rw [hl]; rfl), ?_⟩
    rcases hb with ⟨_, hb⟩ | ⟨i, e, _⟩
    · exact hb 0 x rfl
    · omega
/-- what is to be seen -/
theorem Mdl.yes {α : Type} {s : Sd} {f : α → Pu} {D N : Int} {L : List (α × Int)} (h : Mdl s f D N L) {k : Nat} (hb : Bst D N L (k : Int)) : ∃ x xs, L[k]? = some x ∧ s.l = (f x.1, x.2) :: xs ∧ dueT D N x.2 = true := by
  obtain ⟨c, hc, hl⟩ := h.l
  have := hb.uniq hc
  subst this
  rcases hb with ⟨e, hb⟩ | ⟨i, e, ⟨y, hy, hyd⟩, _⟩
  · omega
  · have : i = k := by omega
    subst this
    have hil := (List.getElem?_eq_some_iff.1 hy).1
    refine ⟨y, (L.drop (i + 1)).map (fun x => (f x.1, x.2)), hy, ?_, hyd⟩
    rw [hl, show (max (i : Int) 0).toNat = i by omega, List.drop_eq_getElem_cons hil, (List.getElem?_eq_some_iff.1 hy).2]
    rfl
end Go.Proofs.Yteoeahmnonolmaa.Plain
