/- The plain mathematics of a lobby: no pair left over that fits. -/
import Derived.Test.YtonaidjdkejoeaaPlD
set_option linter.unusedVariables false
namespace Go.Proofs.Ytonaidjdkejoeaa.Plain
/-- the ids of pairs -/
def fp (ps : List (Int × Int)) : List Int := ps.flatMap (fun p => [p.1, p.2])
theorem erase_perm {α : Type} {l : List α} {i : Nat} {a : α} (h : l[i]? = some a) : (a :: l.eraseIdx i).Perm l := by
  have hi := (List.getElem?_eq_some_iff.1 h).1
  have e := (List.getElem?_eq_some_iff.1 h).2
  clear e
  induction l generalizing i with
  | nil => simp at hi
  | cons b l ih =>
    cases i with
    | zero =>
      simp at h
      subst h
      simp
    | succ i =>
      simp only [List.eraseIdx_cons_succ]
      exact (List.Perm.swap b a _).trans (List.Perm.cons b (ih (by simpa using h) (by simpa using hi)))
theorem mtc_perm (z : Lb) : ∀ j, j ≤ z.l.length → (fp (mtc z j).2 ++ (lft z.l (mtc z j).1 z.l.length).map Pl.id).Perm (z.l.map Pl.id)
  | 0, _ => by
    unfold mtc
    simp only
    rw [lft_none _ _ (Nat.le_refl _), List.take_length]
    simp [fp]
  | j + 1, h => by
    have ih := mtc_perm z j (by omega)
    obtain ⟨_, h1 | h1 | h1⟩ := mtc_case z (j := j) (by omega)
    · rw [h1.2]; exact ih
    · rw [h1.2.2]; exact ih
    · obtain ⟨m, p, q, h2, h3, h4, h5, h6, h7, h8, h9, h10⟩ := h1
      have hlt := mtc_later (by omega) h2 h5 h6 h7 h8 h9
      have hk := mtc_lft (mt_len z j) hlt h4 h2 h6
      rw [h10]
      simp only
      rw [hk.1]
      have a1 := lft_at (mt_len z j) h7 h2
      have a2 := lft_at (mt_len z j) h8 h6
      have p1 := erase_perm a2
      have a3 : ((lft z.l (mtc z j).1 z.l.length).eraseIdx (rk (mtc z j).1 m))[rk (mtc z j).1 j]? = some p := by
        rw [List.getElem?_eraseIdx, if_pos hk.2.2]
        exact a1
      have p2 := erase_perm a3
      have p3 : (p :: q :: ((lft z.l (mtc z j).1 z.l.length).eraseIdx (rk (mtc z j).1 m)).eraseIdx (rk (mtc z j).1 j)).Perm (lft z.l (mtc z j).1 z.l.length) :=
        (List.Perm.swap q p _).trans ((List.Perm.cons q p2).trans p1)
      have p4 := p3.map Pl.id
      refine List.Perm.trans ?_ ((List.Perm.append_left (fp (mtc z j).2) p4).trans ih)
      unfold fp
      simp
theorem match_perm (x : Lb) (t : Int) : (fp (mtP x t) ++ mtG x t ++ (mtX x t).l.map Pl.id).Perm (x.l.map Pl.id) := by
  have h1 := mtc_perm (x.at t).stay _ (Nat.le_refl _)
  have h2 := (List.filter_append_perm (fun p => gvn x.to (x.at t).now p) x.l).map Pl.id
  rw [List.map_append] at h2
  refine List.Perm.trans ?_ h2
  have e : (mtX x t).l.map Pl.id = (lft (x.at t).stay.l (mtc (x.at t).stay (x.at t).stay.l.length).1 (x.at t).stay.l.length).map Pl.id := rfl
  rw [e]
  have h3 : (fp (mtP x t) ++ mtG x t ++ (lft (x.at t).stay.l (mtc (x.at t).stay (x.at t).stay.l.length).1 (x.at t).stay.l.length).map Pl.id).Perm (mtG x t ++ (fp (mtP x t) ++ (lft (x.at t).stay.l (mtc (x.at t).stay (x.at t).stay.l.length).1 (x.at t).stay.l.length).map Pl.id)) := by
    rw [List.append_assoc]
    exact List.perm_append_comm_assoc _ _ _
  exact h3.trans (List.Perm.append_left _ h1)
theorem lft_inv {l : List Pl} {tk : List Bool} (hl : tk.length = l.length) : ∀ n, n ≤ l.length → ∀ i p, (lft l tk n)[i]? = some p → ∃ a, l[a]? = some p ∧ tk[a]? = some false ∧ rk tk a = i
  | 0, _, i, p, h => by simp [lft] at h
  | n + 1, hn, i, p, h => by
    have hp : l[n]? = some l[n] := List.getElem?_eq_getElem (by omega)
    have hb : tk[n]? = some (tk[n]'(by omega)) := List.getElem?_eq_getElem (by omega)
    rw [lft_next hp hb] at h
    have e := lft_length hl n (by omega)
    rcases Nat.lt_or_ge i (lft l tk n).length with h1 | h1
    · rw [List.getElem?_append_left h1] at h
      exact lft_inv hl n (by omega) i p h
    · rw [List.getElem?_append_right h1] at h
      cases hv : tk[n]'(by omega) with
      | true => rw [hv] at h; simp at h
      | false =>
        rw [hv] at h hb
        have hi : i - (lft l tk n).length = 0 := by
          have := (List.getElem?_eq_some_iff.1 h).1
          simp at this
          omega
        rw [hi] at h
        simp at h
        exact ⟨n, by rw [hp, h], hb, by omega⟩
/-- no two who are left fit -/
theorem left_nofit (x : Lb) (t : Int) {i k : Nat} {p q : Pl} (hi : (mtX x t).l[i]? = some p) (hk : (mtX x t).l[k]? = some q) (hne : i ≠ k) : fit (mtX x t) p q = false := by
  obtain ⟨a, h1, h2, h3⟩ := lft_inv (mt_len (x.at t).stay _) _ (Nat.le_refl _) i p hi
  obtain ⟨b, g1, g2, g3⟩ := lft_inv (mt_len (x.at t).stay _) _ (Nat.le_refl _) k q hk
  have ha := (List.getElem?_eq_some_iff.1 h1).1
  have hb := (List.getElem?_eq_some_iff.1 g1).1
  have h := mtc_inv (x.at t).stay _ (Nat.le_refl _) a b ha hb h2 g2 (by intro e; subst e; omega)
  rw [getD_of h1, getD_of g1] at h
  exact h
theorem wnd_mono {ba st a b si : Int} (h0 : 0 ≤ st) (h : a ≤ b) : wnd ba st a si ≤ wnd ba st b si := by
  unfold wnd
  have h1 : since a si ≤ since b si := by unfold since; omega
  have h2 : st * min (since a si) 4000 ≤ st * min (since b si) 4000 := Int.mul_le_mul_of_nonneg_left (by omega) h0
  omega
theorem mtX_mem {x : Lb} {t : Int} {p : Pl} (h : p ∈ (mtX x t).l) : p ∈ x.l ∧ gvn x.to (max x.now t) p = false := by
  have h1 := mem_lft h
  have h2 := List.mem_filter.1 h1
  refine ⟨h2.1, ?_⟩
  have h3 := h2.2
  simp only [Bool.not_eq_true'] at h3
  exact h3
end Go.Proofs.Ytonaidjdkejoeaa.Plain
