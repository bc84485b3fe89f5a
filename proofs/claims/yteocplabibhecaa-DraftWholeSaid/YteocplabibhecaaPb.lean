/- The plain mathematics of a draft, second part. -/
import Derived.Test.YteocplabibhecaaPlain
namespace Go.Proofs.Yteocplabibhecaa.Plain
set_option linter.unusedVariables false
theorem inv_small {c : Nat} {d : Dr} (h : d.Inv c) : small d.rs = true := by
  unfold small
  simp only [Bool.and_eq_true, decide_eq_true_eq, List.all_eq_true]
  refine ⟨by have := h.r4; omega, fun r hr => ?_⟩
  unfold okS
  simp only [Bool.and_eq_true, decide_eq_true_eq, List.all_eq_true]
  have hn := h.row r hr
  have h8 := h.n8
  have hc := h.c15
  refine ⟨by omega, fun p hp => ?_⟩
  obtain ⟨i, hi⟩ := List.getElem?_of_mem hr
  obtain ⟨k, hk⟩ := List.getElem?_of_mem hp
  have hat := at2_of hi hk
  rcases Nat.lt_trichotomy i d.rd with h1 | h1 | h1
  · have := h.bef i k p h1 hat
    omega
  · subst h1
    have hkn : k < d.n := by rw [← hn]; exact (List.getElem?_eq_some_iff.1 hk).1
    obtain ⟨q, hq, he⟩ := front_surj (rd := d.rd) (tn := d.tn) h.n2 h8 hkn
    have h2 := h.now q hq (List.getElem?_eq_some_iff.1 hi).1
    have h3 : d.pk q = p := by unfold Dr.pk Dr.fr; rw [he, hat]; rfl
    rw [h3] at h2
    omega
  · have := h.aft i k p h1 hat
    omega
/-- the packs in front of the players -/
def Dr.fronts (d : Dr) : List (List Int) := (List.range d.n).map d.pk
/-- what the model has of packs: those in front, and those of the rounds to come -/
def Dr.live (d : Dr) : List (List (List Int)) := if d.over = true then [] else d.fronts :: d.rs.drop (d.rd + 1)
theorem fronts_at {d : Dr} {p : Nat} (hp : p < d.n) : d.fronts[p]? = some (d.pk p) := by
  unfold Dr.fronts
  rw [List.getElem?_map, List.getElem?_range hp]
  rfl
theorem fronts_len (d : Dr) : d.fronts.length = d.n := by simp [Dr.fronts]
theorem ask_neg (d : Dr) {p : Int} (h : p < 0 ∨ (d.n : Int) ≤ p) : d.ask p = [] ∧ d.askE p = 2 := by
  unfold Dr.ask Dr.askE
  rw [if_pos h, if_pos h]
  exact ⟨rfl, rfl⟩
theorem ask_in (d : Dr) {p : Nat} (h : p < d.n) : d.ask p = (if (d.over || d.mvd p) = true then [] else d.pk p) ∧ d.askE p = 0 := by
  have h0 : ¬ ((p : Int) < 0 ∨ (d.n : Int) ≤ (p : Int)) := by omega
  unfold Dr.ask Dr.askE
  rw [if_neg h0, if_neg h0, Int.toNat_natCast]
  exact ⟨rfl, rfl⟩
theorem tkn_in (d : Dr) {p : Nat} (h : p < d.n) : d.tkn p = d.tk.getD p [] := by
  unfold Dr.tkn
  rw [if_neg (by omega), Int.toNat_natCast]
theorem init_n {rs : List (List (List Int))} {r : List (List Int)} (h0 : rs[0]? = some r) : (Dr.init rs).n = r.length := by
  have : rs.getD 0 [] = r := getD_lt h0
  simp only [Dr.init, Dr.n, this, List.length_replicate]
theorem init_live {rs : List (List (List Int))} {r : List (List Int)} (h0 : rs[0]? = some r) (h2 : 2 ≤ r.length) : (Dr.init rs).live = rs := by
  have hn := init_n h0
  have h1 := (List.getElem?_eq_some_iff.1 h0).1
  have ho : (Dr.init rs).over = false := by
    unfold Dr.over Dr.init
    simp
    omega
  have hf : (Dr.init rs).fronts = r := by
    apply List.ext_getElem?
    intro i
    rcases Nat.lt_or_ge i r.length with h | h
    · rw [fronts_at (by rw [hn]; exact h)]
      have hfr : (Dr.init rs).fr i = i := by
        have h3 : front r.length 0 0 i = i := by
          unfold front
          rw [if_pos rfl, Nat.zero_mod, Nat.sub_zero, Nat.add_mod_right, Nat.mod_eq_of_lt h]
        have h4 : (Dr.init rs).fr i = front (Dr.init rs).n 0 0 i := rfl
        rw [h4, hn, h3]
      unfold Dr.pk
      rw [hfr]
      show some ((at2 rs 0 i).getD []) = _
      rw [at2_of h0 (List.getElem?_eq_getElem h), List.getElem?_eq_getElem h]
      rfl
    · rw [List.getElem?_eq_none (by rw [fronts_len, hn]; exact h), List.getElem?_eq_none h]
  unfold Dr.live
  rw [ho, hf]
  show r :: rs.drop 1 = rs
  cases rs with
  | nil => simp at h1
  | cons a l => simp at h0; rw [h0]; rfl
end Go.Proofs.Yteocplabibhecaa.Plain
