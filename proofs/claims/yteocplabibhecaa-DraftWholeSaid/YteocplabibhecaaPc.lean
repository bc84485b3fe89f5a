/- The plain mathematics of a draft, third part. -/
import Derived.Test.YteocplabibhecaaPb
namespace Go.Proofs.Yteocplabibhecaa.Plain
set_option linter.unusedVariables false
theorem front_next {n rd tn i : Nat} (h2 : 2 ≤ n) (h8 : n ≤ 8) (hi : i < n) : (rd % 2 = 0 → front n rd (tn + 1) ((i + 1) % n) = front n rd tn i) ∧ (rd % 2 = 1 → front n rd (tn + 1) ((i + n - 1) % n) = front n rd tn i) := by
  unfold front
  have : n = 2 ∨ n = 3 ∨ n = 4 ∨ n = 5 ∨ n = 6 ∨ n = 7 ∨ n = 8 := by omega
  constructor
  · intro h
    rw [if_pos h, if_pos h]
    rcases this with rfl | rfl | rfl | rfl | rfl | rfl | rfl <;> omega
  · intro h
    rw [if_neg (by omega), if_neg (by omega)]
    rcases this with rfl | rfl | rfl | rfl | rfl | rfl | rfl <;> omega
/-- where the pack of player i goes at the end of a turn -/
def to' (n rd i : Nat) : Nat := if rd % 2 = 0 then (i + 1) % n else (i + n - 1) % n
theorem to_lt {n rd i : Nat} (h2 : 2 ≤ n) : to' n rd i < n := by
  unfold to'
  split <;> exact Nat.mod_lt _ (by omega)
theorem to_inj {n rd i j : Nat} (h2 : 2 ≤ n) (h8 : n ≤ 8) (hi : i < n) (hj : j < n) (h : to' n rd i = to' n rd j) : i = j := by
  unfold to' at h
  have : n = 2 ∨ n = 3 ∨ n = 4 ∨ n = 5 ∨ n = 6 ∨ n = 7 ∨ n = 8 := by omega
  rcases this with rfl | rfl | rfl | rfl | rfl | rfl | rfl <;> (split at h <;> omega)
theorem to_surj {n rd k : Nat} (h2 : 2 ≤ n) (h8 : n ≤ 8) (hk : k < n) : ∃ i, i < n ∧ to' n rd i = k := by
  refine ⟨if rd % 2 = 0 then (k + n - 1) % n else (k + 1) % n, ?_, ?_⟩
  · split <;> exact Nat.mod_lt _ (by omega)
  · unfold to'
    have : n = 2 ∨ n = 3 ∨ n = 4 ∨ n = 5 ∨ n = 6 ∨ n = 7 ∨ n = 8 := by omega
    rcases this with rfl | rfl | rfl | rfl | rfl | rfl | rfl <;> (split <;> omega)
/-- the packs after a turn -/
theorem next_pk {x : Dr} (h2 : 2 ≤ x.n) (h8 : x.n ≤ 8) (mv : List Bool) {i : Nat} (hi : i < x.n) : Dr.pk ⟨x.rs, x.tk, mv, x.rd, x.tn + 1⟩ (to' x.n x.rd i) = x.pk i := by
  have hf := front_next (rd := x.rd) (tn := x.tn) h2 h8 hi
  have e : Dr.fr ⟨x.rs, x.tk, mv, x.rd, x.tn + 1⟩ (to' x.n x.rd i) = x.fr i := by
    show front x.n x.rd (x.tn + 1) (to' x.n x.rd i) = front x.n x.rd x.tn i
    unfold to'
    split
    · rename_i h; exact hf.1 h
    · rename_i h; exact hf.2 (by omega)
  unfold Dr.pk
  rw [e]
theorem put_pk {c : Nat} {d : Dr} (h : d.Inv c) (hr : d.rd < d.rs.length) {p q : Nat} (hp : p < d.n) (hq : q < d.n) (l : List Int) (tk : List (List Int)) (mv : List Bool) (htk : tk.length = d.n) : Dr.pk ⟨set2 d.rs d.rd (d.fr p) l, tk, mv, d.rd, d.tn⟩ q = if p = q then l else d.pk q := by
  have hat := h.pk_at hr p
  have hf : Dr.fr ⟨set2 d.rs d.rd (d.fr p) l, tk, mv, d.rd, d.tn⟩ q = d.fr q := by
    show front tk.length d.rd d.tn q = front d.n d.rd d.tn q
    rw [htk]
  unfold Dr.pk
  rw [hf]
  split
  · rename_i e
    subst e
    rw [at2_set2_self hat]
    rfl
  · rename_i e
    rw [at2_set2_ne]
    intro e2
    exact e (front_inj h.n2 h.n8 hp hq (by have := congrArg Prod.snd e2; exact this))
theorem put_live {c : Nat} {d : Dr} (h : d.Inv c) (hr : d.rd < d.rs.length) {p : Nat} (hp : p < d.n) (l : List Int) (tk : List (List Int)) (mv : List Bool) (htk : tk.length = d.n) : Dr.live ⟨set2 d.rs d.rd (d.fr p) l, tk, mv, d.rd, d.tn⟩ = set2 d.live 0 p l := by
  have ho : d.over = false := by unfold Dr.over; simp; omega
  have ho' : Dr.over ⟨set2 d.rs d.rd (d.fr p) l, tk, mv, d.rd, d.tn⟩ = false := by
    show (d.rd == (set2 d.rs d.rd (d.fr p) l).length) = false
    rw [set2_length]
    simp
    omega
  have hf : Dr.fronts ⟨set2 d.rs d.rd (d.fr p) l, tk, mv, d.rd, d.tn⟩ = d.fronts.set p l := by
    apply List.ext_getElem?
    intro i
    rcases Nat.lt_or_ge i d.n with hi | hi
    · rw [fronts_at (show i < tk.length by omega), put_pk h hr hp hi l tk mv htk, List.getElem?_set]
      split
      · rw [if_pos (by rw [fronts_len]; exact hp)]
      · rw [fronts_at hi]
    · rw [List.getElem?_eq_none (by rw [fronts_len]; show tk.length ≤ i; omega), List.getElem?_eq_none (by rw [List.length_set, fronts_len]; exact hi)]
  unfold Dr.live
  rw [ho, ho', hf]
  have hd : (set2 d.rs d.rd (d.fr p) l).drop (d.rd + 1) = d.rs.drop (d.rd + 1) := by
    apply List.ext_getElem?
    intro i
    rw [List.getElem?_drop, List.getElem?_drop, set2_row, if_neg (by omega)]
  show d.fronts.set p l :: (set2 d.rs d.rd (d.fr p) l).drop (d.rd + 1) = _
  rw [hd]
  rfl
/-- all packs of a round have the same size when everybody has taken -/
theorem full_len {c : Nat} {x : Dr} (h : x.Mid c) (hf : x.full = true) {k : Nat} {l : List Int} (hl : at2 x.rs x.rd k = some l) : l.length + x.tn + 1 = c := by
  have hk : k < x.n := by
    obtain ⟨r, hr, hk⟩ := at2_row hl
    have := (List.getElem?_eq_some_iff.1 hk).1
    rw [h.row r (List.mem_of_getElem? hr)] at this
    exact this
  obtain ⟨p, hp, he⟩ := front_surj (rd := x.rd) (tn := x.tn) h.n2 h.n8 hk
  have h1 := h.now p hp
  rw [(full_iff h).1 hf p hp] at h1
  have h2 : x.pk p = l := by unfold Dr.pk Dr.fr; rw [he, hl]; rfl
  rw [h2] at h1
  simpa using h1
/-- the packs of the next round -/
theorem round_live {x : Dr} {c : Nat} (h : x.Mid c) (mv : List Bool) (hn : x.rd + 1 < x.rs.length) : Dr.live ⟨x.rs, x.tk, mv, x.rd + 1, 0⟩ = x.rs.drop (x.rd + 1) := by
  have ho : Dr.over ⟨x.rs, x.tk, mv, x.rd + 1, 0⟩ = false := by
    show (x.rd + 1 == x.rs.length) = false
    simp
    omega
  have hr := List.getElem?_eq_getElem hn
  have hrl := h.row _ (List.getElem_mem hn)
  have hf : Dr.fronts ⟨x.rs, x.tk, mv, x.rd + 1, 0⟩ = x.rs[x.rd + 1] := by
    apply List.ext_getElem?
    intro i
    rcases Nat.lt_or_ge i x.n with hi | hi
    · have h9 : i < Dr.n ⟨x.rs, x.tk, mv, x.rd + 1, 0⟩ := hi
      rw [fronts_at h9]
      have hfr : Dr.fr ⟨x.rs, x.tk, mv, x.rd + 1, 0⟩ i = i := by
        show front x.n (x.rd + 1) 0 i = i
        unfold front
        split
        · rw [Nat.zero_mod, Nat.sub_zero, Nat.add_mod_right, Nat.mod_eq_of_lt hi]
        · rw [Nat.add_zero, Nat.mod_eq_of_lt hi]
      unfold Dr.pk
      rw [hfr]
      show some ((at2 x.rs (x.rd + 1) i).getD []) = _
      have h3 : i < (x.rs[x.rd + 1]).length := by rw [hrl]; exact hi
      rw [at2_of hr (List.getElem?_eq_getElem h3), List.getElem?_eq_getElem h3]
      rfl
    · rw [List.getElem?_eq_none (by rw [fronts_len]; exact hi), List.getElem?_eq_none (by rw [hrl]; exact hi)]
  unfold Dr.live
  rw [ho, hf]
  show x.rs[x.rd + 1] :: x.rs.drop (x.rd + 1 + 1) = x.rs.drop (x.rd + 1)
  rw [List.drop_eq_getElem_cons hn]
end Go.Proofs.Yteocplabibhecaa.Plain
