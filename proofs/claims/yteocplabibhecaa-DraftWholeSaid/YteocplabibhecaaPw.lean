/- The plain mathematics of a draft: a turn in any order. -/
import Derived.Test.YteocplabibhecaaPe
namespace Go.Proofs.Yteocplabibhecaa.Plain
set_option linter.unusedVariables false
/-- the end of a turn -/
theorem fin_next {c : Nat} {x : Dr} (hmd : x.Mid c) (hf : x.full = true) : x.fin.rd * c + x.fin.tn = x.rd * c + x.tn + 1 ∧ (∀ p, x.fin.mvd p = false) ∧ x.fin.n = x.n ∧ x.fin.rs.length = x.rs.length := by
  have hr := List.getElem?_eq_getElem hmd.rd
  have h0 : 0 < (x.rs[x.rd]'hmd.rd).length := by rw [hmd.row _ (List.getElem_mem hmd.rd)]; have := hmd.n2; omega
  have hat := at2_of hr (List.getElem?_eq_getElem h0)
  have hfl := full_len' hmd hf hat
  have rep : ∀ n p, (List.replicate n false).getD p false = false := by
    intro n p
    simp only [List.getD_eq_getElem?_getD, List.getElem?_replicate]
    split <;> rfl
  unfold Dr.fin
  rw [if_pos hf, hat, Option.getD_some]
  split
  · rename_i hz
    refine ⟨?_, fun p => rep _ _, rfl, rfl⟩
    show (x.rd + 1) * c + 0 = _
    rw [Nat.add_mul]
    omega
  · exact ⟨by show x.rd * c + (x.tn + 1) = _; omega, fun p => rep _ _, rfl, rfl⟩
theorem fin_same {x : Dr} (hf : x.full = false) : x.fin = x := by
  unfold Dr.fin
  rw [if_neg (by rw [hf]; decide)]
/-- in the middle of a turn: the players ord 0, .., ord (i-1) have moved; after all n of them the turn is over -/
structure Odr (c n L : Nat) (ord : Nat → Nat) (t i : Nat) (x : Dr) : Prop where
  inv : x.Inv c
  hn : x.n = n
  rs : x.rs.length = L
  run : i < n → x.rd < x.rs.length ∧ x.rd * c + x.tn = t ∧ ∀ j, j < n → x.mvd (ord j) = decide (j < i)
  done : i = n → x.rd * c + x.tn = t + 1 ∧ ∀ p, x.mvd p = false
structure IsOrd (n : Nat) (ord : Nat → Nat) : Prop where
  lt : ∀ i, i < n → ord i < n
  inj : ∀ i j, i < n → j < n → ord i = ord j → i = j
  sur : ∀ p, p < n → ∃ i, i < n ∧ ord i = p
theorem Odr.pick {c n L : Nat} {ord : Nat → Nat} {t i : Nat} {x : Dr} (h : Odr c n L ord t i x) (ho : IsOrd n ord) (hi : i < n) : x.over = false ∧ 0 < (x.pk (ord i)).length ∧ (x.pk (ord i)).length ≤ 15 := by
  obtain ⟨h1, h2, h3⟩ := h.run hi
  have h4 := h.inv.now (ord i) (by rw [h.hn]; exact ho.lt i hi) h1
  have h5 := h3 i hi
  rw [h5] at h4
  have h6 := h.inv.tn h1
  have h7 := h.inv.c15
  have hov : x.over = false := by unfold Dr.over; simp; omega
  simp at h4
  have h8 : 0 < (x.pk (ord i)).length := by omega
  exact ⟨hov, h8, by omega⟩
theorem Odr.errk {c n L : Nat} {ord : Nat → Nat} {t i : Nat} {x : Dr} (h : Odr c n L ord t i x) (ho : IsOrd n ord) (hi : i < n) {k : Nat} (hk : k < (x.pk (ord i)).length) : x.err (ord i) k = 0 := by
  obtain ⟨h1, h2, h3⟩ := h.run hi
  have h5 := h3 i hi
  have hov : x.over = false := by unfold Dr.over; simp; omega
  have hlt := ho.lt i hi
  unfold Dr.err
  rw [if_neg (by rw [h.hn]; omega), hov, if_neg (by decide), Int.toNat_natCast, h5, if_neg (by simp), if_neg (by omega)]
theorem Odr.step {c n L : Nat} {ord : Nat → Nat} {t i : Nat} {x : Dr} (h : Odr c n L ord t i x) (ho : IsOrd n ord) (hi : i < n) {k : Nat} (hk : k < (x.pk (ord i)).length) : Odr c n L ord t (i + 1) (x.stp (ord i) k) := by
  obtain ⟨h1, h2, h3⟩ := h.run hi
  have he := h.errk ho hi hk
  have hlt := ho.lt i hi
  have hiv := stp_inv h.inv (ord i : Int) (k : Int)
  have hst : x.stp (ord i) k = (x.put (ord i) k).fin := by unfold Dr.stp Dr.take; rw [if_pos he, Int.toNat_natCast, Int.toNat_natCast]
  have hmd : (x.put (ord i) k).Mid c := put_mid h.inv (by rw [h.hn]; exact hlt) (by omega) (by rw [h3 i hi]; simp) hk
  have hmv : ∀ p, (x.put (ord i) k).mvd p = if ord i = p then true else x.mvd p := fun p => put_mvd _ _ (by rw [h.inv.mv, h.hn]; exact hlt)
  have hpn : (x.put (ord i) k).n = n := by rw [put_n, h.hn]
  have hrs : (x.put (ord i) k).rs.length = L := by simp only [Dr.put, set2_length]; exact h.rs
  have hall : ∀ j, j < n → (x.put (ord i) k).mvd (ord j) = decide (j < i + 1) := fun j hj => by
    rw [hmv, h3 j hj]
    by_cases e : ord i = ord j
    · rw [if_pos e]
      have := ho.inj i j hi hj e
      subst this
      simp
    · rw [if_neg e]
      have hne : j ≠ i := fun e2 => e (by rw [e2])
      by_cases hlt : j < i
      · rw [decide_eq_true hlt, decide_eq_true (by omega : j < i + 1)]
      · rw [decide_eq_false hlt, decide_eq_false (by omega : ¬ j < i + 1)]
  rw [hst] at hiv ⊢
  by_cases hl : i + 1 < n
  · have hf : (x.put (ord i) k).full = false := by
      cases hfu : (x.put (ord i) k).full with
      | false => rfl
      | true =>
        have h4 := (full_iff hmd).1 hfu (ord (i + 1)) (by rw [hpn]; exact ho.lt _ hl)
        rw [hall _ hl] at h4
        simp at h4
    rw [fin_same hf] at hiv ⊢
    exact ⟨hiv, hpn, hrs, fun _ => ⟨hmd.rd, h2, hall⟩, fun e => by omega⟩
  · have hf : (x.put (ord i) k).full = true := (full_iff hmd).2 (fun p hp => by
      rw [hpn] at hp
      obtain ⟨j, hj, rfl⟩ := ho.sur p hp
      rw [hall j hj]
      exact decide_eq_true (by omega))
    obtain ⟨g1, g2, g3, g4⟩ := fin_next hmd hf
    exact ⟨hiv, by rw [g3, hpn], by rw [g4, hrs], fun e => by omega, fun _ => ⟨by rw [g1]; show x.rd * c + x.tn + 1 = _; omega, g2⟩⟩
theorem rot_ord {n : Nat} (f : Nat) (h2 : 2 ≤ n) (h8 : n ≤ 8) : IsOrd n (fun i => (i + f) % n) := by
  obtain ⟨g, hg, hgl⟩ : ∃ g, f % n = g ∧ g < n := ⟨_, rfl, Nat.mod_lt _ (by omega)⟩
  have e : ∀ i, (i + f) % n = (i + g) % n := fun i => by rw [← hg, Nat.add_mod, Nat.add_mod i (f % n), Nat.mod_mod]
  have : n = 2 ∨ n = 3 ∨ n = 4 ∨ n = 5 ∨ n = 6 ∨ n = 7 ∨ n = 8 := by omega
  refine ⟨fun i hi => Nat.mod_lt _ (by omega), fun i j hi hj h => ?_, fun p hp => ⟨(p + n - g) % n, Nat.mod_lt _ (by omega), ?_⟩⟩
  · simp only [e] at h
    rcases this with rfl | rfl | rfl | rfl | rfl | rfl | rfl <;> omega
  · simp only [e]
    rcases this with rfl | rfl | rfl | rfl | rfl | rfl | rfl <;> omega
/-- at the beginning of a turn -/
structure Tn (c n L t : Nat) (x : Dr) : Prop where
  inv : x.Inv c
  hn : x.n = n
  rs : x.rs.length = L
  ht : x.rd * c + x.tn = t
  mv : ∀ p, x.mvd p = false
theorem Tn.ord {c n L t : Nat} {x : Dr} (h : Tn c n L t x) (ho : x.over = false) (ord : Nat → Nat) : Odr c n L ord t 0 x := by
  have hr : x.rd < x.rs.length := by
    have h1 : ¬ x.rd = x.rs.length := fun e => by rw [(over_iff x).2 e] at ho; cases ho
    have := h.inv.rd
    omega
  have h2 := h.inv.n2
  have h3 := h.hn
  exact ⟨h.inv, h.hn, h.rs, fun _ => ⟨hr, h.ht, fun j _ => by rw [h.mv]; simp⟩, fun e => by omega⟩
theorem Odr.tn {c n L t : Nat} {ord : Nat → Nat} {x : Dr} (h : Odr c n L ord t n x) : Tn c n L (t + 1) x := ⟨h.inv, h.hn, h.rs, (h.done rfl).1, (h.done rfl).2⟩
theorem Tn.lt {c n L t : Nat} {x : Dr} (h : Tn c n L t x) (ho : x.over = false) : t < L * c := by
  have hr : x.rd < x.rs.length := by
    have h1 : ¬ x.rd = x.rs.length := fun e => by rw [(over_iff x).2 e] at ho; cases ho
    have := h.inv.rd
    omega
  have h1 := h.inv.tn hr
  have h2 := h.ht
  have h3 : (x.rd + 1) * c ≤ x.rs.length * c := Nat.mul_le_mul_right c hr
  rw [Nat.succ_mul, h.rs] at h3
  omega
end Go.Proofs.Yteocplabibhecaa.Plain
