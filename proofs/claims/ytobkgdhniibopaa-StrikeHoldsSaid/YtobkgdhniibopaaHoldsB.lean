/- What the calls do to the counted strikes. -/
import Derived.Test.YtobkgdhniibopaaHoldsA
namespace Go.Proofs.Ytobkgdhniibopaa
open Go.RowKit Plain
set_option linter.unusedVariables false
set_option linter.unusedSimpArgs false

theorem Ho.strike0 {n g : Int} {b : Bk} {c0 c1 : Int} (h : Ho n g b c0 c1) (hc : c0 + 1 ≤ 80) : Ho n g b.strike0 (c0 + 1) c1 := by
  have h1 := h.ok.s0
  have h2 := h.ok.s0'
  have h3 := h.hn
  have h4 := h.ok.n1
  obtain ⟨k1, k2, k3⟩ := h.k0
  have e1 : b.strike0.n = b.n := by unfold Bk.strike0; split <;> rfl
  have e2 : b.strike0.g = b.g := by unfold Bk.strike0; split <;> rfl
  have e3 : b.strike0.s1 = b.s1 := by unfold Bk.strike0; split <;> rfl
  have e4 : b.strike0.s0 = min (c0 + 1) n := by
    unfold Bk.strike0
    split
    · show b.s0 + 1 = _
      omega
    · show b.s0 = _
      omega
  have kq := h.k1
  rw [← e3] at kq
  exact ⟨Ok.strike0 h.ok, e1.trans h.hn, e2.trans h.hg, ⟨by omega, hc, e4⟩, kq⟩
theorem Ho.answer0 {n g : Int} {b : Bk} {c0 c1 : Int} (h : Ho n g b c0 c1) : Ho n g b.answer0 0 c1 := by
  have h3 := h.hn
  have h4 := h.ok.n1
  exact ⟨Ok.answer0 h.ok, h.hn, h.hg, ⟨by omega, by omega, by show (0 : Int) = _; omega⟩, h.k1⟩
theorem Ho.join0 {n g : Int} {b : Bk} {c0 c1 : Int} (h : Ho n g b c0 c1) : Ho n g b.join0 c0 c1 := ⟨Ok.join0 h.ok, h.hn, h.hg, h.k0, h.k1⟩
theorem Ho.leave0 {n g : Int} {b : Bk} {c0 c1 t : Int} (h : Ho n g b c0 c1) (ht : U t) : Ho n g (b.leave0 t) c0 c1 := by
  have h1 := Ok.leave0 h.ok ht
  unfold Bk.leave0 at *
  split
  · rename_i hh
    rw [if_pos hh] at h1
    exact ⟨h1, h.hn, h.hg, h.k0, h.k1⟩
  · exact h
theorem other_strike0 (b : Bk) : (b.strike0).a1 = b.a1 ∧ (b.strike0).s1 = b.s1 ∧ (b.strike0).h1 = b.h1 ∧ (b.strike0).d1 = b.d1 := by
  first | exact ⟨rfl, rfl, rfl, rfl⟩ | (unfold Bk.strike0; split <;> exact ⟨rfl, rfl, rfl, rfl⟩)
theorem other_answer0 (b : Bk) : (b.answer0).a1 = b.a1 ∧ (b.answer0).s1 = b.s1 ∧ (b.answer0).h1 = b.h1 ∧ (b.answer0).d1 = b.d1 := by
  first | exact ⟨rfl, rfl, rfl, rfl⟩ | (unfold Bk.answer0; split <;> exact ⟨rfl, rfl, rfl, rfl⟩)
theorem other_join0 (b : Bk) : (b.join0).a1 = b.a1 ∧ (b.join0).s1 = b.s1 ∧ (b.join0).h1 = b.h1 ∧ (b.join0).d1 = b.d1 := by
  first | exact ⟨rfl, rfl, rfl, rfl⟩ | (unfold Bk.join0; split <;> exact ⟨rfl, rfl, rfl, rfl⟩)
theorem other_leave0 (b : Bk) (t : Int) : (b.leave0 t).a1 = b.a1 ∧ (b.leave0 t).s1 = b.s1 ∧ (b.leave0 t).h1 = b.h1 ∧ (b.leave0 t).d1 = b.d1 := by
  first | exact ⟨rfl, rfl, rfl, rfl⟩ | (unfold Bk.leave0; split <;> exact ⟨rfl, rfl, rfl, rfl⟩)
theorem leave0_here {b : Bk} {t : Int} : (b.leave0 t).h0 = false := by
  unfold Bk.leave0
  split
  · rfl
  · rename_i h
    simpa using h
theorem leave0_due {b : Bk} {t : Int} (h : b.h0 = true) : (b.leave0 t).d0 = addN t b.g := by
  unfold Bk.leave0
  rw [if_pos h]
  rfl
theorem leave0_n {b : Bk} {t : Int} : (b.leave0 t).n = b.n := by unfold Bk.leave0; split <;> rfl
theorem Ho.strike1 {n g : Int} {b : Bk} {c0 c1 : Int} (h : Ho n g b c0 c1) (hc : c1 + 1 ≤ 80) : Ho n g b.strike1 c0 (c1 + 1) := by
  have h1 := h.ok.s1
  have h2 := h.ok.s1'
  have h3 := h.hn
  have h4 := h.ok.n1
  obtain ⟨k1, k2, k3⟩ := h.k1
  have e1 : b.strike1.n = b.n := by unfold Bk.strike1; split <;> rfl
  have e2 : b.strike1.g = b.g := by unfold Bk.strike1; split <;> rfl
  have e3 : b.strike1.s0 = b.s0 := by unfold Bk.strike1; split <;> rfl
  have e4 : b.strike1.s1 = min (c1 + 1) n := by
    unfold Bk.strike1
    split
    · show b.s1 + 1 = _
      omega
    · show b.s1 = _
      omega
  have kq := h.k0
  rw [← e3] at kq
  exact ⟨Ok.strike1 h.ok, e1.trans h.hn, e2.trans h.hg, kq, ⟨by omega, hc, e4⟩⟩
theorem Ho.answer1 {n g : Int} {b : Bk} {c0 c1 : Int} (h : Ho n g b c0 c1) : Ho n g b.answer1 c0 0 := by
  have h3 := h.hn
  have h4 := h.ok.n1
  exact ⟨Ok.answer1 h.ok, h.hn, h.hg, h.k0, ⟨by omega, by omega, by show (0 : Int) = _; omega⟩⟩
theorem Ho.join1 {n g : Int} {b : Bk} {c0 c1 : Int} (h : Ho n g b c0 c1) : Ho n g b.join1 c0 c1 := ⟨Ok.join1 h.ok, h.hn, h.hg, h.k0, h.k1⟩
theorem Ho.leave1 {n g : Int} {b : Bk} {c0 c1 t : Int} (h : Ho n g b c0 c1) (ht : U t) : Ho n g (b.leave1 t) c0 c1 := by
  have h1 := Ok.leave1 h.ok ht
  unfold Bk.leave1 at *
  split
  · rename_i hh
    rw [if_pos hh] at h1
    exact ⟨h1, h.hn, h.hg, h.k0, h.k1⟩
  · exact h
theorem other_strike1 (b : Bk) : (b.strike1).a0 = b.a0 ∧ (b.strike1).s0 = b.s0 ∧ (b.strike1).h0 = b.h0 ∧ (b.strike1).d0 = b.d0 := by
  first | exact ⟨rfl, rfl, rfl, rfl⟩ | (unfold Bk.strike1; split <;> exact ⟨rfl, rfl, rfl, rfl⟩)
theorem other_answer1 (b : Bk) : (b.answer1).a0 = b.a0 ∧ (b.answer1).s0 = b.s0 ∧ (b.answer1).h0 = b.h0 ∧ (b.answer1).d0 = b.d0 := by
  first | exact ⟨rfl, rfl, rfl, rfl⟩ | (unfold Bk.answer1; split <;> exact ⟨rfl, rfl, rfl, rfl⟩)
theorem other_join1 (b : Bk) : (b.join1).a0 = b.a0 ∧ (b.join1).s0 = b.s0 ∧ (b.join1).h0 = b.h0 ∧ (b.join1).d0 = b.d0 := by
  first | exact ⟨rfl, rfl, rfl, rfl⟩ | (unfold Bk.join1; split <;> exact ⟨rfl, rfl, rfl, rfl⟩)
theorem other_leave1 (b : Bk) (t : Int) : (b.leave1 t).a0 = b.a0 ∧ (b.leave1 t).s0 = b.s0 ∧ (b.leave1 t).h0 = b.h0 ∧ (b.leave1 t).d0 = b.d0 := by
  first | exact ⟨rfl, rfl, rfl, rfl⟩ | (unfold Bk.leave1; split <;> exact ⟨rfl, rfl, rfl, rfl⟩)
theorem leave1_here {b : Bk} {t : Int} : (b.leave1 t).h1 = false := by
  unfold Bk.leave1
  split
  · rfl
  · rename_i h
    simpa using h
theorem leave1_due {b : Bk} {t : Int} (h : b.h1 = true) : (b.leave1 t).d1 = addN t b.g := by
  unfold Bk.leave1
  rw [if_pos h]
  rfl
theorem leave1_n {b : Bk} {t : Int} : (b.leave1 t).n = b.n := by unfold Bk.leave1; split <;> rfl
theorem addN_ge (t g : Int) (ht : t ≤ 18446744073709551615) (hg : 0 ≤ g) : t ≤ addN t g := by unfold addN; split <;> omega
end Go.Proofs.Ytobkgdhniibopaa
