/- Boards that share no memory, by the reference. -/
import Derived.Test.YteoeahmnonolmaaBCc
import Derived.Deep.DeepCutAuto
import Derived.LoopTactic
import Derived.Deep.MidRow
namespace Go.Proofs.Yteoeahmnonolmaa
open Go.RowKit Plain
set_option linter.unusedVariables false
set_option linter.unusedSimpArgs false

/-- append(nil, l...) -/
theorem wpList_append_nil {α : Type} {f : α → List Value} {sz : Nat} {P : Program} {w : World} {ops : Array Oper} {rest : List Oper} {o : Oper} {a : Act} {Q : Exit → Act → World → Prop} (hgd : o.guard = none) (s x : Operand) (t : TypeId)
    (ho : o.op = .call { callee := .builtin .append, args := #[s, x], argTypes := #[t, t] })
    (e : TypeId) (z : Value) (bytes : Nat) (ht : P.underlying t = some (.slice e)) (hi : (P.info? e).map (fun i => (i.zero, i.size, i.bytes)) = some (some z, sz, bytes))
    (hzs : z.cells.size = sz) (hsz : 0 < sz) (hs : a.eval s = .slice none 0 0) (hf : ∀ x, (f x).length = sz ∧ ∀ u ∈ f x, u.oneCell' = true)
    (u : Value) (m : List α) (hx : a.eval x = u) (hm : Rw f sz w u m) (hl : m.length ≤ 1000) (hby : bytes ≤ 1000)
    (h : ∀ b c w', Ox f sz e w.heap.size w'.heap.size w' (.slice b m.length c) m → Below w.heap.size w w' → wpList P ops Q rest (a.put o.dst (.slice b m.length c)) w') : wpList P ops Q (o :: rest) a w := by
  refine wpList_append_ow hgd s x t ho w.heap.size e z bytes ht hi hzs hsz _ [] hs (Ow.nil _ _ _) hf u m hx hm (by simp [maxLen]; omega) ?_ (Nat.le_refl _) ?_
  · simp only [List.length_nil, Nat.zero_add]
    exact Nat.le_trans (Nat.mul_le_mul hl hby) (by omega)
  · intro v' w' h1 h2 _
    rw [List.nil_append] at h1
    obtain ⟨b, c, rfl⟩ := h1.form
    refine h b c w' (Ox.of h1) ⟨h2.os, h2.tape, h2.output, h2.size, fun k hk => h2.block k hk (by simp [Value.ownBlock])⟩
theorem Rw.length {α : Type} {f : α → List Value} {sz : Nat} {w : World} {a : Option Addr} {n c : Nat} {l : List α} (h : Rw f sz w (.slice a n c) l) : n = l.length := by
  obtain ⟨_, _, _, h, _⟩ := h.form
  simp only [Value.slice.injEq] at h
  exact h.2.1
end Go.Proofs.Yteoeahmnonolmaa
