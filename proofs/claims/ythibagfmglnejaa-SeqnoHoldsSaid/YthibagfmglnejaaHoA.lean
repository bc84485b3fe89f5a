/- A set of numbers that the call makes as a map[uint16]bool. -/
import Derived.Test.YthibagfmglnejaaRefF
import Derived.Maps.Own
import Derived.Maps.OwnOps
import Derived.Maps.Views
namespace Go.Proofs.Ythibagfmglnejaa
open Go.RowKit Plain
set_option linter.unusedVariables false
set_option linter.unusedSimpArgs false

theorem keyed22 : Maps.Keyed Try.prog 22 := Maps.int_keyed Try.underlying22
/-- block b is a map that says of the numbers S that they are taken -/
def MapB (w : World) (b n : Nat) (S : List Int) : Prop := ∃ D : DataW Unit, w.ownsMap Try.prog 22 (plainElem Try.prog 4) b n D ∧ ∀ z, U16 z → D.atKey (.int .u16 z) (.lit (.bool false)) = .lit (.bool (decide (z ∈ S)))
theorem wf_u16 {z : Int} (h : U16 z) : (Lit.int .u16 z).wf = true := by
  unfold U16 at h
  simp [Lit.wf, IntKind.min, IntKind.max, IntKind.signed, IntKind.bits]
  omega
theorem MapB.lt {w : World} {b n : Nat} {S : List Int} (h : MapB w b n S) : b < w.heap.size := by
  obtain ⟨D, h1, _⟩ := h
  exact h1.lt
theorem MapB.block {w w' : World} {b n : Nat} {S : List Int} (h : MapB w b n S) (hb : w'.heap[b]? = w.heap[b]?) : MapB w' b n S := by
  obtain ⟨D, ⟨es, clock, h1, h2⟩, h3⟩ := h
  exact ⟨D, ⟨es, clock, hb.trans h1, h2⟩, h3⟩
theorem MapB.below {w w' : World} {b n : Nat} {S : List Int} (h : MapB w b n S) (hb : Below w.heap.size w w') : MapB w' b n S := h.block (hb.block b h.lt)
theorem MapB.onl {w w' : World} {b n : Nat} {S : List Int} {X : List Nat} (h : MapB w b n S) (ho : Onl X w w') (hX : b ∉ X) : MapB w' b n S := h.block (ho.block b h.lt hX)
theorem MapB.made (w : World) : MapB (w.alloc (.map #[] 0)) w.heap.size 0 [] := ⟨.map [], World.ownsMap_made _ _ _ _, fun z _ => by simp [DataW.atKey]⟩
theorem plainElem_bool_inv {v : Value} {x : Bool} {ps : List MemPlace} (h : plainElem (H := Unit) Try.prog 4 v = some (.lit (.bool x), ps)) : v = .bool x := by
  unfold plainElem at h
  rw [Try.underlying4] at h
  cases v <;> simp at h
  rw [h.1]
theorem MapB.look {w : World} {b n : Nat} {S : List Int} (h : MapB w b n S) {z : Int} {v : Bool} (hz : U16 z) (hv : decide (z ∈ S) = v) : (Instr.lookup 38 (.map (some b)) (.int .u16 z) false).run Try.prog w = .ok (.bool v) w := by
  obtain ⟨D, h1, h2⟩ := h
  obtain ⟨u, ps, hrun, hr⟩ := h1.lookup (z := .bool false) (zd := .lit (.bool false)) (zp := []) keyed22 Try.underlying38 (by kernel_rfl) (plainElem_bool Try.underlying4 false) (Maps.keyOf_int_mk Try.underlying22 (wf_u16 hz))
  rw [h2 z hz, hv] at hr
  rw [hrun, plainElem_bool_inv hr]
theorem MapB.put {w : World} {b n : Nat} {S : List Int} (h : MapB w b n S) (hn : n < 1000) {z : Int} (hz : U16 z) : ∃ w', (Instr.mapUpdate 38 (.map (some b)) (.int .u16 z) (.bool true)).run Try.prog w = .ok () w' ∧ MapB w' b (n + 1) (z :: S) ∧ Onl [b] w w' := by
  obtain ⟨D, h1, h2⟩ := h
  have hD : Maps.IsMap D := by
    obtain ⟨es, clock, _, _, _, rfl⟩ := h1
    exact ⟨_, rfl⟩
  obtain ⟨w', hrun, hown, hg⟩ := h1.update (d := .lit (.bool true)) (ps := []) keyed22 Try.underlying38 (by unfold maxLen; omega) (Maps.keyOf_int_mk Try.underlying22 (wf_u16 hz)) (plainElem_bool Try.underlying4 true)
  refine ⟨w', hrun, ⟨_, hown, fun y hy => ?_⟩, ⟨hg.os, hg.tape, hg.output, hg.size, fun k hk hne => hg.block k hk (by intro e; simp at e; simp [e] at hne)⟩⟩
  by_cases e : y = z
  · subst e
    rw [Maps.atKey_put_same hD (by simp [WideAt.IsKeyLit])]
    simp
  · rw [Maps.atKey_put_other (by simp [e]), h2 y hy]
    simp [e]
/-- 'taken[z] = true' -/
theorem wpList_put {w : World} {ops : Array Oper} {rest : List Oper} {o : Oper} {a : Act} {Q : Exit → Act → World → Prop} (hg : o.guard = none) (m x v : Operand) (hop : o.op = Op.mapUpdate 38 m x v)
    {b n : Nat} {S : List Int} (hm : a.eval m = .map (some b)) (h : MapB w b n S) (hn : n < 1000) (z : Int) (hx : a.eval x = .int .u16 z) (hv : a.eval v = .bool true) (hz : U16 z)
    (hK : ∀ w', MapB w' b (n + 1) (z :: S) → Onl [b] w w' → wpList Try.prog ops Q rest (a.put o.dst undef) w') : wpList Try.prog ops Q (o :: rest) a w := by
  refine wpList_plain hg fun K' hK' => ?_
  obtain ⟨w', hrun, r1, r2⟩ := h.put hn hz
  unfold Oper.wp
  simp [execOp, hop, hm, hx, hv, hrun, Result.andThen]
  exact hK' _ _ (hK w' r1 r2)
end Go.Proofs.Ythibagfmglnejaa
