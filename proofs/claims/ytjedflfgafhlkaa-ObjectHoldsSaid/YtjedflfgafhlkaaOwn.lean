/- 'append([]T(nil), l...)' of a slice of integers: a row of our own ('ownsRow'). -/
import Derived.Test.YtjedflfgafhlkaaSeg
import Derived.Maps.AppendAt
namespace Go.Proofs.Ytjedflfgafhlkaa
open Go.RowKit

theorem owns_below {w w' : World} {base size n : Nat} {e : TypeId} {v : Value} {xs : List Value} (h : w.ownsRow base e size v n xs) (hb : Below w.heap.size w w') : w'.ownsRow base e size v n xs := by
  refine ⟨h.1, ?_⟩
  rcases h.2 with h2 | ⟨g, cap, cur, h1, h2, h3, h4⟩
  · exact .inl h2
  · exact .inr ⟨g, cap, cur, h1, h2, (hb.block g (Array.getElem?_eq_some_iff.1 h3).1).trans h3, h4⟩

theorem owns_form {w : World} {base size n : Nat} {e : TypeId} {v : Value} {xs : List Value} (h : w.ownsRow base e size v n xs) : ∃ a cap, v = .slice a n cap := by
  rcases h.2 with ⟨rfl, h0⟩ | ⟨g, cap, cur, rfl, _⟩
  · exact ⟨none, 0, by rw [h0]⟩
  · exact ⟨_, _, rfl⟩

theorem wpList_copy_owns {P : Program} {w : World} {ops : Array Oper} {rest : List Oper} {o : Oper} {a : Act} {Q : Exit → Act → World → Prop} (hgd : o.guard = none) (s x : Operand) (t : TypeId)
    (ho : o.op = .call { callee := .builtin .append, args := #[s, x], argTypes := #[t, t] })
    (e : TypeId) (i : TypeInfo) (k : IntKind) (bytes : Nat) (ht : P.underlying t = some (.slice e)) (hi : P.info? e = some i) (hz : i.zero = some (.int k 0))
    (hsize : i.size = 1) (hby : i.bytes = bytes) (hs : a.eval s = .slice none 0 0) (v : Value) (zs : List Int) (hx : a.eval x = v) (hseg : Seg w k v zs)
    (hbytes : zs.length * bytes ≤ 140737488355328) (hm : zs.length ≤ maxLen)
    (h : ∀ v' w', w'.ownsRow w.heap.size e 1 v' zs.length (zs.map (Value.int k)) → Below w.heap.size w w' → wpList P ops Q rest (a.put o.dst v') w') : wpList P ops Q (o :: rest) a w := by
  rcases hseg with ⟨rfl, rfl | ⟨ad, cap, rfl⟩⟩ | ⟨h0, h1, b, off, cap, rfl, hlt, hc⟩
  · exact wpList_append_own_none hgd s x t ho w.heap.size e i 1 ht hi (.slice none 0 0) 0 [] hs (World.ownsRow_nil _ _ _ _) hx (h _ _ (World.ownsRow_nil _ _ _ _) (Below.refl _ _))
  · refine wpList_append_own w hgd s x t ho w.heap.size e i (.int k 0) 1 bytes ht hi hz hsize hby rfl (by omega) (.slice none 0 0) 0 [] hs (World.ownsRow_nil _ _ _ _) ad 0 cap [] hx rfl (by simp) (by simp) (by simp) (by simp) (Nat.le_refl _) ?_
    intro v' w' hown hg _
    exact h v' w' (by simpa using hown) ((Below.refl _ _).grown hg (Nat.le_refl _) (by simp [Value.ownBlock]))
  · refine wpList_append_own w hgd s x t ho w.heap.size e i (.int k 0) 1 bytes ht hi hz hsize hby rfl (by omega) (.slice none 0 0) 0 [] hs (World.ownsRow_nil _ _ _ _) ⟨b, off, none⟩ zs.length cap (zs.map (Value.int k)) hx (by simp) ?_ (by simp [Value.oneCell']) (by simpa using hm) (by simpa using hbytes) (Nat.le_refl _) ?_
    · intro j u hj
      rw [List.getElem?_map] at hj
      cases hz : zs[j]? with
      | none => rw [hz] at hj; simp at hj
      | some z =>
        rw [hz] at hj
        simp at hj
        subst hj
        rw [WideShapes.add_plain]
        exact hc j z hz
    · intro v' w' hown hg _
      exact h v' w' (by simpa using hown) ((Below.refl _ _).grown hg (Nat.le_refl _) (by simp [Value.ownBlock]))
end Go.Proofs.Ytjedflfgafhlkaa
