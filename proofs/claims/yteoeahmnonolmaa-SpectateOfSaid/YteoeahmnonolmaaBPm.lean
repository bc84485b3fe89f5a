/- More about boards. -/
import Derived.Test.YteoeahmnonolmaaBPl
namespace Go.Proofs.Yteoeahmnonolmaa.Plain
set_option linter.unusedVariables false
/-- how much there is -/
structure Bd.Sm (b : Bd) : Prop where
  zs : ∀ (p z : Nat), ((b.seat p).zs z).length ≤ 1000
  ob : b.ob.length ≤ 1000
  st : b.st.length ≤ 1000
  qu : b.qu.length ≤ 1000
  att : b.att.length ≤ 1000
  bl : b.bl.length ≤ 1000
theorem zpre_len {b : Bd} (h : b.Sm) (p z : Nat) : (zpre (b.seat p) z).length ≤ 4000 := by
  have h0 := h.zs p 0
  have h1 := h.zs p 1
  have h2 := h.zs p 2
  have h3 := h.zs p 3
  simp only [Se.zs] at h0 h1 h2 h3
  simp at h0 h1 h2 h3
  unfold zpre
  split
  · simp
  · split
    · omega
    · split
      · simp; omega
      · split
        · simp; omega
        · simp [Se.all]; omega
theorem bpre_len {b : Bd} (h : b.Sm) (p z : Nat) : (bpre b p z).length ≤ 8000 := by
  have h0 := zpre_len h 0 z
  have h1 := zpre_len h 1 z
  have h2 := zpre_len h 0 4
  have h3 := zpre_len h 1 4
  rw [zpre_four] at h2 h3
  simp only [Bd.seat] at h0 h1 h2 h3
  simp at h0 h1 h2 h3
  unfold bpre pr
  split
  · simp; omega
  · split
    · simp; omega
    · simp; omega
theorem pr_snoc (p : Int) (l : List Int) (k : Nat) (x : Int) (h : l[k]? = some x) : pr p (l.take (k + 1)) = pr p (l.take k) ++ [(x, p)] := by
  unfold pr
  rw [List.take_add_one, h, Option.toList_some, List.map_append]
  rfl
theorem zs_I {b : Bd} (h : b.I) {p z i : Nat} {x : Int} (hx : ((b.seat p).zs z)[i]? = some x) : Plain.I x := h.zs p z x (List.mem_of_getElem? hx)
theorem prs_len {b : Bd} (h : b.Sm) : b.prs.length < 100000 := by
  have h1 := bpre_len h 2 0
  have h2 := h.st
  have h3 : (cst b.st).length ≤ b.st.length := List.length_filter_le _ _
  rw [prs_all]
  simp [spr]
  omega
/-- an object is where it belongs -/
def okO (b : Bd) (i : Nat) (o : Ob) : Prop := vO o = true ∧ rise b.ob i o ∧ (o.id, o.ow) ∈ b.prs ∧ ∀ x ∈ cst b.st, x.id = o.id → x.cd = o.cd
end Go.Proofs.Yteoeahmnonolmaa.Plain
