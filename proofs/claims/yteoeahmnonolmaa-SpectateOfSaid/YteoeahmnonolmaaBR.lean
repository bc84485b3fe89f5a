/- Functions that return a board. -/
import Derived.Test.YteoeahmnonolmaaBCc
import Derived.Test.YteoeahmnonolmaaBOw
import Derived.Test.YteoeahmnonolmaaBB
import Derived.Deep.DeepCutAuto
import Derived.LoopTactic
import Derived.Deep.MidRow
namespace Go.Proofs.Yteoeahmnonolmaa
open Go.RowKit Plain
set_option linter.unusedVariables false
set_option linter.unusedSimpArgs false

/-- the whole board is written; the new world has a name -/
theorem wpList_store_bh {ops : Array Oper} {rest : List Oper} {op : Oper} {a : Act} {w : World} {Q : Exit → Act → World → Prop} (hgd : op.guard = none) {P : Nat} {s : Bs} {B : Bd} (x y : Operand) (ho : op.op = .store 34 x y) (hx : a.eval x = .pointer (some ⟨P, 0, none⟩)) (hy : a.eval y = bv s B) {old : Array Value} (hg : w.heap[P]? = some (.cells old 34 (0, 0))) (hsz : old.size = 38)
    (hK : ∀ w', Hid (w' = w.setRow P (bcells s B)) → wpList Try.prog ops Q rest (a.put op.dst undef) w') : wpList Try.prog ops Q (op :: rest) a w :=
  wpList_store_bx hgd x y ho hx hy hg hsz (fun w' h => hK w' (Lib.hid h))
theorem zeroOwn (lo hi : Nat) (w : World) : BdO lo hi w nilS zeroB := by
  have n : ∀ j, j < 9 → nilS.isl j = nilSl ∧ zeroB.il j = [] := fun j hj => match j, hj with
    | 0, _ => ⟨rfl, rfl⟩
    | 1, _ => ⟨rfl, rfl⟩
    | 2, _ => ⟨rfl, rfl⟩
    | 3, _ => ⟨rfl, rfl⟩
    | 4, _ => ⟨rfl, rfl⟩
    | 5, _ => ⟨rfl, rfl⟩
    | 6, _ => ⟨rfl, rfl⟩
    | 7, _ => ⟨rfl, rfl⟩
    | 8, _ => ⟨rfl, rfl⟩
  exact ⟨Ox.nil _ _ _ _, fun j hj => by rw [(n j hj).1, (n j hj).2]; exact Ox.nil _ _ _ _, fun i j hi2 _ _ b hb => by rw [(n i hi2).1] at hb; simp [nilSl, Sl.v, Value.ownBlock] at hb, ItO.nil _ _ _, ItO.nil _ _ _, fun b hb => by simp [nilS, nilSl, Sl.v, Value.ownBlock] at hb, Ox.nil _ _ _ _⟩
def BrA (w : World) (B : Bd) (y : Value) (e : Ending) (w' : World) : Prop := ∃ s', e = .returned (.tuple #[bv s' B, y]) ∧ BdO w.heap.size w'.heap.size w' s' B ∧ Below w.heap.size w w'
def BrP (w : World) (B : Bd) (y z : Value) (e : Ending) (w' : World) : Prop := ∃ s', e = .returned (.tuple #[bv s' B, y, z]) ∧ BdO w.heap.size w'.heap.size w' s' B ∧ Below w.heap.size w w'
theorem results_b0 {fn : Func} {p : Tmp} (h : fn.results = #[.cell p 34]) (tmps : Array Value) (w : World) {P : Nat} {s : Bs} {B : Bd} (hx : Bx w P s B) (hp : tmps.getD p undef = .pointer (some ⟨P, 0, none⟩)) : (results fn tmps).run Try.prog w = .ok (bv s B) w :=
  results_cell_row h tmps w P 34 _ (0, 0) _ hp hx Try.underlying34 rfl (by kernel_rfl)
theorem results_b1 {fn : Func} {p u : Tmp} (h : fn.results = #[.cell p 34, .tmp u]) (tmps : Array Value) (w : World) {P : Nat} {s : Bs} {B : Bd} {y : Value} (hx : Bx w P s B) (hp : tmps.getD p undef = .pointer (some ⟨P, 0, none⟩)) (hy : tmps.getD u undef = y) : (results fn tmps).run Try.prog w = .ok (.tuple #[bv s B, y]) w := by
  have hl : (loadVar 34 ⟨P, 0, none⟩).run Try.prog w = .ok (bv s B) w := run_loadVar_row w P 34 34 _ (0, 0) _ hx Try.underlying34 rfl (by kernel_rfl)
  rw [results_cell_tmp h, hp, hy]
  simp [asAddr, hl]
theorem results_b2 {fn : Func} {p u v : Tmp} (h : fn.results = #[.cell p 34, .tmp u, .tmp v]) (tmps : Array Value) (w : World) {P : Nat} {s : Bs} {B : Bd} {y z : Value} (hx : Bx w P s B) (hp : tmps.getD p undef = .pointer (some ⟨P, 0, none⟩)) (hy : tmps.getD u undef = y) (hz : tmps.getD v undef = z) : (results fn tmps).run Try.prog w = .ok (.tuple #[bv s B, y, z]) w := by
  have hl : (loadVar 34 ⟨P, 0, none⟩).run Try.prog w = .ok (bv s B) w := run_loadVar_row w P 34 34 _ (0, 0) _ hx Try.underlying34 rfl (by kernel_rfl)
  have hp' : tmps[p]?.getD undef = .pointer (some ⟨P, 0, none⟩) := by simpa using hp
  have hy' : tmps[u]?.getD undef = y := by simpa using hy
  have hz' : tmps[v]?.getD undef = z := by simpa using hz
  simp only [results, h]
  simp [Sem.run_bind, Result.andThen, asAddr, hl, hp', hy', hz']
theorem boxed {W W' : World} {old : Array Value} {s : Bs} {B : Bd} (h : W' = (W.alloc (.cells old 34)).setRow W.heap.size (bcells s B)) : Below W.heap.size W W' ∧ Bx W' W.heap.size s B := by
  have b1 : Below W.heap.size W (W.alloc (.cells old 34)) := (Below.refl _ _).alloc (Nat.le_refl _) _
  exact ⟨belowOnl b1 (by rw [h]; exact Onl.setRow (Onl.refl _ _) (.inl (by simp)) _ : Onl [W.heap.size] _ W') (by simp) b1.size, by rw [h]; exact Bx.row (heap_alloc_new _ _) s B⟩
end Go.Proofs.Yteoeahmnonolmaa
