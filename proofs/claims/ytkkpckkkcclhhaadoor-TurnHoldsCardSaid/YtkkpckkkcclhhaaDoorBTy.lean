/- What the laws about boards share. -/
import Derived.Test.YtkkpckkkcclhhaaDoorBTk
import Derived.Test.YtkkpckkkcclhhaaDoorBLs
import Derived.Test.YtkkpckkkcclhhaaDoorBLg
import Derived.Test.YtkkpckkkcclhhaaDoorBCx
namespace Go.Proofs.YtkkpckkkcclhhaaDoor
open Go.RowKit Plain
set_option linter.unusedVariables false
set_option linter.unusedSimpArgs false

theorem Tiny.ok {B : Bd} (h : B.Tiny) (hi : B.I) : B.Ok := by
  have z : ∀ p z, ((B.seat p).zs z).length ≤ 1000 := fun p z => by
    have e : ∃ p' z', p' < 2 ∧ z' < 4 ∧ (B.seat p).zs z = (B.seat p').zs z' := by
      refine ⟨if p = 0 then 0 else 1, if z = 0 then 0 else if z = 1 then 1 else if z = 2 then 2 else 3, ?_, ?_, ?_⟩
      · split <;> omega
      · split <;> (try split) <;> (try split) <;> omega
      · unfold Bd.seat Se.zs
        by_cases h0 : p = 0 <;> by_cases h1 : z = 0 <;> by_cases h2 : z = 1 <;> by_cases h3 : z = 2 <;> simp [h0, h1, h2, h3]
    obtain ⟨p', z', hp, hz, e⟩ := e
    rw [e]
    have := h.zs p' z' hp hz
    omega
  exact ⟨hi, ⟨z, by have := h.ob; omega, by have := h.st; omega, by have := h.qu; omega, by have := h.att; omega, by have := h.bl; omega⟩, fun x hx => by have := h.stt x hx; omega, fun x hx => by have := h.qut x hx; omega⟩
/-- the whole board is read, in a region that draws its order -/
theorem quiet_load_bx {C : World → Prop} {K : Act → Prop} {a a' : Act} {op : Oper} {P : Nat} {s : Bs} {B : Bd} (x : Operand) (ho : op.op = .load 39 x) (hx : a.eval x = .pointer (some ⟨P, 0, none⟩)) (h : ∀ w, C w → Bx w P s B) (ha : a.put op.dst (bv s B) = a') (hk : K a') : op.quiet Tryd.prog a C K := by
  subst ha
  refine ⟨bv s B, fun w hw => ?_, hk⟩
  have e := (h w hw).load
  have r : (execOp a.eval op).run Tryd.prog w = .ok (.value (bv s B)) w := by
    unfold execOp
    rw [ho]
    show (Bind.bind (Instr.loadAt 39 (a.eval x)) (fun v => pure (Next.value v)) : Sem Next).run Tryd.prog w = _
    rw [hx, Sem.run_bind, e]
    rfl
  unfold Oper.quietAt
  rw [r]
  exact ⟨rfl, rfl⟩
theorem givesV (sx sf sb : Bs) (B : Bd) (en : Int) (lo hi : Nat) (w : World) {v : Value} (hv : bv nilS zeroB = v) (hx : BdO lo hi w sx zeroB) (hhi : hi ≤ w.heap.size) (hf : ∀ W, Rng lo hi w W → BdR W sf B) (hb : ∀ W, Rng lo hi w W → BdR W sb B) : Calls Tryd.prog 18 #[bv sx zeroB, .int .i64 en, v, .int .i64 en, bv sf B, bv sb B] w fun e w' => e = .returned (.bool true) ∧ Rng lo hi w w' := by
  subst hv
  exact gives sx nilS sf sb zeroB B en lo hi w hx hhi (zeroOwn 0 0 _).rd hf hb
end Go.Proofs.YtkkpckkkcclhhaaDoor
