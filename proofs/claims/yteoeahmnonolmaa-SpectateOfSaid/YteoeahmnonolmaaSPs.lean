/- The seats of what is public. -/
import Derived.Test.YteoeahmnonolmaaSE4
import Derived.Deep.DeepCutAuto
import Derived.LoopTactic
import Derived.Deep.MidRow
namespace Go.Proofs.Yteoeahmnonolmaa
open Go.RowKit Plain
set_option linter.unusedVariables false
set_option linter.unusedSimpArgs false

def Plain.Pu.seat (P : Pu) (p : Nat) : Vs := if p = 0 then P.s0 else P.s1
def Ps.fs (s : Ps) (p : Nat) : Sl := if p = 0 then s.f0 else s.f1
def Ps.gs (s : Ps) (p : Nat) : Sl := if p = 0 then s.g0 else s.g1
theorem Px.seatAt {w : World} {R : Nat} {s : Ps} {P : Pu} (h : Px w R s P) {p : Nat} (hp : p < 2) {x : Vs} {pa qa : Option Addr} {pc qc : Nat} (hx : P.seat p = x) (hf : s.fs p = ⟨pa, x.fld.length, pc⟩) (hg : s.gs p = ⟨qa, x.grv.length, qc⟩) : w.rangeAt R (p * 14) [.int .i64 x.li, .int .i64 x.p0, .int .i64 x.p1, .int .i64 x.p2, .int .i64 x.p3, .int .i64 x.lib, .int .i64 x.hand, .slice pa x.fld.length pc, .slice qa x.grv.length qc, .bool x.em, .bool x.py, .bool x.kp, .int .i64 x.mu, .int .i64 x.ac] := by
  have hc : p = 0 ∨ p = 1 := by omega
  rcases hc with rfl | rfl
  · have e0 : P.s0 = x := hx
    have e1 : s.f0 = ⟨pa, x.fld.length, pc⟩ := hf
    have e2 : s.g0 = ⟨qa, x.grv.length, qc⟩ := hg
    have r : w.rangeAt R (0 * 14) [.int .i64 P.s0.li, .int .i64 P.s0.p0, .int .i64 P.s0.p1, .int .i64 P.s0.p2, .int .i64 P.s0.p3, .int .i64 P.s0.lib, .int .i64 P.s0.hand, s.f0.v, s.g0.v, .bool P.s0.em, .bool P.s0.py, .bool P.s0.kp, .int .i64 P.s0.mu, .int .i64 P.s0.ac] := World.rangeAt_of_block h 0 14
    rw [e0, e1, e2] at r
    exact r
  · have e0 : P.s1 = x := hx
    have e1 : s.f1 = ⟨pa, x.fld.length, pc⟩ := hf
    have e2 : s.g1 = ⟨qa, x.grv.length, qc⟩ := hg
    have r : w.rangeAt R (1 * 14) [.int .i64 P.s1.li, .int .i64 P.s1.p0, .int .i64 P.s1.p1, .int .i64 P.s1.p2, .int .i64 P.s1.p3, .int .i64 P.s1.lib, .int .i64 P.s1.hand, s.f1.v, s.g1.v, .bool P.s1.em, .bool P.s1.py, .bool P.s1.kp, .int .i64 P.s1.mu, .int .i64 P.s1.ac] := World.rangeAt_of_block h 14 14
    rw [e0, e1, e2] at r
    exact r
theorem PuR.seat {w : World} {s : Ps} {P : Pu} (h : PuR w s P) (p : Nat) : Rw oc 12 w (s.fs p).v (P.seat p).fld ∧ Rw oc 12 w (s.gs p).v (P.seat p).grv := by
  unfold Ps.fs Ps.gs Plain.Pu.seat
  split
  · exact ⟨h.f0, h.g0⟩
  · exact ⟨h.f1, h.g1⟩
def SeQ (P Q : Pu) (p : Nat) : Prop := ∀ q, q < p → P.seat q = Q.seat q
theorem seats_next {P Q : Pu} {p : Nat} (h : SeQ P Q p) (he : P.seat p = Q.seat p) : SeQ P Q (p + 1) := fun q hq => by
  rcases Nat.lt_or_ge q p with h1 | h1
  · exact h q h1
  · obtain rfl : q = p := by omega
    exact he
end Go.Proofs.Yteoeahmnonolmaa
