/- A draft and a model. -/
import Derived.Test.YteocplabibhecaaMt
import Derived.Test.YteocplabibhecaaAl
import Derived.Test.YteocplabibhecaaRl
namespace Go.Proofs.Yteocplabibhecaa
open Go.RowKit Plain
set_option linter.unusedVariables false
set_option linter.unusedSimpArgs false

theorem DrAt.base' {w : World} {B B' : Nat} {S : List Nat} {P : Nat} {d : Dr} (h : DrAt w B S P d) (hb : B' ≤ B) : DrAt w B' S P d := by
  obtain ⟨so, st, sm, rvs, vss, h2⟩ := h
  exact ⟨so, st, sm, rvs, vss, h2.hp, h2.out, h2.rows, h2.mat, h2.mov, h2.inP, h2.ino, h2.inm, h2.inr, h2.ini, fun b hb' => ⟨Nat.le_trans hb (h2.new b hb').1, (h2.new b hb').2⟩⟩
theorem MoAt.base' {w : World} {B B' : Nat} {S : List Nat} {P : Nat} {d : Dr} (h : MoAt w B S P d) (hb : B' ≤ B) : MoAt w B' S P d := by
  obtain ⟨sf, sl, st, sm, fl, vss, h2⟩ := h
  exact ⟨sf, sl, st, sm, fl, vss, h2.hp, h2.rows, h2.mat, h2.mov, h2.fln, h2.lcap, h2.lty, h2.inM, h2.inm, h2.inr, h2.ini, fun b hb' => ⟨Nat.le_trans hb (h2.new b hb').1, (h2.new b hb').2⟩⟩
theorem MoAt.newB {w : World} {B : Nat} {S : List Nat} {P : Nat} {d : Dr} (h : MoAt w B S P d) : ∀ b ∈ S, B ≤ b ∧ b < w.heap.size := by
  obtain ⟨sf, sl, st, sm, fl, vss, h2⟩ := h
  exact h2.new
theorem MoAt.taken {w : World} {B : Nat} {S : List Nat} {M : Nat} {d : Dr} (h : MoAt w B S M d) : ∃ a c, M < w.heap.size ∧ w.cell? ⟨M, 2, none⟩ = some (.slice a d.n c) := by
  obtain ⟨sf, sl, st, sm, fl, vss, h2⟩ := h
  obtain ⟨tvs, h3, h4, h5⟩ := h2.tval
  have h6 := oe_slice h5
  rw [h4] at h6
  refine ⟨st.a, st.c, h2.lt, ?_⟩
  rw [h2.cell 2, ← h6]
  rfl
theorem over_below {w W W' : World} {S : List Nat} (h : Below w.heap.size w W) (ho : Onl S W W') (hs : ∀ b ∈ S, w.heap.size ≤ b) : Below w.heap.size w W' :=
  ⟨ho.os.trans h.os, ho.tape.trans h.tape, ho.output.trans h.output, Nat.le_trans h.size ho.size, fun k hk => (ho.block k (Nat.lt_of_lt_of_le hk h.size) (fun hm => by have := hs k hm; omega)).trans (h.block k hk)⟩
/-- a draft and a model, which share no memory -/
structure DuoM (W : World) (B : Nat) (S T : List Nat) (P M : Nat) (x y : Dr) : Prop where
  a : DrAt W B S P x
  m : MoAt W B T M y
  ne : ∀ k ∈ S, k ∉ T
def Duo (W : World) (B : Nat) (P M : Nat) (x y : Dr) : Prop := ∃ S T, DuoM W B S T P M x y
theorem Duo.below {W W' : World} {B P M : Nat} {x y : Dr} (h : Duo W B P M x y) (hb : Below W.heap.size W W') : Duo W' B P M x y := by
  obtain ⟨S, T, h⟩ := h
  exact ⟨S, T, h.a.below hb, h.m.below hb, h.ne⟩
theorem DuoM.takeA {W W' : World} {B : Nat} {S T S' : List Nat} {P M : Nat} {x y x' : Dr} (h : DuoM W B S T P M x y) (hd : DrAt W' B S' P x') (hs : ∀ b ∈ S', b ∈ S ∨ W.heap.size ≤ b) (ho : Onl S W W') : Duo W' B P M x' y := by
  refine ⟨S', T, hd, h.m.onl ho (fun b hb hm => h.ne b hm hb), fun k hk hm => ?_⟩
  rcases hs k hk with h1 | h1
  · exact h.ne k h1 hm
  · have := (h.m.newB k hm).2
    omega
theorem DuoM.takeM {W W' : World} {B : Nat} {S T T' : List Nat} {P M : Nat} {x y y' : Dr} (h : DuoM W B S T P M x y) (hd : MoAt W' B T' M y') (hs : ∀ b ∈ T', b ∈ T ∨ W.heap.size ≤ b) (ho : Onl T W W') : Duo W' B P M x y' := by
  refine ⟨S, T', h.a.onl ho (fun b hb hm => h.ne b hb hm), hd, fun k hk hm => ?_⟩
  rcases hs k hm with h1 | h1
  · exact h.ne k hk h1
  · have := (h.a.newB k hk).2
    omega
/-- a draft that goes on by itself, and a copy and a model that stay -/
def Trio (W : World) (B : Nat) (O P M : Nat) (c : Nat) (d : Dr) : Prop := ∃ x R S T, DrAt W B R O x ∧ x.Inv c ∧ DuoM W B S T P M d d ∧ (∀ k ∈ R, k ∉ S ∧ k ∉ T)
theorem Trio.duo {W : World} {B O P M c : Nat} {d : Dr} (h : Trio W B O P M c d) : Duo W B P M d d := by
  obtain ⟨x, R, S, T, _, _, h, _⟩ := h
  exact ⟨S, T, h⟩
theorem Trio.below {W W' : World} {B O P M c : Nat} {d : Dr} (h : Trio W B O P M c d) (hb : Below W.heap.size W W') : Trio W' B O P M c d := by
  obtain ⟨x, R, S, T, h1, h2, h3, h4⟩ := h
  exact ⟨x, R, S, T, h1.below hb, h2, ⟨h3.a.below hb, h3.m.below hb, h3.ne⟩, h4⟩
theorem DuoM.copy {W W' : World} {B c : Nat} {S T S' : List Nat} {O P M : Nat} {d : Dr} (h : DuoM W B S T O M d d) (iv : d.Inv c) (hB : B ≤ W.heap.size) (hd : DrAt W' W.heap.size S' P d) (hb : Below W.heap.size W W') : Trio W' B O P M c d :=
  ⟨d, S, S', T, h.a.below hb, iv, ⟨hd.base' hB, h.m.below hb, fun k hk hm => by have := (hd.newB k hk).1; have := (h.m.newB k hm).2; omega⟩, fun k hk => ⟨fun hm => by have := (hd.newB k hm).1; have := (h.a.newB k hk).2; omega, h.ne k hk⟩⟩
theorem err_small (d : Dr) (p i : Int) : 0 ≤ d.err p i ∧ d.err p i ≤ 16 := by
  unfold Dr.err
  split
  · omega
  · split
    · omega
    · split
      · omega
      · split <;> omega
end Go.Proofs.Yteocplabibhecaa
