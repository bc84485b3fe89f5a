/- out; two drafts. -/
import Derived.Test.YteocplabibhecaaPe
import Derived.Test.YteocplabibhecaaKn
import Derived.Test.YteocplabibhecaaRl
import Derived.LoopTactic
namespace Go.Proofs.Yteocplabibhecaa
open Go.RowKit Plain
set_option linter.unusedVariables false
set_option linter.unusedSimpArgs false

theorem erase_at (l : List Int) (k : Nat) (c : Int) (h : l[k]? = some c) (hn : c ∉ l.take k) : l.eraseIdx k = l.erase c := by
  induction l generalizing k with
  | nil => simp at h
  | cons a l ih =>
    cases k with
    | zero =>
      simp at h
      subst h
      simp
    | succ k =>
      simp only [List.take_succ_cons, List.mem_cons, not_or] at hn
      rw [List.eraseIdx_cons_succ, ih k (by simpa using h) hn.2, List.erase_cons_tail (by simpa using fun e => hn.1 e.symm)]
def OutAt (w : World) (l : List Int) (c : Int) (e : Ending) (w' : World) : Prop := ∃ v, e = .returned (.tuple #[v, .bool true]) ∧ Ow ic 1 3 w' w.heap.size v (l.erase c) ∧ Below w.heap.size w w'
def OutRel (w : World) (l : List Int) (c : Int) (s : Value) (wr : World) : Prop := ∃ k : Nat, k ≤ l.length ∧ s = .int .i64 k ∧ c ∉ l.take k ∧ Below w.heap.size w wr
set_option maxRecDepth 100000 in
set_option maxHeartbeats 2000000 in
theorem out23 (v : Value) (l : List Int) (c : Int) (w : World) (hv : Ow ic 1 3 w 0 v l) (hc : c ∈ l) (hm : l.length ≤ 1000) : Calls Try.prog 23 #[v, .int .i64 c] w (OutAt w l c) := by
  obtain ⟨m1, a1, c1, rfl, f1⟩ := (hv.rw ic_len).at1 ic1
  have F1 := Lib.hid f1
  have HV := Lib.hid hv
  have HC := Lib.hid hc
  have HM := Lib.hid hm
  clear hv f1 hc
  go_enter Try.func23, Try.ntmps23
  go_wp2_with fail
  go_loopw [6] (fun s wr => OutRel w l c s wr) (fun s _ => l.length - (intOf s).toNat)
  case atStart => exact ⟨0, Nat.zero_le _, rfl, by simp, Below.refl _ _⟩
  case round =>
    obtain ⟨k, hk, rfl, hn, hb⟩ := hrel
    have hzz := hb.size
    have HN := Lib.hid hn
    clear hn
    by_cases hlt : k < l.length
    · obtain ⟨b1, o1, rfl, hb1, hc1⟩ := F1.out (by omega)
      obtain ⟨z, hz⟩ : ∃ z, l[k]? = some z := ⟨_, List.getElem?_eq_getElem hlt⟩
      have e1 : wr.cell? ⟨b1, o1 + k, none⟩ = some (.int .i64 z) := (hb.cell (p := ⟨b1, o1 + k, none⟩) hb1).trans (hc1 k z hz)
      have hb1r : b1 < wr.heap.size := by omega
      have i1 : (0 : Int) ≤ (k : Int) := by omega
      have i2 : (k : Int) < (l.length : Int) := by omega
      have HLT := Lib.hid hlt
      have HZ := Lib.hid hz
      clear hc1 hz
      by_cases hzc : z = c
      · subst hzc
        have q : (z == z) = true := by simp
        have HE := Lib.hid (erase_at l k z HZ.out HN.out)
        go_wp2_with fail
        with_reducible refine (without30 _ l k _ (HV.out.below hb) HLT.out HM.out).mono ?_
        rintro e w2 ⟨v2, rfl, hv2, hb2⟩
        rw [HE.out] at hv2
        have HV2 := Lib.hid (hv2.base (base' := w.heap.size) (fun b hb => Nat.le_trans hzz (hv2.typ b hb).1))
        clear hv2
        go_wp2_with fail
        go_returns
        exact ⟨v2, rfl, HV2.out, below_via hb hb2⟩
      · have q : (z == c) = false := by simpa using hzc
        have HN2 : Hid (c ∉ l.take (k + 1)) := Lib.hid (by
          rw [List.take_add_one, HZ.out]
          simp only [Option.toList_some, List.mem_append, List.mem_singleton, not_or]
          exact ⟨HN.out, fun e => hzc e.symm⟩)
        clear hzc
        go_wp2_with fail
        go_roundw
        case rel => exact ⟨k + 1, by omega, by go_num, HN2.out, hb⟩
        case measure => simp [intOf]; omega
    · exfalso
      have h1 := HN.out
      rw [List.take_of_length_le (by omega)] at h1
      exact h1 HC.out
def rowL : Option Nat → List Nat
  | some b => [b]
  | none => []
/-- two drafts and two rows of numbers, which share no memory -/
structure TriM (W : World) (B : Nat) (S T : List Nat) (P Q : Nat) (x y : Dr) (va vt : Value) (al tl : List Int) : Prop where
  a : DrAt W B S P x
  b : DrAt W B T Q y
  ne : ∀ k ∈ S, k ∉ T
  oa : Oe ic 3 W va al
  ot : Oe ic 3 W vt tl
  vaN : ∀ k, blk va = some k → B ≤ k ∧ k ∉ S ∧ k ∉ T ∧ blk vt ≠ some k
  vtN : ∀ k, blk vt = some k → B ≤ k ∧ k ∉ S ∧ k ∉ T
def Tri (W : World) (B : Nat) (P Q : Nat) (x y : Dr) (va vt : Value) (al tl : List Int) : Prop := ∃ S T, TriM W B S T P Q x y va vt al tl
theorem Tri.below {W W' : World} {B P Q : Nat} {x y : Dr} {va vt : Value} {al tl : List Int} (h : Tri W B P Q x y va vt al tl) (hb : Below W.heap.size W W') : Tri W' B P Q x y va vt al tl := by
  obtain ⟨S, T, h⟩ := h
  exact ⟨S, T, h.a.below hb, h.b.below hb, h.ne, h.oa.below hb, h.ot.below hb, h.vaN, h.vtN⟩
theorem TriM.takeA {W W' : World} {B : Nat} {S T S' : List Nat} {P Q : Nat} {x y x' : Dr} {va vt : Value} {al tl : List Int} (h : TriM W B S T P Q x y va vt al tl) (hd : DrAt W' B S' P x') (hs : ∀ b ∈ S', b ∈ S ∨ W.heap.size ≤ b) (ho : Onl S W W') : Tri W' B P Q x' y va vt al tl := by
  refine ⟨S', T, hd, h.b.onl ho (fun b hb hm => h.ne b hm hb), fun k hk hm => ?_, h.oa.onl ho (fun b hb => (h.vaN b hb).2.1), h.ot.onl ho (fun b hb => (h.vtN b hb).2.1), fun k hk => ⟨(h.vaN k hk).1, fun hm => ?_, (h.vaN k hk).2.2⟩, fun k hk => ⟨(h.vtN k hk).1, fun hm => ?_, (h.vtN k hk).2.2⟩⟩
  · rcases hs k hk with h1 | h1
    · exact h.ne k h1 hm
    · have := (h.b.newB k hm).2
      omega
  · rcases hs k hm with h1 | h1
    · exact (h.vaN k hk).2.1 h1
    · have := h.oa.lt hk
      omega
  · rcases hs k hm with h1 | h1
    · exact (h.vtN k hk).2.1 h1
    · have := h.ot.lt hk
      omega
theorem TriM.takeB {W W' : World} {B : Nat} {S T T' : List Nat} {P Q : Nat} {x y y' : Dr} {va vt : Value} {al tl : List Int} (h : TriM W B S T P Q x y va vt al tl) (hd : DrAt W' B T' Q y') (hs : ∀ b ∈ T', b ∈ T ∨ W.heap.size ≤ b) (ho : Onl T W W') : Tri W' B P Q x y' va vt al tl := by
  refine ⟨S, T', h.a.onl ho (fun b hb hm => h.ne b hb hm), hd, fun k hk hm => ?_, h.oa.onl ho (fun b hb => (h.vaN b hb).2.2.1), h.ot.onl ho (fun b hb => (h.vtN b hb).2.2), fun k hk => ⟨(h.vaN k hk).1, (h.vaN k hk).2.1, fun hm => ?_, (h.vaN k hk).2.2.2⟩, fun k hk => ⟨(h.vtN k hk).1, (h.vtN k hk).2.1, fun hm => ?_⟩⟩
  · rcases hs k hm with h1 | h1
    · exact h.ne k hk h1
    · have := (h.a.newB k hk).2
      omega
  · rcases hs k hm with h1 | h1
    · exact (h.vaN k hk).2.2.1 h1
    · have := h.oa.lt hk
      omega
  · rcases hs k hm with h1 | h1
    · exact (h.vtN k hk).2.2 h1
    · have := h.ot.lt hk
      omega
/-- another list for the first row -/
theorem Tri.setA {W W' : World} {B P Q : Nat} {x y : Dr} {va vt va' : Value} {al tl al' : List Int} (h : Tri W B P Q x y va vt al tl) (hb : Below W.heap.size W W') (hB : B ≤ W.heap.size) (hv : Ow ic 1 3 W' W.heap.size va' al') : Tri W' B P Q x y va' vt al' tl := by
  obtain ⟨S, T, h⟩ := h
  refine ⟨S, T, h.a.below hb, h.b.below hb, h.ne, Oe.of_ow hv, h.ot.below hb, fun k hk => ?_, h.vtN⟩
  have h1 := (hv.typ k hk).1
  exact ⟨by omega, fun hm => by have := (h.a.newB k hm).2; omega, fun hm => by have := (h.b.newB k hm).2; omega, fun e => by have := h.ot.lt e; omega⟩
theorem Tri.setT {W : World} {B P Q : Nat} {x y : Dr} {va vt : Value} {al tl : List Int} (h : Tri W B P Q x y va vt al tl) : Tri W B P Q x y va (.slice none 0 0) al [] := by
  obtain ⟨S, T, h⟩ := h
  exact ⟨S, T, h.a, h.b, h.ne, h.oa, Oe.nil _ _, fun k hk => ⟨(h.vaN k hk).1, (h.vaN k hk).2.1, (h.vaN k hk).2.2.1, by simp [blk, Value.ownBlock]⟩, fun k hk => by simp [blk, Value.ownBlock] at hk⟩
/-- the first row has grown -/
theorem Tri.growA {W W' : World} {B P Q : Nat} {x y : Dr} {va vt va' : Value} {al tl al' : List Int} (h : Tri W B P Q x y va vt al tl) (hB : B ≤ W.heap.size) (hg : W.grownBy W' va.ownBlock) (hv : Oe ic 3 W' va' al') (hn : va'.ownBlock = va.ownBlock ∨ va'.ownBlock = some W.heap.size) : Tri W' B P Q x y va' vt al' tl := by
  obtain ⟨S, T, h⟩ := h
  obtain ⟨ro, hro⟩ : ∃ ro, va.ownBlock = ro := ⟨_, rfl⟩
  rw [hro] at hg hn
  have ho : Onl (rowL ro) W W' := ⟨hg.os, hg.tape, hg.output, hg.size, fun k hk hne => hg.block k hk (by rintro rfl; simp [rowL] at hne)⟩
  have hin : ∀ k, k ∈ rowL ro → blk va = some k := fun k hk => by
    cases ro with
    | none => simp [rowL] at hk
    | some r => simp [rowL] at hk; subst hk; exact hro
  refine ⟨S, T, h.a.onl ho (fun b hb hm => (h.vaN b (hin b hm)).2.1 hb), h.b.onl ho (fun b hb hm => (h.vaN b (hin b hm)).2.2.1 hb), h.ne, hv, h.ot.onl ho (fun b hb hm => (h.vaN b (hin b hm)).2.2.2 hb), fun k hk => ?_, h.vtN⟩
  rcases hn with h1 | h1
  · exact h.vaN k (by show va.ownBlock = _; rw [hro, ← h1]; exact hk)
  · obtain rfl : W.heap.size = k := by have h2 : va'.ownBlock = some k := hk; rw [h1] at h2; simpa using h2
    exact ⟨hB, fun hm => by have := (h.a.newB _ hm).2; omega, fun hm => by have := (h.b.newB _ hm).2; omega, fun e => by have := h.ot.lt e; omega⟩
/-- the second row has grown -/
theorem Tri.growT {W W' : World} {B P Q : Nat} {x y : Dr} {va vt vt' : Value} {al tl tl' : List Int} (h : Tri W B P Q x y va vt al tl) (hB : B ≤ W.heap.size) (hg : W.grownBy W' vt.ownBlock) (hv : Oe ic 3 W' vt' tl') (hn : vt'.ownBlock = vt.ownBlock ∨ vt'.ownBlock = some W.heap.size) : Tri W' B P Q x y va vt' al tl' := by
  obtain ⟨S, T, h⟩ := h
  obtain ⟨ro, hro⟩ : ∃ ro, vt.ownBlock = ro := ⟨_, rfl⟩
  rw [hro] at hg hn
  have ho : Onl (rowL ro) W W' := ⟨hg.os, hg.tape, hg.output, hg.size, fun k hk hne => hg.block k hk (by rintro rfl; simp [rowL] at hne)⟩
  have hin : ∀ k, k ∈ rowL ro → blk vt = some k := fun k hk => by
    cases ro with
    | none => simp [rowL] at hk
    | some r => simp [rowL] at hk; subst hk; exact hro
  have hne : ∀ k, blk va = some k → blk vt' ≠ some k := fun k hk e => by
    rcases hn with h1 | h1
    · exact (h.vaN k hk).2.2.2 (by show vt.ownBlock = _; rw [hro, ← h1]; exact e)
    · have h2 : vt'.ownBlock = some k := e
      rw [h1] at h2
      simp at h2
      have := h.oa.lt hk
      omega
  refine ⟨S, T, h.a.onl ho (fun b hb hm => (h.vtN b (hin b hm)).2.1 hb), h.b.onl ho (fun b hb hm => (h.vtN b (hin b hm)).2.2 hb), h.ne, h.oa.onl ho (fun b hb hm => (h.vaN b hb).2.2.2 (hin b hm)), hv, fun k hk => ⟨(h.vaN k hk).1, (h.vaN k hk).2.1, (h.vaN k hk).2.2.1, hne k hk⟩, fun k hk => ?_⟩
  rcases hn with h1 | h1
  · exact h.vtN k (by show vt.ownBlock = _; rw [hro, ← h1]; exact hk)
  · obtain rfl : W.heap.size = k := by have h2 : vt'.ownBlock = some k := hk; rw [h1] at h2; simpa using h2
    exact ⟨hB, fun hm => by have := (h.a.newB _ hm).2; omega, fun hm => by have := (h.b.newB _ hm).2; omega⟩
theorem TriM.lt {W : World} {B : Nat} {S T : List Nat} {P Q : Nat} {x y : Dr} {va vt : Value} {al tl : List Int} (h : TriM W B S T P Q x y va vt al tl) : ∀ b, b ∈ S ∨ b ∈ T → B ≤ b := fun b hb => by
  rcases hb with hb | hb
  · exact (h.a.newB b hb).1
  · exact (h.b.newB b hb).1
end Go.Proofs.Yteocplabibhecaa
