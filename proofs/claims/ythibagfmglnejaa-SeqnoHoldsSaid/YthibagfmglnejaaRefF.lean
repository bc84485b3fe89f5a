/- Accept of the reference and of the program, whole. -/
import Derived.Test.YthibagfmglnejaaRefE
namespace Go.Proofs.Ythibagfmglnejaa
open Go.RowKit Plain
set_option linter.unusedVariables false
set_option linter.unusedSimpArgs false

/-- what Accept says, and the window behind it -/
def resN (l : List Bool) (d : Nat) : Int := if hasN l d = true then 13 else if l.length ≤ d then 3 else 0
def resF (f : Int) (l : List Bool) (d : Nat) : Int := if hasN l d = true then f else if l.length ≤ d then f else accF f l d
def resL (l : List Bool) (d : Nat) : List Bool := if hasN l d = true then l else if l.length ≤ d then l else accL l d
theorem resN_stale (l : List Bool) (d : Nat) : (resN l d == 13) = hasN l d := by
  unfold resN
  cases h : hasN l d
  · simp; split <;> simp
  · simp
theorem resL_len (l : List Bool) (d : Nat) : (resL l d).length = l.length := by
  unfold resL
  split
  · rfl
  · split
    · rfl
    · exact accL_length l d
theorem resL_head {l : List Bool} {d : Nat} (h1 : 1 ≤ l.length) (h0 : l[0]? = some false) : (resL l d)[0]? = some false := by
  unfold resL
  split
  · exact h0
  · split
    · exact h0
    · exact accL_head h1
theorem accept24_all (f S n : Int) (d : Nat) (l : List Bool) (v : Value) (zs : List Int) (w : World) (hf : U16 f) (hn : U16 n) (hl : l.length ≤ 1024) (hS : S = (l.length : Int)) (X : List Nat) (hX : ∀ x ∈ X, x < w.heap.size) (hs : SegX w .u16 v zs X) (hm : zs.length ≤ 1000) (hr : RepR f l zs) (h0 : l[0]? = some false) (hd : dist f n = (d : Int)) (hl1 : 1 ≤ l.length) : Calls Try.prog 24 #[.agg #[.int .u16 f, .int .i64 S, v], .int .u16 n] w (AccAt w (resF f l d) S (resL l d) (resN l d) (zs.length + 1) X) := by
  obtain ⟨_, a1, c1, rfl, _⟩ := seg_form hs.seg
  cases hv : hasN l d with
  | true =>
    refine (accept24_stale f S n d l _ zs w hf hn hl hS X hX hs hm hr h0 hd hv).mono fun e w' ⟨h1, h2⟩ => ⟨a1, c1, zs, ?_, hs.below h2, ?_, by omega, h2⟩
    · rw [h1]; simp [resF, resN, hv]
    · simpa [resF, resL, hv] using hr
  | false =>
    rcases Nat.lt_or_ge d l.length with h | h
    · have e1 : resN l d = 0 := by simp [resN, hv]; omega
      have e2 : resF f l d = accF f l d := by simp [resF, hv]; omega
      have e3 : resL l d = accL l d := by simp [resL, hv]; omega
      rw [e1, e2, e3]
      rcases Nat.eq_zero_or_pos d with h3 | h3
      · subst h3
        refine (accept24_zero f S n l _ zs w hf hn hl hS X hX hs hm hr h0 hd hl1).mono fun e w' ⟨a, c, ys, h1, h2, h4, h5, h6⟩ => ⟨a, c, ys, h1, h2, h4, by omega, h6⟩
      · exact accept24_add f S n d l _ zs w hf hn hl hS X hX hs hm hr h0 hd hv h3 h
    · refine (accept24_range f S n d l _ zs w hf hn hl hS X hX hs hm hr h0 hd hv h).mono fun e w' ⟨h1, h2⟩ => ⟨a1, c1, zs, ?_, hs.below h2, ?_, by omega, h2⟩
      · rw [h1]; simp [resF, resN, hv, h]
      · simpa [resF, resL, hv, h] using hr
theorem accept17_all (P D : Nat) (f : Int) (l : List Bool) (cap : Nat) (ex : List Value) (w : World) (hw : WinAt w P D f l cap ex) (n : Int) (d : Nat) (hn : U16 n) (HD : Hid (dist f n = (d : Int))) : Calls Try.prog 17 #[.pointer (some ⟨P, 0, none⟩), .int .u16 n] w fun e w' => e = .returned (.int .i64 (resN l d)) ∧ WinAt w' P D (resF f l d) (resL l d) cap ex ∧ Onl [P, D] w w' := by
  cases hv : hasN l d with
  | true =>
    refine (accept17_stale P D f l cap ex w hw n d hn HD (Lib.hid hv)).mono fun e w' ⟨h1, h2⟩ => ⟨?_, ?_, Onl.of h2⟩
    · rw [h1]; simp [resN, hv]
    · simpa [resF, resL, hv] using hw.below h2
  | false =>
    rcases Nat.lt_or_ge d l.length with h | h
    · have e1 : resN l d = 0 := by simp [resN, hv]; omega
      have e2 : resF f l d = accF f l d := by simp [resF, hv]; omega
      have e3 : resL l d = accL l d := by simp [resL, hv]; omega
      rw [e1, e2, e3]
      exact accept17_ok P D f l cap ex w hw n d hn HD (Lib.hid hv) h
    · refine (accept17_range P D f l cap ex w hw n d hn HD (Lib.hid hv) h).mono fun e w' ⟨h1, h2⟩ => ⟨?_, ?_, Onl.of h2⟩
      · rw [h1]; simp [resN, hv, h]
      · simpa [resF, resL, hv, h] using hw.below h2
theorem accept24_allc (r F2 : Int) (L2 : List Bool) (f S n : Int) (d : Nat) (l : List Bool) (v : Value) (zs : List Int) (w : World) (hf : U16 f) (hn : U16 n) (hl : l.length ≤ 1024) (hS : S = (l.length : Int)) (X : List Nat) (hX : ∀ x ∈ X, x < w.heap.size) (hs : SegX w .u16 v zs X) (hm : zs.length ≤ 1000) (hr : RepR f l zs) (h0 : l[0]? = some false) (hd : dist f n = (d : Int)) (hl1 : 1 ≤ l.length) (e1 : resN l d = r) (e2 : resF f l d = F2) (e3 : resL l d = L2) : Calls Try.prog 24 #[.agg #[.int .u16 f, .int .i64 S, v], .int .u16 n] w (AccAt w F2 S L2 r (zs.length + 1) X) := by
  subst e1 e2 e3
  exact accept24_all f S n d l v zs w hf hn hl hS X hX hs hm hr h0 hd hl1
theorem accept17_allc (r F2 : Int) (L2 : List Bool) (P D : Nat) (f : Int) (l : List Bool) (cap : Nat) (ex : List Value) (w : World) (hw : WinAt w P D f l cap ex) (n : Int) (d : Nat) (hn : U16 n) (HD : Hid (dist f n = (d : Int))) (e1 : resN l d = r) (e2 : resF f l d = F2) (e3 : resL l d = L2) : Calls Try.prog 17 #[.pointer (some ⟨P, 0, none⟩), .int .u16 n] w fun e w' => e = .returned (.int .i64 r) ∧ WinAt w' P D F2 L2 cap ex ∧ Onl [P, D] w w' := by
  subst e1 e2 e3
  exact accept17_all P D f l cap ex w hw n d hn HD
end Go.Proofs.Ythibagfmglnejaa
