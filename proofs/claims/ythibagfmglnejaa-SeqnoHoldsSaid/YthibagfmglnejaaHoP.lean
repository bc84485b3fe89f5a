/- The plain law of SeqnoHolds. -/
import Derived.Test.YthibagfmglnejaaHoA
namespace Go.Proofs.Ythibagfmglnejaa
open Go.RowKit Plain
set_option linter.unusedVariables false
set_option linter.unusedSimpArgs false

/-- how many trues -/
def cnt (l : List Bool) : Nat := l.count true
theorem cnt_set {l : List Bool} {d : Nat} (h : l[d]? = some false) : cnt (l.set d true) = cnt l + 1 := by
  have hd := (List.getElem?_eq_some_iff.1 h).1
  have h2 := (List.getElem?_eq_some_iff.1 h).2
  unfold cnt
  rw [List.count_set hd]
  simp [h2]
theorem cnt_gone : ∀ l : List Bool, cnt (l.drop (gone l)) + gone l = cnt l
  | [] => rfl
  | b :: l => by
    rw [gone_cons]
    cases b with
    | false => simp
    | true =>
      have := cnt_gone l
      simp [cnt] at this ⊢
      omega
theorem cnt_shift (l : List Bool) : cnt (shift l) + gone l = cnt l := by
  have h := cnt_gone l
  unfold shift cnt at *
  rw [List.count_append]
  have : List.count true (List.replicate (gone l) false) = 0 := by rw [List.count_replicate]; simp
  omega
/-- what has been taken when the window stands at t -/
def Tk (f0 : Int) (t : Nat) (f : Int) (l : List Bool) (S : List Int) : Prop := ∀ x, U16 x → (x ∈ S ↔ (∃ j, j < t ∧ x = at5 f0 j) ∨ ∃ d : Nat, dist f x = (d : Int) ∧ l[d]? = some true)
theorem at5_at5 (f : Int) (t j : Nat) : at5 (at5 f t) j = at5 f (t + j) := by unfold at5; omega
theorem at5_dist (f : Int) (j : Nat) (hf : U16 f) (h : j < 65536) : dist f (at5 f j) = (j : Int) := dist_add f j hf h
theorem tk_next {f : Int} {t : Nat} {l : List Bool} {S : List Int} {n : Int} {d : Nat} (h0 : U16 f) (h : Tk f t (at5 f t) l S) (hn : U16 n) (hd : dist (at5 f t) n = (d : Int)) (hl : l.length ≤ 1024) (hdl : d < l.length) :
    accF (at5 f t) l d = at5 f (t + gone (l.set d true)) ∧ Tk f (t + gone (l.set d true)) (at5 f (t + gone (l.set d true))) (accL l d) (n :: S) := by
  have hF : accF (at5 f t) l d = at5 f (t + gone (l.set d true)) := by unfold accF; rw [← at5_at5]; rfl
  refine ⟨hF, ?_⟩
  have hll : (l.set d true).length = l.length := by simp
  have hgl := gone_le (l.set d true)
  generalize hg : gone (l.set d true) = g at *
  have hA : ∀ i, (accL l d)[i]? = some true ↔ (l.set d true)[i + g]? = some true := by
    intro i
    unfold accL shift
    rw [hg]
    rcases Nat.lt_or_ge (i + g) l.length with h1 | h1
    · rw [List.getElem?_append_left (by simp; omega), List.getElem?_drop, Nat.add_comm g]
    · rw [List.getElem?_eq_none (l := l.set d true) (by omega)]
      rw [List.getElem?_append_right (by simp; omega), List.getElem?_replicate]
      simp
  have hU := at5_U f t
  have hn2 : ∀ x, U16 x → (x = n ↔ dist (at5 f t) x = (d : Int)) := fun x hx => ⟨fun e => by rw [e]; exact hd, fun e => dist_inj hx hn (e.trans hd.symm)⟩
  intro x hx
  rw [List.mem_cons, h x hx, hn2 x hx]
  have hS : ∀ e : Nat, (l.set d true)[e]? = some true ↔ e = d ∨ l[e]? = some true := by
    intro e
    by_cases he : d = e
    · subst he; simp [List.getElem?_set_self hdl]
    · rw [List.getElem?_set_ne he]
      constructor
      · exact fun h => .inr h
      · rintro (h | h)
        · omega
        · exact h
  have hd0 := dist_bd (at5 f t) x
  constructor
  · intro hh
    have h5 : (∃ j, j < t ∧ x = at5 f j) ∨ ∃ e : Nat, dist (at5 f t) x = (e : Int) ∧ (l.set d true)[e]? = some true := by
      rcases hh with h1 | h1 | ⟨e, h1, h2⟩
      · exact .inr ⟨d, h1, (hS d).2 (.inl rfl)⟩
      · exact .inl h1
      · exact .inr ⟨e, h1, (hS e).2 (.inr h2)⟩
    rcases h5 with ⟨j, h1, h2⟩ | ⟨e, h1, h2⟩
    · exact .inl ⟨j, by omega, h2⟩
    · have hel := (List.getElem?_eq_some_iff.1 h2).1
      rcases Nat.lt_or_ge e g with h3 | h3
      · refine .inl ⟨t + e, by omega, ?_⟩
        rw [← at5_at5]
        exact dist_inj hx (at5_U _ _) (h1.trans (at5_dist _ e hU (by omega)).symm)
      · refine .inr ⟨e - g, ?_, ?_⟩
        · rw [← at5_at5]
          have := at5_dist (at5 f t) g hU (by omega)
          unfold dist at5 U16 at *
          omega
        · rw [hA, show e - g + g = e by omega]; exact h2
  · rintro (⟨j, h1, h2⟩ | ⟨e, h1, h2⟩)
    · rcases Nat.lt_or_ge j t with h3 | h3
      · exact .inr (.inl ⟨j, h3, h2⟩)
      · have h4 := gone_true (l.set d true) (j - t) (by omega)
        have h6 : dist (at5 f t) x = ((j - t : Nat) : Int) := by
          rw [h2, show j = t + (j - t) by omega, ← at5_at5, at5_dist _ _ hU (by omega)]
          congr 1; omega
        rcases (hS _).1 h4 with h5 | h5
        · exact .inl (by rw [h6, h5])
        · exact .inr (.inr ⟨_, h6, h5⟩)
    · rw [hA] at h2
      have hel := (List.getElem?_eq_some_iff.1 h2).1
      have h6 : dist (at5 f t) x = ((e + g : Nat) : Int) := by
        rw [← at5_at5] at h1
        unfold dist at5 U16 at *
        omega
      rcases (hS _).1 h2 with h5 | h5
      · exact .inl (by rw [h6, h5])
      · exact .inr (.inr ⟨_, h6, h5⟩)
theorem tk_has {f : Int} {t : Nat} {l : List Bool} {S : List Int} {n : Int} {d : Nat} (h0 : U16 f) (ht : t ≤ 1000) (h : Tk f t (at5 f t) l S) (hn : U16 n) (hd : dist (at5 f t) n = (d : Int)) (hdl : d < l.length) (hl : l.length ≤ 1024) : decide (n ∈ S) = l.getD d false := by
  have hb := List.getElem?_eq_getElem hdl
  rw [List.getD_eq_getElem?_getD, hb]
  have key : n ∈ S ↔ l[d] = true := by
    rw [h n hn]
    constructor
    · rintro (⟨j, h1, h2⟩ | ⟨e, h1, h2⟩)
      · exfalso
        rw [h2] at hd
        unfold dist at5 U16 at *
        omega
      · have : e = d := by omega
        subst this
        rw [hb] at h2
        simpa using h2
    · intro h1
      exact .inr ⟨d, hd, by rw [hb, h1]⟩
  cases hv : l[d]
  · rw [hv] at key; simpa using key
  · rw [hv] at key; simpa using key
theorem tk_first {f : Int} {t : Nat} {l : List Bool} {S : List Int} (h0 : U16 f) (ht : t ≤ 1000) (h : Tk f t (at5 f t) l S) (hl : l[0]? = some false) : decide (at5 f t ∈ S) = false := by
  simp
  rw [h _ (at5_U _ _)]
  rintro (⟨j, h1, h2⟩ | ⟨e, h1, h2⟩)
  · unfold at5 at h2; omega
  · rw [dist_self] at h1
    have : e = 0 := by omega
    subst this
    rw [hl] at h2
    simp at h2
theorem tk_past {f0 : Int} {t j : Nat} {f : Int} {l : List Bool} {S : List Int} (h : Tk f0 t f l S) (hj : j < t) : decide (at5 f0 j ∈ S) = true := by
  simpa using (h _ (at5_U _ _)).2 (.inl ⟨j, hj, rfl⟩)
theorem tk_new (f : Int) (m : Nat) (hf : U16 f) : Tk f 0 (at5 f 0) (List.replicate m false) [] := by
  intro x hx
  simp
  intro d _ h
  rw [List.getElem?_replicate] at h
  split at h <;> simp at h
/-- what the first part tests -/
theorem aft_eq (a : Int) : aft a a = false := by unfold aft dist; simp
theorem aft_half {a b : Int} (h : dist a b = 32768) : aft a b = false ∧ aft b a = false := by
  have h2 : dist b a = 32768 := by unfold dist at *; omega
  unfold aft
  rw [h, h2]
  exact ⟨by decide, by decide⟩
theorem aft_not {a b : Int} (ha : U16 a) (hb : U16 b) (hne : a ≠ b) (h : dist a b ≠ 32768) : aft b a = !aft a b := by
  have h1 : dist b a = 65536 - dist a b := by unfold dist U16 at *; omega
  have h2 := dist_bd a b
  have h3 : dist a b ≠ 0 := by unfold dist U16 at *; omega
  unfold aft
  rw [h1]
  rw [← decide_not]
  apply decide_eq_decide.2
  omega
theorem dist_comm (a b : Int) : dist b a = (65536 - dist a b) % 65536 := by unfold dist; omega
end Go.Proofs.Ythibagfmglnejaa
