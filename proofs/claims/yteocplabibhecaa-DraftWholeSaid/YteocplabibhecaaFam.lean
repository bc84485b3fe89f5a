/- Rows of our own that share no memory ('Fam'), rows of rows ('Mat'), and what can be read of them. -/
import Derived.Test.YteocplabibhecaaRw
import Derived.Test.YteocplabibhecaaPlain
namespace Go.Proofs.Yteocplabibhecaa
open Go.RowKit Plain
set_option linter.unusedVariables false

/-- a slice value -/
structure Sl where
  a : Option Addr
  n : Nat
  c : Nat
def Sl.v (s : Sl) : Value := .slice s.a s.n s.c
def Sl.nil : Sl := ⟨none, 0, 0⟩
/-- the cell of a slice -/
def vc (s : Sl) : List Value := [s.v]
theorem vc_ok : ∀ x, (vc x).length = 1 ∧ ∀ u ∈ vc x, u.oneCell' = true := fun x => ⟨rfl, fun u hu => by simp [vc, Sl.v] at hu; subst hu; rfl⟩
/-- the block of a slice -/
def blk (v : Value) : Option Nat := v.ownBlock

section
variable {α : Type} {f : α → List Value}

/-- a row of our own -/
def Oe (f : α → List Value) (e : TypeId) (w : World) (v : Value) (l : List α) : Prop := Ow f 1 e w 0 v l

theorem Oe.of_ow {e : TypeId} {w : World} {base : Nat} {v : Value} {l : List α} (h : Ow f 1 e w base v l) : Oe f e w v l := h.base (base' := 0) (fun _ _ => Nat.zero_le _)
theorem Oe.nil (e : TypeId) (w : World) : Oe f e w (.slice none 0 0) ([] : List α) := Ow.nil _ _ _
theorem Oe.rw {e : TypeId} {w : World} {v : Value} {l : List α} (h : Oe f e w v l) (hs : ∀ x ∈ l, (f x).length = 1) : Rw f 1 w v l := Ow.rw h hs
theorem Oe.onl {e : TypeId} {S : List Nat} {w w' : World} {v : Value} {l : List α} (h : Oe f e w v l) (ho : Onl S w w') (hs : ∀ b, blk v = some b → b ∉ S) : Oe f e w' v l := Ow.onl h ho hs
theorem Oe.below {e : TypeId} {w w' : World} {v : Value} {l : List α} (h : Oe f e w v l) (hb : Below w.heap.size w w') : Oe f e w' v l := h.onl (S := []) (.of hb) (fun _ _ => by simp)
theorem Oe.typ {e : TypeId} {w : World} {v : Value} {l : List α} (h : Oe f e w v l) : ∀ b, blk v = some b → b < w.heap.size ∧ ∃ cur, w.heap[b]? = some (.cells cur e (0, 0)) := fun b hb => (Ow.typ h b hb).2
theorem Oe.lt {e : TypeId} {w : World} {v : Value} {l : List α} (h : Oe f e w v l) {b : Nat} (hb : blk v = some b) : b < w.heap.size := (h.typ b hb).1
theorem Oe.form {e : TypeId} {w : World} {v : Value} {l : List α} (h : Oe f e w v l) : ∃ a cap, v = .slice a l.length cap := Ow.form h
/-- one that is not empty -/
theorem Oe.pos {e : TypeId} {w : World} {v : Value} {l : List α} (h : Oe f e w v l) (h0 : l ≠ []) : ∃ g cap, v = .slice (some ⟨g, 0, none⟩) l.length cap ∧ 0 < cap ∧ blk v = some g ∧ Ow f 1 e w 0 v l := by
  rcases h.2 with ⟨_, h1⟩ | ⟨g, cap, cur, h1, _, _, h2, _⟩
  · exact absurd (List.eq_nil_of_length_eq_zero h1) h0
  · have : l.length ≠ 0 := fun e => h0 (List.eq_nil_of_length_eq_zero e)
    exact ⟨g, cap, h1, by omega, by rw [h1]; rfl, h⟩
theorem blk_own {v : Value} {b : Nat} (h : blk v = some b) : v.ownBlock = some b := h
theorem Oe.ne {β : Type} {f' : β → List Value} {e e' : TypeId} {w : World} {v v' : Value} {l : List α} {l' : List β} (h : Oe f e w v l) (h' : Oe f' e' w v' l') (he : e ≠ e') {b : Nat} (hb : blk v = some b) : blk v' ≠ some b := by
  intro hb'
  obtain ⟨_, c1, h1⟩ := h.typ b hb
  obtain ⟨_, c2, h2⟩ := h'.typ b hb'
  rw [h1] at h2
  simp at h2
  exact he h2.2

/-- rows that share no memory -/
structure Fam (f : α → List Value) (e : TypeId) (w : World) (vs : List Sl) (ls : List (List α)) : Prop where
  len : vs.length = ls.length
  row : ∀ (i : Nat) v l, vs[i]? = some v → ls[i]? = some l → Oe f e w v.v l
  ne : ∀ (i j : Nat) u v b, vs[i]? = some u → vs[j]? = some v → i ≠ j → blk u.v = some b → blk v.v ≠ some b

theorem Fam.nil (e : TypeId) (w : World) : Fam f e w [] [] := ⟨rfl, by simp, by simp⟩
theorem Fam.get {e : TypeId} {w : World} {vs : List Sl} {ls : List (List α)} (h : Fam f e w vs ls) {i : Nat} {l : List α} (hl : ls[i]? = some l) : ∃ v, vs[i]? = some v ∧ Oe f e w v.v l := by
  have hi := (List.getElem?_eq_some_iff.1 hl).1
  have : i < vs.length := by rw [h.len]; exact hi
  exact ⟨vs[i], List.getElem?_eq_getElem this, h.row i _ _ (List.getElem?_eq_getElem this) hl⟩
theorem Fam.mem {e : TypeId} {w : World} {vs : List Sl} {ls : List (List α)} (h : Fam f e w vs ls) {v : Sl} (hv : v ∈ vs) : ∃ (i : Nat) (l : List α), vs[i]? = some v ∧ ls[i]? = some l ∧ Oe f e w v.v l := by
  obtain ⟨i, hi⟩ := List.getElem?_of_mem hv
  have h1 := (List.getElem?_eq_some_iff.1 hi).1
  have h2 : i < ls.length := by rw [← h.len]; exact h1
  exact ⟨i, ls[i], hi, List.getElem?_eq_getElem h2, h.row i _ _ hi (List.getElem?_eq_getElem h2)⟩
theorem Fam.onl {e : TypeId} {S : List Nat} {w w' : World} {vs : List Sl} {ls : List (List α)} (h : Fam f e w vs ls) (ho : Onl S w w') (hs : ∀ v ∈ vs, ∀ b, blk v.v = some b → b ∉ S) : Fam f e w' vs ls :=
  ⟨h.len, fun i v l hv hl => (h.row i v l hv hl).onl ho (hs v (List.mem_of_getElem? hv)), h.ne⟩
theorem Fam.below {e : TypeId} {w w' : World} {vs : List Sl} {ls : List (List α)} (h : Fam f e w vs ls) (hb : Below w.heap.size w w') : Fam f e w' vs ls := h.onl (S := []) (.of hb) (fun _ _ _ _ => by simp)
theorem Fam.lt {e : TypeId} {w : World} {vs : List Sl} {ls : List (List α)} (h : Fam f e w vs ls) {v : Sl} (hv : v ∈ vs) {b : Nat} (hb : blk v.v = some b) : b < w.heap.size := by
  obtain ⟨i, l, _, _, ho⟩ := h.mem hv
  exact ho.lt hb
/-- one row is another one: its block is the old one's or new -/
theorem Fam.set {e : TypeId} {S : List Nat} {w w' : World} {vs : List Sl} {ls : List (List α)} (h : Fam f e w vs ls) (i : Nat) (u v : Sl) (l : List α) (hu : vs[i]? = some u) (ho : Onl S w w')
    (hS : ∀ b ∈ S, (∀ x ∈ vs, blk x.v ≠ some b) ∨ blk u.v = some b) (hv : Oe f e w' v.v l) (hb : ∀ b, blk v.v = some b → blk u.v = some b ∨ w.heap.size ≤ b) : Fam f e w' (vs.set i v) (ls.set i l) := by
  have hi := (List.getElem?_eq_some_iff.1 hu).1
  have hli : i < ls.length := by rw [← h.len]; exact hi
  refine ⟨by simp [h.len], fun j x m hx hm => ?_, fun j k x y b hx hy hjk hbx hby => ?_⟩
  · by_cases hj : i = j
    · subst hj
      rw [List.getElem?_set_self hi] at hx
      rw [List.getElem?_set_self hli] at hm
      cases hx; cases hm
      exact hv
    · rw [List.getElem?_set_ne hj] at hx hm
      refine (h.row j x m hx hm).onl ho (fun b hb hS' => ?_)
      rcases hS b hS' with h1 | h1
      · exact h1 x (List.mem_of_getElem? hx) hb
      · exact h.ne i j u x b hu hx hj h1 hb
  · by_cases hj : i = j
    · subst hj
      rw [List.getElem?_set_self hi] at hx
      rw [List.getElem?_set_ne hjk] at hy
      cases hx
      rcases hb b hbx with h1 | h1
      · exact h.ne i k u y b hu hy hjk h1 hby
      · have := h.lt (List.mem_of_getElem? hy) hby
        omega
    · rw [List.getElem?_set_ne hj] at hx
      by_cases hk : i = k
      · subst hk
        rw [List.getElem?_set_self hi] at hy
        cases hy
        rcases hb b hby with h1 | h1
        · exact h.ne i j u x b hu hx hj h1 hbx
        · have := h.lt (List.mem_of_getElem? hx) hbx
          omega
      · rw [List.getElem?_set_ne hk] at hy
        exact h.ne j k x y b hx hy hjk hbx hby
/-- one more row, whose block is no other's -/
theorem Fam.push' {e : TypeId} {w : World} {vs : List Sl} {ls : List (List α)} (h : Fam f e w vs ls) (v : Sl) (l : List α) (hv : Oe f e w v.v l) (hn : ∀ b, blk v.v = some b → ∀ x ∈ vs, blk x.v ≠ some b) : Fam f e w (vs ++ [v]) (ls ++ [l]) := by
  have nu : ∀ (i : Nat) (z : Sl), (vs ++ [v])[i]? = some z → (vs[i]? = some z ∧ i < vs.length) ∨ (z = v ∧ i = vs.length) := by
    intro i z hz
    rcases Nat.lt_trichotomy i vs.length with h1 | h1 | h1
    · rw [List.getElem?_append_left h1] at hz
      exact .inl ⟨hz, h1⟩
    · subst h1
      rw [List.getElem?_append_right (Nat.le_refl _)] at hz
      simp at hz
      exact .inr ⟨hz.symm, rfl⟩
    · rw [List.getElem?_eq_none (by simp; omega)] at hz
      cases hz
  refine ⟨by simp [h.len], fun j x m hx hm => ?_, fun j k x y b hx hy hjk hbx hby => ?_⟩
  · rcases nu j x hx with ⟨h1, h2⟩ | ⟨rfl, h2⟩
    · rw [List.getElem?_append_left (by rw [← h.len]; exact h2)] at hm
      exact h.row j x m h1 hm
    · subst h2
      rw [List.getElem?_append_right (by rw [h.len]; exact Nat.le_refl _)] at hm
      simp [h.len] at hm
      subst hm
      exact hv
  · rcases nu j x hx with ⟨h1, _⟩ | ⟨rfl, h1⟩ <;> rcases nu k y hy with ⟨h2, _⟩ | ⟨rfl, h2⟩
    · exact h.ne j k x y b h1 h2 hjk hbx hby
    · exact hn b hby x (List.mem_of_getElem? h1) hbx
    · exact hn b hbx y (List.mem_of_getElem? h2) hby
    · omega
theorem Fam.push {e : TypeId} {w w' : World} {vs : List Sl} {ls : List (List α)} (h : Fam f e w vs ls) (v : Sl) (l : List α) (hb : Below w.heap.size w w') (hv : Oe f e w' v.v l) (hn : ∀ b, blk v.v = some b → w.heap.size ≤ b) : Fam f e w' (vs ++ [v]) (ls ++ [l]) :=
  (h.below hb).push' v l hv (fun b hb x hx hbx => by
    have := h.lt hx hbx
    have := hn b hb
    omega)
/-- what the memory says of a block -/
def Ty (w : World) (row : Option Nat) (e : TypeId) : Prop := ∀ b, row = some b → ∃ cur, w.heap[b]? = some (.cells cur e (0, 0))
theorem Ow.ty {e : TypeId} {w : World} {base : Nat} {v : Value} {l : List α} (h : Ow f 1 e w base v l) : Ty w v.ownBlock e := fun b hb => (h.typ b hb).2.2
theorem Oe.notT {e e' : TypeId} {w : World} {v : Value} {l : List α} {g : Nat} (h : Oe f e w v l) (ht : Ty w (some g) e') (he : e' ≠ e) : ∀ b, blk v = some b → b ∉ [g] := by
  intro b hb hm
  simp at hm
  subst hm
  obtain ⟨_, c1, h1⟩ := h.typ b hb
  obtain ⟨c2, h2⟩ := ht b rfl
  rw [h1] at h2
  simp at h2
  exact he h2.2.symm
theorem Oe.onlT {e e' : TypeId} {w w' : World} {v : Value} {l : List α} {g : Nat} (h : Oe f e w v l) (ho : Onl [g] w w') (ht : Ty w (some g) e') (he : e' ≠ e) : Oe f e w' v l := h.onl ho (h.notT ht he)
theorem Ow.onlT {e e' : TypeId} {w w' : World} {base : Nat} {v : Value} {l : List α} {g : Nat} (h : Ow f 1 e w base v l) (ho : Onl [g] w w') (ht : Ty w (some g) e') (he : e' ≠ e) : Ow f 1 e w' base v l := h.onl ho (fun b hb hm => by
  simp at hm
  subst hm
  obtain ⟨_, _, c1, h1⟩ := h.typ b hb
  obtain ⟨c2, h2⟩ := ht b rfl
  rw [h1] at h2
  simp at h2
  exact he h2.2.symm)
theorem Ow.grownT {e e' : TypeId} {w w' : World} {base : Nat} {row : Option Nat} {v : Value} {l : List α} (h : Ow f 1 e w base v l) (hg : w.grownBy w' row) (ht : Ty w row e') (he : e' ≠ e) : Ow f 1 e w' base v l := h.grown hg (fun b hb hm => by
  obtain ⟨_, _, c1, h1⟩ := h.typ b hb
  obtain ⟨c2, h2⟩ := ht b hm
  rw [h1] at h2
  simp at h2
  exact he h2.2.symm)
theorem Fam.onlT {e e' : TypeId} {w w' : World} {vs : List Sl} {ls : List (List α)} {g : Nat} (h : Fam f e w vs ls) (ho : Onl [g] w w') (ht : Ty w (some g) e') (he : e' ≠ e) : Fam f e w' vs ls :=
  ⟨h.len, fun i v l hv hl => (h.row i v l hv hl).onlT ho ht he, h.ne⟩
theorem Oe.grownT {e e' : TypeId} {w w' : World} {row : Option Nat} {v : Value} {l : List α} (h : Oe f e w v l) (hg : w.grownBy w' row) (ht : Ty w row e') (he : e' ≠ e) : Oe f e w' v l := by
  refine h.onl (S := match row with | some b => [b] | none => []) ⟨hg.os, hg.tape, hg.output, hg.size, fun k hk hne => hg.block k hk ?_⟩ (fun b hb hm => ?_)
  · rintro rfl
    simp at hne
  · cases row with
    | none => simp at hm
    | some r =>
      simp at hm
      subst hm
      obtain ⟨_, c1, h1⟩ := h.typ b hb
      obtain ⟨c2, h2⟩ := ht b rfl
      rw [h1] at h2
      simp at h2
      exact he h2.2.symm
theorem Fam.grownT {e e' : TypeId} {w w' : World} {row : Option Nat} {vs : List Sl} {ls : List (List α)} (h : Fam f e w vs ls) (hg : w.grownBy w' row) (ht : Ty w row e') (he : e' ≠ e) : Fam f e w' vs ls :=
  ⟨h.len, fun i v l hv hl => (h.row i v l hv hl).grownT hg ht he, h.ne⟩

end

section
variable {α : Type} {f : α → List Value}
/-- rows of rows of our own that share no memory -/
structure Mat (f : α → List Value) (e : TypeId) (w : World) (vss : List (List Sl)) (lss : List (List (List α))) : Prop where
  len : vss.length = lss.length
  lens : ∀ (i : Nat) r m, vss[i]? = some r → lss[i]? = some m → r.length = m.length
  row : ∀ i k v l, at2 vss i k = some v → at2 lss i k = some l → Oe f e w v.v l
  ne : ∀ i k j m u v b, at2 vss i k = some u → at2 vss j m = some v → (i, k) ≠ (j, m) → blk u.v = some b → blk v.v ≠ some b

theorem Mat.nil (e : TypeId) (w : World) : Mat f e w [] [] := ⟨rfl, by simp, by simp [at2], by simp [at2]⟩
theorem Mat.getr {e : TypeId} {w : World} {vss : List (List Sl)} {lss : List (List (List α))} (h : Mat f e w vss lss) {i : Nat} {m : List (List α)} (hm : lss[i]? = some m) : ∃ r, vss[i]? = some r ∧ r.length = m.length := by
  have hi := (List.getElem?_eq_some_iff.1 hm).1
  have h1 : i < vss.length := by rw [h.len]; exact hi
  exact ⟨vss[i], List.getElem?_eq_getElem h1, h.lens i _ _ (List.getElem?_eq_getElem h1) hm⟩
theorem Mat.getl {e : TypeId} {w : World} {vss : List (List Sl)} {lss : List (List (List α))} (h : Mat f e w vss lss) {i : Nat} {r : List Sl} (hr : vss[i]? = some r) : ∃ m, lss[i]? = some m ∧ r.length = m.length := by
  have hi := (List.getElem?_eq_some_iff.1 hr).1
  have h1 : i < lss.length := by rw [← h.len]; exact hi
  exact ⟨lss[i], List.getElem?_eq_getElem h1, h.lens i _ _ hr (List.getElem?_eq_getElem h1)⟩
theorem Mat.get {e : TypeId} {w : World} {vss : List (List Sl)} {lss : List (List (List α))} (h : Mat f e w vss lss) {i k : Nat} {l : List α} (hl : at2 lss i k = some l) : ∃ v, at2 vss i k = some v ∧ Oe f e w v.v l := by
  obtain ⟨m, hm, hk⟩ := at2_row hl
  obtain ⟨r, hr, hrl⟩ := h.getr hm
  have h1 : k < r.length := by rw [hrl]; exact (List.getElem?_eq_some_iff.1 hk).1
  have h2 := at2_of hr (List.getElem?_eq_getElem h1)
  exact ⟨_, h2, h.row i k _ _ h2 hl⟩
theorem Mat.of {e : TypeId} {w : World} {vss : List (List Sl)} {lss : List (List (List α))} (h : Mat f e w vss lss) {i k : Nat} {v : Sl} (hv : at2 vss i k = some v) : ∃ l, at2 lss i k = some l ∧ Oe f e w v.v l := by
  obtain ⟨r, hr, hk⟩ := at2_row hv
  obtain ⟨m, hm, hrl⟩ := h.getl hr
  have h1 : k < m.length := by rw [← hrl]; exact (List.getElem?_eq_some_iff.1 hk).1
  have h2 := at2_of hm (List.getElem?_eq_getElem h1)
  exact ⟨_, h2, h.row i k _ _ hv h2⟩
theorem Mat.onl {e : TypeId} {S : List Nat} {w w' : World} {vss : List (List Sl)} {lss : List (List (List α))} (h : Mat f e w vss lss) (ho : Onl S w w') (hs : ∀ i k v b, at2 vss i k = some v → blk v.v = some b → b ∉ S) : Mat f e w' vss lss :=
  ⟨h.len, h.lens, fun i k v l hv hl => (h.row i k v l hv hl).onl ho (hs i k v · hv), h.ne⟩
theorem Mat.below {e : TypeId} {w w' : World} {vss : List (List Sl)} {lss : List (List (List α))} (h : Mat f e w vss lss) (hb : Below w.heap.size w w') : Mat f e w' vss lss := h.onl (S := []) (.of hb) (fun _ _ _ _ _ _ => by simp)
theorem Mat.lt {e : TypeId} {w : World} {vss : List (List Sl)} {lss : List (List (List α))} (h : Mat f e w vss lss) {i k : Nat} {v : Sl} (hv : at2 vss i k = some v) {b : Nat} (hb : blk v.v = some b) : b < w.heap.size := by
  obtain ⟨l, _, ho⟩ := h.of hv
  exact ho.lt hb
theorem Mat.set {e : TypeId} {S : List Nat} {w w' : World} {vss : List (List Sl)} {lss : List (List (List α))} (h : Mat f e w vss lss) (i k : Nat) (u v : Sl) (l : List α) (hu : at2 vss i k = some u) (ho : Onl S w w')
    (hS : ∀ b ∈ S, (∀ j m x, at2 vss j m = some x → blk x.v ≠ some b) ∨ blk u.v = some b) (hv : Oe f e w' v.v l) (hb : ∀ b, blk v.v = some b → blk u.v = some b ∨ w.heap.size ≤ b) : Mat f e w' (set2 vss i k v) (set2 lss i k l) := by
  refine ⟨by rw [set2_length, set2_length, h.len], fun j r m hr hm => ?_, fun j m x y hx hy => ?_, fun j m j' m' x y b hx hy hjk hbx hby => ?_⟩
  · rw [set2_row] at hr hm
    split at hr
    · rename_i h1
      rw [if_pos h1] at hm
      cases h2 : vss[j]? with
      | none => rw [h2] at hr; cases hr
      | some r' =>
        cases h3 : lss[j]? with
        | none => rw [h3] at hm; cases hm
        | some m' =>
          rw [h2] at hr
          rw [h3] at hm
          simp at hr hm
          subst hr hm
          simp [h.lens j r' m' h2 h3]
    · rename_i h1
      rw [if_neg h1] at hm
      exact h.lens j r m hr hm
  · rcases at2_set2 _ _ _ _ _ _ _ hx with ⟨rfl, rfl, rfl⟩ | ⟨h1, h2⟩
    · rcases at2_set2 _ _ _ _ _ _ _ hy with ⟨_, _, rfl⟩ | ⟨h3, _⟩
      · exact hv
      · exact absurd rfl h3
    · rcases at2_set2 _ _ _ _ _ _ _ hy with ⟨rfl, rfl, _⟩ | ⟨_, h4⟩
      · exact absurd rfl h1
      · refine (h.row j m x y h2 h4).onl ho (fun b hbx hS' => ?_)
        rcases hS b hS' with h5 | h5
        · exact h5 j m x h2 hbx
        · exact h.ne i k j m u x b hu h2 h1 h5 hbx
  · rcases at2_set2 _ _ _ _ _ _ _ hx with ⟨rfl, rfl, rfl⟩ | ⟨h1, h2⟩
    · rcases at2_set2 _ _ _ _ _ _ _ hy with ⟨rfl, rfl, _⟩ | ⟨h3, h4⟩
      · exact hjk rfl
      · rcases hb b hbx with h5 | h5
        · exact h.ne _ _ _ _ u y b hu h4 h3 h5 hby
        · have := h.lt h4 hby
          omega
    · rcases at2_set2 _ _ _ _ _ _ _ hy with ⟨rfl, rfl, rfl⟩ | ⟨h3, h4⟩
      · rcases hb b hby with h5 | h5
        · exact h.ne _ _ _ _ u x b hu h2 h1 h5 hbx
        · have := h.lt h2 hbx
          omega
      · exact h.ne _ _ _ _ x y b h2 h4 hjk hbx hby
theorem at2_push {β : Type} (vss : List (List β)) (r : List β) (v x : β) (i k : Nat) (h : at2 (vss ++ [r ++ [v]]) i k = some x) : (at2 (vss ++ [r]) i k = some x ∧ (i, k) ≠ (vss.length, r.length)) ∨ (i = vss.length ∧ k = r.length ∧ x = v) := by
  obtain ⟨s, hs, hk⟩ := at2_row h
  rcases Nat.lt_trichotomy i vss.length with h1 | h1 | h1
  · rw [List.getElem?_append_left h1] at hs
    exact .inl ⟨at2_of (r := s) (by rw [List.getElem?_append_left h1]; exact hs) hk, by simp; omega⟩
  · subst h1
    rw [List.getElem?_append_right (Nat.le_refl _)] at hs
    simp at hs
    subst hs
    rcases Nat.lt_trichotomy k r.length with h2 | h2 | h2
    · rw [List.getElem?_append_left h2] at hk
      exact .inl ⟨at2_of (r := r) (by rw [List.getElem?_append_right (Nat.le_refl _)]; simp) hk, by simp; omega⟩
    · subst h2
      rw [List.getElem?_append_right (Nat.le_refl _)] at hk
      simp at hk
      exact .inr ⟨rfl, rfl, hk.symm⟩
    · rw [List.getElem?_eq_none (by simp; omega)] at hk
      cases hk
  · rw [List.getElem?_eq_none (by simp; omega)] at hs
    cases hs
theorem Mat.push1' {e : TypeId} {w : World} {vss : List (List Sl)} {lss : List (List (List α))} {r : List Sl} {m : List (List α)} (h : Mat f e w (vss ++ [r]) (lss ++ [m])) (v : Sl) (l : List α) (hv : Oe f e w v.v l) (hn : ∀ b, blk v.v = some b → ∀ i k s, at2 (vss ++ [r]) i k = some s → blk s.v ≠ some b) : Mat f e w (vss ++ [r ++ [v]]) (lss ++ [m ++ [l]]) := by
  have e1 : vss.length = lss.length := by simpa using h.len
  have e2 : r.length = m.length := h.lens vss.length r m (by simp) (by rw [e1]; simp)
  refine ⟨by simp [e1], fun i s t hs ht => ?_, fun i k x y hx hy => ?_, fun i k j q x y b hx hy hjk hbx hby => ?_⟩
  · rcases Nat.lt_or_ge i vss.length with h1 | h1
    · rw [List.getElem?_append_left h1] at hs
      rw [List.getElem?_append_left (by omega)] at ht
      exact h.lens i s t (by rw [List.getElem?_append_left h1]; exact hs) (by rw [List.getElem?_append_left (by omega)]; exact ht)
    · rw [List.getElem?_append_right h1] at hs
      rw [List.getElem?_append_right (by omega)] at ht
      rw [← e1] at ht
      cases hz : i - vss.length with
      | zero =>
        rw [hz] at hs ht
        simp at hs ht
        subst hs ht
        simp [e2]
      | succ z => rw [hz] at hs; simp at hs
  · rcases at2_push _ _ _ _ _ _ hx with ⟨h1, h2⟩ | ⟨rfl, rfl, rfl⟩
    · rcases at2_push _ _ _ _ _ _ hy with ⟨h3, _⟩ | ⟨rfl, rfl, _⟩
      · exact h.row i k x y h1 h3
      · rw [e1, e2] at h2
        exact absurd rfl h2
    · rcases at2_push _ _ _ _ _ _ hy with ⟨_, h4⟩ | ⟨_, _, rfl⟩
      · rw [e1, e2] at h4
        exact absurd rfl h4
      · exact hv
  · rcases at2_push _ _ _ _ _ _ hx with ⟨h1, _⟩ | ⟨rfl, rfl, rfl⟩ <;> rcases at2_push _ _ _ _ _ _ hy with ⟨h2, _⟩ | ⟨rfl, rfl, rfl⟩
    · exact h.ne i k j q x y b h1 h2 hjk hbx hby
    · exact hn b hby _ _ _ h1 hbx
    · exact hn b hbx _ _ _ h2 hby
    · exact hjk rfl
theorem Mat.push1 {e : TypeId} {w w' : World} {vss : List (List Sl)} {lss : List (List (List α))} {r : List Sl} {m : List (List α)} (h : Mat f e w (vss ++ [r]) (lss ++ [m])) (v : Sl) (l : List α) (hb : Below w.heap.size w w') (hv : Oe f e w' v.v l) (hn : ∀ b, blk v.v = some b → w.heap.size ≤ b) : Mat f e w' (vss ++ [r ++ [v]]) (lss ++ [m ++ [l]]) :=
  (h.below hb).push1' v l hv (fun b hb i k s hs hbs => by
    have := h.lt hs hbs
    have := hn b hb
    omega)
theorem Mat.onlT {e e' : TypeId} {w w' : World} {vss : List (List Sl)} {lss : List (List (List α))} {g : Nat} (h : Mat f e w vss lss) (ho : Onl [g] w w') (ht : Ty w (some g) e') (he : e' ≠ e) : Mat f e w' vss lss :=
  ⟨h.len, h.lens, fun i k v l hv hl => (h.row i k v l hv hl).onlT ho ht he, h.ne⟩
theorem Mat.grownT {e e' : TypeId} {w w' : World} {row : Option Nat} {vss : List (List Sl)} {lss : List (List (List α))} (h : Mat f e w vss lss) (hg : w.grownBy w' row) (ht : Ty w row e') (he : e' ≠ e) : Mat f e w' vss lss :=
  ⟨h.len, h.lens, fun i k v l hv hl => (h.row i k v l hv hl).grownT hg ht he, h.ne⟩
theorem at2_nil {β : Type} (vss : List (List β)) (x : β) (i k : Nat) (h : at2 (vss ++ [[]]) i k = some x) : at2 vss i k = some x := by
  obtain ⟨s, hs, hk⟩ := at2_row h
  rcases Nat.lt_or_ge i vss.length with h1 | h1
  · rw [List.getElem?_append_left h1] at hs
    exact at2_of hs hk
  · rw [List.getElem?_append_right h1] at hs
    cases hz : i - vss.length with
    | zero => rw [hz] at hs; simp at hs; subst hs; simp at hk
    | succ z => rw [hz] at hs; simp at hs
theorem Mat.push0 {e : TypeId} {w : World} {vss : List (List Sl)} {lss : List (List (List α))} (h : Mat f e w vss lss) : Mat f e w (vss ++ [[]]) (lss ++ [[]]) := by
  refine ⟨by simp [h.len], fun i s t hs ht => ?_, fun i k x y hx hy => h.row i k x y (at2_nil _ _ _ _ hx) (at2_nil _ _ _ _ hy), fun i k j q x y b hx hy => h.ne i k j q x y b (at2_nil _ _ _ _ hx) (at2_nil _ _ _ _ hy)⟩
  have e1 := h.len
  rcases Nat.lt_or_ge i vss.length with h1 | h1
  · rw [List.getElem?_append_left h1] at hs
    rw [List.getElem?_append_left (by omega)] at ht
    exact h.lens i s t hs ht
  · rw [List.getElem?_append_right h1] at hs
    rw [List.getElem?_append_right (by omega), ← e1] at ht
    cases hz : i - vss.length with
    | zero => rw [hz] at hs ht; simp at hs ht; subst hs ht; rfl
    | succ z => rw [hz] at hs; simp at hs
end
end Go.Proofs.Yteocplabibhecaa
