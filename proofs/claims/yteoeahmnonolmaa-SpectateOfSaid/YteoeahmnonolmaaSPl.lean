/- What is public of a board. -/
import Derived.Test.YteoeahmnonolmaaBPg
namespace Go.Proofs.Yteoeahmnonolmaa.Plain
set_option linter.unusedVariables false
/-- what is public of a seat, of a board -/
structure Vs where
  li : Int
  p0 : Int
  p1 : Int
  p2 : Int
  p3 : Int
  lib : Int
  hand : Int
  fld : List Ob
  grv : List Ob
  em : Bool
  py : Bool
  kp : Bool
  mu : Int
  ac : Int
structure Pu where
  s0 : Vs
  s1 : Vs
  st : List It
  qu : List It
  att : List Int
  bl : List Bk
  tu : Int
  ac : Int
  ph : Int
  ho : Int
  pa : Int
def isO (z : Int) (o : Ob) : Bool := o.id == z
/-- the objects with some ids -/
def obF (l : List Ob) (ids : List Int) : List Ob := ids.filterMap (fun i => l.find? (isO i))
def obA (l : List Ob) (ids : List Int) : List Ob := ids.flatMap (fun i => l.filter (isO i))
def vsB (l : List Ob) (s : Se) : Vs := ⟨s.li, s.p0, s.p1, s.p2, s.p3, s.lib.length, s.hand.length, obF l s.fld, obF l s.grv, s.em, s.py, s.kp, s.mu, s.ac⟩
def puB (B : Bd) : Pu := ⟨vsB B.ob B.s0, vsB B.ob B.s1, B.st, B.qu, B.att, B.bl, B.tu, B.ac, B.ph, B.ho, B.pa⟩
def IxP (l : List Ob) (z : Int) (r : Int) : Prop := (∃ (k : Nat) (x : Ob), r = k ∧ l[k]? = some x ∧ l.find? (isO z) = some x) ∨ (r = -1 ∧ l.find? (isO z) = none)
theorem obF_snoc (l : List Ob) (ids : List Int) (i : Int) : obF l (ids ++ [i]) = obF l ids ++ (l.find? (isO i)).toList := by
  unfold obF
  rw [List.filterMap_append]
  cases h : l.find? (isO i) <;> simp [h]
theorem obF_le (l : List Ob) (ids : List Int) : (obF l ids).length ≤ ids.length := List.length_filterMap_le _ _
theorem filter_uniq {l : List Ob} (hn : (l.map Ob.id).Nodup) (z : Int) : l.filter (isO z) = (l.find? (isO z)).toList := by
  induction l with
  | nil => rfl
  | cons a l ih =>
    rw [List.map_cons, List.nodup_cons] at hn
    by_cases h : isO z a = true
    · rw [List.filter_cons_of_pos h, List.find?_cons_of_pos h]
      have : l.filter (isO z) = [] := List.filter_eq_nil_iff.2 (fun b hb hz => hn.1 (by
        simp only [isO, beq_iff_eq] at h hz
        rw [h, ← hz]
        exact List.mem_map.2 ⟨b, hb, rfl⟩))
      rw [this]
      rfl
    · rw [List.filter_cons_of_neg h, List.find?_cons_of_neg h, ih hn.2]
theorem obA_eq {l : List Ob} (hn : (l.map Ob.id).Nodup) (ids : List Int) : obA l ids = obF l ids := by
  induction ids with
  | nil => rfl
  | cons i ids ih =>
    have e : obA l (i :: ids) = l.filter (isO i) ++ obA l ids := rfl
    rw [e, ih, filter_uniq hn]
    cases h : l.find? (isO i) <;> simp [obF, h]
theorem find_take {l : List Ob} {z : Int} {k : Nat} {x : Ob} (h1 : (l.take k).any (isO z) = false) (h2 : l[k]? = some x) (h3 : isO z x = true) : l.find? (isO z) = some x := by
  have hk := (List.getElem?_eq_some_iff.1 h2).1
  have e := (List.getElem?_eq_some_iff.1 h2).2
  rw [← List.take_append_drop k l, List.find?_append]
  have h0 : (l.take k).find? (isO z) = none := List.find?_eq_none.2 (fun y hy => by
    have := List.any_eq_false.1 h1 y hy
    simpa using this)
  rw [h0, List.drop_eq_getElem_cons hk, e]
  simp [List.find?_cons_of_pos h3]
end Go.Proofs.Yteoeahmnonolmaa.Plain
