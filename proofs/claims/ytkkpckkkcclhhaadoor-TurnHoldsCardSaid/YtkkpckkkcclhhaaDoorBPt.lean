/- The plain mathematics of turns. -/
import Derived.Test.YtkkpckkkcclhhaaDoorBPg
namespace Go.Proofs.YtkkpckkkcclhhaaDoor.Plain
set_option linter.unusedVariables false
/-- an object at the beginning of its player's turn; at the end of a turn -/
def unO (o : Ob) : Ob := { o with ta := false, si := false }
def reO (o : Ob) : Ob := { o with da := 0, pp := 0, pt := 0 }
/-- changes the objects with ids of a list -/
def onF (l : List Int) (g : Ob → Ob) (o : Ob) : Ob := if o.id ∈ l then g o else o
def mapTo {α : Type} (g : α → α) (k : Nat) (l : List α) : List α := (l.take k).map g ++ l.drop k
theorem mapTo_zero {α : Type} (g : α → α) (l : List α) : mapTo g 0 l = l := by simp [mapTo]
theorem mapTo_all {α : Type} (g : α → α) (l : List α) : mapTo g l.length l = l.map g := by simp [mapTo]
theorem mapTo_length {α : Type} (g : α → α) (k : Nat) (l : List α) (h : k ≤ l.length) : (mapTo g k l).length = l.length := by simp [mapTo]; omega
theorem mapTo_get {α : Type} (g : α → α) (k : Nat) (l : List α) (h : k ≤ l.length) : (mapTo g k l)[k]? = l[k]? := by
  unfold mapTo
  rw [List.getElem?_append_right (by simp; omega), List.length_map, List.length_take, Nat.min_eq_left h, Nat.sub_self, List.getElem?_drop]
  rfl
theorem mapTo_set {α : Type} (g : α → α) (k : Nat) (l : List α) (x : α) (h : l[k]? = some x) : (mapTo g k l).set k (g x) = mapTo g (k + 1) l := by
  have hk : k < l.length := (List.getElem?_eq_some_iff.1 h).1
  unfold mapTo
  rw [List.set_append_right _ _ (by simp; omega), List.length_map, List.length_take, Nat.min_eq_left (by omega), Nat.sub_self, List.drop_eq_getElem_cons hk, List.set_cons_zero, List.take_add_one, h]
  simp
theorem mapTo_same {α : Type} (g : α → α) (k : Nat) (l : List α) (x : α) (h : l[k]? = some x) (hx : g x = x) : mapTo g (k + 1) l = mapTo g k l := by
  have hk : k < l.length := (List.getElem?_eq_some_iff.1 h).1
  have e := (List.getElem?_eq_some_iff.1 h).2
  unfold mapTo
  rw [List.take_add_one, h, List.drop_eq_getElem_cons hk, e]
  simp [hx]
def Bd.every (B : Bd) (p : Nat) (g : Ob → Ob) : Bd := { B with ob := B.ob.map (onF (B.seat p).fld g) }
def Se.noPool (S : Se) : Se := { S with p0 := 0, p1 := 0, p2 := 0, p3 := 0 }
def Bd.noPool (B : Bd) (p : Nat) : Bd := if p = 0 then { B with s0 := B.s0.noPool } else { B with s1 := B.s1.noPool }
def Se.fresh (S : Se) : Se := { S.noPool with py := false, ac := 0 }
def Bd.fresh (B : Bd) (p : Nat) : Bd := if p = 0 then { B with s0 := B.s0.fresh } else { B with s1 := B.s1.fresh }
/-- who has priority -/
def giB (B : Bd) (pl pa : Int) : Bd := { B with ho := pl, pa := pa }
/-- the end of a turn -/
def clP (B : Bd) (p : Nat) : Bd := (B.noPool p).every p reO
def clB (B : Bd) : Bd := clP (clP B 0) 1
/-- the beginning of the next turn -/
def nxA (B : Bd) : Int := if B.tu = 0 then 0 else 1 - B.ac
def be0 (B : Bd) : Bd := { B with ac := nxA B, tu := B.tu + 1, ph := 1, ho := -1, pa := 0, att := [], bl := [] }
def be1 (B : Bd) : Bd := ((be0 B).fresh 0).fresh 1
def beB (B : Bd) : Bd := (be1 B).every (nxA B).toNat unO
/-- all that the contracts ask of a board -/
structure Bd.Ok (B : Bd) : Prop where
  i : B.I
  sm : B.Sm
  st : ∀ x ∈ B.st, x.tg.length ≤ 1000
  qu : ∀ x ∈ B.qu, x.tg.length ≤ 1000
theorem giB_ok {B : Bd} (h : B.Ok) (pl pa : Int) : (giB B pl pa).Ok := ⟨⟨h.i.zs, h.i.ob, h.i.st, h.i.att, h.i.bl⟩, ⟨h.sm.zs, h.sm.ob, h.sm.st, h.sm.qu, h.sm.att, h.sm.bl⟩, h.st, h.qu⟩
end Go.Proofs.YtkkpckkkcclhhaaDoor.Plain
