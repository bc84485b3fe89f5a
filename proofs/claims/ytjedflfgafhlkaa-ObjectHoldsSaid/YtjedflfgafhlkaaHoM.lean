/- The plain law of an object that is worked on. -/
import Derived.Test.YtjedflfgafhlkaaLo
import Derived.Test.YtjedflfgafhlkaaEn
import Derived.Test.YtjedflfgafhlkaaRw
namespace Go.Proofs.Ytjedflfgafhlkaa
open Go.RowKit Plain
set_option linter.unusedVariables false
set_option linter.unusedSimpArgs false

/-- one number of the law, worked on an object -/
def stO (x : Ob) (k : Nat) (v : Int) : Ob := if k % 3 = 0 then { x with da := ad x.da v } else if k % 3 = 1 then { x with co := ad x.co v } else { x with pp := ad x.pp v, pt := ad x.pt v }
theorem stO_0 {x : Ob} {k : Nat} {v : Int} (h : k % 3 = 0) : stO x k v = { x with da := ad x.da v } := by unfold stO; rw [if_pos h]
theorem stO_1 {x : Ob} {k : Nat} {v : Int} (h : k % 3 = 1) : stO x k v = { x with co := ad x.co v } := by unfold stO; rw [if_neg (by omega), if_pos h]
theorem stO_2 {x : Ob} {k : Nat} {v : Int} (h : k % 3 = 2) : stO x k v = { x with pp := ad x.pp v, pt := ad x.pt v } := by unfold stO; rw [if_neg (by omega), if_neg (by omega)]
/-- x came of o by damage, counters and pumps -/
structure Came (o x : Ob) : Prop where
  id : x.id = o.id
  cd : x.cd = o.cd
  ow : x.ow = o.ow
  po : x.po = o.po
  tg : x.tg = o.tg
  ta : x.ta = o.ta
  si : x.si = o.si
  dm : x.dm = o.dm
  v : vO x = true
theorem vO_I {o : Ob} (h : vO o = true) : o.I := by
  unfold vO at h
  have h := of_decide_eq_true h
  constructor <;> (unfold Plain.I; omega)
theorem vO_bd {o : Ob} (h : vO o = true) : (1 ≤ o.id ∧ o.id ≤ 500 ∧ -1 ≤ o.cd ∧ o.cd ≤ 399 ∧ (o.ow = 0 ∨ o.ow = 1) ∧ (o.cd = -1 ∨ (o.po = 0 ∧ o.tg = 0)) ∧ (0 ≤ o.po ∧ o.po ≤ 99) ∧ (0 ≤ o.tg ∧ o.tg ≤ 99) ∧ (0 ≤ o.da ∧ o.da ≤ 99) ∧ (0 ≤ o.co ∧ o.co ≤ 99) ∧ (0 ≤ o.pp ∧ o.pp ≤ 99) ∧ (0 ≤ o.pt ∧ o.pt ≤ 99)) := by
  unfold vO at h
  exact of_decide_eq_true h
theorem Came.refl {o : Ob} (h : vO o = true) : Came o o := ⟨rfl, rfl, rfl, rfl, rfl, rfl, rfl, rfl, h⟩
theorem vO_mk {o : Ob} (h : 1 ≤ o.id ∧ o.id ≤ 500 ∧ -1 ≤ o.cd ∧ o.cd ≤ 399 ∧ (o.ow = 0 ∨ o.ow = 1) ∧ (o.cd = -1 ∨ (o.po = 0 ∧ o.tg = 0)) ∧ (0 ≤ o.po ∧ o.po ≤ 99) ∧ (0 ≤ o.tg ∧ o.tg ≤ 99) ∧ (0 ≤ o.da ∧ o.da ≤ 99) ∧ (0 ≤ o.co ∧ o.co ≤ 99) ∧ (0 ≤ o.pp ∧ o.pp ≤ 99) ∧ (0 ≤ o.pt ∧ o.pt ≤ 99)) : vO o = true := by
  unfold vO
  exact decide_eq_true h
theorem vO_hit {o : Ob} (h : vO o = true) (v : Int) : vO { o with da := ad o.da v } = true := by
  have h := vO_bd h
  have := ad_bd o.da v
  apply vO_mk
  simp only
  omega
theorem vO_count {o : Ob} (h : vO o = true) (v : Int) : vO { o with co := ad o.co v } = true := by
  have h := vO_bd h
  have := ad_bd o.co v
  apply vO_mk
  simp only
  omega
theorem vO_pump {o : Ob} (h : vO o = true) (v u : Int) : vO { o with pp := ad o.pp v, pt := ad o.pt u } = true := by
  have h := vO_bd h
  have := ad_bd o.pp v
  have := ad_bd o.pt u
  apply vO_mk
  simp only
  omega
theorem Came.st {o x : Ob} (h : Came o x) (k : Nat) (v : Int) : Came o (stO x k v) := by
  unfold stO
  split
  · exact ⟨h.id, h.cd, h.ow, h.po, h.tg, h.ta, h.si, h.dm, vO_hit h.v v⟩
  · split
    · exact ⟨h.id, h.cd, h.ow, h.po, h.tg, h.ta, h.si, h.dm, vO_count h.v v⟩
    · exact ⟨h.id, h.cd, h.ow, h.po, h.tg, h.ta, h.si, h.dm, vO_pump h.v v v⟩
theorem ad_ge {a : Int} (b : Int) (h : 0 ≤ a ∧ a ≤ 99) : a ≤ ad a b := by unfold ad cl; omega
theorem ad_le {a a' b b' : Int} (h : a ≤ a') (h2 : b ≤ b') : ad a b ≤ ad a' b' := by unfold ad cl; omega
/-- what a step makes no less -/
structure NoLess (cs : List Cd) (x y : Ob) : Prop where
  da : x.da ≤ y.da
  co : x.co ≤ y.co
  pp : x.pp ≤ y.pp
  pt : x.pt ≤ y.pt
  po : poB cs x ≤ poB cs y
  tn : toB cs x ≤ toB cs y
theorem more_of {cs : List Cd} {x y : Ob} (h1 : y.cd = x.cd) (h2 : y.po = x.po) (h3 : y.tg = x.tg) (h4 : x.da ≤ y.da) (h5 : x.co ≤ y.co) (h6 : x.pp ≤ y.pp) (h7 : x.pt ≤ y.pt) : NoLess cs x y :=
  ⟨h4, h5, h6, h7, by unfold poB baP; rw [h1, h2]; exact ad_le (ad_le (Int.le_refl _) h5) h6, by unfold toB baT; rw [h1, h3]; exact ad_le (ad_le (Int.le_refl _) h5) h7⟩
theorem NoLess.st (cs : List Cd) {x : Ob} (h : vO x = true) (k : Nat) (v : Int) : NoLess cs x (stO x k v) := by
  have h := vO_bd h
  unfold stO
  split
  · exact more_of rfl rfl rfl (ad_ge v (by omega)) (Int.le_refl _) (Int.le_refl _) (Int.le_refl _)
  · split
    · exact more_of rfl rfl rfl (Int.le_refl _) (ad_ge v (by omega)) (Int.le_refl _) (Int.le_refl _)
    · exact more_of rfl rfl rfl (Int.le_refl _) (Int.le_refl _) (ad_ge v (by omega)) (ad_ge v (by omega))
theorem deB_hit {cs : List Cd} {x : Ob} (h : vO x = true) (v : Int) (hd : deB cs x = true) : deB cs { x with da := ad x.da v } = true := by
  have h := vO_bd h
  have hg := ad_ge (a := x.da) v (by omega)
  have e1 : crB cs { x with da := ad x.da v } = crB cs x := rfl
  have e2 : toB cs { x with da := ad x.da v } = toB cs x := rfl
  unfold deB at *
  rw [e1, e2]
  simp only [Bool.and_eq_true, Bool.or_eq_true, decide_eq_true_eq] at *
  refine ⟨hd.1, ?_⟩
  rcases hd.2 with h | h
  · exact .inl h
  · exact .inr (by omega)
theorem flO_le (o : Ob) : 0 ≤ flO o ∧ flO o ≤ 7 ∧ decide (flO o % 2 = 1) = o.ta ∧ decide (flO o / 2 % 2 = 1) = o.si ∧ decide (flO o / 4 = 1) = o.dm := by
  unfold flO
  cases o.ta <;> cases o.si <;> cases o.dm <;> simp
theorem dec_by {o : Ob} (h : vO o = true) : decOb (byO o) = o := by
  have h := vO_bd h
  obtain ⟨_, _, e1, e2, e3⟩ := flO_le o
  cases o with
  | mk id cd ow po tg da co pp pt ta si dm =>
    simp only [decOb, byO, List.getD_cons_zero, List.getD_cons_succ] at *
    rw [e1, e2, e3]
    simp only [Ob.mk.injEq, and_true, true_and]
    omega
theorem rd_by {o : Ob} (h : vO o = true) : rdO (byO o) = o ∧ rdN (byO o) = 0 := by
  have hf : (byO o).getD 11 0 ≤ 7 := (flO_le o).2.1
  have hl : (byO o).length = 12 := rfl
  have hv : vO (decOb (byO o)) = true := by rw [dec_by h]; exact h
  exact ⟨by unfold rdO; rw [if_pos ⟨hl, hf, hv⟩, dec_by h], by unfold rdN; rw [if_neg (by omega), if_neg (by omega), if_pos ⟨hf, hv⟩]⟩
theorem byO_bd {o : Ob} (h : vO o = true) : ∀ z ∈ byO o, 0 ≤ z ∧ z < 256 := by
  have h := vO_bd h
  have hf := flO_le o
  intro z hz
  simp only [byO, List.mem_cons, List.not_mem_nil, or_false] at hz
  rcases hz with rfl | rfl | rfl | rfl | rfl | rfl | rfl | rfl | rfl | rfl | rfl | rfl <;> omega
end Go.Proofs.Ytjedflfgafhlkaa
