/- Boards after turns are valid. -/
import Derived.Test.YtkkpckkkcclhhaaDoorBPt
namespace Go.Proofs.YtkkpckkkcclhhaaDoor.Plain
set_option linter.unusedVariables false
theorem VB.gi {B : Bd} (h : VB B) {pl pa : Int} (h1 : -1 ≤ pl ∧ pl ≤ 1) (h2 : 0 ≤ pa ∧ pa ≤ 2) : VB (giB B pl pa) := by
  obtain ⟨n1, n2, n3, _, _, n6⟩ := h.num
  exact ⟨⟨n1, n2, n3, h1, h2, n6⟩, h.se0, h.se1, h.its, ⟨h.plc.nd, h.plc.ob, h.plc.len⟩, ⟨h.fgt.nd, h.fgt.own, h.fgt.na, h.fgt.nb, h.fgt.bl⟩⟩
/-- what leaves an object what it is -/
def Keepg (g : Ob → Ob) : Prop := ∀ o, vO o = true → vO (g o) = true ∧ (g o).id = o.id ∧ (g o).cd = o.cd ∧ (g o).ow = o.ow
theorem keep_un : Keepg unO := fun o h => ⟨h, rfl, rfl, rfl⟩
theorem keep_re : Keepg reO := fun o h => ⟨by
  unfold vO reO at *
  have h := of_decide_eq_true h
  refine decide_eq_true ?_
  dsimp only
  omega, rfl, rfl, rfl⟩
theorem keep_on {g : Ob → Ob} (l : List Int) (h : Keepg g) : Keepg (onF l g) := fun o ho => by
  unfold onF
  split
  · exact h o ho
  · exact ⟨ho, rfl, rfl, rfl⟩
theorem VB.every {B : Bd} (h : VB B) (p : Nat) {g : Ob → Ob} (hg : Keepg g) : VB (B.every p g) := by
  have k := keep_on (B.seat p).fld hg
  have hv : ∀ i o, B.ob[i]? = some o → vO o = true := fun i o hi => (h.plc.ob i o hi).1
  obtain ⟨n1, n2, n3, n4, n5, n6⟩ := h.num
  refine ⟨⟨n1, n2, n3, n4, n5, ?_⟩, h.se0, h.se1, h.its, ⟨h.plc.nd, fun i o hi => ?_, ?_⟩, ⟨h.fgt.nd, h.fgt.own, h.fgt.na, h.fgt.nb, h.fgt.bl⟩⟩
  · show (B.ob.map _).length ≤ 500 ∧ _
    rw [List.length_map]; exact n6
  · change (B.ob.map (onF (B.seat p).fld g))[i]? = some o at hi
    rw [List.getElem?_map] at hi
    cases hq : B.ob[i]? with
    | none => rw [hq] at hi; cases hi
    | some q =>
      rw [hq] at hi
      simp at hi
      subst hi
      obtain ⟨a1, a2, a3, a4⟩ := h.plc.ob i q hq
      obtain ⟨k1, k2, k3, k4⟩ := k q a1
      refine ⟨k1, fun j y hj hy => ?_, by rw [k2, k4]; exact a3, fun x hx he => by rw [k3]; exact a4 x hx (by rw [he, k2])⟩
      change (B.ob.map (onF (B.seat p).fld g))[j]? = some y at hy
      rw [List.getElem?_map] at hy
      cases hz : B.ob[j]? with
      | none => rw [hz] at hy; cases hy
      | some z =>
        rw [hz] at hy
        simp at hy
        subst hy
        rw [k2, (k z (hv j z hz)).2.1]
        exact a2 j z hj hz
  · show B.prs.length = (B.ob.map _).length
    rw [List.length_map]; exact h.plc.len
theorem seB_noPool {S : Se} (h : seB S = true) : seB S.noPool = true := by
  unfold seB at *
  simp only [Bool.and_eq_true, decide_eq_true_eq] at *
  exact ⟨⟨⟨h.1.1.1, by unfold poolB Se.noPool; rfl⟩, h.1.2⟩, h.2⟩
theorem seB_fresh {S : Se} (h : seB S = true) : seB S.fresh = true := by
  have h1 := seB_noPool h
  unfold seB at *
  simp only [Bool.and_eq_true, decide_eq_true_eq] at *
  exact ⟨⟨⟨h1.1.1.1, h1.1.1.2⟩, h1.1.2⟩, by show (0 : Int) ≤ 0 ∧ (0 : Int) ≤ 255; omega⟩
theorem VB.noPool {B : Bd} (h : VB B) (p : Nat) : VB (B.noPool p) := by
  unfold Bd.noPool
  split
  · exact ⟨h.num, seB_noPool h.se0, h.se1, h.its, ⟨h.plc.nd, h.plc.ob, h.plc.len⟩, ⟨h.fgt.nd, fun a ha => (by have := h.fgt.own a ha; unfold Bd.own Bd.seat at *; dsimp only at *; split <;> rename_i hh <;> (first | rw [if_pos hh] at this | rw [if_neg hh] at this) <;> exact this), h.fgt.na, h.fgt.nb, fun x hx => ⟨(h.fgt.bl x hx).1, (by have := (h.fgt.bl x hx).2; unfold Bd.oth Bd.seat at *; dsimp only at *; split <;> rename_i hh <;> (first | rw [if_pos hh] at this | rw [if_neg hh] at this) <;> exact this)⟩⟩⟩
  · exact ⟨h.num, h.se0, seB_noPool h.se1, h.its, ⟨h.plc.nd, h.plc.ob, h.plc.len⟩, ⟨h.fgt.nd, fun a ha => (by have := h.fgt.own a ha; unfold Bd.own Bd.seat at *; dsimp only at *; split <;> rename_i hh <;> (first | rw [if_pos hh] at this | rw [if_neg hh] at this) <;> exact this), h.fgt.na, h.fgt.nb, fun x hx => ⟨(h.fgt.bl x hx).1, (by have := (h.fgt.bl x hx).2; unfold Bd.oth Bd.seat at *; dsimp only at *; split <;> rename_i hh <;> (first | rw [if_pos hh] at this | rw [if_neg hh] at this) <;> exact this)⟩⟩⟩
theorem VB.cl {B : Bd} (h : VB B) : VB (clB B) := (((h.noPool 0).every 0 keep_re).noPool 1).every 1 keep_re
theorem VB.be0 {B : Bd} (h : VB B) (ht : ¬ B.tu = 1000) : VB (be0 B) := by
  obtain ⟨n1, n2, n3, n4, n5, n6⟩ := h.num
  refine ⟨⟨?_, ?_, ?_, ?_, ?_, n6⟩, h.se0, h.se1, h.its, ⟨h.plc.nd, h.plc.ob, h.plc.len⟩, ⟨List.nodup_nil, (fun a ha => by cases ha), List.nodup_nil, List.nodup_nil, (fun x hx => by cases hx)⟩⟩
  · show 0 ≤ nxA B ∧ nxA B ≤ 1
    unfold nxA; split <;> omega
  · show 0 ≤ B.tu + 1 ∧ B.tu + 1 ≤ 1000
    omega
  · show (0 : Int) ≤ 1 ∧ (1 : Int) ≤ 10
    omega
  · show (-1 : Int) ≤ -1 ∧ (-1 : Int) ≤ 1
    omega
  · show (0 : Int) ≤ 0 ∧ (0 : Int) ≤ 2
    omega
theorem VB.fresh {B : Bd} (h : VB B) (hb : B.att = [] ∧ B.bl = []) (p : Nat) : VB (B.fresh p) := by
  unfold Bd.fresh
  split
  · exact ⟨h.num, seB_fresh h.se0, h.se1, h.its, ⟨h.plc.nd, h.plc.ob, h.plc.len⟩, ⟨h.fgt.nd, (fun a ha => by change a ∈ B.att at ha; rw [hb.1] at ha; cases ha), h.fgt.na, h.fgt.nb, (fun x hx => by change x ∈ B.bl at hx; rw [hb.2] at hx; cases hx)⟩⟩
  · exact ⟨h.num, h.se0, seB_fresh h.se1, h.its, ⟨h.plc.nd, h.plc.ob, h.plc.len⟩, ⟨h.fgt.nd, (fun a ha => by change a ∈ B.att at ha; rw [hb.1] at ha; cases ha), h.fgt.na, h.fgt.nb, (fun x hx => by change x ∈ B.bl at hx; rw [hb.2] at hx; cases hx)⟩⟩
theorem VB.be {B : Bd} (h : VB B) (ht : ¬ B.tu = 1000) : VB (beB B) := (((h.be0 ht).fresh ⟨rfl, rfl⟩ 0).fresh ⟨rfl, rfl⟩ 1).every _ keep_un
theorem seat_lists {B C : Bd} (h0 : C.s0.lib = B.s0.lib ∧ C.s0.hand = B.s0.hand ∧ C.s0.fld = B.s0.fld ∧ C.s0.grv = B.s0.grv) (h1 : C.s1.lib = B.s1.lib ∧ C.s1.hand = B.s1.hand ∧ C.s1.fld = B.s1.fld ∧ C.s1.grv = B.s1.grv) (p z : Nat) : (C.seat p).zs z = (B.seat p).zs z := by
  have e : (C.seat p).lib = (B.seat p).lib ∧ (C.seat p).hand = (B.seat p).hand ∧ (C.seat p).fld = (B.seat p).fld ∧ (C.seat p).grv = (B.seat p).grv := by
    unfold Bd.seat
    split
    · exact h0
    · exact h1
  unfold Se.zs
  rw [e.1, e.2.1, e.2.2.1, e.2.2.2]
theorem Ok.of {B C : Bd} (h : B.Ok) (h0 : C.s0.lib = B.s0.lib ∧ C.s0.hand = B.s0.hand ∧ C.s0.fld = B.s0.fld ∧ C.s0.grv = B.s0.grv) (h1 : C.s1.lib = B.s1.lib ∧ C.s1.hand = B.s1.hand ∧ C.s1.fld = B.s1.fld ∧ C.s1.grv = B.s1.grv)
    (ho : (∀ o ∈ C.ob, o.I) ∧ C.ob.length = B.ob.length) (hs : C.st = B.st) (hq : C.qu = B.qu) (ha : C.att = B.att ∨ C.att = []) (hb : C.bl = B.bl ∨ C.bl = []) : C.Ok := by
  have e := seat_lists h0 h1
  refine ⟨⟨fun p z i hi => h.i.zs p z i (by rw [← e]; exact hi), ho.1, by rw [hs]; exact h.i.st, ?_, ?_⟩, ⟨fun p z => by rw [e]; exact h.sm.zs p z, by rw [ho.2]; exact h.sm.ob, by rw [hs]; exact h.sm.st, by rw [hq]; exact h.sm.qu, ?_, ?_⟩, by rw [hs]; exact h.st, by rw [hq]; exact h.qu⟩
  · rcases ha with ha | ha
    · rw [ha]; exact h.i.att
    · rw [ha]; simp
  · rcases hb with hb | hb
    · rw [hb]; exact h.i.bl
    · rw [hb]; simp
  · rcases ha with ha | ha
    · rw [ha]; exact h.sm.att
    · rw [ha]; simp
  · rcases hb with hb | hb
    · rw [hb]; exact h.sm.bl
    · rw [hb]; simp
theorem I_zero : Plain.I 0 := by unfold Plain.I; omega
theorem unO_I {o : Ob} (h : o.I) : (unO o).I := ⟨h.id, h.cd, h.ow, h.po, h.tg, h.da, h.co, h.pp, h.pt⟩
theorem reO_I {o : Ob} (h : o.I) : (reO o).I := ⟨h.id, h.cd, h.ow, h.po, h.tg, I_zero, h.co, I_zero, I_zero⟩
theorem map_I {g : Ob → Ob} (hg : ∀ o, o.I → (g o).I) {l : List Ob} (h : ∀ o ∈ l, o.I) (f : List Int) : ∀ o ∈ l.map (onF f g), o.I := fun o ho => by
  obtain ⟨q, hq, rfl⟩ := List.mem_map.1 ho
  unfold onF
  split
  · exact hg q (h q hq)
  · exact h q hq
theorem Ok.every {B : Bd} (h : B.Ok) (p : Nat) {g : Ob → Ob} (hg : ∀ o, o.I → (g o).I) : (B.every p g).Ok :=
  Ok.of h ⟨rfl, rfl, rfl, rfl⟩ ⟨rfl, rfl, rfl, rfl⟩ ⟨map_I hg h.i.ob _, List.length_map ..⟩ rfl rfl (.inl rfl) (.inl rfl)
theorem Ok.noPool {B : Bd} (h : B.Ok) (p : Nat) : (B.noPool p).Ok := by
  unfold Bd.noPool
  split <;> exact Ok.of h ⟨rfl, rfl, rfl, rfl⟩ ⟨rfl, rfl, rfl, rfl⟩ ⟨h.i.ob, rfl⟩ rfl rfl (.inl rfl) (.inl rfl)
theorem Ok.fresh {B : Bd} (h : B.Ok) (p : Nat) : (B.fresh p).Ok := by
  unfold Bd.fresh
  split <;> exact Ok.of h ⟨rfl, rfl, rfl, rfl⟩ ⟨rfl, rfl, rfl, rfl⟩ ⟨h.i.ob, rfl⟩ rfl rfl (.inl rfl) (.inl rfl)
theorem Ok.be {B : Bd} (h : B.Ok) : (beB B).Ok :=
  Ok.every (Ok.fresh (Ok.fresh (Ok.of (C := be0 B) h ⟨rfl, rfl, rfl, rfl⟩ ⟨rfl, rfl, rfl, rfl⟩ ⟨h.i.ob, rfl⟩ rfl rfl (.inr rfl) (.inr rfl)) 0) 1) _ (fun _ => unO_I)
theorem Ok.cl {B : Bd} (h : B.Ok) : (clB B).Ok := Ok.every (Ok.noPool (Ok.every (Ok.noPool h 0) 0 (fun _ => reO_I)) 1) 1 (fun _ => reO_I)
end Go.Proofs.YtkkpckkkcclhhaaDoor.Plain
