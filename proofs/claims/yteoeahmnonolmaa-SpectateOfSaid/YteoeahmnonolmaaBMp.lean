/- Maps of numbers. -/
import Derived.Test.YteoeahmnonolmaaBW
import Derived.Maps.Own
import Derived.Maps.OwnOps
import Derived.Maps.OwnSet
import Derived.Maps.Views
import Derived.Deep.DeepCutAuto
import Derived.LoopTactic
namespace Go.Proofs.Yteoeahmnonolmaa
open Go.RowKit Plain
set_option linter.unusedVariables false
set_option linter.unusedSimpArgs false

theorem keyedI : Maps.Keyed Try.prog 3 := Maps.int_keyed Try.underlying3
theorem wf_i64 {z : Int} (h : I z) : (Lit.int .i64 z).wf = true := by
  unfold I at h
  simp [Lit.wf, IntKind.min, IntKind.max, IntKind.signed, IntKind.bits]
  omega
def kyI (z : Int) : Lit := .int .i64 z
theorem keyI {z : Int} (h : I z) : keyOf Try.prog 3 (.int .i64 z) = some (kyI z) := Maps.keyOf_int_mk Try.underlying3 (wf_i64 h)
/-- the latest entry -/
def lk : List (Int × Int) → Int → Option Int
  | [], _ => none
  | (a, b) :: l, z => if a = z then some b else lk l z
theorem lk_none {l : List (Int × Int)} {z : Int} : lk l z = none ↔ z ∉ l.map Prod.fst := by
  induction l with
  | nil => simp [lk]
  | cons a l ih =>
    obtain ⟨a, b⟩ := a
    unfold lk
    split
    · rename_i h; simp [h]
    · rename_i h; rw [ih, List.map_cons, List.mem_cons, not_or]; exact ⟨fun h2 => ⟨fun e => h e.symm, h2⟩, fun h2 => h2.2⟩
theorem lk_mem {l : List (Int × Int)} {z v : Int} (h : lk l z = some v) : (z, v) ∈ l := by
  induction l with
  | nil => cases h
  | cons a l ih =>
    obtain ⟨a, b⟩ := a
    unfold lk at h
    split at h
    · rename_i e; simp at h; subst e h; simp
    · exact List.mem_cons_of_mem _ (ih h)
/-- block b is a map[int]int with the entries L, the latest one first -/
structure MapM (w : World) (b n : Nat) (L : List (Int × Int)) (D : DataW Unit) : Prop where
  own : w.ownsMap Try.prog 3 (plainElem Try.prog 3) b n D
  has : ∀ z, Maps.has D (kyI z) = (lk L z).isSome
  at' : ∀ z v, lk L z = some v → D.atKey (kyI z) (.lit (.int .i64 0)) = .lit (.int .i64 v)
  no : ∀ z, lk L z = none → D.atKey (kyI z) (.lit (.int .i64 0)) = .lit (.int .i64 0)
  size : (L.map Prod.fst).Nodup → Maps.size D = L.length
def MapI (w : World) (b n : Nat) (L : List (Int × Int)) : Prop := ∃ D, MapM w b n L D
theorem MapI.lt {w : World} {b n : Nat} {L : List (Int × Int)} (h : MapI w b n L) : b < w.heap.size := by
  obtain ⟨D, h⟩ := h
  exact h.own.lt
theorem MapI.block {w w' : World} {b n : Nat} {L : List (Int × Int)} (h : MapI w b n L) (hb : w'.heap[b]? = w.heap[b]?) : MapI w' b n L := by
  obtain ⟨D, ⟨⟨es, clock, h1, h2⟩, h3, h4, h5, h6⟩⟩ := h
  exact ⟨D, ⟨⟨es, clock, hb.trans h1, h2⟩, h3, h4, h5, h6⟩⟩
theorem MapI.below {w w' : World} {b n : Nat} {L : List (Int × Int)} (h : MapI w b n L) (hb : Below w.heap.size w w') : MapI w' b n L := h.block (hb.block b h.lt)
theorem MapI.onl {w w' : World} {b n : Nat} {L : List (Int × Int)} {X : List Nat} (h : MapI w b n L) (ho : Onl X w w') (hX : b ∉ X) : MapI w' b n L := h.block (ho.block b h.lt hX)
theorem MapI.made (w : World) : MapI (w.alloc (.map #[] 0)) w.heap.size 0 [] := ⟨.map [], ⟨World.ownsMap_made _ _ _ _, fun z => (by simp [Maps.has, lk]), fun z v h => (by cases h), fun z _ => (by simp [DataW.atKey]), fun _ => rfl⟩⟩
theorem zeroI (w : World) : (zeroValue 3).run Try.prog w = .ok (.int .i64 0) w := by kernel_rfl
set_option maxRecDepth 100000 in
set_option maxHeartbeats 4000000 in
theorem MapI.look {w : World} {b n : Nat} {L : List (Int × Int)} (h : MapI w b n L) {z v : Int} {r : Bool} (hz : I z) (hr : (lk L z).isSome = r) (hv : (lk L z).getD 0 = v) : (Instr.lookup 130 (.map (some b)) (.int .i64 z) true).run Try.prog w = .ok (.tuple #[.int .i64 v, .bool r]) w := by
  obtain ⟨D, h⟩ := h
  obtain ⟨u, ps, hrun, hR⟩ := h.own.look_ok keyedI Try.underlying130 (zeroI w) (zd := .lit (.int .i64 0)) (zp := []) (plainElem_int Try.underlying3 (by decide)) (keyI hz)
  rw [h.has z, hr] at hrun
  obtain ⟨c, rfl, hc, _⟩ := plainElem_int_inv Try.underlying3 hR
  have hc := congrArg Prod.fst hc
  simp only at hc
  have hcv : c = v := by
    cases hl : lk L z with
    | none =>
      rw [h.no z hl] at hc
      rw [hl] at hv
      simp at hv hc
      omega
    | some x =>
      rw [h.at' z x hl] at hc
      rw [hl] at hv
      simp at hv hc
      omega
  rw [hrun, hcv]
set_option maxRecDepth 100000 in
set_option maxHeartbeats 4000000 in
theorem MapI.put {w : World} {b n : Nat} {L : List (Int × Int)} (h : MapI w b n L) (hn : n < 100000) {z v : Int} (hz : I z) (hv : I v) : ∃ w', (Instr.mapUpdate 130 (.map (some b)) (.int .i64 z) (.int .i64 v)).run Try.prog w = .ok () w' ∧ MapI w' b (n + 1) ((z, v) :: L) ∧ Onl [b] w w' := by
  obtain ⟨D, h⟩ := h
  have hD : Maps.IsMap D := h.own.isMap
  have hT : Maps.Tidy D := h.own.tidy keyedI
  obtain ⟨w', hrun, hown, hg⟩ := h.own.update (d := .lit (.int .i64 v)) (ps := []) keyedI Try.underlying130 (by unfold maxLen; omega) (keyI hz) (plainElem_int Try.underlying3 (wf_i64 hv))
  have hk : WideAt.IsKeyLit (kyI z) := by simp [kyI, WideAt.IsKeyLit]
  have hne : ∀ {y : Int}, y ≠ z → kyI y ≠ kyI z := fun h e => by simp [kyI] at e; exact h e
  refine ⟨w', hrun, ⟨_, ⟨hown, fun y => ?_, fun y x hy => ?_, fun y hy => ?_, fun hnd => ?_⟩⟩, ⟨hg.os, hg.tape, hg.output, hg.size, fun k hk hne => hg.block k hk (by intro e; simp at e; simp [e] at hne)⟩⟩
  · by_cases e : y = z
    · subst e
      rw [Maps.has_put_same hD hk]
      simp [lk]
    · rw [Maps.has_put_other (hne e), h.has y]
      simp [lk, Ne.symm e]
  · by_cases e : y = z
    · subst e
      rw [Maps.atKey_put_same hD hk]
      simp [lk] at hy
      rw [hy]
    · rw [Maps.atKey_put_other (hne e)]
      exact h.at' y x (by simpa [lk, Ne.symm e] using hy)
  · have e : y ≠ z := fun e => by simp [lk, e] at hy
    rw [Maps.atKey_put_other (hne e)]
    exact h.no y (by simpa [lk, Ne.symm e] using hy)
  · rw [List.map_cons, List.nodup_cons] at hnd
    rw [Maps.size_put hT, h.has z, lk_none.2 hnd.1]
    show (if false = true then _ else Maps.size D + 1) = L.length + 1
    rw [if_neg (by decide), h.size hnd.2]
theorem MapI.len {w : World} {b n : Nat} {L : List (Int × Int)} (h : MapI w b n L) (hn : (L.map Prod.fst).Nodup) (ty : TypeId) : (Builtin.len_ #[130] ty #[.map (some b)]).run Try.prog w = .ok (.int .i64 L.length) w := by
  obtain ⟨D, h⟩ := h
  have := h.own.len Try.underlying130 ty
  rw [h.size hn] at this
  exact this
/-- 'owners[z] = v' -/
theorem wpList_putI {w : World} {ops : Array Oper} {rest : List Oper} {o : Oper} {a : Act} {Q : Exit → Act → World → Prop} (hg : o.guard = none) (m x u : Operand) (hop : o.op = Op.mapUpdate 130 m x u)
    {b n : Nat} {L : List (Int × Int)} (hm : a.eval m = .map (some b)) (h : MapI w b n L) (hn : n < 100000) (z v : Int) (hx : a.eval x = .int .i64 z) (hu : a.eval u = .int .i64 v) (hz : I z) (hv : I v)
    (hK : ∀ w', MapI w' b (n + 1) ((z, v) :: L) → Onl [b] w w' → wpList Try.prog ops Q rest (a.put o.dst undef) w') : wpList Try.prog ops Q (o :: rest) a w := by
  refine wpList_plain hg fun K' hK' => ?_
  obtain ⟨w', hrun, r1, r2⟩ := h.put hn hz hv
  unfold Oper.wp
  simp [execOp, hop, hm, hx, hu, hrun, Result.andThen]
  exact hK' _ _ (hK w' r1 r2)
/-- block b is a map[int]bool that says true of the numbers of S -/
def MapS (w : World) (b n : Nat) (S : List Int) : Prop := ∃ D : DataW Unit, w.ownsMap Try.prog 3 (plainElem Try.prog 4) b n D ∧ ∀ z, D.atKey (kyI z) (.lit (.bool false)) = .lit (.bool (decide (z ∈ S)))
theorem MapS.lt {w : World} {b n : Nat} {S : List Int} (h : MapS w b n S) : b < w.heap.size := by
  obtain ⟨D, h1, _⟩ := h
  exact h1.lt
theorem MapS.block {w w' : World} {b n : Nat} {S : List Int} (h : MapS w b n S) (hb : w'.heap[b]? = w.heap[b]?) : MapS w' b n S := by
  obtain ⟨D, ⟨es, clock, h1, h2⟩, h3⟩ := h
  exact ⟨D, ⟨es, clock, hb.trans h1, h2⟩, h3⟩
theorem MapS.below {w w' : World} {b n : Nat} {S : List Int} (h : MapS w b n S) (hb : Below w.heap.size w w') : MapS w' b n S := h.block (hb.block b h.lt)
theorem MapS.onl {w w' : World} {b n : Nat} {S : List Int} {X : List Nat} (h : MapS w b n S) (ho : Onl X w w') (hX : b ∉ X) : MapS w' b n S := h.block (ho.block b h.lt hX)
theorem MapS.made (w : World) : MapS (w.alloc (.map #[] 0)) w.heap.size 0 [] := ⟨.map [], World.ownsMap_made _ _ _ _, fun z => by simp [DataW.atKey]⟩
set_option maxRecDepth 100000 in
set_option maxHeartbeats 4000000 in
theorem plainElem_bool_inv {v : Value} {x : Bool} {ps : List MemPlace} (h : plainElem (H := Unit) Try.prog 4 v = some (.lit (.bool x), ps)) : v = .bool x := by
  unfold plainElem at h
  rw [Try.underlying4] at h
  cases v <;> simp at h
  rw [h.1]
set_option maxRecDepth 100000 in
set_option maxHeartbeats 4000000 in
theorem MapS.look {w : World} {b n : Nat} {S : List Int} (h : MapS w b n S) {z : Int} {v : Bool} (hz : I z) (hv : decide (z ∈ S) = v) : (Instr.lookup 134 (.map (some b)) (.int .i64 z) false).run Try.prog w = .ok (.bool v) w := by
  obtain ⟨D, h1, h2⟩ := h
  obtain ⟨u, ps, hrun, hr⟩ := h1.lookup (z := .bool false) (zd := .lit (.bool false)) (zp := []) keyedI Try.underlying134 (by kernel_rfl) (plainElem_bool Try.underlying4 false) (keyI hz)
  rw [h2 z, hv] at hr
  rw [hrun, plainElem_bool_inv hr]
set_option maxRecDepth 100000 in
set_option maxHeartbeats 4000000 in
theorem MapS.put {w : World} {b n : Nat} {S : List Int} (h : MapS w b n S) (hn : n < 100000) {z : Int} (v : Bool) (hz : I z) : ∃ w', (Instr.mapUpdate 134 (.map (some b)) (.int .i64 z) (.bool v)).run Try.prog w = .ok () w' ∧ MapS w' b (n + 1) (if v = true then z :: S else S.filter (fun x => x != z)) ∧ Onl [b] w w' := by
  obtain ⟨D, h1, h2⟩ := h
  have hD : Maps.IsMap D := h1.isMap
  obtain ⟨w', hrun, hown, hg⟩ := h1.update (d := .lit (.bool v)) (ps := []) keyedI Try.underlying134 (by unfold maxLen; omega) (keyI hz) (plainElem_bool Try.underlying4 v)
  refine ⟨w', hrun, ⟨_, hown, fun y => ?_⟩, ⟨hg.os, hg.tape, hg.output, hg.size, fun k hk hne => hg.block k hk (by intro e; simp at e; simp [e] at hne)⟩⟩
  by_cases e : y = z
  · subst e
    rw [Maps.atKey_put_same hD (by simp [kyI, WideAt.IsKeyLit])]
    cases v <;> simp
  · rw [Maps.atKey_put_other (by simp [kyI, e]), h2 y]
    cases v <;> simp [e]
theorem wpList_putS {w : World} {ops : Array Oper} {rest : List Oper} {o : Oper} {a : Act} {Q : Exit → Act → World → Prop} (hg : o.guard = none) (m x u : Operand) (hop : o.op = Op.mapUpdate 134 m x u)
    {b n : Nat} {S : List Int} (hm : a.eval m = .map (some b)) (h : MapS w b n S) (hn : n < 100000) (z : Int) (v : Bool) (hx : a.eval x = .int .i64 z) (hu : a.eval u = .bool v) (hz : I z)
    (hK : ∀ w', MapS w' b (n + 1) (if v = true then z :: S else S.filter (fun x => x != z)) → Onl [b] w w' → wpList Try.prog ops Q rest (a.put o.dst undef) w') : wpList Try.prog ops Q (o :: rest) a w := by
  refine wpList_plain hg fun K' hK' => ?_
  obtain ⟨w', hrun, r1, r2⟩ := h.put hn v hz
  unfold Oper.wp
  simp [execOp, hop, hm, hx, hu, hrun, Result.andThen]
  exact hK' _ _ (hK w' r1 r2)
end Go.Proofs.Yteoeahmnonolmaa
