/- The bytes of an object. -/
import Derived.Test.YtjedflfgafhlkaaLo
import Derived.Test.YtjedflfgafhlkaaVa
import Derived.Test.YtjedflfgafhlkaaOwn
import Derived.Maps.Own
import Derived.Maps.OwnOps
import Derived.Maps.Views
import Derived.Maps.RangeWalk
import Derived.Carry
namespace Go.Proofs.Ytjedflfgafhlkaa
open Go.RowKit Plain
set_option linter.unusedVariables false
set_option linter.unusedSimpArgs false

/-- the bytes of an object -/
def flO (o : Ob) : Int := (if o.ta then 1 else 0) + (if o.si then 2 else 0) + (if o.dm then 4 else 0)
def byO (o : Ob) : List Int := [o.id / 256, o.id % 256, (o.cd + 1) / 256, (o.cd + 1) % 256, o.ow, o.po, o.tg, o.da, o.co, o.pp, o.pt, flO o]
theorem vO_cd {o : Ob} (h : vO o = true) : -1 ≤ o.cd ∧ o.cd ≤ 399 := by
  unfold vO at h
  have h := of_decide_eq_true h
  omega
theorem byO_eq {o : Ob} (h : vO o = true) : byO o = [o.id / 256 % 256, o.id % 256, (o.cd + 1) / 256, (o.cd + 1) % 256, o.ow % 256, o.po % 256, o.tg % 256, o.da % 256, o.co % 256, o.pp % 256, o.pt % 256, flO o] := by
  unfold vO at h
  have h := of_decide_eq_true h
  unfold byO
  simp only [List.cons.injEq, and_true, true_and]
  omega
def EncAt (w : World) (zs : List Int) (e : Ending) (w' : World) : Prop := ∃ v, e = .returned (.tuple #[v, .int .i64 0]) ∧ Seg w' .u8 v zs ∧ Below w.heap.size w w'
theorem keyed5 : Maps.Keyed Try.prog 5 := Maps.int_keyed Try.underlying5
theorem plainElem_bool_inv {v : Value} {y : DataW Unit × List MemPlace} (h : plainElem (H := Unit) Try.prog 4 v = some y) : ∃ c, v = .bool c ∧ y = (.lit (.bool c), []) := by
  unfold plainElem at h
  rw [Try.underlying4] at h
  cases v <;> simp at h
  exact ⟨_, rfl, h.symm⟩
/-- 'm[z] = c' in a map that is made by its text -/
theorem wpList_ins {w : World} {ops : Array Oper} {rest : List Oper} {o : Oper} {a : Act} {Q : Exit → Act → World → Prop} (hg : o.guard = none) (m x v : Operand) (hop : o.op = Op.insert 67 m x v)
    {b n : Nat} {D : DataW Unit} (hm : a.eval m = .map (some b)) (h : w.ownsMap Try.prog 5 (plainElem Try.prog 4) b n D) (hn : n < 1000) (z : Int) (hx : a.eval x = .int .u8 z) (c : Bool) (hv : a.eval v = .bool c) (hz : (Lit.int .u8 z).wf = true)
    (hK : ∀ w', w'.ownsMap Try.prog 5 (plainElem Try.prog 4) b (n + 1) (D.put (.int .u8 z) (.lit (.bool c))) → Onl [b] w w' → wpList Try.prog ops Q rest (a.put o.dst undef) w') : wpList Try.prog ops Q (o :: rest) a w := by
  refine wpList_plain hg fun K' hK' => ?_
  obtain ⟨w', hrun, hown, hgr⟩ := h.update (d := .lit (.bool c)) (ps := []) keyed5 Try.underlying67 (by unfold maxLen; omega) (Maps.keyOf_int_mk Try.underlying5 hz) (plainElem_bool Try.underlying4 c)
  unfold Oper.wp
  simp [execOp, hop, hm, hx, hv, hrun, Result.andThen]
  exact hK' _ _ (hK w' hown ⟨hgr.os, hgr.tape, hgr.output, hgr.size, fun k hk hne => hgr.block k hk (by intro e; simp at e; simp [e] at hne)⟩)
/-- the map of the bits -/
def bitD (o : Ob) : DataW Unit := (((DataW.map []).put (.int .u8 1) (.lit (.bool o.ta))).put (.int .u8 2) (.lit (.bool o.si))).put (.int .u8 4) (.lit (.bool o.dm))
/-- one bit's value -/
def bitV (o : Ob) (z : Int) : Bool := if z = 1 then o.ta else if z = 2 then o.si else o.dm
theorem isMap_put {D : DataW Unit} (h : Maps.IsMap D) (k : Lit) (d : DataW Unit) : Maps.IsMap (D.put k d) := by
  obtain ⟨es, rfl⟩ := h
  exact ⟨_, rfl⟩
theorem isMap_nil : Maps.IsMap (DataW.map [] : DataW Unit) := ⟨_, rfl⟩
theorem bitD_has (o : Ob) (z : Int) : Maps.has (bitD o) (.int .u8 z) = decide (z = 1 ∨ z = 2 ∨ z = 4) := by
  have k (x : Int) : WideAt.IsKeyLit (.int .u8 x) := by simp [WideAt.IsKeyLit]
  unfold bitD
  by_cases h4 : z = 4
  · subst h4
    rw [Maps.has_put_same (isMap_put (isMap_put isMap_nil _ _) _ _) (k _)]
    simp
  · rw [Maps.has_put_other (by simp [h4])]
    by_cases h2 : z = 2
    · subst h2
      rw [Maps.has_put_same (isMap_put isMap_nil _ _) (k _)]
      simp
    · rw [Maps.has_put_other (by simp [h2])]
      by_cases h1 : z = 1
      · subst h1
        rw [Maps.has_put_same isMap_nil (k _)]
        simp
      · rw [Maps.has_put_other (by simp [h1])]
        simp [Maps.has, h1, h2, h4]
theorem bitD_at (o : Ob) (z : Int) (hz : z = 1 ∨ z = 2 ∨ z = 4) (zd : DataW Unit) : (bitD o).atKey (.int .u8 z) zd = .lit (.bool (bitV o z)) := by
  have k (x : Int) : WideAt.IsKeyLit (.int .u8 x) := by simp [WideAt.IsKeyLit]
  unfold bitD
  rcases hz with rfl | rfl | rfl
  · rw [Maps.atKey_put_other (by simp), Maps.atKey_put_other (by simp), Maps.atKey_put_same isMap_nil (k _)]
    rfl
  · rw [Maps.atKey_put_other (by simp), Maps.atKey_put_same (isMap_put isMap_nil _ _) (k _)]
    rfl
  · rw [Maps.atKey_put_same (isMap_put (isMap_put isMap_nil _ _) _ _) (k _)]
    rfl
/-- the flags of those bits that are no more to come -/
def flL (o : Ob) (left : Lit → Bool) : Int := (if !left (.int .u8 1) && o.ta then 1 else 0) + (if !left (.int .u8 2) && o.si then 2 else 0) + (if !left (.int .u8 4) && o.dm then 4 else 0)
theorem flL_zero (o : Ob) : flL o (Maps.has (bitD o)) = 0 := by simp [flL, bitD_has]
theorem flL_end (o : Ob) {left : Lit → Bool} (h : ∀ k, left k = false) : flL o left = flO o := by simp [flL, flO, h]
theorem flL_bd (o : Ob) (left : Lit → Bool) : 0 ≤ flL o left ∧ flL o left ≤ 7 := by
  unfold flL
  cases left (.int .u8 1) <;> cases left (.int .u8 2) <;> cases left (.int .u8 4) <;> cases o.ta <;> cases o.si <;> cases o.dm <;> simp
theorem flL_no (o : Ob) {left : Lit → Bool} {x : Int} (hx : x = 1 ∨ x = 2 ∨ x = 4) (hl : left (.int .u8 x) = true) (hc : bitV o x = false) : flL o (fun z => left z && !z.sameKey (.int .u8 x)) = flL o left := by
  unfold flL
  rcases hx with rfl | rfl | rfl <;> simp [bitV] at hc <;> simp [Lit.sameKey, hl, hc]
theorem flL_yes (o : Ob) {left : Lit → Bool} {x : Int} (hx : x = 1 ∨ x = 2 ∨ x = 4) (hl : left (.int .u8 x) = true) (hc : bitV o x = true) : bits .or .u8 (flL o left) x = flL o (fun z => left z && !z.sameKey (.int .u8 x)) := by
  unfold flL
  rcases hx with rfl | rfl | rfl <;> simp [bitV] at hc <;> simp [Lit.sameKey, hl, hc]
  · cases left (.int .u8 2) <;> cases left (.int .u8 4) <;> cases o.si <;> cases o.dm <;> decide
  · cases left (.int .u8 1) <;> cases left (.int .u8 4) <;> cases o.ta <;> cases o.dm <;> decide
  · cases left (.int .u8 1) <;> cases left (.int .u8 2) <;> cases o.ta <;> cases o.si <;> decide
theorem onl_of {w w' : World} {r : Nat} (h : w.grownBy w' (some r)) : Onl [r] w w' := ⟨h.os, h.tape, h.output, h.size, fun k hk hne => h.block k hk (by intro e; simp at e; simp [e] at hne)⟩
def More (o : Ob) (left : Lit → Bool) (cnt b r : Nat) (w : World) (x : Int) (w' : World) (cnt' : Nat) : Prop := (x = 1 ∨ x = 2 ∨ x = 4) ∧ left (.int .u8 x) = true ∧ w'.ranges Try.prog 5 (plainElem (H := Unit) Try.prog 4) b r 3 (bitD o) (fun z => left z && !z.sameKey (.int .u8 x)) cnt' ∧ cnt' < cnt ∧ Onl [r] w w'
theorem wpList_next_bits {w : World} {ops : Array Oper} {rest : List Oper} {oo : Oper} {a : Act} {Q : Exit → Act → World → Prop} (hg : oo.guard = none) (it : Operand) (hop : oo.op = Op.next it false) {o : Ob} {left : Lit → Bool} {cnt b r : Nat}
    (hit : a.eval it = .pointer (some ⟨r, 0, none⟩)) (h : w.ranges Try.prog 5 (plainElem (H := Unit) Try.prog 4) b r 3 (bitD o) left cnt)
    (hDone : cnt = 0 → (∀ kl, left kl = false) → wpList Try.prog ops Q rest (a.put oo.dst (.tuple #[.bool false])) w)
    (hMore : ∀ (x : Int) (w' : World) (cnt' : Nat), More o left cnt b r w x w' cnt' → (Instr.entry (.pointer (some ⟨r, 0, none⟩))).run Try.prog w' = .ok (.tuple #[.int .u8 x, .bool (bitV o x)]) w' → wpList Try.prog ops Q rest (a.put oo.dst (.tuple #[.bool true, .int .u8 x, .bool (bitV o x)])) w') :
    wpList Try.prog ops Q (oo :: rest) a w :=
  wpList_next_ranges w hg it hop 5 keyed5 (plainElem Try.prog 4) (Value.int .u8) Value.bool (fun key kl h => by obtain ⟨x, rfl, _⟩ := Maps.keyOf_int_inv Try.underlying5 h; exact ⟨x, rfl⟩) (fun v y h => by obtain ⟨c, rfl, _⟩ := plainElem_bool_inv h; exact ⟨c, rfl⟩) b r 3 (bitD o) left cnt hit h hDone (fun x c kl y w' cnt' hkey hlk hvv hat hrg hlt hgr hsz hen => by
    obtain ⟨x', ex, rfl, hwx⟩ := Maps.keyOf_int_inv Try.underlying5 hkey
    cases ex
    obtain ⟨c', ec, rfl⟩ := plainElem_bool_inv hvv
    cases ec
    have hx3 : x = 1 ∨ x = 2 ∨ x = 4 := by
      have h1 := Maps.has_true_of_atKey hat
      rw [bitD_has] at h1
      simpa using h1
    have hcv : bitV o x = c := by
      have h1 := (bitD_at o x hx3 .nil).symm.trans (hat .nil)
      simpa using h1
    subst hcv
    exact hMore x w' cnt' ⟨hx3, hlk, hrg, hlt, onl_of hgr⟩ hen)
theorem ovalidc (o : Ob) (b : Bool) (w : World) (h : vO o = b) : Calls Try.prog 10 #[.agg #[.int .i64 o.id, .int .i64 o.cd, .int .i64 o.ow, .int .i64 o.po, .int .i64 o.tg, .int .i64 o.da, .int .i64 o.co, .int .i64 o.pp, .int .i64 o.pt, .bool o.ta, .bool o.si, .bool o.dm]] w fun e w' => e = .returned (.bool b) ∧ Below w.heap.size w w' := by
  subst h
  exact ovalid o w
set_option maxRecDepth 100000 in
set_option maxHeartbeats 2000000 in
theorem oencode_no (o : Ob) (w : World) (hv : Hid (vO o = false)) : Calls Try.prog 23 #[.agg #[.int .i64 o.id, .int .i64 o.cd, .int .i64 o.ow, .int .i64 o.po, .int .i64 o.tg, .int .i64 o.da, .int .i64 o.co, .int .i64 o.pp, .int .i64 o.pt, .bool o.ta, .bool o.si, .bool o.dm]] w fun e w' => e = .returned (.tuple #[.slice none 0 0, .int .i64 2]) ∧ Below w.heap.size w w' := by
  go_enter Try.func23, Try.ntmps23
  go_wp2_with fail
  with_reducible refine (ovalidc o false _ hv.out).mono ?_
  rintro e w1 ⟨rfl, hb_w1⟩
  have K_w1 : Kept w.heap.size w (w.heap.size + 1) [(w.heap.size, 0, .int .i64 o.id), (w.heap.size, 1, .int .i64 o.cd), (w.heap.size, 2, .int .i64 o.ow), (w.heap.size, 3, .int .i64 o.po), (w.heap.size, 4, .int .i64 o.tg), (w.heap.size, 5, .int .i64 o.da), (w.heap.size, 6, .int .i64 o.co), (w.heap.size, 7, .int .i64 o.pp), (w.heap.size, 8, .int .i64 o.pt), (w.heap.size, 9, .bool o.ta), (w.heap.size, 10, .bool o.si), (w.heap.size, 11, .bool o.dm)] w1 := Kept.of hb_w1 (by go_grown) (by go_size) (by omega) (by simp [go_sem] <;> omega)
  clear hb_w1
  have KH_w1 := Lib.hid K_w1
  have hw_w1 := K_w1.below
  have hz_w1 := K_w1.size
  have lB_w1 : w.heap.size < w1.heap.size := by omega
  clear K_w1
  go_wp2_with fail
  go_returns
  exact ⟨rfl, by go_grown⟩

def EnRel (w : World) (o : Ob) (b r : Nat) (f : Value) (wr : World) : Prop := ∃ (left : Lit → Bool) (cnt : Nat), wr.ranges Try.prog 5 (plainElem (H := Unit) Try.prog 4) b r 3 (bitD o) left cnt ∧ f = .int .u8 (flL o left) ∧ Kept w.heap.size w (w.heap.size + 1) [(w.heap.size, 0, .int .i64 o.id), (w.heap.size, 1, .int .i64 o.cd), (w.heap.size, 2, .int .i64 o.ow), (w.heap.size, 3, .int .i64 o.po), (w.heap.size, 4, .int .i64 o.tg), (w.heap.size, 5, .int .i64 o.da), (w.heap.size, 6, .int .i64 o.co), (w.heap.size, 7, .int .i64 o.pp), (w.heap.size, 8, .int .i64 o.pt), (w.heap.size, 9, .bool o.ta), (w.heap.size, 10, .bool o.si), (w.heap.size, 11, .bool o.dm)] wr
set_option maxRecDepth 100000 in
set_option maxHeartbeats 2000000 in
theorem oencode (o : Ob) (w : World) (hv : Hid (vO o = true)) : Calls Try.prog 23 #[.agg #[.int .i64 o.id, .int .i64 o.cd, .int .i64 o.ow, .int .i64 o.po, .int .i64 o.tg, .int .i64 o.da, .int .i64 o.co, .int .i64 o.pp, .int .i64 o.pt, .bool o.ta, .bool o.si, .bool o.dm]] w (EncAt w (byO o)) := by
  have hmm := @run_makeMap Try.prog
  go_enter Try.func23, Try.ntmps23
  go_wp2_with fail
  with_reducible refine (ovalidc o true _ hv.out).mono ?_
  rintro e w1 ⟨rfl, hb_w1⟩
  have K_w1 : Kept w.heap.size w (w.heap.size + 1) [(w.heap.size, 0, .int .i64 o.id), (w.heap.size, 1, .int .i64 o.cd), (w.heap.size, 2, .int .i64 o.ow), (w.heap.size, 3, .int .i64 o.po), (w.heap.size, 4, .int .i64 o.tg), (w.heap.size, 5, .int .i64 o.da), (w.heap.size, 6, .int .i64 o.co), (w.heap.size, 7, .int .i64 o.pp), (w.heap.size, 8, .int .i64 o.pt), (w.heap.size, 9, .bool o.ta), (w.heap.size, 10, .bool o.si), (w.heap.size, 11, .bool o.dm)] w1 := Kept.of hb_w1 (by go_grown) (by go_size) (by omega) (by simp [go_sem] <;> omega)
  clear hb_w1
  have KH_w1 := Lib.hid K_w1
  have hw_w1 := K_w1.below
  have hz_w1 := K_w1.size
  have lB_w1 : w.heap.size < w1.heap.size := by omega
  clear K_w1
  have cB0_w1 := KH_w1.out.at (b := w.heap.size) (o := 0) (v := .int .i64 o.id) (by simp)
  have fB0_w1 := KH_w1.out.free (b := w.heap.size) (o := 0) (v := .int .i64 o.id) (by simp)
  have cB1_w1 := KH_w1.out.at (b := w.heap.size) (o := 1) (v := .int .i64 o.cd) (by simp)
  have fB1_w1 := KH_w1.out.free (b := w.heap.size) (o := 1) (v := .int .i64 o.cd) (by simp)
  have cB2_w1 := KH_w1.out.at (b := w.heap.size) (o := 2) (v := .int .i64 o.ow) (by simp)
  have fB2_w1 := KH_w1.out.free (b := w.heap.size) (o := 2) (v := .int .i64 o.ow) (by simp)
  have cB3_w1 := KH_w1.out.at (b := w.heap.size) (o := 3) (v := .int .i64 o.po) (by simp)
  have fB3_w1 := KH_w1.out.free (b := w.heap.size) (o := 3) (v := .int .i64 o.po) (by simp)
  have cB4_w1 := KH_w1.out.at (b := w.heap.size) (o := 4) (v := .int .i64 o.tg) (by simp)
  have fB4_w1 := KH_w1.out.free (b := w.heap.size) (o := 4) (v := .int .i64 o.tg) (by simp)
  have cB5_w1 := KH_w1.out.at (b := w.heap.size) (o := 5) (v := .int .i64 o.da) (by simp)
  have fB5_w1 := KH_w1.out.free (b := w.heap.size) (o := 5) (v := .int .i64 o.da) (by simp)
  have cB6_w1 := KH_w1.out.at (b := w.heap.size) (o := 6) (v := .int .i64 o.co) (by simp)
  have fB6_w1 := KH_w1.out.free (b := w.heap.size) (o := 6) (v := .int .i64 o.co) (by simp)
  have cB7_w1 := KH_w1.out.at (b := w.heap.size) (o := 7) (v := .int .i64 o.pp) (by simp)
  have fB7_w1 := KH_w1.out.free (b := w.heap.size) (o := 7) (v := .int .i64 o.pp) (by simp)
  have cB8_w1 := KH_w1.out.at (b := w.heap.size) (o := 8) (v := .int .i64 o.pt) (by simp)
  have fB8_w1 := KH_w1.out.free (b := w.heap.size) (o := 8) (v := .int .i64 o.pt) (by simp)
  have cB9_w1 := KH_w1.out.at (b := w.heap.size) (o := 9) (v := .bool o.ta) (by simp)
  have fB9_w1 := KH_w1.out.free (b := w.heap.size) (o := 9) (v := .bool o.ta) (by simp)
  have cB10_w1 := KH_w1.out.at (b := w.heap.size) (o := 10) (v := .bool o.si) (by simp)
  have fB10_w1 := KH_w1.out.free (b := w.heap.size) (o := 10) (v := .bool o.si) (by simp)
  have cB11_w1 := KH_w1.out.at (b := w.heap.size) (o := 11) (v := .bool o.dm) (by simp)
  have fB11_w1 := KH_w1.out.free (b := w.heap.size) (o := 11) (v := .bool o.dm) (by simp)
  go_wp2_with (first
    | (refine wpList_ins rfl (.tmp 11) (.const (.int .u8 1)) (.tmp 13) rfl rfl (World.ownsMap_made _ _ _ _) (by omega) 1 rfl o.ta rfl (by decide) ?_; intro w2 hown2 hon2; have KH2 : Hid (Kept w.heap.size w (w.heap.size + 1) [(w.heap.size, 0, .int .i64 o.id), (w.heap.size, 1, .int .i64 o.cd), (w.heap.size, 2, .int .i64 o.ow), (w.heap.size, 3, .int .i64 o.po), (w.heap.size, 4, .int .i64 o.tg), (w.heap.size, 5, .int .i64 o.da), (w.heap.size, 6, .int .i64 o.co), (w.heap.size, 7, .int .i64 o.pp), (w.heap.size, 8, .int .i64 o.pt), (w.heap.size, 9, .bool o.ta), (w.heap.size, 10, .bool o.si), (w.heap.size, 11, .bool o.dm)] w2) := Lib.hid (Kept.onl (S := [w1.heap.size]) (KH_w1.out.step (by omega) (by go_grown)) hon2 (by omega) (by simp; omega) (by simp; omega)); have hz2 := KH2.out.size; have kx_2 := KH2.out.at (b := w.heap.size) (o := 10) (v := .bool o.si) (by simp); clear hon2)
    | (refine wpList_ins rfl (.tmp 11) (.const (.int .u8 2)) (.tmp 15) rfl rfl hown2 (by omega) 2 rfl o.si rfl (by decide) ?_; intro w3 hown3 hon3; have KH3 : Hid (Kept w.heap.size w (w.heap.size + 1) [(w.heap.size, 0, .int .i64 o.id), (w.heap.size, 1, .int .i64 o.cd), (w.heap.size, 2, .int .i64 o.ow), (w.heap.size, 3, .int .i64 o.po), (w.heap.size, 4, .int .i64 o.tg), (w.heap.size, 5, .int .i64 o.da), (w.heap.size, 6, .int .i64 o.co), (w.heap.size, 7, .int .i64 o.pp), (w.heap.size, 8, .int .i64 o.pt), (w.heap.size, 9, .bool o.ta), (w.heap.size, 10, .bool o.si), (w.heap.size, 11, .bool o.dm)] w3) := Lib.hid (Kept.onl (S := [w1.heap.size]) KH2.out hon3 (by omega) (by simp; omega) (by simp; omega)); have hz3 := KH3.out.size; have kx_3 := KH3.out.at (b := w.heap.size) (o := 11) (v := .bool o.dm) (by simp); clear hon3)
    | (refine wpList_ins rfl (.tmp 11) (.const (.int .u8 4)) (.tmp 17) rfl rfl hown3 (by omega) 4 rfl o.dm rfl (by decide) ?_; intro w4 hown4 hon4; have KH4 : Hid (Kept w.heap.size w (w.heap.size + 1) [(w.heap.size, 0, .int .i64 o.id), (w.heap.size, 1, .int .i64 o.cd), (w.heap.size, 2, .int .i64 o.ow), (w.heap.size, 3, .int .i64 o.po), (w.heap.size, 4, .int .i64 o.tg), (w.heap.size, 5, .int .i64 o.da), (w.heap.size, 6, .int .i64 o.co), (w.heap.size, 7, .int .i64 o.pp), (w.heap.size, 8, .int .i64 o.pt), (w.heap.size, 9, .bool o.ta), (w.heap.size, 10, .bool o.si), (w.heap.size, 11, .bool o.dm)] w4) := Lib.hid (Kept.onl (S := [w1.heap.size]) KH3.out hon4 (by omega) (by simp; omega) (by simp; omega)); have hz4 := KH4.out.size; clear hon4)
    | (at_range; refine wpList_range_own _ rfl _ 67 rfl 5 4 keyed5 Try.underlying67 _ w1.heap.size 3 _ rfl hown4 ?_; intro w5 hrg5 hg5 hs5))
  go_frame
  have KH5 : Hid (Kept w.heap.size w (w.heap.size + 1) [(w.heap.size, 0, .int .i64 o.id), (w.heap.size, 1, .int .i64 o.cd), (w.heap.size, 2, .int .i64 o.ow), (w.heap.size, 3, .int .i64 o.po), (w.heap.size, 4, .int .i64 o.tg), (w.heap.size, 5, .int .i64 o.da), (w.heap.size, 6, .int .i64 o.co), (w.heap.size, 7, .int .i64 o.pp), (w.heap.size, 8, .int .i64 o.pt), (w.heap.size, 9, .bool o.ta), (w.heap.size, 10, .bool o.si), (w.heap.size, 11, .bool o.dm)] w5) := Lib.hid (Kept.step KH4.out (by omega) ((Below.refl _ _).grown hg5 (Nat.le_refl _) (fun k hk => by simp at hk)))
  clear lB_w1 cB0_w1 fB0_w1 cB1_w1 fB1_w1 cB2_w1 fB2_w1 cB3_w1 fB3_w1 cB4_w1 fB4_w1 cB5_w1 fB5_w1 cB6_w1 fB6_w1 cB7_w1 fB7_w1 cB8_w1 fB8_w1 cB9_w1 fB9_w1 cB10_w1 fB10_w1 cB11_w1 fB11_w1 kx_2 kx_3 hg5 hown2 hown3 hown4 KH2 KH3 KH_w1 hmm
  go_loopw [4] (fun f wr => EnRel w o w1.heap.size w4.heap.size f wr) (fun _ wr => wr.rangeLeft w1.heap.size w4.heap.size)
  case atStart => exact ⟨_, _, hrg5, by show _ = Value.int .u8 (flL o (Maps.has (bitD o))); rw [flL_zero], KH5.out⟩
  case round =>
    obtain ⟨left, cnt, hrg, rfl, hK⟩ := hrel
    clear hrg5 KH5
    have HRG := Lib.hid hrg
    have KH := Lib.hid hK
    have hw_wr := hK.below
    have hz_wr := hK.size
    clear hrg hK
    go_wp2_with (first
      | (at_next; refine wpList_next_bits rfl _ rfl rfl HRG.out ?_ ?_))
    · intro _ hl0
      have HF := Lib.hid (flL_end o hl0)
      clear hl0
      have c0 := KH.out.at (b := w.heap.size) (o := 0) (v := .int .i64 o.id) (by simp)
      have c1 := KH.out.at (b := w.heap.size) (o := 1) (v := .int .i64 o.cd) (by simp)
      have c2 := KH.out.at (b := w.heap.size) (o := 2) (v := .int .i64 o.ow) (by simp)
      have c3 := KH.out.at (b := w.heap.size) (o := 3) (v := .int .i64 o.po) (by simp)
      have c4 := KH.out.at (b := w.heap.size) (o := 4) (v := .int .i64 o.tg) (by simp)
      have c5 := KH.out.at (b := w.heap.size) (o := 5) (v := .int .i64 o.da) (by simp)
      have c6 := KH.out.at (b := w.heap.size) (o := 6) (v := .int .i64 o.co) (by simp)
      have c7 := KH.out.at (b := w.heap.size) (o := 7) (v := .int .i64 o.pp) (by simp)
      have c8 := KH.out.at (b := w.heap.size) (o := 8) (v := .int .i64 o.pt) (by simp)
      have c9 := KH.out.at (b := w.heap.size) (o := 9) (v := .bool o.ta) (by simp)
      have c10 := KH.out.at (b := w.heap.size) (o := 10) (v := .bool o.si) (by simp)
      have c11 := KH.out.at (b := w.heap.size) (o := 11) (v := .bool o.dm) (by simp)
      have HB := Lib.hid (byO_eq hv.out)
      have ⟨v1, v2⟩ := vO_cd hv.out
      go_wp2_with fail
      go_returns
      refine ⟨.slice (some ⟨wr.heap.size, 0, none⟩) 12 12, rfl, ?_, by go_grown⟩
      rw [HB.out, ← HF.out]
      have hsn := seg_new wr .u8 5 [o.id / 256 % 256, o.id % 256, (o.cd + 1) / 256, (o.cd + 1) % 256, o.ow % 256, o.po % 256, o.tg % 256, o.da % 256, o.co % 256, o.pp % 256, o.pt % 256, flL o left] 12 (by simp) (by simp [maxLen])
      simpa using hsn
    · intro x w6 cnt6 hm hen
      obtain ⟨hx3, hlk, hrg6, hlt, hon6⟩ := hm
      have K6 := Lib.hid (Kept.onl (S := [w4.heap.size]) KH.out hon6 (by omega) (by simp; omega) (by simp; omega))
      have HRG6 := Lib.hid hrg6
      have HLT := Lib.hid hlt
      cases hcv : bitV o x
      · have HF := Lib.hid (flL_no o hx3 hlk hcv)
        rw [hcv] at hen
        clear hlk hrg6 hlt hon6 hx3 hcv
        go_wp2_with fail
        go_roundw
        case rel => exact ⟨_, cnt6, HRG6.out, by rw [HF.out], K6.out⟩
        case measure => rw [HRG6.out.left_eq, HRG.out.left_eq]; exact HLT.out
      · have HF := Lib.hid (flL_yes o hx3 hlk hcv)
        rw [hcv] at hen
        clear hlk hrg6 hlt hon6 hx3 hcv
        go_wp2_with fail
        go_roundw
        case rel => exact ⟨_, cnt6, HRG6.out, by rw [← HF.out], K6.out⟩
        case measure => rw [HRG6.out.left_eq, HRG.out.left_eq]; exact HLT.out

end Go.Proofs.Ytjedflfgafhlkaa
