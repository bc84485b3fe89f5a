/- Lists that are equal, by the code and by the law. -/
import Derived.Test.YteoeahmnonolmaaSM
import Derived.Deep.DeepCutAuto
import Derived.LoopTactic
import Derived.Deep.MidRow
namespace Go.Proofs.Yteoeahmnonolmaa
open Go.RowKit Plain
set_option linter.unusedVariables false
set_option linter.unusedSimpArgs false

def EqA (w : World) (p : Prop) (e : Ending) (w' : World) : Prop := ∃ r : Bool, e = .returned (.bool r) ∧ (r = true ↔ p) ∧ Below w.heap.size w w'
theorem EqA.yes {w w' : World} {p : Prop} (hp : p) (hb : Below w.heap.size w w') : EqA w p (.returned (.bool true)) w' := ⟨true, rfl, ⟨fun _ => hp, fun _ => rfl⟩, hb⟩
theorem EqA.no {w w' : World} {p : Prop} (hp : ¬ p) (hb : Below w.heap.size w w') : EqA w p (.returned (.bool false)) w' := ⟨false, rfl, ⟨fun h => (by cases h), fun h => absurd h hp⟩, hb⟩
/-- equal so far -/
theorem eq_step {α : Type} {l m : List α} {k : Nat} {x : α} (h : l.take k = m.take k) (hx : l[k]? = some x) (hy : m[k]? = some x) : l.take (k + 1) = m.take (k + 1) := by
  rw [List.take_add_one, List.take_add_one, h, hx, hy]
theorem ne_at {α : Type} {l m : List α} {k : Nat} {x y : α} (hx : l[k]? = some x) (hy : m[k]? = some y) (h : x ≠ y) : l ≠ m := by
  rintro rfl
  rw [hx] at hy
  cases hy
  exact h rfl
theorem ne_len {α : Type} {l m : List α} (h : l.length ≠ m.length) : l ≠ m := by rintro rfl; exact h rfl
set_option maxRecDepth 100000 in
set_option maxHeartbeats 4000000 in
theorem quiet_load_Ob {C : World → Prop} {K : Act → Prop} {a a' : Act} {op : Oper} {b o : Nat} {x : Ob} (p : Operand) (ho : op.op = .load 79 p) (hx : a.eval p = .pointer (some ⟨b, o, none⟩)) (h : ∀ w, C w → w.rangeAt b o (oc x)) (ha : a.put op.dst (.agg (oc x).toArray) = a') (hk : K a') : op.quiet Try.prog a C K := by
  subst ha
  refine ⟨.agg (oc x).toArray, fun w hw => ?_, hk⟩
  have e := run_loadAt_mid (P := Try.prog) w b o 79 (oc x) _ (h w hw) Try.underlying79 rfl rfl
  have r : (execOp a.eval op).run Try.prog w = .ok (.value (.agg (oc x).toArray)) w := by
    unfold execOp
    rw [ho]
    show (Bind.bind (Instr.loadAt 79 (a.eval p)) (fun v => pure (Next.value v)) : Sem Next).run Try.prog w = _
    rw [hx, Sem.run_bind, e]
    rfl
  unfold Oper.quietAt
  rw [r]
  exact ⟨rfl, rfl⟩
set_option maxRecDepth 100000 in
set_option maxHeartbeats 4000000 in
theorem quiet_neq_Ob {C : World → Prop} {K : Act → Prop} {a a' : Act} {op : Oper} {x y : Ob} {t : TypeId} {r : Bool} (hr : Hid (r = true ↔ x ≠ y)) (p q : Operand) (ho : op.op = .binOp .neq 79 p q t) (hx : a.eval p = .agg (oc x).toArray) (hy : a.eval q = .agg (oc y).toArray) (ha : a.put op.dst (.bool r) = a') (hk : K a') : op.quiet Try.prog a C K := by
  subst ha
  refine ⟨.bool r, fun w hw => ?_, hk⟩
  have e : (execOp a.eval op).run Try.prog w = .ok (.value (.bool r)) w := by
    unfold execOp
    rw [ho]
    simp only [hx, hy]
    by_cases hxy : x = y
    · subst hxy
      have : r = false := by
        cases r with
        | false => rfl
        | true => exact absurd rfl (hr.out.1 rfl)
      subst this
      simp [go_sem, oc]
    · have : r = true := hr.out.2 hxy
      subst this
      simp [go_sem, oc]
      intro h0 h1 h2 h3 h4 h5 h6 h7 h8 h9 h10 h11
      exact hxy (by cases x; cases y; simp_all)
  unfold Oper.quietAt
  rw [e]
  exact ⟨rfl, rfl⟩
set_option maxRecDepth 100000 in
set_option maxHeartbeats 4000000 in
theorem quiet_load_Bk {C : World → Prop} {K : Act → Prop} {a a' : Act} {op : Oper} {b o : Nat} {x : Bk} (p : Operand) (ho : op.op = .load 107 p) (hx : a.eval p = .pointer (some ⟨b, o, none⟩)) (h : ∀ w, C w → w.rangeAt b o (kc x)) (ha : a.put op.dst (.agg (kc x).toArray) = a') (hk : K a') : op.quiet Try.prog a C K := by
  subst ha
  refine ⟨.agg (kc x).toArray, fun w hw => ?_, hk⟩
  have e := run_loadAt_mid (P := Try.prog) w b o 107 (kc x) _ (h w hw) Try.underlying107 rfl rfl
  have r : (execOp a.eval op).run Try.prog w = .ok (.value (.agg (kc x).toArray)) w := by
    unfold execOp
    rw [ho]
    show (Bind.bind (Instr.loadAt 107 (a.eval p)) (fun v => pure (Next.value v)) : Sem Next).run Try.prog w = _
    rw [hx, Sem.run_bind, e]
    rfl
  unfold Oper.quietAt
  rw [r]
  exact ⟨rfl, rfl⟩
set_option maxRecDepth 100000 in
set_option maxHeartbeats 4000000 in
theorem quiet_neq_Bk {C : World → Prop} {K : Act → Prop} {a a' : Act} {op : Oper} {x y : Bk} {t : TypeId} {r : Bool} (hr : Hid (r = true ↔ x ≠ y)) (p q : Operand) (ho : op.op = .binOp .neq 107 p q t) (hx : a.eval p = .agg (kc x).toArray) (hy : a.eval q = .agg (kc y).toArray) (ha : a.put op.dst (.bool r) = a') (hk : K a') : op.quiet Try.prog a C K := by
  subst ha
  refine ⟨.bool r, fun w hw => ?_, hk⟩
  have e : (execOp a.eval op).run Try.prog w = .ok (.value (.bool r)) w := by
    unfold execOp
    rw [ho]
    simp only [hx, hy]
    by_cases hxy : x = y
    · subst hxy
      have : r = false := by
        cases r with
        | false => rfl
        | true => exact absurd rfl (hr.out.1 rfl)
      subst this
      simp [go_sem, kc]
    · have : r = true := hr.out.2 hxy
      subst this
      simp [go_sem, kc]
      intro h0 h1
      exact hxy (by cases x; cases y; simp_all)
  unfold Oper.quietAt
  rw [e]
  exact ⟨rfl, rfl⟩
set_option maxRecDepth 100000 in
set_option maxHeartbeats 4000000 in
theorem quiet_load_Tg {C : World → Prop} {K : Act → Prop} {a a' : Act} {op : Oper} {b o : Nat} {x : Tg} (p : Operand) (ho : op.op = .load 105 p) (hx : a.eval p = .pointer (some ⟨b, o, none⟩)) (h : ∀ w, C w → w.rangeAt b o (tc x)) (ha : a.put op.dst (.agg (tc x).toArray) = a') (hk : K a') : op.quiet Try.prog a C K := by
  subst ha
  refine ⟨.agg (tc x).toArray, fun w hw => ?_, hk⟩
  have e := run_loadAt_mid (P := Try.prog) w b o 105 (tc x) _ (h w hw) Try.underlying105 rfl rfl
  have r : (execOp a.eval op).run Try.prog w = .ok (.value (.agg (tc x).toArray)) w := by
    unfold execOp
    rw [ho]
    show (Bind.bind (Instr.loadAt 105 (a.eval p)) (fun v => pure (Next.value v)) : Sem Next).run Try.prog w = _
    rw [hx, Sem.run_bind, e]
    rfl
  unfold Oper.quietAt
  rw [r]
  exact ⟨rfl, rfl⟩
set_option maxRecDepth 100000 in
set_option maxHeartbeats 4000000 in
theorem quiet_neq_Tg {C : World → Prop} {K : Act → Prop} {a a' : Act} {op : Oper} {x y : Tg} {t : TypeId} {r : Bool} (hr : Hid (r = true ↔ x ≠ y)) (p q : Operand) (ho : op.op = .binOp .neq 105 p q t) (hx : a.eval p = .agg (tc x).toArray) (hy : a.eval q = .agg (tc y).toArray) (ha : a.put op.dst (.bool r) = a') (hk : K a') : op.quiet Try.prog a C K := by
  subst ha
  refine ⟨.bool r, fun w hw => ?_, hk⟩
  have e : (execOp a.eval op).run Try.prog w = .ok (.value (.bool r)) w := by
    unfold execOp
    rw [ho]
    simp only [hx, hy]
    by_cases hxy : x = y
    · subst hxy
      have : r = false := by
        cases r with
        | false => rfl
        | true => exact absurd rfl (hr.out.1 rfl)
      subst this
      simp [go_sem, tc]
    · have : r = true := hr.out.2 hxy
      subst this
      simp [go_sem, tc]
      intro h0 h1
      exact hxy (by cases x; cases y; simp_all)
  unfold Oper.quietAt
  rw [e]
  exact ⟨rfl, rfl⟩
def EqL (w : World) {α : Type} (l m : List α) (i : Value) (wr : World) : Prop := ∃ k : Nat, k ≤ l.length ∧ i = .int .i64 k ∧ l.take k = m.take k ∧ Below w.heap.size w wr
theorem rg52_6 {P : Program} {B n : Nat} {w0 : World} {L : List (Nat × Nat × Value)} {E F : World → Prop} {id : Nat} {Q : Exit → Act → World → Prop} {a : Act} {w : World} {o0 o1 o2 o3 o4 o5 o6 o7 o8 : Oper} (hm : P.follows .mixedOrders = true)
    (hB : (Region.noSelect [o0, o1, o2, o3, o4, o5, o6, o7, o8].toArray && Scr.ok .any [o0, o1, o2, o3, o4, o5, o6, o7, o8].toArray [3, 7] [0, 1, 2, 4, 5, 6, 8] (.free 0 (.free 1 (.free 2 (.free 4 (.free 5 (.free 6 (.read 3 (.read 7 (.free 8 .done))))))))) true true [o0, o1, o2, o3, o4, o5, o6, o7, o8].toArray.size (Array.replicate [o0, o1, o2, o3, o4, o5, o6, o7, o8].toArray.size false)) = true)
    (k : Kept B w0 n L w) (he : E w) (hE : ∀ W W', E W → Below W.heap.size W W' → E W') (hf : F w) (hF : ∀ W W', F W → Below W.heap.size W W' → F W')
    (h : ∀ wk, Kept B w0 n L wk → E wk → F wk → wpQuiet P [o0, o1, o2, o3, o4, o5, o6, o7, o8].toArray (fun _ => True) (fun a0 => wpQuiet P [o0, o1, o2, o3, o4, o5, o6, o7, o8].toArray (fun w' => ∃ s : KX B w0 n L E, w' = s.val) (fun a1 => wpQuiet P [o0, o1, o2, o3, o4, o5, o6, o7, o8].toArray (fun _ => True) (fun a2 => Q .normal a2 wk) [o8] a1) [o3, o7] a0) [o0, o1, o2, o4, o5, o6] a) : (Code.region id [o0, o1, o2, o3, o4, o5, o6, o7, o8].toArray true).wp P Q a w := by
  have e1 : E w.drew := hE _ _ he ((Below.refl _ _).drew)
  have g := h _ k.drew e1 (hF _ _ hf ((Below.refl _ _).drew))
  exact wp_region_scr (U := (fun w' => ∃ s : KX B w0 n L E, w' = s.val)) (ops := [o0, o1, o2, o3, o4, o5, o6, o7, o8].toArray) (.free 0 (.free 1 (.free 2 (.free 4 (.free 5 (.free 6 (.read 3 (.read 7 (.free 8 .done))))))))) [3, 7] [0, 1, 2, 4, 5, 6, 8] hm hB ⟨⟨_, k.drew, e1⟩, rfl⟩ (Scr.of_free rfl g (fun _ g0 => Scr.of_free rfl g0 (fun _ g1 => Scr.of_free rfl g1 (fun _ g2 => Scr.of_free rfl g2 (fun _ g3 => Scr.of_free rfl g3 (fun _ g4 => Scr.of_free rfl g4 (fun _ g5 => Scr.of_read rfl g5 (fun _ g6 => Scr.of_read rfl g6 (fun _ g7 => Scr.of_free rfl g7 (fun _ g8 => g8))))))))))
set_option maxRecDepth 100000 in
set_option maxHeartbeats 4000000 in
theorem sqI (v1 v2 : Value) (l m : List Int) (w : World) (h1 : Rw ic 1 w v1 l) (h2 : Rw ic 1 w v2 m) : Calls Try.prog 52 #[v1, v2] w (EqA w (l = m)) := by
  obtain ⟨hm, a1, c1, rfl, hf1⟩ := h1.form
  obtain ⟨hm2, a2, c2, rfl, hf2⟩ := h2.form
  have HF1 := Lib.hid hf1
  have HF2 := Lib.hid hf2
  clear h1 h2 hf1 hf2
  by_cases hl : l.length = m.length
  case neg =>
    have t1 : (l.length != m.length) = true := by simpa using hl
    have t2 : ((l.length : Int) != (m.length : Int)) = true := by simp only [bne_iff_ne, ne_eq, Int.natCast_inj]; exact hl
    have HNE := Lib.hid (ne_len hl)
    clear hl
    go_enter Try.func52, Try.ntmps52
    go_wp2_with fail
    go_returns
    exact EqA.no HNE.out (Below.refl _ _)
  rw [← hl] at HF2 ⊢
  have HL := Lib.hid hl
  clear hl hm2
  have hne : (l.length != l.length) = false := by simp
  have hne2 : ((l.length : Int) != (l.length : Int)) = false := by simp
  go_enter Try.func52, Try.ntmps52
  go_wp2_with fail
  go_loopw [13] (fun i wr => EqL w l m i wr) (fun i _ => l.length - (intOf i).toNat)
  case atStart => exact ⟨0, by omega, rfl, rfl, Below.refl _ _⟩
  case round =>
    obtain ⟨k, hk, rfl, ht, hb⟩ := hrel
    have HB := Lib.hid hb
    have HT := Lib.hid ht
    clear ht
    by_cases hkl : k < l.length
    · obtain ⟨b1, o1, rfl, hlt1, hc1⟩ := HF1.out (by omega)
      obtain ⟨b2, o2, rfl, hlt2, hc2⟩ := HF2.out (by omega)
      obtain ⟨x, hx⟩ : ∃ x, l[k]? = some x := ⟨_, List.getElem?_eq_getElem hkl⟩
      obtain ⟨y, hy⟩ : ∃ y, m[k]? = some y := ⟨_, List.getElem?_eq_getElem (by have := HL.out; omega)⟩
      have d1 : wr.cell? ⟨b1, o1 + k, none⟩ = some (.int .i64 x) := (hb.cell (p := ⟨b1, o1 + k, none⟩) hlt1).trans (by have := hc1 k x hx 0 _ rfl; simpa using this)
      have d2 : wr.cell? ⟨b2, o2 + k, none⟩ = some (.int .i64 y) := (hb.cell (p := ⟨b2, o2 + k, none⟩) hlt2).trans (by have := hc2 k y hy 0 _ rfl; simpa using this)
      have g1 : b1 < wr.heap.size := Nat.lt_of_lt_of_le hlt1 hb.size
      have g2 : b2 < wr.heap.size := Nat.lt_of_lt_of_le hlt2 hb.size
      have i1 : (0 : Int) ≤ (k : Int) := by omega
      have i2 : (k : Int) < (l.length : Int) := by omega
      have HX := Lib.hid hx
      have HY := Lib.hid hy
      clear hc1 hc2 hx hy hb
      by_cases hxy : x = y
      · have t1 : (x != y) = false := by simpa using hxy
        have HN := Lib.hid (eq_step HT.out HX.out (by rw [hxy]; exact HY.out))
        clear HT HX HY hxy
        go_upto_region 6 with fail
        refine rg52_6 (w0 := wr) (B := wr.heap.size) (n := wr.heap.size) (L := []) (E := fun _ => True) (F := fun _ => True) (by kernel_rfl) (by kernel_rfl) ⟨by go_grown, by go_size, (by simp [go_sem] <;> omega)⟩ trivial (fun _ _ _ _ => trivial) trivial (fun _ _ _ _ => trivial) (fun w31 K_w31 E_w31 F_w31 => ?_)
        have _ne : Nonempty (KX (wr.heap.size) wr (wr.heap.size) [] (fun _ => True)) := ⟨⟨_, K_w31, E_w31⟩⟩
        repeat (go_big_quiet_step (fail))
        refine wpQuiet_nil ?_
        have ra : ∀ s : KX (wr.heap.size) wr (wr.heap.size) [] (fun _ => True), s.val.cell? ⟨b1, o1 + k, none⟩ = some (.int .i64 x) := fun s => (s.kept.below.cell (p := ⟨b1, o1 + k, none⟩) g1).trans d1
        have rb : ∀ s : KX (wr.heap.size) wr (wr.heap.size) [] (fun _ => True), s.val.cell? ⟨b2, o2 + k, none⟩ = some (.int .i64 y) := fun s => (s.kept.below.cell (p := ⟨b2, o2 + k, none⟩) g2).trans d2
        repeat (go_big_quiet_step (fail))
        refine wpQuiet_nil ?_
        repeat (go_big_quiet_step (fail))
        refine wpQuiet_nil ?_
        clear ra rb
        clear _ne
        have KH_w31 := Lib.hid K_w31
        have hw_w31 := K_w31.below
        have hz_w31 := K_w31.size
        clear K_w31
        clear E_w31 F_w31
        replace HB := Lib.hid (below_via HB.out KH_w31.out.below)
        go_wp2_with fail
        go_roundw
        case rel => exact ⟨k + 1, by omega, by go_num, HN.out, HB.out⟩
        case measure => simp [intOf]; omega
      · have t1 : (x != y) = true := by simpa using hxy
        have HN := Lib.hid (ne_at HX.out HY.out hxy)
        clear HT HX HY hxy
        go_upto_region 6 with fail
        refine rg52_6 (w0 := wr) (B := wr.heap.size) (n := wr.heap.size) (L := []) (E := fun _ => True) (F := fun _ => True) (by kernel_rfl) (by kernel_rfl) ⟨by go_grown, by go_size, (by simp [go_sem] <;> omega)⟩ trivial (fun _ _ _ _ => trivial) trivial (fun _ _ _ _ => trivial) (fun w31 K_w31 E_w31 F_w31 => ?_)
        have _ne : Nonempty (KX (wr.heap.size) wr (wr.heap.size) [] (fun _ => True)) := ⟨⟨_, K_w31, E_w31⟩⟩
        repeat (go_big_quiet_step (fail))
        refine wpQuiet_nil ?_
        have ra : ∀ s : KX (wr.heap.size) wr (wr.heap.size) [] (fun _ => True), s.val.cell? ⟨b1, o1 + k, none⟩ = some (.int .i64 x) := fun s => (s.kept.below.cell (p := ⟨b1, o1 + k, none⟩) g1).trans d1
        have rb : ∀ s : KX (wr.heap.size) wr (wr.heap.size) [] (fun _ => True), s.val.cell? ⟨b2, o2 + k, none⟩ = some (.int .i64 y) := fun s => (s.kept.below.cell (p := ⟨b2, o2 + k, none⟩) g2).trans d2
        repeat (go_big_quiet_step (fail))
        refine wpQuiet_nil ?_
        repeat (go_big_quiet_step (fail))
        refine wpQuiet_nil ?_
        clear ra rb
        clear _ne
        have KH_w31 := Lib.hid K_w31
        have hw_w31 := K_w31.below
        have hz_w31 := K_w31.size
        clear K_w31
        clear E_w31 F_w31
        replace HB := Lib.hid (below_via HB.out KH_w31.out.below)
        go_wp2_with fail
        go_returns
        exact EqA.no HN.out HB.out
    · obtain rfl : k = l.length := by omega
      have HN : Hid (l = m) := Lib.hid (by have h := HT.out; rw [List.take_length, HL.out, List.take_length] at h; exact h)
      clear hb HT
      go_wp2_with fail
      go_returns
      exact EqA.yes HN.out HB.out
theorem rg58_6 {P : Program} {B n : Nat} {w0 : World} {L : List (Nat × Nat × Value)} {E F : World → Prop} {id : Nat} {Q : Exit → Act → World → Prop} {a : Act} {w : World} {o0 o1 o2 o3 o4 o5 o6 o7 o8 : Oper} (hm : P.follows .mixedOrders = true)
    (hB : (Region.noSelect [o0, o1, o2, o3, o4, o5, o6, o7, o8].toArray && Scr.ok .any [o0, o1, o2, o3, o4, o5, o6, o7, o8].toArray [3, 7] [0, 1, 2, 4, 5, 6, 8] (.free 0 (.free 1 (.free 2 (.free 4 (.free 5 (.free 6 (.read 3 (.read 7 (.free 8 .done))))))))) true true [o0, o1, o2, o3, o4, o5, o6, o7, o8].toArray.size (Array.replicate [o0, o1, o2, o3, o4, o5, o6, o7, o8].toArray.size false)) = true)
    (k : Kept B w0 n L w) (he : E w) (hE : ∀ W W', E W → Below W.heap.size W W' → E W') (hf : F w) (hF : ∀ W W', F W → Below W.heap.size W W' → F W')
    (h : ∀ wk, Kept B w0 n L wk → E wk → F wk → wpQuiet P [o0, o1, o2, o3, o4, o5, o6, o7, o8].toArray (fun _ => True) (fun a0 => wpQuiet P [o0, o1, o2, o3, o4, o5, o6, o7, o8].toArray (fun w' => ∃ s : KX B w0 n L E, w' = s.val) (fun a1 => wpQuiet P [o0, o1, o2, o3, o4, o5, o6, o7, o8].toArray (fun _ => True) (fun a2 => Q .normal a2 wk) [o8] a1) [o3, o7] a0) [o0, o1, o2, o4, o5, o6] a) : (Code.region id [o0, o1, o2, o3, o4, o5, o6, o7, o8].toArray true).wp P Q a w := by
  have e1 : E w.drew := hE _ _ he ((Below.refl _ _).drew)
  have g := h _ k.drew e1 (hF _ _ hf ((Below.refl _ _).drew))
  exact wp_region_scr (U := (fun w' => ∃ s : KX B w0 n L E, w' = s.val)) (ops := [o0, o1, o2, o3, o4, o5, o6, o7, o8].toArray) (.free 0 (.free 1 (.free 2 (.free 4 (.free 5 (.free 6 (.read 3 (.read 7 (.free 8 .done))))))))) [3, 7] [0, 1, 2, 4, 5, 6, 8] hm hB ⟨⟨_, k.drew, e1⟩, rfl⟩ (Scr.of_free rfl g (fun _ g0 => Scr.of_free rfl g0 (fun _ g1 => Scr.of_free rfl g1 (fun _ g2 => Scr.of_free rfl g2 (fun _ g3 => Scr.of_free rfl g3 (fun _ g4 => Scr.of_free rfl g4 (fun _ g5 => Scr.of_read rfl g5 (fun _ g6 => Scr.of_read rfl g6 (fun _ g7 => Scr.of_free rfl g7 (fun _ g8 => g8))))))))))
set_option maxRecDepth 100000 in
set_option maxHeartbeats 4000000 in
theorem sqO (v1 v2 : Value) (l m : List Ob) (w : World) (h1 : Rw oc 12 w v1 l) (h2 : Rw oc 12 w v2 m) : Calls Try.prog 58 #[v1, v2] w (EqA w (l = m)) := by
  obtain ⟨hm, a1, c1, rfl, hf1⟩ := h1.form
  obtain ⟨hm2, a2, c2, rfl, hf2⟩ := h2.form
  have HF1 := Lib.hid hf1
  have HF2 := Lib.hid hf2
  clear h1 h2 hf1 hf2
  by_cases hl : l.length = m.length
  case neg =>
    have t1 : (l.length != m.length) = true := by simpa using hl
    have t2 : ((l.length : Int) != (m.length : Int)) = true := by simp only [bne_iff_ne, ne_eq, Int.natCast_inj]; exact hl
    have HNE := Lib.hid (ne_len hl)
    clear hl
    go_enter Try.func58, Try.ntmps58
    go_wp2_with fail
    go_returns
    exact EqA.no HNE.out (Below.refl _ _)
  rw [← hl] at HF2 ⊢
  have HL := Lib.hid hl
  clear hl hm2
  have hne : (l.length != l.length) = false := by simp
  have hne2 : ((l.length : Int) != (l.length : Int)) = false := by simp
  go_enter Try.func58, Try.ntmps58
  go_wp2_with fail
  go_loopw [13] (fun i wr => EqL w l m i wr) (fun i _ => l.length - (intOf i).toNat)
  case atStart => exact ⟨0, by omega, rfl, rfl, Below.refl _ _⟩
  case round =>
    obtain ⟨k, hk, rfl, ht, hb⟩ := hrel
    have HB := Lib.hid hb
    have HT := Lib.hid ht
    clear ht
    by_cases hkl : k < l.length
    · obtain ⟨b1, o1, rfl, hlt1, hc1⟩ := HF1.out (by omega)
      obtain ⟨b2, o2, rfl, hlt2, hc2⟩ := HF2.out (by omega)
      obtain ⟨x, hx⟩ : ∃ x, l[k]? = some x := ⟨_, List.getElem?_eq_getElem hkl⟩
      obtain ⟨y, hy⟩ : ∃ y, m[k]? = some y := ⟨_, List.getElem?_eq_getElem (by have := HL.out; omega)⟩
      have D1 : Hid (∀ (j : Nat) (u : Value), (oc x)[j]? = some u → wr.cell? ⟨b1, o1 + (k * 12 + j), none⟩ = some u) := Lib.hid (fun j u hu => (hb.cell (p := ⟨b1, o1 + (k * 12 + j), none⟩) hlt1).trans (hc1 k x hx j u hu))
      have D2 : Hid (∀ (j : Nat) (u : Value), (oc y)[j]? = some u → wr.cell? ⟨b2, o2 + (k * 12 + j), none⟩ = some u) := Lib.hid (fun j u hu => (hb.cell (p := ⟨b2, o2 + (k * 12 + j), none⟩) hlt2).trans (hc2 k y hy j u hu))
      have g1 : b1 < wr.heap.size := Nat.lt_of_lt_of_le hlt1 hb.size
      have g2 : b2 < wr.heap.size := Nat.lt_of_lt_of_le hlt2 hb.size
      have i1 : (0 : Int) ≤ (k : Int) := by omega
      have i2 : (k : Int) < (l.length : Int) := by omega
      have HX := Lib.hid hx
      have HY := Lib.hid hy
      clear hc1 hc2 hx hy hb
      by_cases hxy : x = y
      · have HRR : Hid (false = true ↔ x ≠ y) := Lib.hid (by simpa using hxy)
        have HN := Lib.hid (eq_step HT.out HX.out (by rw [hxy]; exact HY.out))
        clear HT HX HY hxy
        go_upto_region 6 with fail
        refine rg58_6 (w0 := wr) (B := wr.heap.size) (n := wr.heap.size) (L := []) (E := fun _ => True) (F := fun _ => True) (by kernel_rfl) (by kernel_rfl) ⟨by go_grown, by go_size, (by simp [go_sem] <;> omega)⟩ trivial (fun _ _ _ _ => trivial) trivial (fun _ _ _ _ => trivial) (fun w31 K_w31 E_w31 F_w31 => ?_)
        have _ne : Nonempty (KX (wr.heap.size) wr (wr.heap.size) [] (fun _ => True)) := ⟨⟨_, K_w31, E_w31⟩⟩
        have q1 : ∀ W', (∃ s' : KX (wr.heap.size) wr (wr.heap.size) [] (fun _ => True), W' = s'.val) → W'.rangeAt b1 (o1 + k * 12) (oc x) := by rintro _ ⟨s', rfl⟩; exact fun j u hu => by rw [Nat.add_assoc]; exact (s'.kept.below.cell (p := ⟨b1, _, none⟩) g1).trans (D1.out j u hu)
        have q2 : ∀ W', (∃ s' : KX (wr.heap.size) wr (wr.heap.size) [] (fun _ => True), W' = s'.val) → W'.rangeAt b2 (o2 + k * 12) (oc y) := by rintro _ ⟨s', rfl⟩; exact fun j u hu => by rw [Nat.add_assoc]; exact (s'.kept.below.cell (p := ⟨b2, _, none⟩) g2).trans (D2.out j u hu)
        repeat (first | (go_big_quiet_want; (first | apply quiet_load_Ob _ rfl rfl q1 | apply quiet_load_Ob _ rfl rfl q2 | apply quiet_neq_Ob HRR _ _ rfl rfl rfl); (focus (simp [go_sem]; rfl)); go_big_quiet_on) | go_big_quiet_step (fail))
        refine wpQuiet_nil ?_
        repeat (first | (go_big_quiet_want; (first | apply quiet_load_Ob _ rfl rfl q1 | apply quiet_load_Ob _ rfl rfl q2 | apply quiet_neq_Ob HRR _ _ rfl rfl rfl); (focus (simp [go_sem]; rfl)); go_big_quiet_on) | go_big_quiet_step (fail))
        refine wpQuiet_nil ?_
        repeat (first | (go_big_quiet_want; (first | apply quiet_load_Ob _ rfl rfl q1 | apply quiet_load_Ob _ rfl rfl q2 | apply quiet_neq_Ob HRR _ _ rfl rfl rfl); (focus (simp [go_sem]; rfl)); go_big_quiet_on) | go_big_quiet_step (fail))
        refine wpQuiet_nil ?_
        clear _ne
        have KH_w31 := Lib.hid K_w31
        have hw_w31 := K_w31.below
        have hz_w31 := K_w31.size
        clear K_w31
        clear E_w31 F_w31
        replace HB := Lib.hid (below_via HB.out KH_w31.out.below)
        go_wp2_with fail
        go_roundw
        case rel => exact ⟨k + 1, by omega, by go_num, HN.out, HB.out⟩
        case measure => simp [intOf]; omega
      · have HRR : Hid (true = true ↔ x ≠ y) := Lib.hid (by simpa using hxy)
        have HN := Lib.hid (ne_at HX.out HY.out hxy)
        clear HT HX HY hxy
        go_upto_region 6 with fail
        refine rg58_6 (w0 := wr) (B := wr.heap.size) (n := wr.heap.size) (L := []) (E := fun _ => True) (F := fun _ => True) (by kernel_rfl) (by kernel_rfl) ⟨by go_grown, by go_size, (by simp [go_sem] <;> omega)⟩ trivial (fun _ _ _ _ => trivial) trivial (fun _ _ _ _ => trivial) (fun w31 K_w31 E_w31 F_w31 => ?_)
        have _ne : Nonempty (KX (wr.heap.size) wr (wr.heap.size) [] (fun _ => True)) := ⟨⟨_, K_w31, E_w31⟩⟩
        have q1 : ∀ W', (∃ s' : KX (wr.heap.size) wr (wr.heap.size) [] (fun _ => True), W' = s'.val) → W'.rangeAt b1 (o1 + k * 12) (oc x) := by rintro _ ⟨s', rfl⟩; exact fun j u hu => by rw [Nat.add_assoc]; exact (s'.kept.below.cell (p := ⟨b1, _, none⟩) g1).trans (D1.out j u hu)
        have q2 : ∀ W', (∃ s' : KX (wr.heap.size) wr (wr.heap.size) [] (fun _ => True), W' = s'.val) → W'.rangeAt b2 (o2 + k * 12) (oc y) := by rintro _ ⟨s', rfl⟩; exact fun j u hu => by rw [Nat.add_assoc]; exact (s'.kept.below.cell (p := ⟨b2, _, none⟩) g2).trans (D2.out j u hu)
        repeat (first | (go_big_quiet_want; (first | apply quiet_load_Ob _ rfl rfl q1 | apply quiet_load_Ob _ rfl rfl q2 | apply quiet_neq_Ob HRR _ _ rfl rfl rfl); (focus (simp [go_sem]; rfl)); go_big_quiet_on) | go_big_quiet_step (fail))
        refine wpQuiet_nil ?_
        repeat (first | (go_big_quiet_want; (first | apply quiet_load_Ob _ rfl rfl q1 | apply quiet_load_Ob _ rfl rfl q2 | apply quiet_neq_Ob HRR _ _ rfl rfl rfl); (focus (simp [go_sem]; rfl)); go_big_quiet_on) | go_big_quiet_step (fail))
        refine wpQuiet_nil ?_
        repeat (first | (go_big_quiet_want; (first | apply quiet_load_Ob _ rfl rfl q1 | apply quiet_load_Ob _ rfl rfl q2 | apply quiet_neq_Ob HRR _ _ rfl rfl rfl); (focus (simp [go_sem]; rfl)); go_big_quiet_on) | go_big_quiet_step (fail))
        refine wpQuiet_nil ?_
        clear _ne
        have KH_w31 := Lib.hid K_w31
        have hw_w31 := K_w31.below
        have hz_w31 := K_w31.size
        clear K_w31
        clear E_w31 F_w31
        replace HB := Lib.hid (below_via HB.out KH_w31.out.below)
        go_wp2_with fail
        go_returns
        exact EqA.no HN.out HB.out
    · obtain rfl : k = l.length := by omega
      have HN : Hid (l = m) := Lib.hid (by have h := HT.out; rw [List.take_length, HL.out, List.take_length] at h; exact h)
      clear hb HT
      go_wp2_with fail
      go_returns
      exact EqA.yes HN.out HB.out
theorem rg53_6 {P : Program} {B n : Nat} {w0 : World} {L : List (Nat × Nat × Value)} {E F : World → Prop} {id : Nat} {Q : Exit → Act → World → Prop} {a : Act} {w : World} {o0 o1 o2 o3 o4 o5 o6 o7 o8 : Oper} (hm : P.follows .mixedOrders = true)
    (hB : (Region.noSelect [o0, o1, o2, o3, o4, o5, o6, o7, o8].toArray && Scr.ok .any [o0, o1, o2, o3, o4, o5, o6, o7, o8].toArray [3, 7] [0, 1, 2, 4, 5, 6, 8] (.free 0 (.free 1 (.free 2 (.free 4 (.free 5 (.free 6 (.read 3 (.read 7 (.free 8 .done))))))))) true true [o0, o1, o2, o3, o4, o5, o6, o7, o8].toArray.size (Array.replicate [o0, o1, o2, o3, o4, o5, o6, o7, o8].toArray.size false)) = true)
    (k : Kept B w0 n L w) (he : E w) (hE : ∀ W W', E W → Below W.heap.size W W' → E W') (hf : F w) (hF : ∀ W W', F W → Below W.heap.size W W' → F W')
    (h : ∀ wk, Kept B w0 n L wk → E wk → F wk → wpQuiet P [o0, o1, o2, o3, o4, o5, o6, o7, o8].toArray (fun _ => True) (fun a0 => wpQuiet P [o0, o1, o2, o3, o4, o5, o6, o7, o8].toArray (fun w' => ∃ s : KX B w0 n L E, w' = s.val) (fun a1 => wpQuiet P [o0, o1, o2, o3, o4, o5, o6, o7, o8].toArray (fun _ => True) (fun a2 => Q .normal a2 wk) [o8] a1) [o3, o7] a0) [o0, o1, o2, o4, o5, o6] a) : (Code.region id [o0, o1, o2, o3, o4, o5, o6, o7, o8].toArray true).wp P Q a w := by
  have e1 : E w.drew := hE _ _ he ((Below.refl _ _).drew)
  have g := h _ k.drew e1 (hF _ _ hf ((Below.refl _ _).drew))
  exact wp_region_scr (U := (fun w' => ∃ s : KX B w0 n L E, w' = s.val)) (ops := [o0, o1, o2, o3, o4, o5, o6, o7, o8].toArray) (.free 0 (.free 1 (.free 2 (.free 4 (.free 5 (.free 6 (.read 3 (.read 7 (.free 8 .done))))))))) [3, 7] [0, 1, 2, 4, 5, 6, 8] hm hB ⟨⟨_, k.drew, e1⟩, rfl⟩ (Scr.of_free rfl g (fun _ g0 => Scr.of_free rfl g0 (fun _ g1 => Scr.of_free rfl g1 (fun _ g2 => Scr.of_free rfl g2 (fun _ g3 => Scr.of_free rfl g3 (fun _ g4 => Scr.of_free rfl g4 (fun _ g5 => Scr.of_read rfl g5 (fun _ g6 => Scr.of_read rfl g6 (fun _ g7 => Scr.of_free rfl g7 (fun _ g8 => g8))))))))))
set_option maxRecDepth 100000 in
set_option maxHeartbeats 4000000 in
theorem sqB (v1 v2 : Value) (l m : List Bk) (w : World) (h1 : Rw kc 2 w v1 l) (h2 : Rw kc 2 w v2 m) : Calls Try.prog 53 #[v1, v2] w (EqA w (l = m)) := by
  obtain ⟨hm, a1, c1, rfl, hf1⟩ := h1.form
  obtain ⟨hm2, a2, c2, rfl, hf2⟩ := h2.form
  have HF1 := Lib.hid hf1
  have HF2 := Lib.hid hf2
  clear h1 h2 hf1 hf2
  by_cases hl : l.length = m.length
  case neg =>
    have t1 : (l.length != m.length) = true := by simpa using hl
    have t2 : ((l.length : Int) != (m.length : Int)) = true := by simp only [bne_iff_ne, ne_eq, Int.natCast_inj]; exact hl
    have HNE := Lib.hid (ne_len hl)
    clear hl
    go_enter Try.func53, Try.ntmps53
    go_wp2_with fail
    go_returns
    exact EqA.no HNE.out (Below.refl _ _)
  rw [← hl] at HF2 ⊢
  have HL := Lib.hid hl
  clear hl hm2
  have hne : (l.length != l.length) = false := by simp
  have hne2 : ((l.length : Int) != (l.length : Int)) = false := by simp
  go_enter Try.func53, Try.ntmps53
  go_wp2_with fail
  go_loopw [13] (fun i wr => EqL w l m i wr) (fun i _ => l.length - (intOf i).toNat)
  case atStart => exact ⟨0, by omega, rfl, rfl, Below.refl _ _⟩
  case round =>
    obtain ⟨k, hk, rfl, ht, hb⟩ := hrel
    have HB := Lib.hid hb
    have HT := Lib.hid ht
    clear ht
    by_cases hkl : k < l.length
    · obtain ⟨b1, o1, rfl, hlt1, hc1⟩ := HF1.out (by omega)
      obtain ⟨b2, o2, rfl, hlt2, hc2⟩ := HF2.out (by omega)
      obtain ⟨x, hx⟩ : ∃ x, l[k]? = some x := ⟨_, List.getElem?_eq_getElem hkl⟩
      obtain ⟨y, hy⟩ : ∃ y, m[k]? = some y := ⟨_, List.getElem?_eq_getElem (by have := HL.out; omega)⟩
      have D1 : Hid (∀ (j : Nat) (u : Value), (kc x)[j]? = some u → wr.cell? ⟨b1, o1 + (k * 2 + j), none⟩ = some u) := Lib.hid (fun j u hu => (hb.cell (p := ⟨b1, o1 + (k * 2 + j), none⟩) hlt1).trans (hc1 k x hx j u hu))
      have D2 : Hid (∀ (j : Nat) (u : Value), (kc y)[j]? = some u → wr.cell? ⟨b2, o2 + (k * 2 + j), none⟩ = some u) := Lib.hid (fun j u hu => (hb.cell (p := ⟨b2, o2 + (k * 2 + j), none⟩) hlt2).trans (hc2 k y hy j u hu))
      have g1 : b1 < wr.heap.size := Nat.lt_of_lt_of_le hlt1 hb.size
      have g2 : b2 < wr.heap.size := Nat.lt_of_lt_of_le hlt2 hb.size
      have i1 : (0 : Int) ≤ (k : Int) := by omega
      have i2 : (k : Int) < (l.length : Int) := by omega
      have HX := Lib.hid hx
      have HY := Lib.hid hy
      clear hc1 hc2 hx hy hb
      by_cases hxy : x = y
      · have HRR : Hid (false = true ↔ x ≠ y) := Lib.hid (by simpa using hxy)
        have HN := Lib.hid (eq_step HT.out HX.out (by rw [hxy]; exact HY.out))
        clear HT HX HY hxy
        go_upto_region 6 with fail
        refine rg53_6 (w0 := wr) (B := wr.heap.size) (n := wr.heap.size) (L := []) (E := fun _ => True) (F := fun _ => True) (by kernel_rfl) (by kernel_rfl) ⟨by go_grown, by go_size, (by simp [go_sem] <;> omega)⟩ trivial (fun _ _ _ _ => trivial) trivial (fun _ _ _ _ => trivial) (fun w31 K_w31 E_w31 F_w31 => ?_)
        have _ne : Nonempty (KX (wr.heap.size) wr (wr.heap.size) [] (fun _ => True)) := ⟨⟨_, K_w31, E_w31⟩⟩
        have q1 : ∀ W', (∃ s' : KX (wr.heap.size) wr (wr.heap.size) [] (fun _ => True), W' = s'.val) → W'.rangeAt b1 (o1 + k * 2) (kc x) := by rintro _ ⟨s', rfl⟩; exact fun j u hu => by rw [Nat.add_assoc]; exact (s'.kept.below.cell (p := ⟨b1, _, none⟩) g1).trans (D1.out j u hu)
        have q2 : ∀ W', (∃ s' : KX (wr.heap.size) wr (wr.heap.size) [] (fun _ => True), W' = s'.val) → W'.rangeAt b2 (o2 + k * 2) (kc y) := by rintro _ ⟨s', rfl⟩; exact fun j u hu => by rw [Nat.add_assoc]; exact (s'.kept.below.cell (p := ⟨b2, _, none⟩) g2).trans (D2.out j u hu)
        repeat (first | (go_big_quiet_want; (first | apply quiet_load_Bk _ rfl rfl q1 | apply quiet_load_Bk _ rfl rfl q2 | apply quiet_neq_Bk HRR _ _ rfl rfl rfl); (focus (simp [go_sem]; rfl)); go_big_quiet_on) | go_big_quiet_step (fail))
        refine wpQuiet_nil ?_
        repeat (first | (go_big_quiet_want; (first | apply quiet_load_Bk _ rfl rfl q1 | apply quiet_load_Bk _ rfl rfl q2 | apply quiet_neq_Bk HRR _ _ rfl rfl rfl); (focus (simp [go_sem]; rfl)); go_big_quiet_on) | go_big_quiet_step (fail))
        refine wpQuiet_nil ?_
        repeat (first | (go_big_quiet_want; (first | apply quiet_load_Bk _ rfl rfl q1 | apply quiet_load_Bk _ rfl rfl q2 | apply quiet_neq_Bk HRR _ _ rfl rfl rfl); (focus (simp [go_sem]; rfl)); go_big_quiet_on) | go_big_quiet_step (fail))
        refine wpQuiet_nil ?_
        clear _ne
        have KH_w31 := Lib.hid K_w31
        have hw_w31 := K_w31.below
        have hz_w31 := K_w31.size
        clear K_w31
        clear E_w31 F_w31
        replace HB := Lib.hid (below_via HB.out KH_w31.out.below)
        go_wp2_with fail
        go_roundw
        case rel => exact ⟨k + 1, by omega, by go_num, HN.out, HB.out⟩
        case measure => simp [intOf]; omega
      · have HRR : Hid (true = true ↔ x ≠ y) := Lib.hid (by simpa using hxy)
        have HN := Lib.hid (ne_at HX.out HY.out hxy)
        clear HT HX HY hxy
        go_upto_region 6 with fail
        refine rg53_6 (w0 := wr) (B := wr.heap.size) (n := wr.heap.size) (L := []) (E := fun _ => True) (F := fun _ => True) (by kernel_rfl) (by kernel_rfl) ⟨by go_grown, by go_size, (by simp [go_sem] <;> omega)⟩ trivial (fun _ _ _ _ => trivial) trivial (fun _ _ _ _ => trivial) (fun w31 K_w31 E_w31 F_w31 => ?_)
        have _ne : Nonempty (KX (wr.heap.size) wr (wr.heap.size) [] (fun _ => True)) := ⟨⟨_, K_w31, E_w31⟩⟩
        have q1 : ∀ W', (∃ s' : KX (wr.heap.size) wr (wr.heap.size) [] (fun _ => True), W' = s'.val) → W'.rangeAt b1 (o1 + k * 2) (kc x) := by rintro _ ⟨s', rfl⟩; exact fun j u hu => by rw [Nat.add_assoc]; exact (s'.kept.below.cell (p := ⟨b1, _, none⟩) g1).trans (D1.out j u hu)
        have q2 : ∀ W', (∃ s' : KX (wr.heap.size) wr (wr.heap.size) [] (fun _ => True), W' = s'.val) → W'.rangeAt b2 (o2 + k * 2) (kc y) := by rintro _ ⟨s', rfl⟩; exact fun j u hu => by rw [Nat.add_assoc]; exact (s'.kept.below.cell (p := ⟨b2, _, none⟩) g2).trans (D2.out j u hu)
        repeat (first | (go_big_quiet_want; (first | apply quiet_load_Bk _ rfl rfl q1 | apply quiet_load_Bk _ rfl rfl q2 | apply quiet_neq_Bk HRR _ _ rfl rfl rfl); (focus (simp [go_sem]; rfl)); go_big_quiet_on) | go_big_quiet_step (fail))
        refine wpQuiet_nil ?_
        repeat (first | (go_big_quiet_want; (first | apply quiet_load_Bk _ rfl rfl q1 | apply quiet_load_Bk _ rfl rfl q2 | apply quiet_neq_Bk HRR _ _ rfl rfl rfl); (focus (simp [go_sem]; rfl)); go_big_quiet_on) | go_big_quiet_step (fail))
        refine wpQuiet_nil ?_
        repeat (first | (go_big_quiet_want; (first | apply quiet_load_Bk _ rfl rfl q1 | apply quiet_load_Bk _ rfl rfl q2 | apply quiet_neq_Bk HRR _ _ rfl rfl rfl); (focus (simp [go_sem]; rfl)); go_big_quiet_on) | go_big_quiet_step (fail))
        refine wpQuiet_nil ?_
        clear _ne
        have KH_w31 := Lib.hid K_w31
        have hw_w31 := K_w31.below
        have hz_w31 := K_w31.size
        clear K_w31
        clear E_w31 F_w31
        replace HB := Lib.hid (below_via HB.out KH_w31.out.below)
        go_wp2_with fail
        go_returns
        exact EqA.no HN.out HB.out
    · obtain rfl : k = l.length := by omega
      have HN : Hid (l = m) := Lib.hid (by have h := HT.out; rw [List.take_length, HL.out, List.take_length] at h; exact h)
      clear hb HT
      go_wp2_with fail
      go_returns
      exact EqA.yes HN.out HB.out
theorem rg74_6 {P : Program} {B n : Nat} {w0 : World} {L : List (Nat × Nat × Value)} {E F : World → Prop} {id : Nat} {Q : Exit → Act → World → Prop} {a : Act} {w : World} {o0 o1 o2 o3 o4 o5 o6 o7 o8 : Oper} (hm : P.follows .mixedOrders = true)
    (hB : (Region.noSelect [o0, o1, o2, o3, o4, o5, o6, o7, o8].toArray && Scr.ok .any [o0, o1, o2, o3, o4, o5, o6, o7, o8].toArray [3, 7] [0, 1, 2, 4, 5, 6, 8] (.free 0 (.free 1 (.free 2 (.free 4 (.free 5 (.free 6 (.read 3 (.read 7 (.free 8 .done))))))))) true true [o0, o1, o2, o3, o4, o5, o6, o7, o8].toArray.size (Array.replicate [o0, o1, o2, o3, o4, o5, o6, o7, o8].toArray.size false)) = true)
    (k : Kept B w0 n L w) (he : E w) (hE : ∀ W W', E W → Below W.heap.size W W' → E W') (hf : F w) (hF : ∀ W W', F W → Below W.heap.size W W' → F W')
    (h : ∀ wk, Kept B w0 n L wk → E wk → F wk → wpQuiet P [o0, o1, o2, o3, o4, o5, o6, o7, o8].toArray (fun _ => True) (fun a0 => wpQuiet P [o0, o1, o2, o3, o4, o5, o6, o7, o8].toArray (fun w' => ∃ s : KX B w0 n L E, w' = s.val) (fun a1 => wpQuiet P [o0, o1, o2, o3, o4, o5, o6, o7, o8].toArray (fun _ => True) (fun a2 => Q .normal a2 wk) [o8] a1) [o3, o7] a0) [o0, o1, o2, o4, o5, o6] a) : (Code.region id [o0, o1, o2, o3, o4, o5, o6, o7, o8].toArray true).wp P Q a w := by
  have e1 : E w.drew := hE _ _ he ((Below.refl _ _).drew)
  have g := h _ k.drew e1 (hF _ _ hf ((Below.refl _ _).drew))
  exact wp_region_scr (U := (fun w' => ∃ s : KX B w0 n L E, w' = s.val)) (ops := [o0, o1, o2, o3, o4, o5, o6, o7, o8].toArray) (.free 0 (.free 1 (.free 2 (.free 4 (.free 5 (.free 6 (.read 3 (.read 7 (.free 8 .done))))))))) [3, 7] [0, 1, 2, 4, 5, 6, 8] hm hB ⟨⟨_, k.drew, e1⟩, rfl⟩ (Scr.of_free rfl g (fun _ g0 => Scr.of_free rfl g0 (fun _ g1 => Scr.of_free rfl g1 (fun _ g2 => Scr.of_free rfl g2 (fun _ g3 => Scr.of_free rfl g3 (fun _ g4 => Scr.of_free rfl g4 (fun _ g5 => Scr.of_read rfl g5 (fun _ g6 => Scr.of_read rfl g6 (fun _ g7 => Scr.of_free rfl g7 (fun _ g8 => g8))))))))))
set_option maxRecDepth 100000 in
set_option maxHeartbeats 4000000 in
theorem sqT (v1 v2 : Value) (l m : List Tg) (w : World) (h1 : Rw tc 2 w v1 l) (h2 : Rw tc 2 w v2 m) : Calls Try.prog 74 #[v1, v2] w (EqA w (l = m)) := by
  obtain ⟨hm, a1, c1, rfl, hf1⟩ := h1.form
  obtain ⟨hm2, a2, c2, rfl, hf2⟩ := h2.form
  have HF1 := Lib.hid hf1
  have HF2 := Lib.hid hf2
  clear h1 h2 hf1 hf2
  by_cases hl : l.length = m.length
  case neg =>
    have t1 : (l.length != m.length) = true := by simpa using hl
    have t2 : ((l.length : Int) != (m.length : Int)) = true := by simp only [bne_iff_ne, ne_eq, Int.natCast_inj]; exact hl
    have HNE := Lib.hid (ne_len hl)
    clear hl
    go_enter Try.func74, Try.ntmps74
    go_wp2_with fail
    go_returns
    exact EqA.no HNE.out (Below.refl _ _)
  rw [← hl] at HF2 ⊢
  have HL := Lib.hid hl
  clear hl hm2
  have hne : (l.length != l.length) = false := by simp
  have hne2 : ((l.length : Int) != (l.length : Int)) = false := by simp
  go_enter Try.func74, Try.ntmps74
  go_wp2_with fail
  go_loopw [13] (fun i wr => EqL w l m i wr) (fun i _ => l.length - (intOf i).toNat)
  case atStart => exact ⟨0, by omega, rfl, rfl, Below.refl _ _⟩
  case round =>
    obtain ⟨k, hk, rfl, ht, hb⟩ := hrel
    have HB := Lib.hid hb
    have HT := Lib.hid ht
    clear ht
    by_cases hkl : k < l.length
    · obtain ⟨b1, o1, rfl, hlt1, hc1⟩ := HF1.out (by omega)
      obtain ⟨b2, o2, rfl, hlt2, hc2⟩ := HF2.out (by omega)
      obtain ⟨x, hx⟩ : ∃ x, l[k]? = some x := ⟨_, List.getElem?_eq_getElem hkl⟩
      obtain ⟨y, hy⟩ : ∃ y, m[k]? = some y := ⟨_, List.getElem?_eq_getElem (by have := HL.out; omega)⟩
      have D1 : Hid (∀ (j : Nat) (u : Value), (tc x)[j]? = some u → wr.cell? ⟨b1, o1 + (k * 2 + j), none⟩ = some u) := Lib.hid (fun j u hu => (hb.cell (p := ⟨b1, o1 + (k * 2 + j), none⟩) hlt1).trans (hc1 k x hx j u hu))
      have D2 : Hid (∀ (j : Nat) (u : Value), (tc y)[j]? = some u → wr.cell? ⟨b2, o2 + (k * 2 + j), none⟩ = some u) := Lib.hid (fun j u hu => (hb.cell (p := ⟨b2, o2 + (k * 2 + j), none⟩) hlt2).trans (hc2 k y hy j u hu))
      have g1 : b1 < wr.heap.size := Nat.lt_of_lt_of_le hlt1 hb.size
      have g2 : b2 < wr.heap.size := Nat.lt_of_lt_of_le hlt2 hb.size
      have i1 : (0 : Int) ≤ (k : Int) := by omega
      have i2 : (k : Int) < (l.length : Int) := by omega
      have HX := Lib.hid hx
      have HY := Lib.hid hy
      clear hc1 hc2 hx hy hb
      by_cases hxy : x = y
      · have HRR : Hid (false = true ↔ x ≠ y) := Lib.hid (by simpa using hxy)
        have HN := Lib.hid (eq_step HT.out HX.out (by rw [hxy]; exact HY.out))
        clear HT HX HY hxy
        go_upto_region 6 with fail
        refine rg74_6 (w0 := wr) (B := wr.heap.size) (n := wr.heap.size) (L := []) (E := fun _ => True) (F := fun _ => True) (by kernel_rfl) (by kernel_rfl) ⟨by go_grown, by go_size, (by simp [go_sem] <;> omega)⟩ trivial (fun _ _ _ _ => trivial) trivial (fun _ _ _ _ => trivial) (fun w31 K_w31 E_w31 F_w31 => ?_)
        have _ne : Nonempty (KX (wr.heap.size) wr (wr.heap.size) [] (fun _ => True)) := ⟨⟨_, K_w31, E_w31⟩⟩
        have q1 : ∀ W', (∃ s' : KX (wr.heap.size) wr (wr.heap.size) [] (fun _ => True), W' = s'.val) → W'.rangeAt b1 (o1 + k * 2) (tc x) := by rintro _ ⟨s', rfl⟩; exact fun j u hu => by rw [Nat.add_assoc]; exact (s'.kept.below.cell (p := ⟨b1, _, none⟩) g1).trans (D1.out j u hu)
        have q2 : ∀ W', (∃ s' : KX (wr.heap.size) wr (wr.heap.size) [] (fun _ => True), W' = s'.val) → W'.rangeAt b2 (o2 + k * 2) (tc y) := by rintro _ ⟨s', rfl⟩; exact fun j u hu => by rw [Nat.add_assoc]; exact (s'.kept.below.cell (p := ⟨b2, _, none⟩) g2).trans (D2.out j u hu)
        repeat (first | (go_big_quiet_want; (first | apply quiet_load_Tg _ rfl rfl q1 | apply quiet_load_Tg _ rfl rfl q2 | apply quiet_neq_Tg HRR _ _ rfl rfl rfl); (focus (simp [go_sem]; rfl)); go_big_quiet_on) | go_big_quiet_step (fail))
        refine wpQuiet_nil ?_
        repeat (first | (go_big_quiet_want; (first | apply quiet_load_Tg _ rfl rfl q1 | apply quiet_load_Tg _ rfl rfl q2 | apply quiet_neq_Tg HRR _ _ rfl rfl rfl); (focus (simp [go_sem]; rfl)); go_big_quiet_on) | go_big_quiet_step (fail))
        refine wpQuiet_nil ?_
        repeat (first | (go_big_quiet_want; (first | apply quiet_load_Tg _ rfl rfl q1 | apply quiet_load_Tg _ rfl rfl q2 | apply quiet_neq_Tg HRR _ _ rfl rfl rfl); (focus (simp [go_sem]; rfl)); go_big_quiet_on) | go_big_quiet_step (fail))
        refine wpQuiet_nil ?_
        clear _ne
        have KH_w31 := Lib.hid K_w31
        have hw_w31 := K_w31.below
        have hz_w31 := K_w31.size
        clear K_w31
        clear E_w31 F_w31
        replace HB := Lib.hid (below_via HB.out KH_w31.out.below)
        go_wp2_with fail
        go_roundw
        case rel => exact ⟨k + 1, by omega, by go_num, HN.out, HB.out⟩
        case measure => simp [intOf]; omega
      · have HRR : Hid (true = true ↔ x ≠ y) := Lib.hid (by simpa using hxy)
        have HN := Lib.hid (ne_at HX.out HY.out hxy)
        clear HT HX HY hxy
        go_upto_region 6 with fail
        refine rg74_6 (w0 := wr) (B := wr.heap.size) (n := wr.heap.size) (L := []) (E := fun _ => True) (F := fun _ => True) (by kernel_rfl) (by kernel_rfl) ⟨by go_grown, by go_size, (by simp [go_sem] <;> omega)⟩ trivial (fun _ _ _ _ => trivial) trivial (fun _ _ _ _ => trivial) (fun w31 K_w31 E_w31 F_w31 => ?_)
        have _ne : Nonempty (KX (wr.heap.size) wr (wr.heap.size) [] (fun _ => True)) := ⟨⟨_, K_w31, E_w31⟩⟩
        have q1 : ∀ W', (∃ s' : KX (wr.heap.size) wr (wr.heap.size) [] (fun _ => True), W' = s'.val) → W'.rangeAt b1 (o1 + k * 2) (tc x) := by rintro _ ⟨s', rfl⟩; exact fun j u hu => by rw [Nat.add_assoc]; exact (s'.kept.below.cell (p := ⟨b1, _, none⟩) g1).trans (D1.out j u hu)
        have q2 : ∀ W', (∃ s' : KX (wr.heap.size) wr (wr.heap.size) [] (fun _ => True), W' = s'.val) → W'.rangeAt b2 (o2 + k * 2) (tc y) := by rintro _ ⟨s', rfl⟩; exact fun j u hu => by rw [Nat.add_assoc]; exact (s'.kept.below.cell (p := ⟨b2, _, none⟩) g2).trans (D2.out j u hu)
        repeat (first | (go_big_quiet_want; (first | apply quiet_load_Tg _ rfl rfl q1 | apply quiet_load_Tg _ rfl rfl q2 | apply quiet_neq_Tg HRR _ _ rfl rfl rfl); (focus (simp [go_sem]; rfl)); go_big_quiet_on) | go_big_quiet_step (fail))
        refine wpQuiet_nil ?_
        repeat (first | (go_big_quiet_want; (first | apply quiet_load_Tg _ rfl rfl q1 | apply quiet_load_Tg _ rfl rfl q2 | apply quiet_neq_Tg HRR _ _ rfl rfl rfl); (focus (simp [go_sem]; rfl)); go_big_quiet_on) | go_big_quiet_step (fail))
        refine wpQuiet_nil ?_
        repeat (first | (go_big_quiet_want; (first | apply quiet_load_Tg _ rfl rfl q1 | apply quiet_load_Tg _ rfl rfl q2 | apply quiet_neq_Tg HRR _ _ rfl rfl rfl); (focus (simp [go_sem]; rfl)); go_big_quiet_on) | go_big_quiet_step (fail))
        refine wpQuiet_nil ?_
        clear _ne
        have KH_w31 := Lib.hid K_w31
        have hw_w31 := K_w31.below
        have hz_w31 := K_w31.size
        clear K_w31
        clear E_w31 F_w31
        replace HB := Lib.hid (below_via HB.out KH_w31.out.below)
        go_wp2_with fail
        go_returns
        exact EqA.no HN.out HB.out
    · obtain rfl : k = l.length := by omega
      have HN : Hid (l = m) := Lib.hid (by have h := HT.out; rw [List.take_length, HL.out, List.take_length] at h; exact h)
      clear hb HT
      go_wp2_with fail
      go_returns
      exact EqA.yes HN.out HB.out
theorem rg56_6 {P : Program} {B n : Nat} {w0 : World} {L : List (Nat × Nat × Value)} {E F : World → Prop} {id : Nat} {Q : Exit → Act → World → Prop} {a : Act} {w : World} {o0 o1 o2 o3 o4 o5 o6 o7 o8 : Oper} (hm : P.follows .mixedOrders = true)
    (hB : (Region.noSelect [o0, o1, o2, o3, o4, o5, o6, o7, o8].toArray && Scr.ok .any [o0, o1, o2, o3, o4, o5, o6, o7, o8].toArray [3, 7] [0, 1, 2, 4, 5, 6, 8] (.free 0 (.free 1 (.free 2 (.free 4 (.free 5 (.free 6 (.read 3 (.read 7 (.free 8 .done))))))))) true true [o0, o1, o2, o3, o4, o5, o6, o7, o8].toArray.size (Array.replicate [o0, o1, o2, o3, o4, o5, o6, o7, o8].toArray.size false)) = true)
    (k : Kept B w0 n L w) (he : E w) (hE : ∀ W W', E W → Below W.heap.size W W' → E W') (hf : F w) (hF : ∀ W W', F W → Below W.heap.size W W' → F W')
    (h : ∀ wk, Kept B w0 n L wk → E wk → F wk → wpQuiet P [o0, o1, o2, o3, o4, o5, o6, o7, o8].toArray (fun _ => True) (fun a0 => wpQuiet P [o0, o1, o2, o3, o4, o5, o6, o7, o8].toArray (fun w' => ∃ s : KX B w0 n L E, w' = s.val) (fun a1 => wpQuiet P [o0, o1, o2, o3, o4, o5, o6, o7, o8].toArray (fun _ => True) (fun a2 => Q .normal a2 wk) [o8] a1) [o3, o7] a0) [o0, o1, o2, o4, o5, o6] a) : (Code.region id [o0, o1, o2, o3, o4, o5, o6, o7, o8].toArray true).wp P Q a w := by
  have e1 : E w.drew := hE _ _ he ((Below.refl _ _).drew)
  have g := h _ k.drew e1 (hF _ _ hf ((Below.refl _ _).drew))
  exact wp_region_scr (U := (fun w' => ∃ s : KX B w0 n L E, w' = s.val)) (ops := [o0, o1, o2, o3, o4, o5, o6, o7, o8].toArray) (.free 0 (.free 1 (.free 2 (.free 4 (.free 5 (.free 6 (.read 3 (.read 7 (.free 8 .done))))))))) [3, 7] [0, 1, 2, 4, 5, 6, 8] hm hB ⟨⟨_, k.drew, e1⟩, rfl⟩ (Scr.of_free rfl g (fun _ g0 => Scr.of_free rfl g0 (fun _ g1 => Scr.of_free rfl g1 (fun _ g2 => Scr.of_free rfl g2 (fun _ g3 => Scr.of_free rfl g3 (fun _ g4 => Scr.of_free rfl g4 (fun _ g5 => Scr.of_read rfl g5 (fun _ g6 => Scr.of_read rfl g6 (fun _ g7 => Scr.of_free rfl g7 (fun _ g8 => g8))))))))))
set_option maxRecDepth 100000 in
set_option maxHeartbeats 4000000 in
theorem lqO (v1 v2 : Value) (l m : List Ob) (w : World) (h1 : Rw oc 12 w v1 l) (h2 : Rw oc 12 w v2 m) : Calls Try.prog 56 #[v1, v2] w (EqA w (l = m)) := by
  obtain ⟨hm, a1, c1, rfl, hf1⟩ := h1.form
  obtain ⟨hm2, a2, c2, rfl, hf2⟩ := h2.form
  have HF1 := Lib.hid hf1
  have HF2 := Lib.hid hf2
  clear h1 h2 hf1 hf2
  by_cases hl : l.length = m.length
  case neg =>
    have t1 : (l.length != m.length) = true := by simpa using hl
    have t2 : ((l.length : Int) != (m.length : Int)) = true := by simp only [bne_iff_ne, ne_eq, Int.natCast_inj]; exact hl
    have HNE := Lib.hid (ne_len hl)
    clear hl
    go_enter Try.func56, Try.ntmps56
    go_wp2_with fail
    go_returns
    exact EqA.no HNE.out (Below.refl _ _)
  rw [← hl] at HF2 ⊢
  have HL := Lib.hid hl
  clear hl hm2
  have hne : (l.length != l.length) = false := by simp
  have hne2 : ((l.length : Int) != (l.length : Int)) = false := by simp
  go_enter Try.func56, Try.ntmps56
  go_wp2_with fail
  go_loopw [5] (fun i wr => EqL w l m i wr) (fun i _ => l.length - (intOf i).toNat)
  case atStart => exact ⟨0, by omega, rfl, rfl, Below.refl _ _⟩
  case round =>
    obtain ⟨k, hk, rfl, ht, hb⟩ := hrel
    have HB := Lib.hid hb
    have HT := Lib.hid ht
    clear ht
    by_cases hkl : k < l.length
    · obtain ⟨b1, o1, rfl, hlt1, hc1⟩ := HF1.out (by omega)
      obtain ⟨b2, o2, rfl, hlt2, hc2⟩ := HF2.out (by omega)
      obtain ⟨x, hx⟩ : ∃ x, l[k]? = some x := ⟨_, List.getElem?_eq_getElem hkl⟩
      obtain ⟨y, hy⟩ : ∃ y, m[k]? = some y := ⟨_, List.getElem?_eq_getElem (by have := HL.out; omega)⟩
      have D1 : Hid (∀ (j : Nat) (u : Value), (oc x)[j]? = some u → wr.cell? ⟨b1, o1 + (k * 12 + j), none⟩ = some u) := Lib.hid (fun j u hu => (hb.cell (p := ⟨b1, o1 + (k * 12 + j), none⟩) hlt1).trans (hc1 k x hx j u hu))
      have D2 : Hid (∀ (j : Nat) (u : Value), (oc y)[j]? = some u → wr.cell? ⟨b2, o2 + (k * 12 + j), none⟩ = some u) := Lib.hid (fun j u hu => (hb.cell (p := ⟨b2, o2 + (k * 12 + j), none⟩) hlt2).trans (hc2 k y hy j u hu))
      have g1 : b1 < wr.heap.size := Nat.lt_of_lt_of_le hlt1 hb.size
      have g2 : b2 < wr.heap.size := Nat.lt_of_lt_of_le hlt2 hb.size
      have i1 : (0 : Int) ≤ (k : Int) := by omega
      have i2 : (k : Int) < (l.length : Int) := by omega
      have HX := Lib.hid hx
      have HY := Lib.hid hy
      clear hc1 hc2 hx hy hb
      by_cases hxy : x = y
      · have HRR : Hid (false = true ↔ x ≠ y) := Lib.hid (by simpa using hxy)
        have HN := Lib.hid (eq_step HT.out HX.out (by rw [hxy]; exact HY.out))
        clear HT HX HY hxy
        go_upto_region 6 with fail
        refine rg56_6 (w0 := wr) (B := wr.heap.size) (n := wr.heap.size) (L := []) (E := fun _ => True) (F := fun _ => True) (by kernel_rfl) (by kernel_rfl) ⟨by go_grown, by go_size, (by simp [go_sem] <;> omega)⟩ trivial (fun _ _ _ _ => trivial) trivial (fun _ _ _ _ => trivial) (fun w31 K_w31 E_w31 F_w31 => ?_)
        have _ne : Nonempty (KX (wr.heap.size) wr (wr.heap.size) [] (fun _ => True)) := ⟨⟨_, K_w31, E_w31⟩⟩
        have q1 : ∀ W', (∃ s' : KX (wr.heap.size) wr (wr.heap.size) [] (fun _ => True), W' = s'.val) → W'.rangeAt b1 (o1 + k * 12) (oc x) := by rintro _ ⟨s', rfl⟩; exact fun j u hu => by rw [Nat.add_assoc]; exact (s'.kept.below.cell (p := ⟨b1, _, none⟩) g1).trans (D1.out j u hu)
        have q2 : ∀ W', (∃ s' : KX (wr.heap.size) wr (wr.heap.size) [] (fun _ => True), W' = s'.val) → W'.rangeAt b2 (o2 + k * 12) (oc y) := by rintro _ ⟨s', rfl⟩; exact fun j u hu => by rw [Nat.add_assoc]; exact (s'.kept.below.cell (p := ⟨b2, _, none⟩) g2).trans (D2.out j u hu)
        repeat (first | (go_big_quiet_want; (first | apply quiet_load_Ob _ rfl rfl q1 | apply quiet_load_Ob _ rfl rfl q2 | apply quiet_neq_Ob HRR _ _ rfl rfl rfl); (focus (simp [go_sem]; rfl)); go_big_quiet_on) | go_big_quiet_step (fail))
        refine wpQuiet_nil ?_
        repeat (first | (go_big_quiet_want; (first | apply quiet_load_Ob _ rfl rfl q1 | apply quiet_load_Ob _ rfl rfl q2 | apply quiet_neq_Ob HRR _ _ rfl rfl rfl); (focus (simp [go_sem]; rfl)); go_big_quiet_on) | go_big_quiet_step (fail))
        refine wpQuiet_nil ?_
        repeat (first | (go_big_quiet_want; (first | apply quiet_load_Ob _ rfl rfl q1 | apply quiet_load_Ob _ rfl rfl q2 | apply quiet_neq_Ob HRR _ _ rfl rfl rfl); (focus (simp [go_sem]; rfl)); go_big_quiet_on) | go_big_quiet_step (fail))
        refine wpQuiet_nil ?_
        clear _ne
        have KH_w31 := Lib.hid K_w31
        have hw_w31 := K_w31.below
        have hz_w31 := K_w31.size
        clear K_w31
        clear E_w31 F_w31
        replace HB := Lib.hid (below_via HB.out KH_w31.out.below)
        go_wp2_with fail
        go_roundw
        case rel => exact ⟨k + 1, by omega, by go_num, HN.out, HB.out⟩
        case measure => simp [intOf]; omega
      · have HRR : Hid (true = true ↔ x ≠ y) := Lib.hid (by simpa using hxy)
        have HN := Lib.hid (ne_at HX.out HY.out hxy)
        clear HT HX HY hxy
        go_upto_region 6 with fail
        refine rg56_6 (w0 := wr) (B := wr.heap.size) (n := wr.heap.size) (L := []) (E := fun _ => True) (F := fun _ => True) (by kernel_rfl) (by kernel_rfl) ⟨by go_grown, by go_size, (by simp [go_sem] <;> omega)⟩ trivial (fun _ _ _ _ => trivial) trivial (fun _ _ _ _ => trivial) (fun w31 K_w31 E_w31 F_w31 => ?_)
        have _ne : Nonempty (KX (wr.heap.size) wr (wr.heap.size) [] (fun _ => True)) := ⟨⟨_, K_w31, E_w31⟩⟩
        have q1 : ∀ W', (∃ s' : KX (wr.heap.size) wr (wr.heap.size) [] (fun _ => True), W' = s'.val) → W'.rangeAt b1 (o1 + k * 12) (oc x) := by rintro _ ⟨s', rfl⟩; exact fun j u hu => by rw [Nat.add_assoc]; exact (s'.kept.below.cell (p := ⟨b1, _, none⟩) g1).trans (D1.out j u hu)
        have q2 : ∀ W', (∃ s' : KX (wr.heap.size) wr (wr.heap.size) [] (fun _ => True), W' = s'.val) → W'.rangeAt b2 (o2 + k * 12) (oc y) := by rintro _ ⟨s', rfl⟩; exact fun j u hu => by rw [Nat.add_assoc]; exact (s'.kept.below.cell (p := ⟨b2, _, none⟩) g2).trans (D2.out j u hu)
        repeat (first | (go_big_quiet_want; (first | apply quiet_load_Ob _ rfl rfl q1 | apply quiet_load_Ob _ rfl rfl q2 | apply quiet_neq_Ob HRR _ _ rfl rfl rfl); (focus (simp [go_sem]; rfl)); go_big_quiet_on) | go_big_quiet_step (fail))
        refine wpQuiet_nil ?_
        repeat (first | (go_big_quiet_want; (first | apply quiet_load_Ob _ rfl rfl q1 | apply quiet_load_Ob _ rfl rfl q2 | apply quiet_neq_Ob HRR _ _ rfl rfl rfl); (focus (simp [go_sem]; rfl)); go_big_quiet_on) | go_big_quiet_step (fail))
        refine wpQuiet_nil ?_
        repeat (first | (go_big_quiet_want; (first | apply quiet_load_Ob _ rfl rfl q1 | apply quiet_load_Ob _ rfl rfl q2 | apply quiet_neq_Ob HRR _ _ rfl rfl rfl); (focus (simp [go_sem]; rfl)); go_big_quiet_on) | go_big_quiet_step (fail))
        refine wpQuiet_nil ?_
        clear _ne
        have KH_w31 := Lib.hid K_w31
        have hw_w31 := K_w31.below
        have hz_w31 := K_w31.size
        clear K_w31
        clear E_w31 F_w31
        replace HB := Lib.hid (below_via HB.out KH_w31.out.below)
        go_wp2_with fail
        go_returns
        exact EqA.no HN.out HB.out
    · obtain rfl : k = l.length := by omega
      have HN : Hid (l = m) := Lib.hid (by have h := HT.out; rw [List.take_length, HL.out, List.take_length] at h; exact h)
      clear hb HT
      go_wp2_with fail
      go_returns
      exact EqA.yes HN.out HB.out
end Go.Proofs.Yteoeahmnonolmaa
