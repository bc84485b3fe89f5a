/- Objects: numbers and what is changed of them. -/
import Derived.Test.YtjedflfgafhlkaaRows
import Derived.Test.YtjedflfgafhlkaaPlain
import Derived.Test.YtjedflfgafhlkaaAb
import Derived.Test.YtjedflfgafhlkaaOnl
import Derived.Test.YtjedflfgafhlkaaReg
import Derived.WalkSpells
import Derived.WalkLawsBesides
import Derived.Laws.ByValue
import Derived.IntWalk
namespace Go.Proofs.Ytjedflfgafhlkaa
open Go.RowKit Plain
set_option linter.unusedVariables false
set_option linter.unusedSimpArgs false

set_option maxRecDepth 100000 in
set_option maxHeartbeats 2000000 in
theorem clamp (n m : Int) (w : World) : Calls Try.prog 40 #[.int .i64 n, .int .i64 m] w fun e w' => e = .returned (.int .i64 (cl n m)) ∧ w = w' := by
  go_enter Try.func40, Try.ntmps40
  go_wp2
  all_goals
    go_returns
    exact ⟨ret_int (by unfold cl; omega), rfl⟩
set_option maxRecDepth 100000 in
set_option maxHeartbeats 2000000 in
theorem splus (a b : Int) (w : World) (ha : I a) (hb : I b) : Calls Try.prog 41 #[.int .i64 a, .int .i64 b] w fun e w' => e = .returned (.int .i64 (sat (a + b))) ∧ w = w' := by
  obtain ⟨a0, a1⟩ := ha
  obtain ⟨b0, b1⟩ := hb
  by_cases h1 : 9223372036854775807 < a + b
  · have hw : wrap64 (a + b) ≤ 0 := by unfold wrap64; omega
    have hp : 0 < a := by omega
    have hq : 0 < b := by omega
    go_enter Try.func41, Try.ntmps41
    go_wp2
    all_goals
      go_returns
      exact ⟨ret_int (by unfold sat; omega), rfl⟩
  by_cases h2 : a + b < -9223372036854775808
  · have hw : 0 ≤ wrap64 (a + b) := by unfold wrap64; omega
    have hp : a < 0 := by omega
    have hq : b < 0 := by omega
    go_enter Try.func41, Try.ntmps41
    go_wp2
    all_goals
      go_returns
      exact ⟨ret_int (by unfold sat; omega), rfl⟩
  have h3 : a + b ≤ 9223372036854775807 := by omega
  have h4 : -9223372036854775808 ≤ a + b := by omega
  clear h1 h2
  by_cases hp : 0 < a
  · by_cases hq : 0 < b
    · have hs : 0 < a + b := by omega
      go_enter Try.func41, Try.ntmps41
      go_wp2
      all_goals
        go_returns
        exact ⟨ret_int (by unfold sat; omega), rfl⟩
    · clear h3 h4
      have h3 : a + b ≤ 9223372036854775807 := by omega
      have h4 : -9223372036854775808 ≤ a + b := by omega
      go_enter Try.func41, Try.ntmps41
      go_wp2
      all_goals
        go_returns
        exact ⟨ret_int (by unfold sat; omega), rfl⟩
  by_cases hn : a < 0
  · by_cases hq : b < 0
    · have hs : a + b < 0 := by omega
      go_enter Try.func41, Try.ntmps41
      go_wp2
      all_goals
        go_returns
        exact ⟨ret_int (by unfold sat; omega), rfl⟩
    · skip
      go_enter Try.func41, Try.ntmps41
      go_wp2
      all_goals
        go_returns
        exact ⟨ret_int (by unfold sat; omega), rfl⟩
  · skip
    go_enter Try.func41, Try.ntmps41
    go_wp2
    all_goals
      go_returns
      exact ⟨ret_int (by unfold sat; omega), rfl⟩

set_option maxRecDepth 100000 in
set_option maxHeartbeats 2000000 in
theorem sadd (a b m : Int) (w : World) (ha : I a) (hb : I b) (hm : I m) : Calls Try.prog 36 #[.int .i64 a, .int .i64 b, .int .i64 m] w fun e w' => e = .returned (.int .i64 (cl (a + b) m)) ∧ w = w' := by
  go_enter Try.func36, Try.ntmps36
  go_wp2_with fail
  with_reducible refine (splus _ _ _ ha hb).mono ?_
  rintro e w' ⟨rfl, rfl⟩
  go_wp2_with fail
  with_reducible refine (clamp _ _ _).mono ?_
  rintro e w' ⟨rfl, rfl⟩
  go_wp2_with fail
  go_returns
  exact ⟨ret_int (cl_sat _ hm), rfl⟩
theorem I_max {a : Int} (h : I a) : I (max 0 a) := by unfold I at *; omega
set_option maxRecDepth 100000 in
set_option maxHeartbeats 2000000 in
theorem oplus (a b : Int) (w : World) (ha : I a) (hb : I b) : Calls Try.prog 30 #[.int .i64 a, .int .i64 b] w fun e w' => e = .returned (.int .i64 (ad a b)) ∧ w = w' := by
  obtain ⟨a0, a1⟩ := ha
  obtain ⟨b0, b1⟩ := hb
  by_cases h1 : 0 < a <;> by_cases h2 : 0 < b
  all_goals
    have h3 := h1
    have h4 := h2
    go_enter Try.func30, Try.ntmps30
    go_wp2_with fail
    with_reducible refine (sadd _ _ 99 _ (by unfold I; omega) (by unfold I; omega) (by unfold I; omega)).mono ?_
    rintro e w' ⟨rfl, rfl⟩
    go_wp2_with fail
    go_returns
    exact ⟨ret_int (by unfold ad cl; omega), rfl⟩
theorem oplusc (a b c : Int) (w : World) (ha : I a) (hb : I b) (hc : ad a b = c) : Calls Try.prog 30 #[.int .i64 a, .int .i64 b] w fun e w' => e = .returned (.int .i64 c) ∧ w = w' := by
  subst hc
  exact oplus a b w ha hb
set_option maxRecDepth 100000 in
set_option maxHeartbeats 2000000 in
theorem radd (a b : Int) (w : World) : Calls Try.prog 9 #[.int .i64 a, .int .i64 b] w fun e w' => e = .returned (.int .i64 (ad a b)) ∧ w = w' := by
  go_enter Try.func9, Try.ntmps9
  go_wp2
  all_goals
    go_returns
    exact ⟨ret_int (by unfold ad cl; omega), rfl⟩
theorem raddc (a b c : Int) (w : World) (hc : ad a b = c) : Calls Try.prog 9 #[.int .i64 a, .int .i64 b] w fun e w' => e = .returned (.int .i64 c) ∧ w = w' := by
  subst hc
  exact radd a b w
/-- from 0 to 99 -/
def smB (n : Int) : Bool := decide (0 ≤ n ∧ n ≤ 99)
set_option maxRecDepth 100000 in
set_option maxHeartbeats 2000000 in
theorem small (n : Int) (w : World) : Calls Try.prog 31 #[.int .i64 n] w fun e w' => e = .returned (.bool (smB n)) ∧ w = w' := by
  go_enter Try.func31, Try.ntmps31
  go_wp2
  all_goals
    go_returns
    exact ⟨ret_bool (by unfold smB; first | exact (decide_eq_true (by omega)).symm | exact (decide_eq_false (by omega)).symm | (simp; omega)), rfl⟩
theorem smallc (n : Int) (v : Bool) (w : World) (hv : smB n = v) : Calls Try.prog 31 #[.int .i64 n] w fun e w' => e = .returned (.bool v) ∧ w = w' := by
  subst hv
  exact small n w
set_option maxRecDepth 100000 in
set_option maxHeartbeats 2000000 in
theorem onew (a b c : Int) (w : World)  : Calls Try.prog 7 #[.int .i64 a, .int .i64 b, .int .i64 c] w fun e w' => e = .returned (.agg #[.int .i64 a, .int .i64 b, .int .i64 c, .int .i64 0, .int .i64 0, .int .i64 0, .int .i64 0, .int .i64 0, .int .i64 0, .bool false, .bool false, .bool false]) ∧ Below w.heap.size w w' := by
  go_enter Try.func7, Try.ntmps7
  go_wp2_with fail
  exact bodyPost_ret (v := .agg #[.int .i64 a, .int .i64 b, .int .i64 c, .int .i64 0, .int .i64 0, .int .i64 0, .int .i64 0, .int .i64 0, .int .i64 0, .bool false, .bool false, .bool false]) (by simp [results, Try.results7, go_sem]) rfl ⟨rfl, by go_grown⟩

set_option maxRecDepth 100000 in
set_option maxHeartbeats 2000000 in
theorem otoken (a b c d : Int) (w : World) (hc : I c) (hd : I d) : Calls Try.prog 8 #[.int .i64 a, .int .i64 b, .int .i64 c, .int .i64 d] w fun e w' => e = .returned (.agg #[.int .i64 a, .int .i64 (-1), .int .i64 b, .int .i64 (ad 0 c), .int .i64 (ad 0 d), .int .i64 0, .int .i64 0, .int .i64 0, .int .i64 0, .bool false, .bool false, .bool false]) ∧ Below w.heap.size w w' := by
  go_enter Try.func8, Try.ntmps8
  go_wp2_with fail
  with_reducible refine (oplus 0 c _ (by unfold I; omega) hc).mono ?_
  rintro e w' ⟨rfl, rfl⟩
  go_wp2_with fail
  with_reducible refine (oplus 0 d _ (by unfold I; omega) hd).mono ?_
  rintro e w' ⟨rfl, rfl⟩
  go_wp2_with fail
  exact bodyPost_ret (v := .agg #[.int .i64 a, .int .i64 (-1), .int .i64 b, .int .i64 (ad 0 c), .int .i64 (ad 0 d), .int .i64 0, .int .i64 0, .int .i64 0, .int .i64 0, .bool false, .bool false, .bool false]) (by simp [results, Try.results8, go_sem]) rfl ⟨rfl, by go_grown⟩

set_option maxRecDepth 100000 in
set_option maxHeartbeats 2000000 in
theorem ountap (o : Ob) (w : World)  : Calls Try.prog 24 #[.agg #[.int .i64 o.id, .int .i64 o.cd, .int .i64 o.ow, .int .i64 o.po, .int .i64 o.tg, .int .i64 o.da, .int .i64 o.co, .int .i64 o.pp, .int .i64 o.pt, .bool o.ta, .bool o.si, .bool o.dm]] w fun e w' => e = .returned (.agg #[.int .i64 o.id, .int .i64 o.cd, .int .i64 o.ow, .int .i64 o.po, .int .i64 o.tg, .int .i64 o.da, .int .i64 o.co, .int .i64 o.pp, .int .i64 o.pt, .bool false, .bool false, .bool o.dm]) ∧ Below w.heap.size w w' := by
  go_enter Try.func24, Try.ntmps24
  go_wp2_with fail
  exact bodyPost_ret (v := .agg #[.int .i64 o.id, .int .i64 o.cd, .int .i64 o.ow, .int .i64 o.po, .int .i64 o.tg, .int .i64 o.da, .int .i64 o.co, .int .i64 o.pp, .int .i64 o.pt, .bool false, .bool false, .bool o.dm]) (by simp [results, Try.results24, go_sem]) rfl ⟨rfl, by go_grown⟩

set_option maxRecDepth 100000 in
set_option maxHeartbeats 2000000 in
theorem orest (o : Ob) (w : World)  : Calls Try.prog 25 #[.agg #[.int .i64 o.id, .int .i64 o.cd, .int .i64 o.ow, .int .i64 o.po, .int .i64 o.tg, .int .i64 o.da, .int .i64 o.co, .int .i64 o.pp, .int .i64 o.pt, .bool o.ta, .bool o.si, .bool o.dm]] w fun e w' => e = .returned (.agg #[.int .i64 o.id, .int .i64 o.cd, .int .i64 o.ow, .int .i64 o.po, .int .i64 o.tg, .int .i64 0, .int .i64 o.co, .int .i64 0, .int .i64 0, .bool o.ta, .bool o.si, .bool o.dm]) ∧ Below w.heap.size w w' := by
  go_enter Try.func25, Try.ntmps25
  go_wp2_with fail
  exact bodyPost_ret (v := .agg #[.int .i64 o.id, .int .i64 o.cd, .int .i64 o.ow, .int .i64 o.po, .int .i64 o.tg, .int .i64 0, .int .i64 o.co, .int .i64 0, .int .i64 0, .bool o.ta, .bool o.si, .bool o.dm]) (by simp [results, Try.results25, go_sem]) rfl ⟨rfl, by go_grown⟩

set_option maxRecDepth 100000 in
set_option maxHeartbeats 2000000 in
theorem ohit (o : Ob) (n : Int) (w : World) (h1 : I o.da) (h2 : I n) : Calls Try.prog 18 #[.agg #[.int .i64 o.id, .int .i64 o.cd, .int .i64 o.ow, .int .i64 o.po, .int .i64 o.tg, .int .i64 o.da, .int .i64 o.co, .int .i64 o.pp, .int .i64 o.pt, .bool o.ta, .bool o.si, .bool o.dm], .int .i64 n] w fun e w' => e = .returned (.agg #[.int .i64 o.id, .int .i64 o.cd, .int .i64 o.ow, .int .i64 o.po, .int .i64 o.tg, .int .i64 (ad o.da n), .int .i64 o.co, .int .i64 o.pp, .int .i64 o.pt, .bool o.ta, .bool o.si, .bool o.dm]) ∧ Below w.heap.size w w' := by
  go_enter Try.func18, Try.ntmps18
  go_wp2_with fail
  with_reducible refine (oplus o.da n _ h1 h2).mono ?_
  rintro e w' ⟨rfl, rfl⟩
  go_wp2_with fail
  exact bodyPost_ret (v := .agg #[.int .i64 o.id, .int .i64 o.cd, .int .i64 o.ow, .int .i64 o.po, .int .i64 o.tg, .int .i64 (ad o.da n), .int .i64 o.co, .int .i64 o.pp, .int .i64 o.pt, .bool o.ta, .bool o.si, .bool o.dm]) (by simp [results, Try.results18, go_sem]) rfl ⟨rfl, by go_grown⟩

set_option maxRecDepth 100000 in
set_option maxHeartbeats 2000000 in
theorem ocount (o : Ob) (n : Int) (w : World) (h1 : I o.co) (h2 : I n) : Calls Try.prog 19 #[.agg #[.int .i64 o.id, .int .i64 o.cd, .int .i64 o.ow, .int .i64 o.po, .int .i64 o.tg, .int .i64 o.da, .int .i64 o.co, .int .i64 o.pp, .int .i64 o.pt, .bool o.ta, .bool o.si, .bool o.dm], .int .i64 n] w fun e w' => e = .returned (.agg #[.int .i64 o.id, .int .i64 o.cd, .int .i64 o.ow, .int .i64 o.po, .int .i64 o.tg, .int .i64 o.da, .int .i64 (ad o.co n), .int .i64 o.pp, .int .i64 o.pt, .bool o.ta, .bool o.si, .bool o.dm]) ∧ Below w.heap.size w w' := by
  go_enter Try.func19, Try.ntmps19
  go_wp2_with fail
  with_reducible refine (oplus o.co n _ h1 h2).mono ?_
  rintro e w' ⟨rfl, rfl⟩
  go_wp2_with fail
  exact bodyPost_ret (v := .agg #[.int .i64 o.id, .int .i64 o.cd, .int .i64 o.ow, .int .i64 o.po, .int .i64 o.tg, .int .i64 o.da, .int .i64 (ad o.co n), .int .i64 o.pp, .int .i64 o.pt, .bool o.ta, .bool o.si, .bool o.dm]) (by simp [results, Try.results19, go_sem]) rfl ⟨rfl, by go_grown⟩

theorem rg20_1 {P : Program} {B n : Nat} {w0 : World} {L : List (Nat × Nat × Value)} {E F : World → Prop} {id : Nat} {Q : Exit → Act → World → Prop} {a : Act} {w : World} {o0 o1 o2 o3 o4 o5 o6 o7 o8 o9 o10 o11 : Oper} (hm : P.follows .mixedOrders = true)
    (hB : (Region.noSelect [o0, o1, o2, o3, o4, o5, o6, o7, o8, o9, o10, o11].toArray && Scr.ok .any [o0, o1, o2, o3, o4, o5, o6, o7, o8, o9, o10, o11].toArray [1, 5] [0, 2, 4, 6, 8, 10] (.free 0 (.free 2 (.free 4 (.free 6 (.read 1 (.read 5 (.alt 3 (.free 8 (.altc 7 (.altc 9 (.free 10 (.altc 11 .done .stop)) .stop) .stop)) .stop))))))) true true [o0, o1, o2, o3, o4, o5, o6, o7, o8, o9, o10, o11].toArray.size (Array.replicate [o0, o1, o2, o3, o4, o5, o6, o7, o8, o9, o10, o11].toArray.size false)) = true)
    (k : Kept B w0 n L w) (he : E w) (hE : ∀ W W', E W → Below W.heap.size W W' → E W') (hf : F w) (hF : ∀ W W', F W → Below W.heap.size W W' → F W')
    (h : ∀ wk, Kept B w0 n L wk → E wk → F wk → wpQuiet P [o0, o1, o2, o3, o4, o5, o6, o7, o8, o9, o10, o11].toArray (fun _ => True) (fun a0 => wpQuiet P [o0, o1, o2, o3, o4, o5, o6, o7, o8, o9, o10, o11].toArray (fun w' => ∃ s : KX B w0 n L E, w' = s.val) (fun a1 => ((∀ K2 : Act → World → Prop, (∀ a2 w2, wpQuiet P [o0, o1, o2, o3, o4, o5, o6, o7, o8, o9, o10, o11].toArray (fun _ => True) (fun a3 => ((∀ K4 : Act → World → Prop, (∀ a4 w4, ((∀ K5 : Act → World → Prop, (∀ a5 w5, wpQuiet P [o0, o1, o2, o3, o4, o5, o6, o7, o8, o9, o10, o11].toArray (fun _ => True) (fun a6 => ((∀ K7 : Act → World → Prop, (∀ a7 w7, Q .normal a7 w7 → K7 a7 w7) → wpList P [o0, o1, o2, o3, o4, o5, o6, o7, o8, o9, o10, o11].toArray (fun e a7 w7 => e = .normal ∧ K7 a7 w7) [o11] a6 w5) ∧ True)) [o10] a5 → K5 a5 w5) → wpList P [o0, o1, o2, o3, o4, o5, o6, o7, o8, o9, o10, o11].toArray (fun e a5 w5 => e = .normal ∧ K5 a5 w5) [o9] a4 w4) ∧ True) → K4 a4 w4) → wpList P [o0, o1, o2, o3, o4, o5, o6, o7, o8, o9, o10, o11].toArray (fun e a4 w4 => e = .normal ∧ K4 a4 w4) [o7] a3 w2) ∧ True)) [o8] a2 → K2 a2 w2) → wpList P [o0, o1, o2, o3, o4, o5, o6, o7, o8, o9, o10, o11].toArray (fun e a2 w2 => e = .normal ∧ (∃ s : KX B w0 n L E, w2 = s.val) ∧ K2 a2 w2) [o3] a1 wk) ∧ True)) [o1, o5] a0) [o0, o2, o4, o6] a) : (Code.region id [o0, o1, o2, o3, o4, o5, o6, o7, o8, o9, o10, o11].toArray true).wp P Q a w := by
  have e1 : E w.drew := hE _ _ he ((Below.refl _ _).drew)
  have g := h _ k.drew e1 (hF _ _ hf ((Below.refl _ _).drew))
  exact wp_region_scr (U := (fun w' => ∃ s : KX B w0 n L E, w' = s.val)) (ops := [o0, o1, o2, o3, o4, o5, o6, o7, o8, o9, o10, o11].toArray) (.free 0 (.free 2 (.free 4 (.free 6 (.read 1 (.read 5 (.alt 3 (.free 8 (.altc 7 (.altc 9 (.free 10 (.altc 11 .done .stop)) .stop) .stop)) .stop))))))) [1, 5] [0, 2, 4, 6, 8, 10] hm hB ⟨⟨_, k.drew, e1⟩, rfl⟩ (Scr.of_free rfl g (fun _ g0 => Scr.of_free rfl g0 (fun _ g1 => Scr.of_free rfl g1 (fun _ g2 => Scr.of_free rfl g2 (fun _ g3 => Scr.of_read rfl g3 (fun _ g4 => Scr.of_read rfl g4 (fun _ g5 => (Scr.of_alt rfl (g5.1 _ (fun _ _ g => g)) (fun _ _ g6 => Scr.of_free rfl g6 (fun _ g7 => (Scr.of_altc rfl (g7.1 _ (fun _ _ g => g)) (fun _ _ g8 => (Scr.of_altc rfl (g8.1 _ (fun _ _ g => g)) (fun _ _ g9 => Scr.of_free rfl g9 (fun _ g10 => (Scr.of_altc rfl (g10.1 _ (fun _ _ g => g)) (fun _ _ g11 => g11) trivial))) trivial)) trivial))) trivial))))))))
set_option maxRecDepth 100000 in
set_option maxHeartbeats 2000000 in
theorem opump (o : Ob) (n m : Int) (w : World) (h1 : I o.pp) (h2 : I n) (h3 : I o.pt) (h4 : I m) : Calls Try.prog 20 #[.agg #[.int .i64 o.id, .int .i64 o.cd, .int .i64 o.ow, .int .i64 o.po, .int .i64 o.tg, .int .i64 o.da, .int .i64 o.co, .int .i64 o.pp, .int .i64 o.pt, .bool o.ta, .bool o.si, .bool o.dm], .int .i64 n, .int .i64 m] w fun e w' => e = .returned (.agg #[.int .i64 o.id, .int .i64 o.cd, .int .i64 o.ow, .int .i64 o.po, .int .i64 o.tg, .int .i64 o.da, .int .i64 o.co, .int .i64 (ad o.pp n), .int .i64 (ad o.pt m), .bool o.ta, .bool o.si, .bool o.dm]) ∧ Below w.heap.size w w' := by
  go_enter Try.func20, Try.ntmps20
  go_wp2_with fail
  refine rg20_1 (w0 := w) (B := w.heap.size) (n := w.heap.size + 2) (L := [(w.heap.size, 0, .int .i64 o.id), (w.heap.size, 1, .int .i64 o.cd), (w.heap.size, 2, .int .i64 o.ow), (w.heap.size, 3, .int .i64 o.po), (w.heap.size, 4, .int .i64 o.tg), (w.heap.size, 5, .int .i64 o.da), (w.heap.size, 6, .int .i64 o.co), (w.heap.size, 7, .int .i64 o.pp), (w.heap.size, 8, .int .i64 o.pt), (w.heap.size, 9, .bool o.ta), (w.heap.size, 10, .bool o.si), (w.heap.size, 11, .bool o.dm), (w.heap.size + 1, 0, .int .i64 0), (w.heap.size + 1, 1, .int .i64 0), (w.heap.size + 1, 2, .int .i64 0), (w.heap.size + 1, 3, .int .i64 0), (w.heap.size + 1, 4, .int .i64 0), (w.heap.size + 1, 5, .int .i64 0), (w.heap.size + 1, 6, .int .i64 0), (w.heap.size + 1, 7, .int .i64 0), (w.heap.size + 1, 8, .int .i64 0), (w.heap.size + 1, 9, .bool false), (w.heap.size + 1, 10, .bool false), (w.heap.size + 1, 11, .bool false)]) (E := fun _ => True) (F := fun _ => True) (by kernel_rfl) (by kernel_rfl) ⟨by go_grown, by go_size, (by simp [go_sem] <;> omega)⟩ trivial (fun _ _ _ _ => trivial) trivial (fun _ _ _ _ => trivial) (fun w1 K_w1 E_w1 F_w1 => ?_)
  have _ne : Nonempty (KX (w.heap.size) w (w.heap.size + 2) [(w.heap.size, 0, .int .i64 o.id), (w.heap.size, 1, .int .i64 o.cd), (w.heap.size, 2, .int .i64 o.ow), (w.heap.size, 3, .int .i64 o.po), (w.heap.size, 4, .int .i64 o.tg), (w.heap.size, 5, .int .i64 o.da), (w.heap.size, 6, .int .i64 o.co), (w.heap.size, 7, .int .i64 o.pp), (w.heap.size, 8, .int .i64 o.pt), (w.heap.size, 9, .bool o.ta), (w.heap.size, 10, .bool o.si), (w.heap.size, 11, .bool o.dm), (w.heap.size + 1, 0, .int .i64 0), (w.heap.size + 1, 1, .int .i64 0), (w.heap.size + 1, 2, .int .i64 0), (w.heap.size + 1, 3, .int .i64 0), (w.heap.size + 1, 4, .int .i64 0), (w.heap.size + 1, 5, .int .i64 0), (w.heap.size + 1, 6, .int .i64 0), (w.heap.size + 1, 7, .int .i64 0), (w.heap.size + 1, 8, .int .i64 0), (w.heap.size + 1, 9, .bool false), (w.heap.size + 1, 10, .bool false), (w.heap.size + 1, 11, .bool false)] (fun _ => True)) := ⟨⟨_, K_w1, E_w1⟩⟩
  repeat (go_big_quiet_step (fail))
  refine wpQuiet_nil ?_
  have rB0 : ∀ s : KX (w.heap.size) w (w.heap.size + 2) [(w.heap.size, 0, .int .i64 o.id), (w.heap.size, 1, .int .i64 o.cd), (w.heap.size, 2, .int .i64 o.ow), (w.heap.size, 3, .int .i64 o.po), (w.heap.size, 4, .int .i64 o.tg), (w.heap.size, 5, .int .i64 o.da), (w.heap.size, 6, .int .i64 o.co), (w.heap.size, 7, .int .i64 o.pp), (w.heap.size, 8, .int .i64 o.pt), (w.heap.size, 9, .bool o.ta), (w.heap.size, 10, .bool o.si), (w.heap.size, 11, .bool o.dm), (w.heap.size + 1, 0, .int .i64 0), (w.heap.size + 1, 1, .int .i64 0), (w.heap.size + 1, 2, .int .i64 0), (w.heap.size + 1, 3, .int .i64 0), (w.heap.size + 1, 4, .int .i64 0), (w.heap.size + 1, 5, .int .i64 0), (w.heap.size + 1, 6, .int .i64 0), (w.heap.size + 1, 7, .int .i64 0), (w.heap.size + 1, 8, .int .i64 0), (w.heap.size + 1, 9, .bool false), (w.heap.size + 1, 10, .bool false), (w.heap.size + 1, 11, .bool false)] (fun _ => True), s.val.cell? ⟨w.heap.size, 0, none⟩ = some (.int .i64 o.id) := fun s => s.kept.at (by simp)
  have rB1 : ∀ s : KX (w.heap.size) w (w.heap.size + 2) [(w.heap.size, 0, .int .i64 o.id), (w.heap.size, 1, .int .i64 o.cd), (w.heap.size, 2, .int .i64 o.ow), (w.heap.size, 3, .int .i64 o.po), (w.heap.size, 4, .int .i64 o.tg), (w.heap.size, 5, .int .i64 o.da), (w.heap.size, 6, .int .i64 o.co), (w.heap.size, 7, .int .i64 o.pp), (w.heap.size, 8, .int .i64 o.pt), (w.heap.size, 9, .bool o.ta), (w.heap.size, 10, .bool o.si), (w.heap.size, 11, .bool o.dm), (w.heap.size + 1, 0, .int .i64 0), (w.heap.size + 1, 1, .int .i64 0), (w.heap.size + 1, 2, .int .i64 0), (w.heap.size + 1, 3, .int .i64 0), (w.heap.size + 1, 4, .int .i64 0), (w.heap.size + 1, 5, .int .i64 0), (w.heap.size + 1, 6, .int .i64 0), (w.heap.size + 1, 7, .int .i64 0), (w.heap.size + 1, 8, .int .i64 0), (w.heap.size + 1, 9, .bool false), (w.heap.size + 1, 10, .bool false), (w.heap.size + 1, 11, .bool false)] (fun _ => True), s.val.cell? ⟨w.heap.size, 1, none⟩ = some (.int .i64 o.cd) := fun s => s.kept.at (by simp)
  have rB2 : ∀ s : KX (w.heap.size) w (w.heap.size + 2) [(w.heap.size, 0, .int .i64 o.id), (w.heap.size, 1, .int .i64 o.cd), (w.heap.size, 2, .int .i64 o.ow), (w.heap.size, 3, .int .i64 o.po), (w.heap.size, 4, .int .i64 o.tg), (w.heap.size, 5, .int .i64 o.da), (w.heap.size, 6, .int .i64 o.co), (w.heap.size, 7, .int .i64 o.pp), (w.heap.size, 8, .int .i64 o.pt), (w.heap.size, 9, .bool o.ta), (w.heap.size, 10, .bool o.si), (w.heap.size, 11, .bool o.dm), (w.heap.size + 1, 0, .int .i64 0), (w.heap.size + 1, 1, .int .i64 0), (w.heap.size + 1, 2, .int .i64 0), (w.heap.size + 1, 3, .int .i64 0), (w.heap.size + 1, 4, .int .i64 0), (w.heap.size + 1, 5, .int .i64 0), (w.heap.size + 1, 6, .int .i64 0), (w.heap.size + 1, 7, .int .i64 0), (w.heap.size + 1, 8, .int .i64 0), (w.heap.size + 1, 9, .bool false), (w.heap.size + 1, 10, .bool false), (w.heap.size + 1, 11, .bool false)] (fun _ => True), s.val.cell? ⟨w.heap.size, 2, none⟩ = some (.int .i64 o.ow) := fun s => s.kept.at (by simp)
  have rB3 : ∀ s : KX (w.heap.size) w (w.heap.size + 2) [(w.heap.size, 0, .int .i64 o.id), (w.heap.size, 1, .int .i64 o.cd), (w.heap.size, 2, .int .i64 o.ow), (w.heap.size, 3, .int .i64 o.po), (w.heap.size, 4, .int .i64 o.tg), (w.heap.size, 5, .int .i64 o.da), (w.heap.size, 6, .int .i64 o.co), (w.heap.size, 7, .int .i64 o.pp), (w.heap.size, 8, .int .i64 o.pt), (w.heap.size, 9, .bool o.ta), (w.heap.size, 10, .bool o.si), (w.heap.size, 11, .bool o.dm), (w.heap.size + 1, 0, .int .i64 0), (w.heap.size + 1, 1, .int .i64 0), (w.heap.size + 1, 2, .int .i64 0), (w.heap.size + 1, 3, .int .i64 0), (w.heap.size + 1, 4, .int .i64 0), (w.heap.size + 1, 5, .int .i64 0), (w.heap.size + 1, 6, .int .i64 0), (w.heap.size + 1, 7, .int .i64 0), (w.heap.size + 1, 8, .int .i64 0), (w.heap.size + 1, 9, .bool false), (w.heap.size + 1, 10, .bool false), (w.heap.size + 1, 11, .bool false)] (fun _ => True), s.val.cell? ⟨w.heap.size, 3, none⟩ = some (.int .i64 o.po) := fun s => s.kept.at (by simp)
  have rB4 : ∀ s : KX (w.heap.size) w (w.heap.size + 2) [(w.heap.size, 0, .int .i64 o.id), (w.heap.size, 1, .int .i64 o.cd), (w.heap.size, 2, .int .i64 o.ow), (w.heap.size, 3, .int .i64 o.po), (w.heap.size, 4, .int .i64 o.tg), (w.heap.size, 5, .int .i64 o.da), (w.heap.size, 6, .int .i64 o.co), (w.heap.size, 7, .int .i64 o.pp), (w.heap.size, 8, .int .i64 o.pt), (w.heap.size, 9, .bool o.ta), (w.heap.size, 10, .bool o.si), (w.heap.size, 11, .bool o.dm), (w.heap.size + 1, 0, .int .i64 0), (w.heap.size + 1, 1, .int .i64 0), (w.heap.size + 1, 2, .int .i64 0), (w.heap.size + 1, 3, .int .i64 0), (w.heap.size + 1, 4, .int .i64 0), (w.heap.size + 1, 5, .int .i64 0), (w.heap.size + 1, 6, .int .i64 0), (w.heap.size + 1, 7, .int .i64 0), (w.heap.size + 1, 8, .int .i64 0), (w.heap.size + 1, 9, .bool false), (w.heap.size + 1, 10, .bool false), (w.heap.size + 1, 11, .bool false)] (fun _ => True), s.val.cell? ⟨w.heap.size, 4, none⟩ = some (.int .i64 o.tg) := fun s => s.kept.at (by simp)
  have rB5 : ∀ s : KX (w.heap.size) w (w.heap.size + 2) [(w.heap.size, 0, .int .i64 o.id), (w.heap.size, 1, .int .i64 o.cd), (w.heap.size, 2, .int .i64 o.ow), (w.heap.size, 3, .int .i64 o.po), (w.heap.size, 4, .int .i64 o.tg), (w.heap.size, 5, .int .i64 o.da), (w.heap.size, 6, .int .i64 o.co), (w.heap.size, 7, .int .i64 o.pp), (w.heap.size, 8, .int .i64 o.pt), (w.heap.size, 9, .bool o.ta), (w.heap.size, 10, .bool o.si), (w.heap.size, 11, .bool o.dm), (w.heap.size + 1, 0, .int .i64 0), (w.heap.size + 1, 1, .int .i64 0), (w.heap.size + 1, 2, .int .i64 0), (w.heap.size + 1, 3, .int .i64 0), (w.heap.size + 1, 4, .int .i64 0), (w.heap.size + 1, 5, .int .i64 0), (w.heap.size + 1, 6, .int .i64 0), (w.heap.size + 1, 7, .int .i64 0), (w.heap.size + 1, 8, .int .i64 0), (w.heap.size + 1, 9, .bool false), (w.heap.size + 1, 10, .bool false), (w.heap.size + 1, 11, .bool false)] (fun _ => True), s.val.cell? ⟨w.heap.size, 5, none⟩ = some (.int .i64 o.da) := fun s => s.kept.at (by simp)
  have rB6 : ∀ s : KX (w.heap.size) w (w.heap.size + 2) [(w.heap.size, 0, .int .i64 o.id), (w.heap.size, 1, .int .i64 o.cd), (w.heap.size, 2, .int .i64 o.ow), (w.heap.size, 3, .int .i64 o.po), (w.heap.size, 4, .int .i64 o.tg), (w.heap.size, 5, .int .i64 o.da), (w.heap.size, 6, .int .i64 o.co), (w.heap.size, 7, .int .i64 o.pp), (w.heap.size, 8, .int .i64 o.pt), (w.heap.size, 9, .bool o.ta), (w.heap.size, 10, .bool o.si), (w.heap.size, 11, .bool o.dm), (w.heap.size + 1, 0, .int .i64 0), (w.heap.size + 1, 1, .int .i64 0), (w.heap.size + 1, 2, .int .i64 0), (w.heap.size + 1, 3, .int .i64 0), (w.heap.size + 1, 4, .int .i64 0), (w.heap.size + 1, 5, .int .i64 0), (w.heap.size + 1, 6, .int .i64 0), (w.heap.size + 1, 7, .int .i64 0), (w.heap.size + 1, 8, .int .i64 0), (w.heap.size + 1, 9, .bool false), (w.heap.size + 1, 10, .bool false), (w.heap.size + 1, 11, .bool false)] (fun _ => True), s.val.cell? ⟨w.heap.size, 6, none⟩ = some (.int .i64 o.co) := fun s => s.kept.at (by simp)
  have rB7 : ∀ s : KX (w.heap.size) w (w.heap.size + 2) [(w.heap.size, 0, .int .i64 o.id), (w.heap.size, 1, .int .i64 o.cd), (w.heap.size, 2, .int .i64 o.ow), (w.heap.size, 3, .int .i64 o.po), (w.heap.size, 4, .int .i64 o.tg), (w.heap.size, 5, .int .i64 o.da), (w.heap.size, 6, .int .i64 o.co), (w.heap.size, 7, .int .i64 o.pp), (w.heap.size, 8, .int .i64 o.pt), (w.heap.size, 9, .bool o.ta), (w.heap.size, 10, .bool o.si), (w.heap.size, 11, .bool o.dm), (w.heap.size + 1, 0, .int .i64 0), (w.heap.size + 1, 1, .int .i64 0), (w.heap.size + 1, 2, .int .i64 0), (w.heap.size + 1, 3, .int .i64 0), (w.heap.size + 1, 4, .int .i64 0), (w.heap.size + 1, 5, .int .i64 0), (w.heap.size + 1, 6, .int .i64 0), (w.heap.size + 1, 7, .int .i64 0), (w.heap.size + 1, 8, .int .i64 0), (w.heap.size + 1, 9, .bool false), (w.heap.size + 1, 10, .bool false), (w.heap.size + 1, 11, .bool false)] (fun _ => True), s.val.cell? ⟨w.heap.size, 7, none⟩ = some (.int .i64 o.pp) := fun s => s.kept.at (by simp)
  have rB8 : ∀ s : KX (w.heap.size) w (w.heap.size + 2) [(w.heap.size, 0, .int .i64 o.id), (w.heap.size, 1, .int .i64 o.cd), (w.heap.size, 2, .int .i64 o.ow), (w.heap.size, 3, .int .i64 o.po), (w.heap.size, 4, .int .i64 o.tg), (w.heap.size, 5, .int .i64 o.da), (w.heap.size, 6, .int .i64 o.co), (w.heap.size, 7, .int .i64 o.pp), (w.heap.size, 8, .int .i64 o.pt), (w.heap.size, 9, .bool o.ta), (w.heap.size, 10, .bool o.si), (w.heap.size, 11, .bool o.dm), (w.heap.size + 1, 0, .int .i64 0), (w.heap.size + 1, 1, .int .i64 0), (w.heap.size + 1, 2, .int .i64 0), (w.heap.size + 1, 3, .int .i64 0), (w.heap.size + 1, 4, .int .i64 0), (w.heap.size + 1, 5, .int .i64 0), (w.heap.size + 1, 6, .int .i64 0), (w.heap.size + 1, 7, .int .i64 0), (w.heap.size + 1, 8, .int .i64 0), (w.heap.size + 1, 9, .bool false), (w.heap.size + 1, 10, .bool false), (w.heap.size + 1, 11, .bool false)] (fun _ => True), s.val.cell? ⟨w.heap.size, 8, none⟩ = some (.int .i64 o.pt) := fun s => s.kept.at (by simp)
  have rB9 : ∀ s : KX (w.heap.size) w (w.heap.size + 2) [(w.heap.size, 0, .int .i64 o.id), (w.heap.size, 1, .int .i64 o.cd), (w.heap.size, 2, .int .i64 o.ow), (w.heap.size, 3, .int .i64 o.po), (w.heap.size, 4, .int .i64 o.tg), (w.heap.size, 5, .int .i64 o.da), (w.heap.size, 6, .int .i64 o.co), (w.heap.size, 7, .int .i64 o.pp), (w.heap.size, 8, .int .i64 o.pt), (w.heap.size, 9, .bool o.ta), (w.heap.size, 10, .bool o.si), (w.heap.size, 11, .bool o.dm), (w.heap.size + 1, 0, .int .i64 0), (w.heap.size + 1, 1, .int .i64 0), (w.heap.size + 1, 2, .int .i64 0), (w.heap.size + 1, 3, .int .i64 0), (w.heap.size + 1, 4, .int .i64 0), (w.heap.size + 1, 5, .int .i64 0), (w.heap.size + 1, 6, .int .i64 0), (w.heap.size + 1, 7, .int .i64 0), (w.heap.size + 1, 8, .int .i64 0), (w.heap.size + 1, 9, .bool false), (w.heap.size + 1, 10, .bool false), (w.heap.size + 1, 11, .bool false)] (fun _ => True), s.val.cell? ⟨w.heap.size, 9, none⟩ = some (.bool o.ta) := fun s => s.kept.at (by simp)
  have rB10 : ∀ s : KX (w.heap.size) w (w.heap.size + 2) [(w.heap.size, 0, .int .i64 o.id), (w.heap.size, 1, .int .i64 o.cd), (w.heap.size, 2, .int .i64 o.ow), (w.heap.size, 3, .int .i64 o.po), (w.heap.size, 4, .int .i64 o.tg), (w.heap.size, 5, .int .i64 o.da), (w.heap.size, 6, .int .i64 o.co), (w.heap.size, 7, .int .i64 o.pp), (w.heap.size, 8, .int .i64 o.pt), (w.heap.size, 9, .bool o.ta), (w.heap.size, 10, .bool o.si), (w.heap.size, 11, .bool o.dm), (w.heap.size + 1, 0, .int .i64 0), (w.heap.size + 1, 1, .int .i64 0), (w.heap.size + 1, 2, .int .i64 0), (w.heap.size + 1, 3, .int .i64 0), (w.heap.size + 1, 4, .int .i64 0), (w.heap.size + 1, 5, .int .i64 0), (w.heap.size + 1, 6, .int .i64 0), (w.heap.size + 1, 7, .int .i64 0), (w.heap.size + 1, 8, .int .i64 0), (w.heap.size + 1, 9, .bool false), (w.heap.size + 1, 10, .bool false), (w.heap.size + 1, 11, .bool false)] (fun _ => True), s.val.cell? ⟨w.heap.size, 10, none⟩ = some (.bool o.si) := fun s => s.kept.at (by simp)
  have rB11 : ∀ s : KX (w.heap.size) w (w.heap.size + 2) [(w.heap.size, 0, .int .i64 o.id), (w.heap.size, 1, .int .i64 o.cd), (w.heap.size, 2, .int .i64 o.ow), (w.heap.size, 3, .int .i64 o.po), (w.heap.size, 4, .int .i64 o.tg), (w.heap.size, 5, .int .i64 o.da), (w.heap.size, 6, .int .i64 o.co), (w.heap.size, 7, .int .i64 o.pp), (w.heap.size, 8, .int .i64 o.pt), (w.heap.size, 9, .bool o.ta), (w.heap.size, 10, .bool o.si), (w.heap.size, 11, .bool o.dm), (w.heap.size + 1, 0, .int .i64 0), (w.heap.size + 1, 1, .int .i64 0), (w.heap.size + 1, 2, .int .i64 0), (w.heap.size + 1, 3, .int .i64 0), (w.heap.size + 1, 4, .int .i64 0), (w.heap.size + 1, 5, .int .i64 0), (w.heap.size + 1, 6, .int .i64 0), (w.heap.size + 1, 7, .int .i64 0), (w.heap.size + 1, 8, .int .i64 0), (w.heap.size + 1, 9, .bool false), (w.heap.size + 1, 10, .bool false), (w.heap.size + 1, 11, .bool false)] (fun _ => True), s.val.cell? ⟨w.heap.size, 11, none⟩ = some (.bool o.dm) := fun s => s.kept.at (by simp)
  have rR0 : ∀ s : KX (w.heap.size) w (w.heap.size + 2) [(w.heap.size, 0, .int .i64 o.id), (w.heap.size, 1, .int .i64 o.cd), (w.heap.size, 2, .int .i64 o.ow), (w.heap.size, 3, .int .i64 o.po), (w.heap.size, 4, .int .i64 o.tg), (w.heap.size, 5, .int .i64 o.da), (w.heap.size, 6, .int .i64 o.co), (w.heap.size, 7, .int .i64 o.pp), (w.heap.size, 8, .int .i64 o.pt), (w.heap.size, 9, .bool o.ta), (w.heap.size, 10, .bool o.si), (w.heap.size, 11, .bool o.dm), (w.heap.size + 1, 0, .int .i64 0), (w.heap.size + 1, 1, .int .i64 0), (w.heap.size + 1, 2, .int .i64 0), (w.heap.size + 1, 3, .int .i64 0), (w.heap.size + 1, 4, .int .i64 0), (w.heap.size + 1, 5, .int .i64 0), (w.heap.size + 1, 6, .int .i64 0), (w.heap.size + 1, 7, .int .i64 0), (w.heap.size + 1, 8, .int .i64 0), (w.heap.size + 1, 9, .bool false), (w.heap.size + 1, 10, .bool false), (w.heap.size + 1, 11, .bool false)] (fun _ => True), s.val.cell? ⟨w.heap.size + 1, 0, none⟩ = some (.int .i64 0) := fun s => s.kept.at (by simp)
  have rR1 : ∀ s : KX (w.heap.size) w (w.heap.size + 2) [(w.heap.size, 0, .int .i64 o.id), (w.heap.size, 1, .int .i64 o.cd), (w.heap.size, 2, .int .i64 o.ow), (w.heap.size, 3, .int .i64 o.po), (w.heap.size, 4, .int .i64 o.tg), (w.heap.size, 5, .int .i64 o.da), (w.heap.size, 6, .int .i64 o.co), (w.heap.size, 7, .int .i64 o.pp), (w.heap.size, 8, .int .i64 o.pt), (w.heap.size, 9, .bool o.ta), (w.heap.size, 10, .bool o.si), (w.heap.size, 11, .bool o.dm), (w.heap.size + 1, 0, .int .i64 0), (w.heap.size + 1, 1, .int .i64 0), (w.heap.size + 1, 2, .int .i64 0), (w.heap.size + 1, 3, .int .i64 0), (w.heap.size + 1, 4, .int .i64 0), (w.heap.size + 1, 5, .int .i64 0), (w.heap.size + 1, 6, .int .i64 0), (w.heap.size + 1, 7, .int .i64 0), (w.heap.size + 1, 8, .int .i64 0), (w.heap.size + 1, 9, .bool false), (w.heap.size + 1, 10, .bool false), (w.heap.size + 1, 11, .bool false)] (fun _ => True), s.val.cell? ⟨w.heap.size + 1, 1, none⟩ = some (.int .i64 0) := fun s => s.kept.at (by simp)
  have rR2 : ∀ s : KX (w.heap.size) w (w.heap.size + 2) [(w.heap.size, 0, .int .i64 o.id), (w.heap.size, 1, .int .i64 o.cd), (w.heap.size, 2, .int .i64 o.ow), (w.heap.size, 3, .int .i64 o.po), (w.heap.size, 4, .int .i64 o.tg), (w.heap.size, 5, .int .i64 o.da), (w.heap.size, 6, .int .i64 o.co), (w.heap.size, 7, .int .i64 o.pp), (w.heap.size, 8, .int .i64 o.pt), (w.heap.size, 9, .bool o.ta), (w.heap.size, 10, .bool o.si), (w.heap.size, 11, .bool o.dm), (w.heap.size + 1, 0, .int .i64 0), (w.heap.size + 1, 1, .int .i64 0), (w.heap.size + 1, 2, .int .i64 0), (w.heap.size + 1, 3, .int .i64 0), (w.heap.size + 1, 4, .int .i64 0), (w.heap.size + 1, 5, .int .i64 0), (w.heap.size + 1, 6, .int .i64 0), (w.heap.size + 1, 7, .int .i64 0), (w.heap.size + 1, 8, .int .i64 0), (w.heap.size + 1, 9, .bool false), (w.heap.size + 1, 10, .bool false), (w.heap.size + 1, 11, .bool false)] (fun _ => True), s.val.cell? ⟨w.heap.size + 1, 2, none⟩ = some (.int .i64 0) := fun s => s.kept.at (by simp)
  have rR3 : ∀ s : KX (w.heap.size) w (w.heap.size + 2) [(w.heap.size, 0, .int .i64 o.id), (w.heap.size, 1, .int .i64 o.cd), (w.heap.size, 2, .int .i64 o.ow), (w.heap.size, 3, .int .i64 o.po), (w.heap.size, 4, .int .i64 o.tg), (w.heap.size, 5, .int .i64 o.da), (w.heap.size, 6, .int .i64 o.co), (w.heap.size, 7, .int .i64 o.pp), (w.heap.size, 8, .int .i64 o.pt), (w.heap.size, 9, .bool o.ta), (w.heap.size, 10, .bool o.si), (w.heap.size, 11, .bool o.dm), (w.heap.size + 1, 0, .int .i64 0), (w.heap.size + 1, 1, .int .i64 0), (w.heap.size + 1, 2, .int .i64 0), (w.heap.size + 1, 3, .int .i64 0), (w.heap.size + 1, 4, .int .i64 0), (w.heap.size + 1, 5, .int .i64 0), (w.heap.size + 1, 6, .int .i64 0), (w.heap.size + 1, 7, .int .i64 0), (w.heap.size + 1, 8, .int .i64 0), (w.heap.size + 1, 9, .bool false), (w.heap.size + 1, 10, .bool false), (w.heap.size + 1, 11, .bool false)] (fun _ => True), s.val.cell? ⟨w.heap.size + 1, 3, none⟩ = some (.int .i64 0) := fun s => s.kept.at (by simp)
  have rR4 : ∀ s : KX (w.heap.size) w (w.heap.size + 2) [(w.heap.size, 0, .int .i64 o.id), (w.heap.size, 1, .int .i64 o.cd), (w.heap.size, 2, .int .i64 o.ow), (w.heap.size, 3, .int .i64 o.po), (w.heap.size, 4, .int .i64 o.tg), (w.heap.size, 5, .int .i64 o.da), (w.heap.size, 6, .int .i64 o.co), (w.heap.size, 7, .int .i64 o.pp), (w.heap.size, 8, .int .i64 o.pt), (w.heap.size, 9, .bool o.ta), (w.heap.size, 10, .bool o.si), (w.heap.size, 11, .bool o.dm), (w.heap.size + 1, 0, .int .i64 0), (w.heap.size + 1, 1, .int .i64 0), (w.heap.size + 1, 2, .int .i64 0), (w.heap.size + 1, 3, .int .i64 0), (w.heap.size + 1, 4, .int .i64 0), (w.heap.size + 1, 5, .int .i64 0), (w.heap.size + 1, 6, .int .i64 0), (w.heap.size + 1, 7, .int .i64 0), (w.heap.size + 1, 8, .int .i64 0), (w.heap.size + 1, 9, .bool false), (w.heap.size + 1, 10, .bool false), (w.heap.size + 1, 11, .bool false)] (fun _ => True), s.val.cell? ⟨w.heap.size + 1, 4, none⟩ = some (.int .i64 0) := fun s => s.kept.at (by simp)
  have rR5 : ∀ s : KX (w.heap.size) w (w.heap.size + 2) [(w.heap.size, 0, .int .i64 o.id), (w.heap.size, 1, .int .i64 o.cd), (w.heap.size, 2, .int .i64 o.ow), (w.heap.size, 3, .int .i64 o.po), (w.heap.size, 4, .int .i64 o.tg), (w.heap.size, 5, .int .i64 o.da), (w.heap.size, 6, .int .i64 o.co), (w.heap.size, 7, .int .i64 o.pp), (w.heap.size, 8, .int .i64 o.pt), (w.heap.size, 9, .bool o.ta), (w.heap.size, 10, .bool o.si), (w.heap.size, 11, .bool o.dm), (w.heap.size + 1, 0, .int .i64 0), (w.heap.size + 1, 1, .int .i64 0), (w.heap.size + 1, 2, .int .i64 0), (w.heap.size + 1, 3, .int .i64 0), (w.heap.size + 1, 4, .int .i64 0), (w.heap.size + 1, 5, .int .i64 0), (w.heap.size + 1, 6, .int .i64 0), (w.heap.size + 1, 7, .int .i64 0), (w.heap.size + 1, 8, .int .i64 0), (w.heap.size + 1, 9, .bool false), (w.heap.size + 1, 10, .bool false), (w.heap.size + 1, 11, .bool false)] (fun _ => True), s.val.cell? ⟨w.heap.size + 1, 5, none⟩ = some (.int .i64 0) := fun s => s.kept.at (by simp)
  have rR6 : ∀ s : KX (w.heap.size) w (w.heap.size + 2) [(w.heap.size, 0, .int .i64 o.id), (w.heap.size, 1, .int .i64 o.cd), (w.heap.size, 2, .int .i64 o.ow), (w.heap.size, 3, .int .i64 o.po), (w.heap.size, 4, .int .i64 o.tg), (w.heap.size, 5, .int .i64 o.da), (w.heap.size, 6, .int .i64 o.co), (w.heap.size, 7, .int .i64 o.pp), (w.heap.size, 8, .int .i64 o.pt), (w.heap.size, 9, .bool o.ta), (w.heap.size, 10, .bool o.si), (w.heap.size, 11, .bool o.dm), (w.heap.size + 1, 0, .int .i64 0), (w.heap.size + 1, 1, .int .i64 0), (w.heap.size + 1, 2, .int .i64 0), (w.heap.size + 1, 3, .int .i64 0), (w.heap.size + 1, 4, .int .i64 0), (w.heap.size + 1, 5, .int .i64 0), (w.heap.size + 1, 6, .int .i64 0), (w.heap.size + 1, 7, .int .i64 0), (w.heap.size + 1, 8, .int .i64 0), (w.heap.size + 1, 9, .bool false), (w.heap.size + 1, 10, .bool false), (w.heap.size + 1, 11, .bool false)] (fun _ => True), s.val.cell? ⟨w.heap.size + 1, 6, none⟩ = some (.int .i64 0) := fun s => s.kept.at (by simp)
  have rR7 : ∀ s : KX (w.heap.size) w (w.heap.size + 2) [(w.heap.size, 0, .int .i64 o.id), (w.heap.size, 1, .int .i64 o.cd), (w.heap.size, 2, .int .i64 o.ow), (w.heap.size, 3, .int .i64 o.po), (w.heap.size, 4, .int .i64 o.tg), (w.heap.size, 5, .int .i64 o.da), (w.heap.size, 6, .int .i64 o.co), (w.heap.size, 7, .int .i64 o.pp), (w.heap.size, 8, .int .i64 o.pt), (w.heap.size, 9, .bool o.ta), (w.heap.size, 10, .bool o.si), (w.heap.size, 11, .bool o.dm), (w.heap.size + 1, 0, .int .i64 0), (w.heap.size + 1, 1, .int .i64 0), (w.heap.size + 1, 2, .int .i64 0), (w.heap.size + 1, 3, .int .i64 0), (w.heap.size + 1, 4, .int .i64 0), (w.heap.size + 1, 5, .int .i64 0), (w.heap.size + 1, 6, .int .i64 0), (w.heap.size + 1, 7, .int .i64 0), (w.heap.size + 1, 8, .int .i64 0), (w.heap.size + 1, 9, .bool false), (w.heap.size + 1, 10, .bool false), (w.heap.size + 1, 11, .bool false)] (fun _ => True), s.val.cell? ⟨w.heap.size + 1, 7, none⟩ = some (.int .i64 0) := fun s => s.kept.at (by simp)
  have rR8 : ∀ s : KX (w.heap.size) w (w.heap.size + 2) [(w.heap.size, 0, .int .i64 o.id), (w.heap.size, 1, .int .i64 o.cd), (w.heap.size, 2, .int .i64 o.ow), (w.heap.size, 3, .int .i64 o.po), (w.heap.size, 4, .int .i64 o.tg), (w.heap.size, 5, .int .i64 o.da), (w.heap.size, 6, .int .i64 o.co), (w.heap.size, 7, .int .i64 o.pp), (w.heap.size, 8, .int .i64 o.pt), (w.heap.size, 9, .bool o.ta), (w.heap.size, 10, .bool o.si), (w.heap.size, 11, .bool o.dm), (w.heap.size + 1, 0, .int .i64 0), (w.heap.size + 1, 1, .int .i64 0), (w.heap.size + 1, 2, .int .i64 0), (w.heap.size + 1, 3, .int .i64 0), (w.heap.size + 1, 4, .int .i64 0), (w.heap.size + 1, 5, .int .i64 0), (w.heap.size + 1, 6, .int .i64 0), (w.heap.size + 1, 7, .int .i64 0), (w.heap.size + 1, 8, .int .i64 0), (w.heap.size + 1, 9, .bool false), (w.heap.size + 1, 10, .bool false), (w.heap.size + 1, 11, .bool false)] (fun _ => True), s.val.cell? ⟨w.heap.size + 1, 8, none⟩ = some (.int .i64 0) := fun s => s.kept.at (by simp)
  have rR9 : ∀ s : KX (w.heap.size) w (w.heap.size + 2) [(w.heap.size, 0, .int .i64 o.id), (w.heap.size, 1, .int .i64 o.cd), (w.heap.size, 2, .int .i64 o.ow), (w.heap.size, 3, .int .i64 o.po), (w.heap.size, 4, .int .i64 o.tg), (w.heap.size, 5, .int .i64 o.da), (w.heap.size, 6, .int .i64 o.co), (w.heap.size, 7, .int .i64 o.pp), (w.heap.size, 8, .int .i64 o.pt), (w.heap.size, 9, .bool o.ta), (w.heap.size, 10, .bool o.si), (w.heap.size, 11, .bool o.dm), (w.heap.size + 1, 0, .int .i64 0), (w.heap.size + 1, 1, .int .i64 0), (w.heap.size + 1, 2, .int .i64 0), (w.heap.size + 1, 3, .int .i64 0), (w.heap.size + 1, 4, .int .i64 0), (w.heap.size + 1, 5, .int .i64 0), (w.heap.size + 1, 6, .int .i64 0), (w.heap.size + 1, 7, .int .i64 0), (w.heap.size + 1, 8, .int .i64 0), (w.heap.size + 1, 9, .bool false), (w.heap.size + 1, 10, .bool false), (w.heap.size + 1, 11, .bool false)] (fun _ => True), s.val.cell? ⟨w.heap.size + 1, 9, none⟩ = some (.bool false) := fun s => s.kept.at (by simp)
  have rR10 : ∀ s : KX (w.heap.size) w (w.heap.size + 2) [(w.heap.size, 0, .int .i64 o.id), (w.heap.size, 1, .int .i64 o.cd), (w.heap.size, 2, .int .i64 o.ow), (w.heap.size, 3, .int .i64 o.po), (w.heap.size, 4, .int .i64 o.tg), (w.heap.size, 5, .int .i64 o.da), (w.heap.size, 6, .int .i64 o.co), (w.heap.size, 7, .int .i64 o.pp), (w.heap.size, 8, .int .i64 o.pt), (w.heap.size, 9, .bool o.ta), (w.heap.size, 10, .bool o.si), (w.heap.size, 11, .bool o.dm), (w.heap.size + 1, 0, .int .i64 0), (w.heap.size + 1, 1, .int .i64 0), (w.heap.size + 1, 2, .int .i64 0), (w.heap.size + 1, 3, .int .i64 0), (w.heap.size + 1, 4, .int .i64 0), (w.heap.size + 1, 5, .int .i64 0), (w.heap.size + 1, 6, .int .i64 0), (w.heap.size + 1, 7, .int .i64 0), (w.heap.size + 1, 8, .int .i64 0), (w.heap.size + 1, 9, .bool false), (w.heap.size + 1, 10, .bool false), (w.heap.size + 1, 11, .bool false)] (fun _ => True), s.val.cell? ⟨w.heap.size + 1, 10, none⟩ = some (.bool false) := fun s => s.kept.at (by simp)
  have rR11 : ∀ s : KX (w.heap.size) w (w.heap.size + 2) [(w.heap.size, 0, .int .i64 o.id), (w.heap.size, 1, .int .i64 o.cd), (w.heap.size, 2, .int .i64 o.ow), (w.heap.size, 3, .int .i64 o.po), (w.heap.size, 4, .int .i64 o.tg), (w.heap.size, 5, .int .i64 o.da), (w.heap.size, 6, .int .i64 o.co), (w.heap.size, 7, .int .i64 o.pp), (w.heap.size, 8, .int .i64 o.pt), (w.heap.size, 9, .bool o.ta), (w.heap.size, 10, .bool o.si), (w.heap.size, 11, .bool o.dm), (w.heap.size + 1, 0, .int .i64 0), (w.heap.size + 1, 1, .int .i64 0), (w.heap.size + 1, 2, .int .i64 0), (w.heap.size + 1, 3, .int .i64 0), (w.heap.size + 1, 4, .int .i64 0), (w.heap.size + 1, 5, .int .i64 0), (w.heap.size + 1, 6, .int .i64 0), (w.heap.size + 1, 7, .int .i64 0), (w.heap.size + 1, 8, .int .i64 0), (w.heap.size + 1, 9, .bool false), (w.heap.size + 1, 10, .bool false), (w.heap.size + 1, 11, .bool false)] (fun _ => True), s.val.cell? ⟨w.heap.size + 1, 11, none⟩ = some (.bool false) := fun s => s.kept.at (by simp)
  repeat (go_big_quiet_step (fail))
  refine wpQuiet_nil ?_
  clear rB0 rB1 rB2 rB3 rB4 rB5 rB6 rB7 rB8 rB9 rB10 rB11 rR0 rR1 rR2 rR3 rR4 rR5 rR6 rR7 rR8 rR9 rR10 rR11
  have KH_w1 := Lib.hid K_w1
  have hw_w1 := K_w1.below
  have hz_w1 := K_w1.size
  have lB_w1 : w.heap.size < w1.heap.size := by omega
  have cB0_w1 := K_w1.at (b := w.heap.size) (o := 0) (v := .int .i64 o.id) (by simp)
  have fB0_w1 := K_w1.free (b := w.heap.size) (o := 0) (v := .int .i64 o.id) (by simp)
  have cB1_w1 := K_w1.at (b := w.heap.size) (o := 1) (v := .int .i64 o.cd) (by simp)
  have fB1_w1 := K_w1.free (b := w.heap.size) (o := 1) (v := .int .i64 o.cd) (by simp)
  have cB2_w1 := K_w1.at (b := w.heap.size) (o := 2) (v := .int .i64 o.ow) (by simp)
  have fB2_w1 := K_w1.free (b := w.heap.size) (o := 2) (v := .int .i64 o.ow) (by simp)
  have cB3_w1 := K_w1.at (b := w.heap.size) (o := 3) (v := .int .i64 o.po) (by simp)
  have fB3_w1 := K_w1.free (b := w.heap.size) (o := 3) (v := .int .i64 o.po) (by simp)
  have cB4_w1 := K_w1.at (b := w.heap.size) (o := 4) (v := .int .i64 o.tg) (by simp)
  have fB4_w1 := K_w1.free (b := w.heap.size) (o := 4) (v := .int .i64 o.tg) (by simp)
  have cB5_w1 := K_w1.at (b := w.heap.size) (o := 5) (v := .int .i64 o.da) (by simp)
  have fB5_w1 := K_w1.free (b := w.heap.size) (o := 5) (v := .int .i64 o.da) (by simp)
  have cB6_w1 := K_w1.at (b := w.heap.size) (o := 6) (v := .int .i64 o.co) (by simp)
  have fB6_w1 := K_w1.free (b := w.heap.size) (o := 6) (v := .int .i64 o.co) (by simp)
  have cB7_w1 := K_w1.at (b := w.heap.size) (o := 7) (v := .int .i64 o.pp) (by simp)
  have fB7_w1 := K_w1.free (b := w.heap.size) (o := 7) (v := .int .i64 o.pp) (by simp)
  have cB8_w1 := K_w1.at (b := w.heap.size) (o := 8) (v := .int .i64 o.pt) (by simp)
  have fB8_w1 := K_w1.free (b := w.heap.size) (o := 8) (v := .int .i64 o.pt) (by simp)
  have cB9_w1 := K_w1.at (b := w.heap.size) (o := 9) (v := .bool o.ta) (by simp)
  have fB9_w1 := K_w1.free (b := w.heap.size) (o := 9) (v := .bool o.ta) (by simp)
  have cB10_w1 := K_w1.at (b := w.heap.size) (o := 10) (v := .bool o.si) (by simp)
  have fB10_w1 := K_w1.free (b := w.heap.size) (o := 10) (v := .bool o.si) (by simp)
  have cB11_w1 := K_w1.at (b := w.heap.size) (o := 11) (v := .bool o.dm) (by simp)
  have fB11_w1 := K_w1.free (b := w.heap.size) (o := 11) (v := .bool o.dm) (by simp)
  have lR_w1 : w.heap.size + 1 < w1.heap.size := by omega
  have cR0_w1 := K_w1.at (b := w.heap.size + 1) (o := 0) (v := .int .i64 0) (by simp)
  have fR0_w1 := K_w1.free (b := w.heap.size + 1) (o := 0) (v := .int .i64 0) (by simp)
  have cR1_w1 := K_w1.at (b := w.heap.size + 1) (o := 1) (v := .int .i64 0) (by simp)
  have fR1_w1 := K_w1.free (b := w.heap.size + 1) (o := 1) (v := .int .i64 0) (by simp)
  have cR2_w1 := K_w1.at (b := w.heap.size + 1) (o := 2) (v := .int .i64 0) (by simp)
  have fR2_w1 := K_w1.free (b := w.heap.size + 1) (o := 2) (v := .int .i64 0) (by simp)
  have cR3_w1 := K_w1.at (b := w.heap.size + 1) (o := 3) (v := .int .i64 0) (by simp)
  have fR3_w1 := K_w1.free (b := w.heap.size + 1) (o := 3) (v := .int .i64 0) (by simp)
  have cR4_w1 := K_w1.at (b := w.heap.size + 1) (o := 4) (v := .int .i64 0) (by simp)
  have fR4_w1 := K_w1.free (b := w.heap.size + 1) (o := 4) (v := .int .i64 0) (by simp)
  have cR5_w1 := K_w1.at (b := w.heap.size + 1) (o := 5) (v := .int .i64 0) (by simp)
  have fR5_w1 := K_w1.free (b := w.heap.size + 1) (o := 5) (v := .int .i64 0) (by simp)
  have cR6_w1 := K_w1.at (b := w.heap.size + 1) (o := 6) (v := .int .i64 0) (by simp)
  have fR6_w1 := K_w1.free (b := w.heap.size + 1) (o := 6) (v := .int .i64 0) (by simp)
  have cR7_w1 := K_w1.at (b := w.heap.size + 1) (o := 7) (v := .int .i64 0) (by simp)
  have fR7_w1 := K_w1.free (b := w.heap.size + 1) (o := 7) (v := .int .i64 0) (by simp)
  have cR8_w1 := K_w1.at (b := w.heap.size + 1) (o := 8) (v := .int .i64 0) (by simp)
  have fR8_w1 := K_w1.free (b := w.heap.size + 1) (o := 8) (v := .int .i64 0) (by simp)
  have cR9_w1 := K_w1.at (b := w.heap.size + 1) (o := 9) (v := .bool false) (by simp)
  have fR9_w1 := K_w1.free (b := w.heap.size + 1) (o := 9) (v := .bool false) (by simp)
  have cR10_w1 := K_w1.at (b := w.heap.size + 1) (o := 10) (v := .bool false) (by simp)
  have fR10_w1 := K_w1.free (b := w.heap.size + 1) (o := 10) (v := .bool false) (by simp)
  have cR11_w1 := K_w1.at (b := w.heap.size + 1) (o := 11) (v := .bool false) (by simp)
  have fR11_w1 := K_w1.free (b := w.heap.size + 1) (o := 11) (v := .bool false) (by simp)
  clear K_w1
  clear E_w1 F_w1
  refine ⟨fun K hK0 => ?_, trivial⟩
  have hK := Lib.hid hK0
  clear hK0
  go_wp2_with fail
  with_reducible refine (oplus o.pp n _ h1 h2).mono ?_
  rintro e w' ⟨rfl, rfl⟩
  go_wp2_with fail
  first | (refine ⟨rfl, ⟨⟨_, KH_w1.out, trivial⟩, rfl⟩, hK.out _ _ ?_⟩; clear hK K) | (refine ⟨⟨⟨_, KH_w1.out, trivial⟩, rfl⟩, hK.out _ _ ?_⟩; clear hK K)
  repeat (go_big_quiet_step (fail))
  refine wpQuiet_nil ?_
  refine ⟨fun K hK0 => ?_, trivial⟩
  have hK := Lib.hid hK0
  clear hK0
  go_wp2_with fail
  with_reducible refine (oplus o.pt m _ h3 h4).mono ?_
  rintro e w' ⟨rfl, rfl⟩
  go_wp2_with fail
  first | (refine ⟨rfl, hK.out _ _ ?_⟩; clear hK K) | (refine hK.out _ _ ?_; clear hK K)
  refine ⟨fun K hK0 => ?_, trivial⟩
  have hK := Lib.hid hK0
  clear hK0
  go_wp2_with fail
  first | (refine ⟨rfl, hK.out _ _ ?_⟩; clear hK K) | (refine hK.out _ _ ?_; clear hK K)
  repeat (go_big_quiet_step (fail))
  refine wpQuiet_nil ?_
  refine ⟨fun K hK0 => ?_, trivial⟩
  have hK := Lib.hid hK0
  clear hK0
  go_wp2_with fail
  first | (refine ⟨rfl, hK.out _ _ ?_⟩; clear hK K) | (refine hK.out _ _ ?_; clear hK K)
  clear _ne
  go_wp2_with fail
  exact bodyPost_ret (v := .agg #[.int .i64 o.id, .int .i64 o.cd, .int .i64 o.ow, .int .i64 o.po, .int .i64 o.tg, .int .i64 o.da, .int .i64 o.co, .int .i64 (ad o.pp n), .int .i64 (ad o.pt m), .bool o.ta, .bool o.si, .bool o.dm]) (by simp [results, Try.results20, go_sem, lB_w1, cB0_w1, fB0_w1, cB1_w1, fB1_w1, cB2_w1, fB2_w1, cB3_w1, fB3_w1, cB4_w1, fB4_w1, cB5_w1, fB5_w1, cB6_w1, fB6_w1, cB7_w1, fB7_w1, cB8_w1, fB8_w1, cB9_w1, fB9_w1, cB10_w1, fB10_w1, cB11_w1, fB11_w1, lR_w1, cR0_w1, fR0_w1, cR1_w1, fR1_w1, cR2_w1, fR2_w1, cR3_w1, fR3_w1, cR4_w1, fR4_w1, cR5_w1, fR5_w1, cR6_w1, fR6_w1, cR7_w1, fR7_w1, cR8_w1, fR8_w1, cR9_w1, fR9_w1, cR10_w1, fR10_w1, cR11_w1, fR11_w1]) rfl ⟨rfl, by go_grown⟩

set_option maxRecDepth 100000 in
set_option maxHeartbeats 2000000 in
theorem oreset_true (o : Ob) (z : Int) (w : World) (hz : (z == 2) = true) : Calls Try.prog 28 #[.agg #[.int .i64 o.id, .int .i64 o.cd, .int .i64 o.ow, .int .i64 o.po, .int .i64 o.tg, .int .i64 o.da, .int .i64 o.co, .int .i64 o.pp, .int .i64 o.pt, .bool o.ta, .bool o.si, .bool o.dm], .int .i64 z] w fun e w' => e = .returned (.agg #[.int .i64 o.id, .int .i64 o.cd, .int .i64 o.ow, .int .i64 o.po, .int .i64 o.tg, .int .i64 0, .int .i64 0, .int .i64 0, .int .i64 0, .bool false, .bool true, .bool false]) ∧ Below w.heap.size w w' := by
  go_enter Try.func28, Try.ntmps28
  go_wp2_with (go_in)
  exact bodyPost_ret (v := .agg #[.int .i64 o.id, .int .i64 o.cd, .int .i64 o.ow, .int .i64 o.po, .int .i64 o.tg, .int .i64 0, .int .i64 0, .int .i64 0, .int .i64 0, .bool false, .bool true, .bool false]) (by simp [results, Try.results28, go_sem]) rfl ⟨rfl, by go_grown⟩

set_option maxRecDepth 100000 in
set_option maxHeartbeats 2000000 in
theorem oreset_false (o : Ob) (z : Int) (w : World) (hz : (z == 2) = false) : Calls Try.prog 28 #[.agg #[.int .i64 o.id, .int .i64 o.cd, .int .i64 o.ow, .int .i64 o.po, .int .i64 o.tg, .int .i64 o.da, .int .i64 o.co, .int .i64 o.pp, .int .i64 o.pt, .bool o.ta, .bool o.si, .bool o.dm], .int .i64 z] w fun e w' => e = .returned (.agg #[.int .i64 o.id, .int .i64 o.cd, .int .i64 o.ow, .int .i64 o.po, .int .i64 o.tg, .int .i64 0, .int .i64 0, .int .i64 0, .int .i64 0, .bool false, .bool false, .bool false]) ∧ Below w.heap.size w w' := by
  go_enter Try.func28, Try.ntmps28
  go_wp2_with (go_in)
  exact bodyPost_ret (v := .agg #[.int .i64 o.id, .int .i64 o.cd, .int .i64 o.ow, .int .i64 o.po, .int .i64 o.tg, .int .i64 0, .int .i64 0, .int .i64 0, .int .i64 0, .bool false, .bool false, .bool false]) (by simp [results, Try.results28, go_sem]) rfl ⟨rfl, by go_grown⟩

set_option maxRecDepth 100000 in
set_option maxHeartbeats 2000000 in
theorem runtap (o : Ob) (w : World)  : Calls Try.prog 26 #[.agg #[.int .i64 o.id, .int .i64 o.cd, .int .i64 o.ow, .int .i64 o.po, .int .i64 o.tg, .int .i64 o.da, .int .i64 o.co, .int .i64 o.pp, .int .i64 o.pt, .bool o.ta, .bool o.si, .bool o.dm]] w fun e w' => e = .returned (.agg #[.int .i64 o.id, .int .i64 o.cd, .int .i64 o.ow, .int .i64 o.po, .int .i64 o.tg, .int .i64 o.da, .int .i64 o.co, .int .i64 o.pp, .int .i64 o.pt, .bool false, .bool false, .bool o.dm]) ∧ Below w.heap.size w w' := by
  go_enter Try.func26, Try.ntmps26
  go_wp2_with fail
  exact bodyPost_ret (v := .agg #[.int .i64 o.id, .int .i64 o.cd, .int .i64 o.ow, .int .i64 o.po, .int .i64 o.tg, .int .i64 o.da, .int .i64 o.co, .int .i64 o.pp, .int .i64 o.pt, .bool false, .bool false, .bool o.dm]) (by simp [results, Try.results26, go_sem]) rfl ⟨rfl, by go_grown⟩

set_option maxRecDepth 100000 in
set_option maxHeartbeats 2000000 in
theorem rrest (o : Ob) (w : World)  : Calls Try.prog 27 #[.agg #[.int .i64 o.id, .int .i64 o.cd, .int .i64 o.ow, .int .i64 o.po, .int .i64 o.tg, .int .i64 o.da, .int .i64 o.co, .int .i64 o.pp, .int .i64 o.pt, .bool o.ta, .bool o.si, .bool o.dm]] w fun e w' => e = .returned (.agg #[.int .i64 o.id, .int .i64 o.cd, .int .i64 o.ow, .int .i64 o.po, .int .i64 o.tg, .int .i64 0, .int .i64 o.co, .int .i64 0, .int .i64 0, .bool o.ta, .bool o.si, .bool o.dm]) ∧ Below w.heap.size w w' := by
  go_enter Try.func27, Try.ntmps27
  go_wp2_with fail
  exact bodyPost_ret (v := .agg #[.int .i64 o.id, .int .i64 o.cd, .int .i64 o.ow, .int .i64 o.po, .int .i64 o.tg, .int .i64 0, .int .i64 o.co, .int .i64 0, .int .i64 0, .bool o.ta, .bool o.si, .bool o.dm]) (by simp [results, Try.results27, go_sem]) rfl ⟨rfl, by go_grown⟩

set_option maxRecDepth 100000 in
set_option maxHeartbeats 2000000 in
theorem rreset_true (o : Ob) (z : Int) (w : World) (hz : (z == 2) = true) : Calls Try.prog 29 #[.agg #[.int .i64 o.id, .int .i64 o.cd, .int .i64 o.ow, .int .i64 o.po, .int .i64 o.tg, .int .i64 o.da, .int .i64 o.co, .int .i64 o.pp, .int .i64 o.pt, .bool o.ta, .bool o.si, .bool o.dm], .int .i64 z] w fun e w' => e = .returned (.agg #[.int .i64 o.id, .int .i64 o.cd, .int .i64 o.ow, .int .i64 o.po, .int .i64 o.tg, .int .i64 0, .int .i64 0, .int .i64 0, .int .i64 0, .bool false, .bool true, .bool false]) ∧ Below w.heap.size w w' := by
  go_enter Try.func29, Try.ntmps29
  go_wp2_with (go_in)
  exact bodyPost_ret (v := .agg #[.int .i64 o.id, .int .i64 o.cd, .int .i64 o.ow, .int .i64 o.po, .int .i64 o.tg, .int .i64 0, .int .i64 0, .int .i64 0, .int .i64 0, .bool false, .bool true, .bool false]) (by simp [results, Try.results29, go_sem]) rfl ⟨rfl, by go_grown⟩

set_option maxRecDepth 100000 in
set_option maxHeartbeats 2000000 in
theorem rreset_false (o : Ob) (z : Int) (w : World) (hz : (z == 2) = false) : Calls Try.prog 29 #[.agg #[.int .i64 o.id, .int .i64 o.cd, .int .i64 o.ow, .int .i64 o.po, .int .i64 o.tg, .int .i64 o.da, .int .i64 o.co, .int .i64 o.pp, .int .i64 o.pt, .bool o.ta, .bool o.si, .bool o.dm], .int .i64 z] w fun e w' => e = .returned (.agg #[.int .i64 o.id, .int .i64 o.cd, .int .i64 o.ow, .int .i64 o.po, .int .i64 o.tg, .int .i64 0, .int .i64 0, .int .i64 0, .int .i64 0, .bool false, .bool false, .bool false]) ∧ Below w.heap.size w w' := by
  go_enter Try.func29, Try.ntmps29
  go_wp2_with (go_in)
  exact bodyPost_ret (v := .agg #[.int .i64 o.id, .int .i64 o.cd, .int .i64 o.ow, .int .i64 o.po, .int .i64 o.tg, .int .i64 0, .int .i64 0, .int .i64 0, .int .i64 0, .bool false, .bool false, .bool false]) (by simp [results, Try.results29, go_sem]) rfl ⟨rfl, by go_grown⟩

end Go.Proofs.Ytjedflfgafhlkaa
