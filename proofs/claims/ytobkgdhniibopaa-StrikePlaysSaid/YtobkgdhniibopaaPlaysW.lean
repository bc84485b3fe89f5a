/- The walk of StrikePlays. -/
import Derived.Test.YtobkgdhniibopaaDoAll
import Derived.Test.YtobkgdhniibopaaSRow
import Derived.IntWalk
namespace Go.Proofs.Ytobkgdhniibopaa
open Go.RowKit Plain
set_option linter.unusedVariables false
set_option linter.unusedSimpArgs false

theorem rg6_11 {P : Program} {B n : Nat} {w0 : World} {L : List (Nat × Nat × Value)} {E F : World → Prop} {id : Nat} {Q : Exit → Act → World → Prop} {a : Act} {w : World} {o0 o1 o2 o3 o4 o5 o6 o7 o8 o9 o10 o11 o12 o13 : Oper} (hm : P.follows .mixedOrders = true)
    (hB : (Region.noSelect [o0, o1, o2, o3, o4, o5, o6, o7, o8, o9, o10, o11, o12, o13].toArray && Scr.ok .any [o0, o1, o2, o3, o4, o5, o6, o7, o8, o9, o10, o11, o12, o13].toArray [1, 5] [0, 2, 3, 4, 7, 8, 9, 10, 11, 13] (.free 0 (.free 2 (.free 3 (.free 4 (.read 1 (.read 5 (.altc 6 (.free 7 (.free 8 (.free 9 (.free 10 (.free 11 (.altc 12 (.free 13 .done) .stop)))))) .stop))))))) true true [o0, o1, o2, o3, o4, o5, o6, o7, o8, o9, o10, o11, o12, o13].toArray.size (Array.replicate [o0, o1, o2, o3, o4, o5, o6, o7, o8, o9, o10, o11, o12, o13].toArray.size false)) = true)
    (k : Kept B w0 n L w) (he : E w) (hE : ∀ W W', E W → Below W.heap.size W W' → E W') (hf : F w) (hF : ∀ W W', F W → Below W.heap.size W W' → F W')
    (h : ∀ wk, Kept B w0 n L wk → E wk → F wk → wpQuiet P [o0, o1, o2, o3, o4, o5, o6, o7, o8, o9, o10, o11, o12, o13].toArray (fun _ => True) (fun a0 => wpQuiet P [o0, o1, o2, o3, o4, o5, o6, o7, o8, o9, o10, o11, o12, o13].toArray (fun w' => ∃ s : KX B w0 n L E, w' = s.val) (fun a1 => ((∀ K2 : Act → World → Prop, (∀ a2 w2, wpQuiet P [o0, o1, o2, o3, o4, o5, o6, o7, o8, o9, o10, o11, o12, o13].toArray (fun _ => True) (fun a3 => ((∀ K4 : Act → World → Prop, (∀ a4 w4, wpQuiet P [o0, o1, o2, o3, o4, o5, o6, o7, o8, o9, o10, o11, o12, o13].toArray (fun _ => True) (fun a5 => Q .normal a5 w4) [o13] a4 → K4 a4 w4) → wpList P [o0, o1, o2, o3, o4, o5, o6, o7, o8, o9, o10, o11, o12, o13].toArray (fun e a4 w4 => e = .normal ∧ K4 a4 w4) [o12] a3 w2) ∧ True)) [o7, o8, o9, o10, o11] a2 → K2 a2 w2) → wpList P [o0, o1, o2, o3, o4, o5, o6, o7, o8, o9, o10, o11, o12, o13].toArray (fun e a2 w2 => e = .normal ∧ K2 a2 w2) [o6] a1 wk) ∧ True)) [o1, o5] a0) [o0, o2, o3, o4] a) : (Code.region id [o0, o1, o2, o3, o4, o5, o6, o7, o8, o9, o10, o11, o12, o13].toArray true).wp P Q a w := by
  have e1 : E w.drew := hE _ _ he ((Below.refl _ _).drew)
  have g := h _ k.drew e1 (hF _ _ hf ((Below.refl _ _).drew))
  exact wp_region_scr (U := (fun w' => ∃ s : KX B w0 n L E, w' = s.val)) (ops := [o0, o1, o2, o3, o4, o5, o6, o7, o8, o9, o10, o11, o12, o13].toArray) (.free 0 (.free 2 (.free 3 (.free 4 (.read 1 (.read 5 (.altc 6 (.free 7 (.free 8 (.free 9 (.free 10 (.free 11 (.altc 12 (.free 13 .done) .stop)))))) .stop))))))) [1, 5] [0, 2, 3, 4, 7, 8, 9, 10, 11, 13] hm hB ⟨⟨_, k.drew, e1⟩, rfl⟩ (Scr.of_free rfl g (fun _ g0 => Scr.of_free rfl g0 (fun _ g1 => Scr.of_free rfl g1 (fun _ g2 => Scr.of_free rfl g2 (fun _ g3 => Scr.of_read rfl g3 (fun _ g4 => Scr.of_read rfl g4 (fun _ g5 => (Scr.of_altc rfl (g5.1 _ (fun _ _ g => g)) (fun _ _ g6 => Scr.of_free rfl g6 (fun _ g7 => Scr.of_free rfl g7 (fun _ g8 => Scr.of_free rfl g8 (fun _ g9 => Scr.of_free rfl g9 (fun _ g10 => Scr.of_free rfl g10 (fun _ g11 => (Scr.of_altc rfl (g11.1 _ (fun _ _ g => g)) (fun _ _ g12 => Scr.of_free rfl g12 (fun _ g13 => g13)) trivial))))))) trivial))))))))

theorem rg6_12 {P : Program} {B n : Nat} {w0 : World} {L : List (Nat × Nat × Value)} {E F : World → Prop} {id : Nat} {Q : Exit → Act → World → Prop} {a : Act} {w : World} {o0 o1 o2 o3 o4 o5 o6 o7 o8 o9 o10 o11 o12 : Oper} (hm : P.follows .mixedOrders = true)
    (hB : (Region.noSelect [o0, o1, o2, o3, o4, o5, o6, o7, o8, o9, o10, o11, o12].toArray && Scr.ok .any [o0, o1, o2, o3, o4, o5, o6, o7, o8, o9, o10, o11, o12].toArray [4, 9] [0, 1, 2, 3, 5, 6, 7, 8, 11, 12] (.free 0 (.free 1 (.free 2 (.free 3 (.free 5 (.free 6 (.free 7 (.free 8 (.read 4 (.read 9 (.altc 10 (.free 11 (.free 12 .done)) .stop))))))))))) true true [o0, o1, o2, o3, o4, o5, o6, o7, o8, o9, o10, o11, o12].toArray.size (Array.replicate [o0, o1, o2, o3, o4, o5, o6, o7, o8, o9, o10, o11, o12].toArray.size false)) = true)
    (k : Kept B w0 n L w) (he : E w) (hE : ∀ W W', E W → Below W.heap.size W W' → E W') (hf : F w) (hF : ∀ W W', F W → Below W.heap.size W W' → F W')
    (h : ∀ wk, Kept B w0 n L wk → E wk → F wk → wpQuiet P [o0, o1, o2, o3, o4, o5, o6, o7, o8, o9, o10, o11, o12].toArray (fun _ => True) (fun a0 => wpQuiet P [o0, o1, o2, o3, o4, o5, o6, o7, o8, o9, o10, o11, o12].toArray (fun w' => ∃ s : KX B w0 n L E, w' = s.val) (fun a1 => ((∀ K2 : Act → World → Prop, (∀ a2 w2, wpQuiet P [o0, o1, o2, o3, o4, o5, o6, o7, o8, o9, o10, o11, o12].toArray (fun _ => True) (fun a3 => Q .normal a3 w2) [o11, o12] a2 → K2 a2 w2) → wpList P [o0, o1, o2, o3, o4, o5, o6, o7, o8, o9, o10, o11, o12].toArray (fun e a2 w2 => e = .normal ∧ K2 a2 w2) [o10] a1 wk) ∧ True)) [o4, o9] a0) [o0, o1, o2, o3, o5, o6, o7, o8] a) : (Code.region id [o0, o1, o2, o3, o4, o5, o6, o7, o8, o9, o10, o11, o12].toArray true).wp P Q a w := by
  have e1 : E w.drew := hE _ _ he ((Below.refl _ _).drew)
  have g := h _ k.drew e1 (hF _ _ hf ((Below.refl _ _).drew))
  exact wp_region_scr (U := (fun w' => ∃ s : KX B w0 n L E, w' = s.val)) (ops := [o0, o1, o2, o3, o4, o5, o6, o7, o8, o9, o10, o11, o12].toArray) (.free 0 (.free 1 (.free 2 (.free 3 (.free 5 (.free 6 (.free 7 (.free 8 (.read 4 (.read 9 (.altc 10 (.free 11 (.free 12 .done)) .stop))))))))))) [4, 9] [0, 1, 2, 3, 5, 6, 7, 8, 11, 12] hm hB ⟨⟨_, k.drew, e1⟩, rfl⟩ (Scr.of_free rfl g (fun _ g0 => Scr.of_free rfl g0 (fun _ g1 => Scr.of_free rfl g1 (fun _ g2 => Scr.of_free rfl g2 (fun _ g3 => Scr.of_free rfl g3 (fun _ g4 => Scr.of_free rfl g4 (fun _ g5 => Scr.of_free rfl g5 (fun _ g6 => Scr.of_free rfl g6 (fun _ g7 => Scr.of_read rfl g7 (fun _ g8 => Scr.of_read rfl g8 (fun _ g9 => (Scr.of_altc rfl (g9.1 _ (fun _ _ g => g)) (fun _ _ g10 => Scr.of_free rfl g10 (fun _ g11 => Scr.of_free rfl g11 (fun _ g12 => g12))) trivial))))))))))))

def PlayInv (w : World) (R len : Nat) (s i : Value) (wr : World) : Prop := ∃ (k P : Nat) (b : Bk), k ≤ len ∧ i = .int .i64 k ∧ s = .pointer (some ⟨P, 0, none⟩) ∧ BookAt wr P b ∧ b.Ok ∧ w.heap.size ≤ P ∧ P ≠ R ∧ Kept w.heap.size w (R + 1) [(R, 0, .int .i64 b.n), (R, 1, .int .u64 b.g), (R, 2, .int .i64 b.s0), (R, 3, .bool b.a0), (R, 4, .bool b.h0), (R, 5, .int .u64 b.t0), (R, 6, .int .i64 b.s1), (R, 7, .bool b.a1), (R, 8, .bool b.h1), (R, 9, .int .u64 b.t1)] wr

set_option maxRecDepth 100000 in
set_option maxHeartbeats 2000000 in
theorem plays6_bad (n g t : Int) (v : Value) (w : World) (HV : Hid (vC n g = false)) :
    Calls Try.prog 6 #[.agg #[.int .i64 n, .int .u64 g], .int .u64 t, v] w fun e w' => e = .returned (.bool true) ∧ Below w.heap.size w w' := by
  go_enter Try.func6, Try.ntmps6
  go_wp2_with fail
  with_reducible refine (valid9c n g _ _ HV.out).mono ?_
  rintro e w1 ⟨rfl, hb_w1⟩
  have K_w1 : Kept w.heap.size w (w.heap.size + 1) [(w.heap.size, 0, .int .i64 n), (w.heap.size, 1, .int .u64 g)] w1 := Kept.of hb_w1 (by go_grown) (by go_size) (by omega) (by simp [go_sem] <;> omega)
  clear hb_w1
  have KH_w1 := Lib.hid K_w1
  have hw_w1 := K_w1.below
  have hz_w1 := K_w1.size
  have lC_w1 : w.heap.size < w1.heap.size := by omega
  have cC0_w1 := K_w1.at (b := w.heap.size) (o := 0) (v := .int .i64 n) (by simp)
  have fC0_w1 := K_w1.free (b := w.heap.size) (o := 0) (v := .int .i64 n) (by simp)
  have cC1_w1 := K_w1.at (b := w.heap.size) (o := 1) (v := .int .u64 g) (by simp)
  have fC1_w1 := K_w1.free (b := w.heap.size) (o := 1) (v := .int .u64 g) (by simp)
  clear K_w1
  go_wp2_with fail
  with_reducible refine (known11 _).mono ?_
  rintro e w2 ⟨rfl, hb_w2⟩
  have K_w2 : Kept w.heap.size w (w.heap.size + 1) [(w.heap.size, 0, .int .i64 n), (w.heap.size, 1, .int .u64 g)] w2 := (KH_w1.out.step (by omega) (by go_grown)).step (by omega) hb_w2
  clear hb_w2
  have KH_w2 := Lib.hid K_w2
  have hw_w2 := K_w2.below
  have hz_w2 := K_w2.size
  have lC_w2 : w.heap.size < w2.heap.size := by omega
  have cC0_w2 := K_w2.at (b := w.heap.size) (o := 0) (v := .int .i64 n) (by simp)
  have fC0_w2 := K_w2.free (b := w.heap.size) (o := 0) (v := .int .i64 n) (by simp)
  have cC1_w2 := K_w2.at (b := w.heap.size) (o := 1) (v := .int .u64 g) (by simp)
  have fC1_w2 := K_w2.free (b := w.heap.size) (o := 1) (v := .int .u64 g) (by simp)
  clear lC_w1 cC0_w1 fC0_w1 cC1_w1 fC1_w1
  clear K_w2
  go_wp2_with fail
  go_returns
  exact ⟨rfl, by go_grown⟩

set_option maxRecDepth 100000 in
set_option maxHeartbeats 2000000 in
theorem plays6_long (n g t : Int) (a : Option Addr) (len cap : Nat) (w : World) (HV : Hid (vC n g = true)) (hl : 80 < len) (hm : len ≤ 9223372036854775807) :
    Calls Try.prog 6 #[.agg #[.int .i64 n, .int .u64 g], .int .u64 t, .slice a len cap] w fun e w' => e = .returned (.bool true) ∧ Below w.heap.size w w' := by
  go_enter Try.func6, Try.ntmps6
  go_wp2_with fail
  with_reducible refine (valid9c n g _ _ HV.out).mono ?_
  rintro e w1 ⟨rfl, hb_w1⟩
  have K_w1 : Kept w.heap.size w (w.heap.size + 1) [(w.heap.size, 0, .int .i64 n), (w.heap.size, 1, .int .u64 g)] w1 := Kept.of hb_w1 (by go_grown) (by go_size) (by omega) (by simp [go_sem] <;> omega)
  clear hb_w1
  have KH_w1 := Lib.hid K_w1
  have hw_w1 := K_w1.below
  have hz_w1 := K_w1.size
  have lC_w1 : w.heap.size < w1.heap.size := by omega
  have cC0_w1 := K_w1.at (b := w.heap.size) (o := 0) (v := .int .i64 n) (by simp)
  have fC0_w1 := K_w1.free (b := w.heap.size) (o := 0) (v := .int .i64 n) (by simp)
  have cC1_w1 := K_w1.at (b := w.heap.size) (o := 1) (v := .int .u64 g) (by simp)
  have fC1_w1 := K_w1.free (b := w.heap.size) (o := 1) (v := .int .u64 g) (by simp)
  clear K_w1
  go_wp2_with fail
  with_reducible refine (known11 _).mono ?_
  rintro e w2 ⟨rfl, hb_w2⟩
  have K_w2 : Kept w.heap.size w (w.heap.size + 1) [(w.heap.size, 0, .int .i64 n), (w.heap.size, 1, .int .u64 g)] w2 := (KH_w1.out.step (by omega) (by go_grown)).step (by omega) hb_w2
  clear hb_w2
  have KH_w2 := Lib.hid K_w2
  have hw_w2 := K_w2.below
  have hz_w2 := K_w2.size
  have lC_w2 : w.heap.size < w2.heap.size := by omega
  have cC0_w2 := K_w2.at (b := w.heap.size) (o := 0) (v := .int .i64 n) (by simp)
  have fC0_w2 := K_w2.free (b := w.heap.size) (o := 0) (v := .int .i64 n) (by simp)
  have cC1_w2 := K_w2.at (b := w.heap.size) (o := 1) (v := .int .u64 g) (by simp)
  have fC1_w2 := K_w2.free (b := w.heap.size) (o := 1) (v := .int .u64 g) (by simp)
  clear lC_w1 cC0_w1 fC0_w1 cC1_w1 fC1_w1
  clear K_w2
  go_wp2_with fail
  go_returns
  exact ⟨rfl, by go_grown⟩

set_option maxRecDepth 100000 in
set_option maxHeartbeats 8000000 in
theorem plays6_some (n g t : Int) (v : Value) (rows : List (List Int)) (len cap : Nat) (a : Option Addr) (w : World) (hv : v = .slice a len cap) (hlen : rows.length = len) (HV : Hid (vC n g = true)) (OK : Hid (bk0 n g t).Ok) (h80 : rows.length ≤ 80) (hs : Hid (SRow [.i64, .i64, .u64] w v rows)) :
    Calls Try.prog 6 #[.agg #[.int .i64 n, .int .u64 g], .int .u64 t, v] w fun e w' => e = .returned (.bool true) ∧ Below w.heap.size w w' := by
  subst hv hlen
  go_enter Try.func6, Try.ntmps6
  go_wp2_with fail
  with_reducible refine (valid9c n g _ _ HV.out).mono ?_
  rintro e w1 ⟨rfl, hb_w1⟩
  have K_w1 : Kept w.heap.size w (w.heap.size + 1) [(w.heap.size, 0, .int .i64 n), (w.heap.size, 1, .int .u64 g)] w1 := Kept.of hb_w1 (by go_grown) (by go_size) (by omega) (by simp [go_sem] <;> omega)
  clear hb_w1
  have KH_w1 := Lib.hid K_w1
  have hw_w1 := K_w1.below
  have hz_w1 := K_w1.size
  have lC_w1 : w.heap.size < w1.heap.size := by omega
  have cC0_w1 := K_w1.at (b := w.heap.size) (o := 0) (v := .int .i64 n) (by simp)
  have fC0_w1 := K_w1.free (b := w.heap.size) (o := 0) (v := .int .i64 n) (by simp)
  have cC1_w1 := K_w1.at (b := w.heap.size) (o := 1) (v := .int .u64 g) (by simp)
  have fC1_w1 := K_w1.free (b := w.heap.size) (o := 1) (v := .int .u64 g) (by simp)
  clear K_w1
  go_wp2_with fail
  with_reducible refine (new8 n g t _ HV.out).mono ?_
  rintro e w2 ⟨P, hP, rfl, hB, hb_w2⟩
  have K_w2 : Kept w.heap.size w (w.heap.size + 1) [(w.heap.size, 0, .int .i64 n), (w.heap.size, 1, .int .u64 g)] w2 := (KH_w1.out.step (by omega) (by go_grown)).step (by omega) hb_w2
  clear hb_w2
  have KH_w2 := Lib.hid K_w2
  have hw_w2 := K_w2.below
  have hz_w2 := K_w2.size
  have lC_w2 : w.heap.size < w2.heap.size := by omega
  have cC0_w2 := K_w2.at (b := w.heap.size) (o := 0) (v := .int .i64 n) (by simp)
  have fC0_w2 := K_w2.free (b := w.heap.size) (o := 0) (v := .int .i64 n) (by simp)
  have cC1_w2 := K_w2.at (b := w.heap.size) (o := 1) (v := .int .u64 g) (by simp)
  have fC1_w2 := K_w2.free (b := w.heap.size) (o := 1) (v := .int .u64 g) (by simp)
  clear lC_w1 cC0_w1 fC0_w1 cC1_w1 fC1_w1
  clear K_w2
  have HB := Lib.hid hB
  clear hB
  go_wp2_with fail
  with_reducible refine (new13 n g t _).mono ?_
  rintro e w3 ⟨rfl, hb_w3⟩
  have K_w3 : Kept w.heap.size w (w.heap.size + 1) [(w.heap.size, 0, .int .i64 n), (w.heap.size, 1, .int .u64 g)] w3 := (KH_w2.out.step (by omega) (by go_grown)).step (by omega) hb_w3
  replace HB := Lib.hid (HB.out.below hb_w3)
  clear hb_w3
  have KH_w3 := Lib.hid K_w3
  have hw_w3 := K_w3.below
  have hz_w3 := K_w3.size
  have lC_w3 : w.heap.size < w3.heap.size := by omega
  have cC0_w3 := K_w3.at (b := w.heap.size) (o := 0) (v := .int .i64 n) (by simp)
  have fC0_w3 := K_w3.free (b := w.heap.size) (o := 0) (v := .int .i64 n) (by simp)
  have cC1_w3 := K_w3.at (b := w.heap.size) (o := 1) (v := .int .u64 g) (by simp)
  have fC1_w3 := K_w3.free (b := w.heap.size) (o := 1) (v := .int .u64 g) (by simp)
  clear lC_w2 cC0_w2 fC0_w2 cC1_w2 fC1_w2
  clear K_w3
  go_wp2_with fail
  go_loopw [7, 10] (fun s i wr => PlayInv w w3.heap.size rows.length s i wr) (fun _ i _ => rows.length - (intOf i).toNat)
  case atStart =>
    refine ⟨0, P, bk0 n g t, Nat.zero_le _, rfl, rfl, HB.out.below (by go_grown), OK.out, by omega, ?_, by go_grown, by go_size, ?_⟩
    · have := HB.out.lt
      omega
    · simp [bk0]
  case round =>
    obtain ⟨k, P, b, hk, rfl, rfl, hB, ok, hP, hPR, K⟩ := hrel
    have HB := Lib.hid hB
    have KH_wr := Lib.hid K
    have hlt := hB.lt
    have hz_wr := K.size
    have hw_wr := K.below
    clear hB K
    by_cases hk2 : k < rows.length
    · obtain ⟨_, ba, off, cap', hvv, hba, hcells⟩ := hs.out.some (by intro e; rw [e] at hk2; simp at hk2)
      obtain ⟨r, hr⟩ : ∃ r, rows[k]? = some r := ⟨rows[k], List.getElem?_eq_getElem hk2⟩
      obtain ⟨hrl, hcl⟩ := hcells k r hr
      obtain ⟨what, p, ta, rfl⟩ : ∃ x y z, r = [x, y, z] := by
        match r, hrl with
        | [x, y, z], _ => exact ⟨x, y, z, rfl⟩
      have HC0 := Lib.hid (hcl 0 _ _ rfl rfl).1
      have HC1 := Lib.hid (hcl 1 _ _ rfl rfl).1
      have HC2 := Lib.hid (hcl 2 _ _ rfl rfl).1
      have hta : U ta := by simpa [U, Lit.wf, IntKind.min, IntKind.max, IntKind.signed, IntKind.bits] using (hcl 2 _ _ rfl rfl).2
      simp only [Value.slice.injEq] at hvv
      obtain ⟨rfl, _, rfl⟩ := hvv
      clear hcells hr hrl hcl
      have i1 : (0 : Int) ≤ (k : Int) := by omega
      have i2 : (k : Int) < (rows.length : Int) := by omega
      go_wp2_with fail
      refine rg6_11 (w0 := w) (B := w.heap.size) (n := w3.heap.size + 1) (L := [(w3.heap.size, 0, .int .i64 b.n), (w3.heap.size, 1, .int .u64 b.g), (w3.heap.size, 2, .int .i64 b.s0), (w3.heap.size, 3, .bool b.a0), (w3.heap.size, 4, .bool b.h0), (w3.heap.size, 5, .int .u64 b.t0), (w3.heap.size, 6, .int .i64 b.s1), (w3.heap.size, 7, .bool b.a1), (w3.heap.size, 8, .bool b.h1), (w3.heap.size, 9, .int .u64 b.t1)]) (E := fun _ => True) (F := fun W => BookAt W P b) (by kernel_rfl) (by kernel_rfl) (KH_wr.out.step (by omega) (by go_grown)) trivial (fun _ _ _ _ => trivial) (HB.out.below (by go_grown)) (fun _ _ h hb => h.below hb) (fun w11 K_w11 E_w11 F_w11 => ?_)
      have _ne : Nonempty (KX (w.heap.size) w (w3.heap.size + 1) [(w3.heap.size, 0, .int .i64 b.n), (w3.heap.size, 1, .int .u64 b.g), (w3.heap.size, 2, .int .i64 b.s0), (w3.heap.size, 3, .bool b.a0), (w3.heap.size, 4, .bool b.h0), (w3.heap.size, 5, .int .u64 b.t0), (w3.heap.size, 6, .int .i64 b.s1), (w3.heap.size, 7, .bool b.a1), (w3.heap.size, 8, .bool b.h1), (w3.heap.size, 9, .int .u64 b.t1)] (fun _ => True)) := ⟨⟨_, K_w11, E_w11⟩⟩
      repeat (go_big_quiet_step (fail))
      refine wpQuiet_nil ?_
      have rR0 : ∀ s : KX (w.heap.size) w (w3.heap.size + 1) [(w3.heap.size, 0, .int .i64 b.n), (w3.heap.size, 1, .int .u64 b.g), (w3.heap.size, 2, .int .i64 b.s0), (w3.heap.size, 3, .bool b.a0), (w3.heap.size, 4, .bool b.h0), (w3.heap.size, 5, .int .u64 b.t0), (w3.heap.size, 6, .int .i64 b.s1), (w3.heap.size, 7, .bool b.a1), (w3.heap.size, 8, .bool b.h1), (w3.heap.size, 9, .int .u64 b.t1)] (fun _ => True), s.val.cell? ⟨w3.heap.size, 0, none⟩ = some (.int .i64 b.n) := fun s => s.kept.at (by simp)
      have rR1 : ∀ s : KX (w.heap.size) w (w3.heap.size + 1) [(w3.heap.size, 0, .int .i64 b.n), (w3.heap.size, 1, .int .u64 b.g), (w3.heap.size, 2, .int .i64 b.s0), (w3.heap.size, 3, .bool b.a0), (w3.heap.size, 4, .bool b.h0), (w3.heap.size, 5, .int .u64 b.t0), (w3.heap.size, 6, .int .i64 b.s1), (w3.heap.size, 7, .bool b.a1), (w3.heap.size, 8, .bool b.h1), (w3.heap.size, 9, .int .u64 b.t1)] (fun _ => True), s.val.cell? ⟨w3.heap.size, 1, none⟩ = some (.int .u64 b.g) := fun s => s.kept.at (by simp)
      have rR2 : ∀ s : KX (w.heap.size) w (w3.heap.size + 1) [(w3.heap.size, 0, .int .i64 b.n), (w3.heap.size, 1, .int .u64 b.g), (w3.heap.size, 2, .int .i64 b.s0), (w3.heap.size, 3, .bool b.a0), (w3.heap.size, 4, .bool b.h0), (w3.heap.size, 5, .int .u64 b.t0), (w3.heap.size, 6, .int .i64 b.s1), (w3.heap.size, 7, .bool b.a1), (w3.heap.size, 8, .bool b.h1), (w3.heap.size, 9, .int .u64 b.t1)] (fun _ => True), s.val.cell? ⟨w3.heap.size, 2, none⟩ = some (.int .i64 b.s0) := fun s => s.kept.at (by simp)
      have rR3 : ∀ s : KX (w.heap.size) w (w3.heap.size + 1) [(w3.heap.size, 0, .int .i64 b.n), (w3.heap.size, 1, .int .u64 b.g), (w3.heap.size, 2, .int .i64 b.s0), (w3.heap.size, 3, .bool b.a0), (w3.heap.size, 4, .bool b.h0), (w3.heap.size, 5, .int .u64 b.t0), (w3.heap.size, 6, .int .i64 b.s1), (w3.heap.size, 7, .bool b.a1), (w3.heap.size, 8, .bool b.h1), (w3.heap.size, 9, .int .u64 b.t1)] (fun _ => True), s.val.cell? ⟨w3.heap.size, 3, none⟩ = some (.bool b.a0) := fun s => s.kept.at (by simp)
      have rR4 : ∀ s : KX (w.heap.size) w (w3.heap.size + 1) [(w3.heap.size, 0, .int .i64 b.n), (w3.heap.size, 1, .int .u64 b.g), (w3.heap.size, 2, .int .i64 b.s0), (w3.heap.size, 3, .bool b.a0), (w3.heap.size, 4, .bool b.h0), (w3.heap.size, 5, .int .u64 b.t0), (w3.heap.size, 6, .int .i64 b.s1), (w3.heap.size, 7, .bool b.a1), (w3.heap.size, 8, .bool b.h1), (w3.heap.size, 9, .int .u64 b.t1)] (fun _ => True), s.val.cell? ⟨w3.heap.size, 4, none⟩ = some (.bool b.h0) := fun s => s.kept.at (by simp)
      have rR5 : ∀ s : KX (w.heap.size) w (w3.heap.size + 1) [(w3.heap.size, 0, .int .i64 b.n), (w3.heap.size, 1, .int .u64 b.g), (w3.heap.size, 2, .int .i64 b.s0), (w3.heap.size, 3, .bool b.a0), (w3.heap.size, 4, .bool b.h0), (w3.heap.size, 5, .int .u64 b.t0), (w3.heap.size, 6, .int .i64 b.s1), (w3.heap.size, 7, .bool b.a1), (w3.heap.size, 8, .bool b.h1), (w3.heap.size, 9, .int .u64 b.t1)] (fun _ => True), s.val.cell? ⟨w3.heap.size, 5, none⟩ = some (.int .u64 b.t0) := fun s => s.kept.at (by simp)
      have rR6 : ∀ s : KX (w.heap.size) w (w3.heap.size + 1) [(w3.heap.size, 0, .int .i64 b.n), (w3.heap.size, 1, .int .u64 b.g), (w3.heap.size, 2, .int .i64 b.s0), (w3.heap.size, 3, .bool b.a0), (w3.heap.size, 4, .bool b.h0), (w3.heap.size, 5, .int .u64 b.t0), (w3.heap.size, 6, .int .i64 b.s1), (w3.heap.size, 7, .bool b.a1), (w3.heap.size, 8, .bool b.h1), (w3.heap.size, 9, .int .u64 b.t1)] (fun _ => True), s.val.cell? ⟨w3.heap.size, 6, none⟩ = some (.int .i64 b.s1) := fun s => s.kept.at (by simp)
      have rR7 : ∀ s : KX (w.heap.size) w (w3.heap.size + 1) [(w3.heap.size, 0, .int .i64 b.n), (w3.heap.size, 1, .int .u64 b.g), (w3.heap.size, 2, .int .i64 b.s0), (w3.heap.size, 3, .bool b.a0), (w3.heap.size, 4, .bool b.h0), (w3.heap.size, 5, .int .u64 b.t0), (w3.heap.size, 6, .int .i64 b.s1), (w3.heap.size, 7, .bool b.a1), (w3.heap.size, 8, .bool b.h1), (w3.heap.size, 9, .int .u64 b.t1)] (fun _ => True), s.val.cell? ⟨w3.heap.size, 7, none⟩ = some (.bool b.a1) := fun s => s.kept.at (by simp)
      have rR8 : ∀ s : KX (w.heap.size) w (w3.heap.size + 1) [(w3.heap.size, 0, .int .i64 b.n), (w3.heap.size, 1, .int .u64 b.g), (w3.heap.size, 2, .int .i64 b.s0), (w3.heap.size, 3, .bool b.a0), (w3.heap.size, 4, .bool b.h0), (w3.heap.size, 5, .int .u64 b.t0), (w3.heap.size, 6, .int .i64 b.s1), (w3.heap.size, 7, .bool b.a1), (w3.heap.size, 8, .bool b.h1), (w3.heap.size, 9, .int .u64 b.t1)] (fun _ => True), s.val.cell? ⟨w3.heap.size, 8, none⟩ = some (.bool b.h1) := fun s => s.kept.at (by simp)
      have rR9 : ∀ s : KX (w.heap.size) w (w3.heap.size + 1) [(w3.heap.size, 0, .int .i64 b.n), (w3.heap.size, 1, .int .u64 b.g), (w3.heap.size, 2, .int .i64 b.s0), (w3.heap.size, 3, .bool b.a0), (w3.heap.size, 4, .bool b.h0), (w3.heap.size, 5, .int .u64 b.t0), (w3.heap.size, 6, .int .i64 b.s1), (w3.heap.size, 7, .bool b.a1), (w3.heap.size, 8, .bool b.h1), (w3.heap.size, 9, .int .u64 b.t1)] (fun _ => True), s.val.cell? ⟨w3.heap.size, 9, none⟩ = some (.int .u64 b.t1) := fun s => s.kept.at (by simp)
      have rA0 : ∀ s : KX (w.heap.size) w (w3.heap.size + 1) [(w3.heap.size, 0, .int .i64 b.n), (w3.heap.size, 1, .int .u64 b.g), (w3.heap.size, 2, .int .i64 b.s0), (w3.heap.size, 3, .bool b.a0), (w3.heap.size, 4, .bool b.h0), (w3.heap.size, 5, .int .u64 b.t0), (w3.heap.size, 6, .int .i64 b.s1), (w3.heap.size, 7, .bool b.a1), (w3.heap.size, 8, .bool b.h1), (w3.heap.size, 9, .int .u64 b.t1)] (fun _ => True), s.val.cell? ⟨ba, off + k * 3, none⟩ = some (.int .i64 what) := fun s => (s.kept.below.cell (p := ⟨ba, off + k * 3, none⟩) hba).trans HC0.out
      have rA1 : ∀ s : KX (w.heap.size) w (w3.heap.size + 1) [(w3.heap.size, 0, .int .i64 b.n), (w3.heap.size, 1, .int .u64 b.g), (w3.heap.size, 2, .int .i64 b.s0), (w3.heap.size, 3, .bool b.a0), (w3.heap.size, 4, .bool b.h0), (w3.heap.size, 5, .int .u64 b.t0), (w3.heap.size, 6, .int .i64 b.s1), (w3.heap.size, 7, .bool b.a1), (w3.heap.size, 8, .bool b.h1), (w3.heap.size, 9, .int .u64 b.t1)] (fun _ => True), s.val.cell? ⟨ba, off + k * 3 + 1, none⟩ = some (.int .i64 p) := fun s => (s.kept.below.cell (p := ⟨ba, off + k * 3 + 1, none⟩) hba).trans HC1.out
      have rA2 : ∀ s : KX (w.heap.size) w (w3.heap.size + 1) [(w3.heap.size, 0, .int .i64 b.n), (w3.heap.size, 1, .int .u64 b.g), (w3.heap.size, 2, .int .i64 b.s0), (w3.heap.size, 3, .bool b.a0), (w3.heap.size, 4, .bool b.h0), (w3.heap.size, 5, .int .u64 b.t0), (w3.heap.size, 6, .int .i64 b.s1), (w3.heap.size, 7, .bool b.a1), (w3.heap.size, 8, .bool b.h1), (w3.heap.size, 9, .int .u64 b.t1)] (fun _ => True), s.val.cell? ⟨ba, off + k * 3 + 2, none⟩ = some (.int .u64 ta) := fun s => (s.kept.below.cell (p := ⟨ba, off + k * 3 + 2, none⟩) hba).trans HC2.out
      repeat (go_big_quiet_step (fail))
      refine wpQuiet_nil ?_
      clear rR0 rR1 rR2 rR3 rR4 rR5 rR6 rR7 rR8 rR9 rA0 rA1 rA2
      have KH_w11 := Lib.hid K_w11
      have hw_w11 := K_w11.below
      have hz_w11 := K_w11.size
      have lR_w11 : w3.heap.size < w11.heap.size := by omega
      clear K_w11
      have HB := Lib.hid (F_w11)
      clear E_w11 F_w11
      refine ⟨fun K hK => ?_, trivial⟩
      go_wp2_with fail
      with_reducible refine (do24 P b what p ta _ HB.out ok hta).mono ?_
      rintro e w12 ⟨P2, b2, hP2, rfl, hB_w12, hOk, hO_w12⟩
      have K_w12 : Kept w.heap.size w (w3.heap.size + 1) [(w3.heap.size, 0, .int .i64 b.n), (w3.heap.size, 1, .int .u64 b.g), (w3.heap.size, 2, .int .i64 b.s0), (w3.heap.size, 3, .bool b.a0), (w3.heap.size, 4, .bool b.h0), (w3.heap.size, 5, .int .u64 b.t0), (w3.heap.size, 6, .int .i64 b.s1), (w3.heap.size, 7, .bool b.a1), (w3.heap.size, 8, .bool b.h1), (w3.heap.size, 9, .int .u64 b.t1)] w12 := (KH_w11.out.step (by omega) (by go_grown)).only hO_w12 (by omega) hP (by simp <;> omega)
      replace HB := Lib.hid (hB_w12)
      clear hO_w12 hB_w12
      have KH_w12 := Lib.hid K_w12
      have hw_w12 := K_w12.below
      have hz_w12 := K_w12.size
      have lR_w12 : w3.heap.size < w12.heap.size := by omega
      clear lR_w11
      clear K_w12
      have OK2 := Lib.hid hOk
      have hP3 : w.heap.size ≤ P2 := by rcases hP2 with h | h <;> omega
      have hP4 : P2 ≠ w3.heap.size := by rcases hP2 with h | h <;> omega
      clear hOk hP2
      go_wp2_with fail
      first | (refine ⟨rfl, hK _ _ ?_⟩; clear hK K) | (refine hK _ _ ?_; clear hK K) | skip
      repeat (go_big_quiet_step (fail))
      refine wpQuiet_nil ?_
      refine ⟨fun K hK => ?_, trivial⟩
      have cR0_w12 := KH_w12.out.at (b := w3.heap.size) (o := 0) (v := .int .i64 b.n) (by simp)
      have fR0_w12 := KH_w12.out.free (b := w3.heap.size) (o := 0) (v := .int .i64 b.n) (by simp)
      have cR1_w12 := KH_w12.out.at (b := w3.heap.size) (o := 1) (v := .int .u64 b.g) (by simp)
      have fR1_w12 := KH_w12.out.free (b := w3.heap.size) (o := 1) (v := .int .u64 b.g) (by simp)
      have cR2_w12 := KH_w12.out.at (b := w3.heap.size) (o := 2) (v := .int .i64 b.s0) (by simp)
      have fR2_w12 := KH_w12.out.free (b := w3.heap.size) (o := 2) (v := .int .i64 b.s0) (by simp)
      have cR3_w12 := KH_w12.out.at (b := w3.heap.size) (o := 3) (v := .bool b.a0) (by simp)
      have fR3_w12 := KH_w12.out.free (b := w3.heap.size) (o := 3) (v := .bool b.a0) (by simp)
      have cR4_w12 := KH_w12.out.at (b := w3.heap.size) (o := 4) (v := .bool b.h0) (by simp)
      have fR4_w12 := KH_w12.out.free (b := w3.heap.size) (o := 4) (v := .bool b.h0) (by simp)
      have cR5_w12 := KH_w12.out.at (b := w3.heap.size) (o := 5) (v := .int .u64 b.t0) (by simp)
      have fR5_w12 := KH_w12.out.free (b := w3.heap.size) (o := 5) (v := .int .u64 b.t0) (by simp)
      have cR6_w12 := KH_w12.out.at (b := w3.heap.size) (o := 6) (v := .int .i64 b.s1) (by simp)
      have fR6_w12 := KH_w12.out.free (b := w3.heap.size) (o := 6) (v := .int .i64 b.s1) (by simp)
      have cR7_w12 := KH_w12.out.at (b := w3.heap.size) (o := 7) (v := .bool b.a1) (by simp)
      have fR7_w12 := KH_w12.out.free (b := w3.heap.size) (o := 7) (v := .bool b.a1) (by simp)
      have cR8_w12 := KH_w12.out.at (b := w3.heap.size) (o := 8) (v := .bool b.h1) (by simp)
      have fR8_w12 := KH_w12.out.free (b := w3.heap.size) (o := 8) (v := .bool b.h1) (by simp)
      have cR9_w12 := KH_w12.out.at (b := w3.heap.size) (o := 9) (v := .int .u64 b.t1) (by simp)
      have fR9_w12 := KH_w12.out.free (b := w3.heap.size) (o := 9) (v := .int .u64 b.t1) (by simp)
      go_wp2_with fail
      first | (refine ⟨rfl, hK _ _ ?_⟩; clear hK K) | (refine hK _ _ ?_; clear hK K) | skip
      repeat (go_big_quiet_step (fail))
      refine wpQuiet_nil ?_
      clear _ne
      go_wp2_with fail
      refine rg6_12 (w0 := w) (B := w.heap.size) (n := w3.heap.size + 1) (L := [(w3.heap.size, 0, .int .i64 b2.n), (w3.heap.size, 1, .int .u64 b2.g), (w3.heap.size, 2, .int .i64 b2.s0), (w3.heap.size, 3, .bool b2.a0), (w3.heap.size, 4, .bool b2.h0), (w3.heap.size, 5, .int .u64 b2.t0), (w3.heap.size, 6, .int .i64 b2.s1), (w3.heap.size, 7, .bool b2.a1), (w3.heap.size, 8, .bool b2.h1), (w3.heap.size, 9, .int .u64 b2.t1)]) (E := fun _ => True) (F := fun W => BookAt W P2 b2) (by kernel_rfl) (by kernel_rfl) ⟨by go_grown, by go_size, (by simp [go_sem, lR_w12, cR0_w12, fR0_w12, cR1_w12, fR1_w12, cR2_w12, fR2_w12, cR3_w12, fR3_w12, cR4_w12, fR4_w12, cR5_w12, fR5_w12, cR6_w12, fR6_w12, cR7_w12, fR7_w12, cR8_w12, fR8_w12, cR9_w12, fR9_w12] <;> omega)⟩ trivial (fun _ _ _ _ => trivial) (by repeat' (first | (with_reducible exact HB.out) | (with_reducible refine BookAt.other ?_ ?_ _) | (simp <;> omega))) (fun _ _ h hb => h.below hb) (fun w13 K_w13 E_w13 F_w13 => ?_)
      have _ne : Nonempty (KX (w.heap.size) w (w3.heap.size + 1) [(w3.heap.size, 0, .int .i64 b2.n), (w3.heap.size, 1, .int .u64 b2.g), (w3.heap.size, 2, .int .i64 b2.s0), (w3.heap.size, 3, .bool b2.a0), (w3.heap.size, 4, .bool b2.h0), (w3.heap.size, 5, .int .u64 b2.t0), (w3.heap.size, 6, .int .i64 b2.s1), (w3.heap.size, 7, .bool b2.a1), (w3.heap.size, 8, .bool b2.h1), (w3.heap.size, 9, .int .u64 b2.t1)] (fun _ => True)) := ⟨⟨_, K_w13, E_w13⟩⟩
      repeat (go_big_quiet_step (fail))
      refine wpQuiet_nil ?_
      have rR0 : ∀ s : KX (w.heap.size) w (w3.heap.size + 1) [(w3.heap.size, 0, .int .i64 b2.n), (w3.heap.size, 1, .int .u64 b2.g), (w3.heap.size, 2, .int .i64 b2.s0), (w3.heap.size, 3, .bool b2.a0), (w3.heap.size, 4, .bool b2.h0), (w3.heap.size, 5, .int .u64 b2.t0), (w3.heap.size, 6, .int .i64 b2.s1), (w3.heap.size, 7, .bool b2.a1), (w3.heap.size, 8, .bool b2.h1), (w3.heap.size, 9, .int .u64 b2.t1)] (fun _ => True), s.val.cell? ⟨w3.heap.size, 0, none⟩ = some (.int .i64 b2.n) := fun s => s.kept.at (by simp)
      have rR1 : ∀ s : KX (w.heap.size) w (w3.heap.size + 1) [(w3.heap.size, 0, .int .i64 b2.n), (w3.heap.size, 1, .int .u64 b2.g), (w3.heap.size, 2, .int .i64 b2.s0), (w3.heap.size, 3, .bool b2.a0), (w3.heap.size, 4, .bool b2.h0), (w3.heap.size, 5, .int .u64 b2.t0), (w3.heap.size, 6, .int .i64 b2.s1), (w3.heap.size, 7, .bool b2.a1), (w3.heap.size, 8, .bool b2.h1), (w3.heap.size, 9, .int .u64 b2.t1)] (fun _ => True), s.val.cell? ⟨w3.heap.size, 1, none⟩ = some (.int .u64 b2.g) := fun s => s.kept.at (by simp)
      have rR2 : ∀ s : KX (w.heap.size) w (w3.heap.size + 1) [(w3.heap.size, 0, .int .i64 b2.n), (w3.heap.size, 1, .int .u64 b2.g), (w3.heap.size, 2, .int .i64 b2.s0), (w3.heap.size, 3, .bool b2.a0), (w3.heap.size, 4, .bool b2.h0), (w3.heap.size, 5, .int .u64 b2.t0), (w3.heap.size, 6, .int .i64 b2.s1), (w3.heap.size, 7, .bool b2.a1), (w3.heap.size, 8, .bool b2.h1), (w3.heap.size, 9, .int .u64 b2.t1)] (fun _ => True), s.val.cell? ⟨w3.heap.size, 2, none⟩ = some (.int .i64 b2.s0) := fun s => s.kept.at (by simp)
      have rR3 : ∀ s : KX (w.heap.size) w (w3.heap.size + 1) [(w3.heap.size, 0, .int .i64 b2.n), (w3.heap.size, 1, .int .u64 b2.g), (w3.heap.size, 2, .int .i64 b2.s0), (w3.heap.size, 3, .bool b2.a0), (w3.heap.size, 4, .bool b2.h0), (w3.heap.size, 5, .int .u64 b2.t0), (w3.heap.size, 6, .int .i64 b2.s1), (w3.heap.size, 7, .bool b2.a1), (w3.heap.size, 8, .bool b2.h1), (w3.heap.size, 9, .int .u64 b2.t1)] (fun _ => True), s.val.cell? ⟨w3.heap.size, 3, none⟩ = some (.bool b2.a0) := fun s => s.kept.at (by simp)
      have rR4 : ∀ s : KX (w.heap.size) w (w3.heap.size + 1) [(w3.heap.size, 0, .int .i64 b2.n), (w3.heap.size, 1, .int .u64 b2.g), (w3.heap.size, 2, .int .i64 b2.s0), (w3.heap.size, 3, .bool b2.a0), (w3.heap.size, 4, .bool b2.h0), (w3.heap.size, 5, .int .u64 b2.t0), (w3.heap.size, 6, .int .i64 b2.s1), (w3.heap.size, 7, .bool b2.a1), (w3.heap.size, 8, .bool b2.h1), (w3.heap.size, 9, .int .u64 b2.t1)] (fun _ => True), s.val.cell? ⟨w3.heap.size, 4, none⟩ = some (.bool b2.h0) := fun s => s.kept.at (by simp)
      have rR5 : ∀ s : KX (w.heap.size) w (w3.heap.size + 1) [(w3.heap.size, 0, .int .i64 b2.n), (w3.heap.size, 1, .int .u64 b2.g), (w3.heap.size, 2, .int .i64 b2.s0), (w3.heap.size, 3, .bool b2.a0), (w3.heap.size, 4, .bool b2.h0), (w3.heap.size, 5, .int .u64 b2.t0), (w3.heap.size, 6, .int .i64 b2.s1), (w3.heap.size, 7, .bool b2.a1), (w3.heap.size, 8, .bool b2.h1), (w3.heap.size, 9, .int .u64 b2.t1)] (fun _ => True), s.val.cell? ⟨w3.heap.size, 5, none⟩ = some (.int .u64 b2.t0) := fun s => s.kept.at (by simp)
      have rR6 : ∀ s : KX (w.heap.size) w (w3.heap.size + 1) [(w3.heap.size, 0, .int .i64 b2.n), (w3.heap.size, 1, .int .u64 b2.g), (w3.heap.size, 2, .int .i64 b2.s0), (w3.heap.size, 3, .bool b2.a0), (w3.heap.size, 4, .bool b2.h0), (w3.heap.size, 5, .int .u64 b2.t0), (w3.heap.size, 6, .int .i64 b2.s1), (w3.heap.size, 7, .bool b2.a1), (w3.heap.size, 8, .bool b2.h1), (w3.heap.size, 9, .int .u64 b2.t1)] (fun _ => True), s.val.cell? ⟨w3.heap.size, 6, none⟩ = some (.int .i64 b2.s1) := fun s => s.kept.at (by simp)
      have rR7 : ∀ s : KX (w.heap.size) w (w3.heap.size + 1) [(w3.heap.size, 0, .int .i64 b2.n), (w3.heap.size, 1, .int .u64 b2.g), (w3.heap.size, 2, .int .i64 b2.s0), (w3.heap.size, 3, .bool b2.a0), (w3.heap.size, 4, .bool b2.h0), (w3.heap.size, 5, .int .u64 b2.t0), (w3.heap.size, 6, .int .i64 b2.s1), (w3.heap.size, 7, .bool b2.a1), (w3.heap.size, 8, .bool b2.h1), (w3.heap.size, 9, .int .u64 b2.t1)] (fun _ => True), s.val.cell? ⟨w3.heap.size, 7, none⟩ = some (.bool b2.a1) := fun s => s.kept.at (by simp)
      have rR8 : ∀ s : KX (w.heap.size) w (w3.heap.size + 1) [(w3.heap.size, 0, .int .i64 b2.n), (w3.heap.size, 1, .int .u64 b2.g), (w3.heap.size, 2, .int .i64 b2.s0), (w3.heap.size, 3, .bool b2.a0), (w3.heap.size, 4, .bool b2.h0), (w3.heap.size, 5, .int .u64 b2.t0), (w3.heap.size, 6, .int .i64 b2.s1), (w3.heap.size, 7, .bool b2.a1), (w3.heap.size, 8, .bool b2.h1), (w3.heap.size, 9, .int .u64 b2.t1)] (fun _ => True), s.val.cell? ⟨w3.heap.size, 8, none⟩ = some (.bool b2.h1) := fun s => s.kept.at (by simp)
      have rR9 : ∀ s : KX (w.heap.size) w (w3.heap.size + 1) [(w3.heap.size, 0, .int .i64 b2.n), (w3.heap.size, 1, .int .u64 b2.g), (w3.heap.size, 2, .int .i64 b2.s0), (w3.heap.size, 3, .bool b2.a0), (w3.heap.size, 4, .bool b2.h0), (w3.heap.size, 5, .int .u64 b2.t0), (w3.heap.size, 6, .int .i64 b2.s1), (w3.heap.size, 7, .bool b2.a1), (w3.heap.size, 8, .bool b2.h1), (w3.heap.size, 9, .int .u64 b2.t1)] (fun _ => True), s.val.cell? ⟨w3.heap.size, 9, none⟩ = some (.int .u64 b2.t1) := fun s => s.kept.at (by simp)
      have rA0 : ∀ s : KX (w.heap.size) w (w3.heap.size + 1) [(w3.heap.size, 0, .int .i64 b2.n), (w3.heap.size, 1, .int .u64 b2.g), (w3.heap.size, 2, .int .i64 b2.s0), (w3.heap.size, 3, .bool b2.a0), (w3.heap.size, 4, .bool b2.h0), (w3.heap.size, 5, .int .u64 b2.t0), (w3.heap.size, 6, .int .i64 b2.s1), (w3.heap.size, 7, .bool b2.a1), (w3.heap.size, 8, .bool b2.h1), (w3.heap.size, 9, .int .u64 b2.t1)] (fun _ => True), s.val.cell? ⟨ba, off + k * 3, none⟩ = some (.int .i64 what) := fun s => (s.kept.below.cell (p := ⟨ba, off + k * 3, none⟩) hba).trans HC0.out
      have rA1 : ∀ s : KX (w.heap.size) w (w3.heap.size + 1) [(w3.heap.size, 0, .int .i64 b2.n), (w3.heap.size, 1, .int .u64 b2.g), (w3.heap.size, 2, .int .i64 b2.s0), (w3.heap.size, 3, .bool b2.a0), (w3.heap.size, 4, .bool b2.h0), (w3.heap.size, 5, .int .u64 b2.t0), (w3.heap.size, 6, .int .i64 b2.s1), (w3.heap.size, 7, .bool b2.a1), (w3.heap.size, 8, .bool b2.h1), (w3.heap.size, 9, .int .u64 b2.t1)] (fun _ => True), s.val.cell? ⟨ba, off + k * 3 + 1, none⟩ = some (.int .i64 p) := fun s => (s.kept.below.cell (p := ⟨ba, off + k * 3 + 1, none⟩) hba).trans HC1.out
      have rA2 : ∀ s : KX (w.heap.size) w (w3.heap.size + 1) [(w3.heap.size, 0, .int .i64 b2.n), (w3.heap.size, 1, .int .u64 b2.g), (w3.heap.size, 2, .int .i64 b2.s0), (w3.heap.size, 3, .bool b2.a0), (w3.heap.size, 4, .bool b2.h0), (w3.heap.size, 5, .int .u64 b2.t0), (w3.heap.size, 6, .int .i64 b2.s1), (w3.heap.size, 7, .bool b2.a1), (w3.heap.size, 8, .bool b2.h1), (w3.heap.size, 9, .int .u64 b2.t1)] (fun _ => True), s.val.cell? ⟨ba, off + k * 3 + 2, none⟩ = some (.int .u64 ta) := fun s => (s.kept.below.cell (p := ⟨ba, off + k * 3 + 2, none⟩) hba).trans HC2.out
      repeat (go_big_quiet_step (fail))
      refine wpQuiet_nil ?_
      clear rR0 rR1 rR2 rR3 rR4 rR5 rR6 rR7 rR8 rR9 rA0 rA1 rA2
      have KH_w13 := Lib.hid K_w13
      have hw_w13 := K_w13.below
      have hz_w13 := K_w13.size
      have lR_w13 : w3.heap.size < w13.heap.size := by omega
      clear lR_w12 cR0_w12 fR0_w12 cR1_w12 fR1_w12 cR2_w12 fR2_w12 cR3_w12 fR3_w12 cR4_w12 fR4_w12 cR5_w12 fR5_w12 cR6_w12 fR6_w12 cR7_w12 fR7_w12 cR8_w12 fR8_w12 cR9_w12 fR9_w12
      clear K_w13
      have HB := Lib.hid (F_w13)
      clear E_w13 F_w13
      refine ⟨fun K hK => ?_, trivial⟩
      go_wp2_with fail
      with_reducible refine (looks12 P2 b2 ta _ HB.out OK2.out).mono ?_
      rintro e w14 ⟨rfl, hb_w14⟩
      have K_w14 : Kept w.heap.size w (w3.heap.size + 1) [(w3.heap.size, 0, .int .i64 b2.n), (w3.heap.size, 1, .int .u64 b2.g), (w3.heap.size, 2, .int .i64 b2.s0), (w3.heap.size, 3, .bool b2.a0), (w3.heap.size, 4, .bool b2.h0), (w3.heap.size, 5, .int .u64 b2.t0), (w3.heap.size, 6, .int .i64 b2.s1), (w3.heap.size, 7, .bool b2.a1), (w3.heap.size, 8, .bool b2.h1), (w3.heap.size, 9, .int .u64 b2.t1)] w14 := (KH_w13.out.step (by omega) (by go_grown)).step (by omega) hb_w14
      replace HB := Lib.hid (HB.out.below hb_w14)
      clear hb_w14
      have KH_w14 := Lib.hid K_w14
      have hw_w14 := K_w14.below
      have hz_w14 := K_w14.size
      have lR_w14 : w3.heap.size < w14.heap.size := by omega
      clear lR_w13
      clear K_w14
      go_wp2_with fail
      first | (refine ⟨rfl, hK _ _ ?_⟩; clear hK K) | (refine hK _ _ ?_; clear hK K) | skip
      repeat (go_big_quiet_step (fail))
      refine wpQuiet_nil ?_
      clear _ne
      go_wp2_with fail
      go_roundw
      case rel => exact ⟨k + 1, P2, b2, by omega, by go_num, rfl, HB.out, OK2.out, hP3, hP4, KH_w14.out⟩
      case measure => simp [intOf]; omega
    · have ek : k = rows.length := by omega
      go_wp2_with fail
      with_reducible refine (known11 _).mono ?_
      rintro e w31 ⟨rfl, hb_w31⟩
      have K_w31 : Kept w.heap.size w (w3.heap.size + 1) [(w3.heap.size, 0, .int .i64 b.n), (w3.heap.size, 1, .int .u64 b.g), (w3.heap.size, 2, .int .i64 b.s0), (w3.heap.size, 3, .bool b.a0), (w3.heap.size, 4, .bool b.h0), (w3.heap.size, 5, .int .u64 b.t0), (w3.heap.size, 6, .int .i64 b.s1), (w3.heap.size, 7, .bool b.a1), (w3.heap.size, 8, .bool b.h1), (w3.heap.size, 9, .int .u64 b.t1)] w31 := (KH_wr.out.step (by omega) (by go_grown)).step (by omega) hb_w31
      clear hb_w31
      have KH_w31 := Lib.hid K_w31
      have hw_w31 := K_w31.below
      have hz_w31 := K_w31.size
      have lR_w31 : w3.heap.size < w31.heap.size := by omega
      clear K_w31
      go_wp2_with fail
      go_returns
      exact ⟨rfl, by go_grown⟩

end Go.Proofs.Ytobkgdhniibopaa
