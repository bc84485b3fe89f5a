/- Series: the loop. -/
import Derived.Test.YtnabpcgpheakfaaSerA
import Derived.Test.YtnabpcgpheakfaaOnl
namespace Go.Proofs.Ytnabpcgpheakfaa
open Go.RowKit Plain
set_option linter.unusedVariables false
set_option linter.unusedSimpArgs false

theorem match18c (a b f s x y : Int) (w : World) (ha : vB a = true) (hb : vB b = true) (hf : alB f s = true) (hx : a + chg a b f s = x) (hy : b - chg a b f s = y) : Calls Try.prog 18 #[.int .i64 a, .int .i64 b, .int .i64 f, .int .i64 s] w fun e w' => e = .returned (.tuple #[.int .i64 x, .int .i64 y, .int .i64 0]) ∧ w = w' := by
  subst hx hy
  exact match18 a b f s w ha hb hf
theorem rg19_12 {P : Program} {B n : Nat} {w0 : World} {L : List (Nat × Nat × Value)} {E F : World → Prop} {id : Nat} {Q : Exit → Act → World → Prop} {a : Act} {w : World} {o0 o1 o2 o3 o4 o5 o6 o7 o8 o9 o10 o11 o12 o13 o14 o15 o16 o17 o18 o19 o20 o21 o22 : Oper} (hm : P.follows .mixedOrders = true)
    (hB : (Region.noSelect [o0, o1, o2, o3, o4, o5, o6, o7, o8, o9, o10, o11, o12, o13, o14, o15, o16, o17, o18, o19, o20, o21, o22].toArray && Scr.ok .any [o0, o1, o2, o3, o4, o5, o6, o7, o8, o9, o10, o11, o12, o13, o14, o15, o16, o17, o18, o19, o20, o21, o22].toArray [2, 4, 7, 9, 14] [0, 1, 3, 5, 6, 8, 10, 11, 12, 13, 16, 17, 18, 19, 20, 21, 22] (.free 0 (.free 1 (.free 5 (.free 6 (.free 10 (.free 11 (.free 12 (.free 13 (.read 2 (.free 3 (.read 4 (.read 7 (.free 8 (.read 9 (.read 14 (.altc 15 (.free 16 (.free 17 (.free 18 (.free 19 (.free 20 (.free 21 (.free 22 .done))))))) .stop)))))))))))))))) true true [o0, o1, o2, o3, o4, o5, o6, o7, o8, o9, o10, o11, o12, o13, o14, o15, o16, o17, o18, o19, o20, o21, o22].toArray.size (Array.replicate [o0, o1, o2, o3, o4, o5, o6, o7, o8, o9, o10, o11, o12, o13, o14, o15, o16, o17, o18, o19, o20, o21, o22].toArray.size false)) = true)
    (k : Kept B w0 n L w) (he : E w) (hE : ∀ W W', E W → Below W.heap.size W W' → E W') (hf : F w) (hF : ∀ W W', F W → Below W.heap.size W W' → F W')
    (h : ∀ wk, Kept B w0 n L wk → E wk → F wk → wpQuiet P [o0, o1, o2, o3, o4, o5, o6, o7, o8, o9, o10, o11, o12, o13, o14, o15, o16, o17, o18, o19, o20, o21, o22].toArray (fun _ => True) (fun a0 => wpQuiet P [o0, o1, o2, o3, o4, o5, o6, o7, o8, o9, o10, o11, o12, o13, o14, o15, o16, o17, o18, o19, o20, o21, o22].toArray (fun w' => ∃ s : KX B w0 n L E, w' = s.val) (fun a1 => wpQuiet P [o0, o1, o2, o3, o4, o5, o6, o7, o8, o9, o10, o11, o12, o13, o14, o15, o16, o17, o18, o19, o20, o21, o22].toArray (fun _ => True) (fun a2 => wpQuiet P [o0, o1, o2, o3, o4, o5, o6, o7, o8, o9, o10, o11, o12, o13, o14, o15, o16, o17, o18, o19, o20, o21, o22].toArray (fun w' => ∃ s : KX B w0 n L E, w' = s.val) (fun a3 => wpQuiet P [o0, o1, o2, o3, o4, o5, o6, o7, o8, o9, o10, o11, o12, o13, o14, o15, o16, o17, o18, o19, o20, o21, o22].toArray (fun _ => True) (fun a4 => wpQuiet P [o0, o1, o2, o3, o4, o5, o6, o7, o8, o9, o10, o11, o12, o13, o14, o15, o16, o17, o18, o19, o20, o21, o22].toArray (fun w' => ∃ s : KX B w0 n L E, w' = s.val) (fun a5 => ((∀ K6 : Act → World → Prop, (∀ a6 w6, wpQuiet P [o0, o1, o2, o3, o4, o5, o6, o7, o8, o9, o10, o11, o12, o13, o14, o15, o16, o17, o18, o19, o20, o21, o22].toArray (fun _ => True) (fun a7 => Q .normal a7 w6) [o16, o17, o18, o19, o20, o21, o22] a6 → K6 a6 w6) → wpList P [o0, o1, o2, o3, o4, o5, o6, o7, o8, o9, o10, o11, o12, o13, o14, o15, o16, o17, o18, o19, o20, o21, o22].toArray (fun e a6 w6 => e = .normal ∧ K6 a6 w6) [o15] a5 wk) ∧ True)) [o9, o14] a4) [o8] a3) [o4, o7] a2) [o3] a1) [o2] a0) [o0, o1, o5, o6, o10, o11, o12, o13] a) : (Code.region id [o0, o1, o2, o3, o4, o5, o6, o7, o8, o9, o10, o11, o12, o13, o14, o15, o16, o17, o18, o19, o20, o21, o22].toArray true).wp P Q a w := by
  have e1 : E w.drew := hE _ _ he ((Below.refl _ _).drew)
  have g := h _ k.drew e1 (hF _ _ hf ((Below.refl _ _).drew))
  exact wp_region_scr (U := (fun w' => ∃ s : KX B w0 n L E, w' = s.val)) (ops := [o0, o1, o2, o3, o4, o5, o6, o7, o8, o9, o10, o11, o12, o13, o14, o15, o16, o17, o18, o19, o20, o21, o22].toArray) (.free 0 (.free 1 (.free 5 (.free 6 (.free 10 (.free 11 (.free 12 (.free 13 (.read 2 (.free 3 (.read 4 (.read 7 (.free 8 (.read 9 (.read 14 (.altc 15 (.free 16 (.free 17 (.free 18 (.free 19 (.free 20 (.free 21 (.free 22 .done))))))) .stop)))))))))))))))) [2, 4, 7, 9, 14] [0, 1, 3, 5, 6, 8, 10, 11, 12, 13, 16, 17, 18, 19, 20, 21, 22] hm hB ⟨⟨_, k.drew, e1⟩, rfl⟩ (Scr.of_free rfl g (fun _ g0 => Scr.of_free rfl g0 (fun _ g1 => Scr.of_free rfl g1 (fun _ g2 => Scr.of_free rfl g2 (fun _ g3 => Scr.of_free rfl g3 (fun _ g4 => Scr.of_free rfl g4 (fun _ g5 => Scr.of_free rfl g5 (fun _ g6 => Scr.of_free rfl g6 (fun _ g7 => Scr.of_read rfl g7 (fun _ g8 => Scr.of_free rfl g8 (fun _ g9 => Scr.of_read rfl g9 (fun _ g10 => Scr.of_read rfl g10 (fun _ g11 => Scr.of_free rfl g11 (fun _ g12 => Scr.of_read rfl g12 (fun _ g13 => Scr.of_read rfl g13 (fun _ g14 => (Scr.of_altc rfl (g14.1 _ (fun _ _ g => g)) (fun _ _ g15 => Scr.of_free rfl g15 (fun _ g16 => Scr.of_free rfl g16 (fun _ g17 => Scr.of_free rfl g17 (fun _ g18 => Scr.of_free rfl g18 (fun _ g19 => Scr.of_free rfl g19 (fun _ g20 => Scr.of_free rfl g20 (fun _ g21 => Scr.of_free rfl g21 (fun _ g22 => g22)))))))) trivial)))))))))))))))))

theorem rg19_15 {P : Program} {B n : Nat} {w0 : World} {L : List (Nat × Nat × Value)} {E F : World → Prop} {id : Nat} {Q : Exit → Act → World → Prop} {a : Act} {w : World} {o0 o1 o2 o3 o4 o5 o6 o7 o8 o9 o10 o11 : Oper} (hm : P.follows .mixedOrders = true)
    (hB : (Region.noSelect [o0, o1, o2, o3, o4, o5, o6, o7, o8, o9, o10, o11].toArray && Scr.ok .any [o0, o1, o2, o3, o4, o5, o6, o7, o8, o9, o10, o11].toArray [2, 5] [0, 1, 3, 4, 6, 7, 8, 10] (.free 0 (.free 1 (.free 3 (.free 4 (.free 6 (.free 7 (.read 2 (.free 8 (.read 5 (.alt 9 (.free 10 (.altc 11 .done .stop)) .stop)))))))))) true true [o0, o1, o2, o3, o4, o5, o6, o7, o8, o9, o10, o11].toArray.size (Array.replicate [o0, o1, o2, o3, o4, o5, o6, o7, o8, o9, o10, o11].toArray.size false)) = true)
    (k : Kept B w0 n L w) (he : E w) (hE : ∀ W W', E W → Below W.heap.size W W' → E W') (hf : F w) (hF : ∀ W W', F W → Below W.heap.size W W' → F W')
    (h : ∀ wk, Kept B w0 n L wk → E wk → F wk → wpQuiet P [o0, o1, o2, o3, o4, o5, o6, o7, o8, o9, o10, o11].toArray (fun _ => True) (fun a0 => wpQuiet P [o0, o1, o2, o3, o4, o5, o6, o7, o8, o9, o10, o11].toArray (fun w' => ∃ s : KX B w0 n L E, w' = s.val) (fun a1 => wpQuiet P [o0, o1, o2, o3, o4, o5, o6, o7, o8, o9, o10, o11].toArray (fun _ => True) (fun a2 => wpQuiet P [o0, o1, o2, o3, o4, o5, o6, o7, o8, o9, o10, o11].toArray (fun w' => ∃ s : KX B w0 n L E, w' = s.val) (fun a3 => ((∀ K4 : Act → World → Prop, (∀ a4 w4, wpQuiet P [o0, o1, o2, o3, o4, o5, o6, o7, o8, o9, o10, o11].toArray (fun _ => True) (fun a5 => ((∀ K6 : Act → World → Prop, (∀ a6 w6, Q .normal a6 w6 → K6 a6 w6) → wpList P [o0, o1, o2, o3, o4, o5, o6, o7, o8, o9, o10, o11].toArray (fun e a6 w6 => e = .normal ∧ K6 a6 w6) [o11] a5 w4) ∧ True)) [o10] a4 → K4 a4 w4) → wpList P [o0, o1, o2, o3, o4, o5, o6, o7, o8, o9, o10, o11].toArray (fun e a4 w4 => e = .normal ∧ (∃ s : KX B w0 n L E, w4 = s.val) ∧ K4 a4 w4) [o9] a3 wk) ∧ True)) [o5] a2) [o8] a1) [o2] a0) [o0, o1, o3, o4, o6, o7] a) : (Code.region id [o0, o1, o2, o3, o4, o5, o6, o7, o8, o9, o10, o11].toArray true).wp P Q a w := by
  have e1 : E w.drew := hE _ _ he ((Below.refl _ _).drew)
  have g := h _ k.drew e1 (hF _ _ hf ((Below.refl _ _).drew))
  exact wp_region_scr (U := (fun w' => ∃ s : KX B w0 n L E, w' = s.val)) (ops := [o0, o1, o2, o3, o4, o5, o6, o7, o8, o9, o10, o11].toArray) (.free 0 (.free 1 (.free 3 (.free 4 (.free 6 (.free 7 (.read 2 (.free 8 (.read 5 (.alt 9 (.free 10 (.altc 11 .done .stop)) .stop)))))))))) [2, 5] [0, 1, 3, 4, 6, 7, 8, 10] hm hB ⟨⟨_, k.drew, e1⟩, rfl⟩ (Scr.of_free rfl g (fun _ g0 => Scr.of_free rfl g0 (fun _ g1 => Scr.of_free rfl g1 (fun _ g2 => Scr.of_free rfl g2 (fun _ g3 => Scr.of_free rfl g3 (fun _ g4 => Scr.of_free rfl g4 (fun _ g5 => Scr.of_read rfl g5 (fun _ g6 => Scr.of_free rfl g6 (fun _ g7 => Scr.of_read rfl g7 (fun _ g8 => (Scr.of_alt rfl (g8.1 _ (fun _ _ g => g)) (fun _ _ g9 => Scr.of_free rfl g9 (fun _ g10 => (Scr.of_altc rfl (g10.1 _ (fun _ _ g => g)) (fun _ _ g11 => g11) trivial))) trivial)))))))))))

set_option maxRecDepth 100000 in
set_option maxHeartbeats 2000000 in
theorem series19_run (v gv sv : Value) (f : Int) (xs : List Int) (rows : List (List Int)) (scs : List Int) (w : World) (hs : Seg w .i64 v xs) (hg : SRow [.i64, .i64] w gv rows) (hc : Seg w .i64 sv scs) (h1 : xs.length ≤ 100) (h2 : rows.length ≤ 1000) (q : rows.length = scs.length) (h : rows.any (badR xs.length) = false) (h3 : fB f = true) (h4 : (xs.any fun z => !vB z) = false) : Calls Try.prog 19 #[v, .int .i64 f, gv, sv] w (SerAt w f xs rows scs) := by
  obtain ⟨m1, a1, c1, rfl, f1⟩ := seg_form hs
  obtain ⟨m2, a2, c2, rfl, f2⟩ := srow_form hg
  obtain ⟨m3, a3, c3, rfl, f3⟩ := seg_form hc
  have HSX := Lib.hid hs
  have HGX := Lib.hid hg
  have F2 := Lib.hid f2
  have F3 := Lib.hid f3
  clear hs hg hc f1 f2 f3

  have q1 : ((rows.length : Int) != (scs.length : Int)) = false := by simp [q]
  have HQ := Lib.hid q
  have HBAD := Lib.hid h
  have HV := Lib.hid h4
  have HF := Lib.hid h3
  have ⟨g1, g2⟩ : 1 ≤ f ∧ f ≤ 64 := by simpa [fB] using h3
  clear q h3
  go_enter Try.func19, Try.ntmps19
  go_wp2_with fail
  with_reducible refine (contains24 _ rows xs.length c1 w.heap.size (w.heap.size + 1) a1 _ (by simp) (by simp; omega) (by simp) (by simp) (by exact HGX.out.below (by go_grown))).mono ?_
  rintro e w1 ⟨rfl, hb_w1⟩
  have K_w1 : Kept w.heap.size w (w.heap.size + 2) [(w.heap.size, 0, .slice a1 xs.length c1), (w.heap.size + 1, 0, .func (.func 23) #[] #[.pointer (some ⟨w.heap.size, 0, none⟩)])] w1 := Kept.of hb_w1 (by go_grown) (by go_size) (by omega) (by simp [go_sem] <;> omega)
  clear hb_w1
  have KH_w1 := Lib.hid K_w1
  have hw_w1 := K_w1.below
  have hz_w1 := K_w1.size
  have lS_w1 : w.heap.size < w1.heap.size := by omega
  have cS0_w1 := K_w1.at (b := w.heap.size) (o := 0) (v := .slice a1 xs.length c1) (by simp)
  have fS0_w1 := K_w1.free (b := w.heap.size) (o := 0) (v := .slice a1 xs.length c1) (by simp)
  have lF_w1 : w.heap.size + 1 < w1.heap.size := by omega
  have cF0_w1 := K_w1.at (b := w.heap.size + 1) (o := 0) (v := .func (.func 23) #[] #[.pointer (some ⟨w.heap.size, 0, none⟩)]) (by simp)
  have fF0_w1 := K_w1.free (b := w.heap.size + 1) (o := 0) (v := .func (.func 23) #[] #[.pointer (some ⟨w.heap.size, 0, none⟩)]) (by simp)
  clear K_w1
  go_wp2_with fail
  with_reducible refine (contains26 _ xs _ (by exact HSX.out.below (by go_grown))).mono ?_
  rintro e w2 ⟨rfl, hb_w2⟩
  have K_w2 : Kept w.heap.size w (w.heap.size + 2) [(w.heap.size, 0, .slice a1 xs.length c1), (w.heap.size + 1, 0, .func (.func 23) #[] #[.pointer (some ⟨w.heap.size, 0, none⟩)])] w2 := (KH_w1.out.step (by omega) (by go_grown)).step (by omega) hb_w2
  clear hb_w2
  have KH_w2 := Lib.hid K_w2
  have hw_w2 := K_w2.below
  have hz_w2 := K_w2.size
  have lS_w2 : w.heap.size < w2.heap.size := by omega
  have cS0_w2 := K_w2.at (b := w.heap.size) (o := 0) (v := .slice a1 xs.length c1) (by simp)
  have fS0_w2 := K_w2.free (b := w.heap.size) (o := 0) (v := .slice a1 xs.length c1) (by simp)
  have lF_w2 : w.heap.size + 1 < w2.heap.size := by omega
  have cF0_w2 := K_w2.at (b := w.heap.size + 1) (o := 0) (v := .func (.func 23) #[] #[.pointer (some ⟨w.heap.size, 0, none⟩)]) (by simp)
  have fF0_w2 := K_w2.free (b := w.heap.size + 1) (o := 0) (v := .func (.func 23) #[] #[.pointer (some ⟨w.heap.size, 0, none⟩)]) (by simp)
  clear lS_w1 cS0_w1 fS0_w1 lF_w1 cF0_w1 fF0_w1
  clear K_w2
  go_wp2_with fail
  with_reducible refine (clone28 _ xs _ (by exact HSX.out.below (by go_grown)) (by omega)).mono ?_
  rintro e w3 ⟨ov, rfl, hov, hb_w3⟩
  have K_w3 : Kept w.heap.size w (w.heap.size + 2) [(w.heap.size, 0, .slice a1 xs.length c1), (w.heap.size + 1, 0, .func (.func 23) #[] #[.pointer (some ⟨w.heap.size, 0, none⟩)])] w3 := (KH_w2.out.step (by omega) (by go_grown)).step (by omega) hb_w3
  clear hb_w3
  have KH_w3 := Lib.hid K_w3
  have hw_w3 := K_w3.below
  have hz_w3 := K_w3.size
  have lS_w3 : w.heap.size < w3.heap.size := by omega
  have cS0_w3 := K_w3.at (b := w.heap.size) (o := 0) (v := .slice a1 xs.length c1) (by simp)
  have fS0_w3 := K_w3.free (b := w.heap.size) (o := 0) (v := .slice a1 xs.length c1) (by simp)
  have lF_w3 : w.heap.size + 1 < w3.heap.size := by omega
  have cF0_w3 := K_w3.at (b := w.heap.size + 1) (o := 0) (v := .func (.func 23) #[] #[.pointer (some ⟨w.heap.size, 0, none⟩)]) (by simp)
  have fF0_w3 := K_w3.free (b := w.heap.size + 1) (o := 0) (v := .func (.func 23) #[] #[.pointer (some ⟨w.heap.size, 0, none⟩)]) (by simp)
  clear lS_w2 cS0_w2 fS0_w2 lF_w2 cF0_w2 fF0_w2
  clear K_w3
  replace hov := Lib.hid hov
  obtain ⟨hx0, rfl⟩ | ⟨g, cap, ex, rfl, hgb0, hgm, hgi⟩ := hov.out
  · have hr0 : rows = [] := by
      match rows, HBAD.out with
      | [], _ => rfl
      | r :: _, h => simp [badR, dB, inB, hx0] at h; omega
    have hs0 : scs = [] := by have := HQ.out; rw [hr0] at this; exact List.eq_nil_of_length_eq_zero this.symm
    have hfin : Hid (SerAt w f xs rows scs (.returned (.tuple #[.slice none 0 0, .int .i64 0])) w3) := Lib.hid ⟨.inl ⟨by rw [hs0]; rfl, _, rfl, .inl ⟨by rw [hr0]; exact hx0, rfl⟩⟩, hw_w3⟩
    have hn0 : ¬ (0 : Int) < (rows.length : Int) := by rw [hr0]; simp
    have hn1 : decide ((0 : Int) < (rows.length : Int)) = false := by simpa using hn0
    clear hx0 hr0 hs0 hov
    go_wp2_with fail
    refine wp_loop_rounds 1 ?_
    rw [rounds_succ]
    go_wp2_with fail
    exact bodyPost_ret (v := .tuple #[.slice none 0 0, .int .i64 0]) (by simp [results, Try.results19, go_sem]) rfl hfin.out
  · have hgb : w.heap.size ≤ g := by have := hz_w2; omega
    have HG := Lib.hid hgi
    clear hgi hov
    go_wp2_with fail
    go_loopw [53] (fun i wr => SerRel w f xs rows scs g ex i wr) (fun i _ => rows.length - (intOf i).toNat)
    case atStart => exact ⟨0, Nat.zero_le _, rfl, by simp, HG.out, hw_w3⟩
    case round =>
      obtain ⟨k, hk, rfl, htk, hi, hb⟩ := hrel
      have HT := Lib.hid htk
      have HI := Lib.hid hi
      have hgl := hi.lt
      have hzr := hb.size
      clear htk hi HG KH_w1 KH_w2 KH_w3 hw_w1 hw_w2 hw_w3 hz_w1 hz_w2 hz_w3 lS_w3 cS0_w3 fS0_w3 lF_w3 cF0_w3 fF0_w3
      by_cases hlt : k < rows.length
      · obtain ⟨b2, o2, rfl, hb2, hc2⟩ := F2.out (by omega)
        obtain ⟨b3, o3, rfl, hb3, hc3⟩ := F3.out (by have := HQ.out; omega)
        obtain ⟨r, hr⟩ : ∃ r, rows[k]? = some r := ⟨rows[k], List.getElem?_eq_getElem hlt⟩
        obtain ⟨hrl, hcl⟩ := hc2 k r hr
        obtain ⟨x, y, rfl⟩ : ∃ x y, r = [x, y] := by
          match r, hrl with
          | [x, y], _ => exact ⟨x, y, rfl⟩
        have hnb : dB xs.length x y = false := by
          have h0 := HBAD.out
          rw [List.any_eq_false] at h0
          have h1 := h0 _ (List.mem_of_getElem? hr)
          simpa [badR] using h1
        obtain ⟨A, B, rfl, rfl, hA, hB, hAB⟩ := notbad hnb
        have hks : k < scs.length := by have := HQ.out; omega
        obtain ⟨sc, hs⟩ : ∃ sc, scs[k]? = some sc := ⟨scs[k], List.getElem?_eq_getElem hks⟩
        have hpl := plK_len f xs rows scs k
        obtain ⟨X, hX⟩ : ∃ X, (plK f xs rows scs k)[A]? = some X := ⟨_, List.getElem?_eq_getElem (by omega)⟩
        obtain ⟨Y, hY⟩ : ∃ Y, (plK f xs rows scs k)[B]? = some Y := ⟨_, List.getElem?_eq_getElem (by omega)⟩
        have VX := Lib.hid (plK_v f xs rows scs HV.out k A X hX)
        have VY := Lib.hid (plK_v f xs rows scs HV.out k B Y hY)
        have HP : Hid (plK f xs rows scs (k + 1) = ((plK f xs rows scs k).set A (X + chg X Y f sc)).set B (Y - chg X Y f sc)) := Lib.hid (by
          simp [plK, st1, List.getD_eq_getElem?_getD, hr, hs, hX, hY])
        have e1 := (hb.cell (p := ⟨b2, o2 + k * 2, none⟩) hb2).trans (hcl 0 _ _ rfl rfl).1
        have e2 := (hb.cell (p := ⟨b2, o2 + k * 2 + 1, none⟩) hb2).trans (hcl 1 _ _ rfl rfl).1
        have e3 := Lib.hid (hc3 k sc hs)
        obtain ⟨ps, hps⟩ : ∃ ps, ps = plK f xs rows scs k := ⟨_, rfl⟩
        rw [← hps] at hX hY hpl HP HI
        have HX := Lib.hid hX
        have HY := Lib.hid hY
        have hpA : A < ps.length := by omega
        have hpB : B < ps.length := by omega
        have i1 : (0 : Int) ≤ (k : Int) := by omega
        have i2 : (k : Int) < (rows.length : Int) := by omega
        have i3 : (k : Int) < (scs.length : Int) := by omega
        have i4 : (A : Int) < (xs.length : Int) := by omega
        have i5 : (B : Int) < (xs.length : Int) := by omega
        have i6 : (0 : Int) ≤ (A : Int) := by omega
        have i7 : (0 : Int) ≤ (B : Int) := by omega
        have HZ := Lib.hid hs
        have hBA : B ≠ A := Ne.symm hAB
        clear hc2 hr hcl hnb hs hX hY hc3 hps hpl hrl
        obtain ⟨X2, hX2⟩ : ∃ X2, X + chg X Y f sc = X2 := ⟨_, rfl⟩
        obtain ⟨Y2, hY2⟩ : ∃ Y2, Y - chg X Y f sc = Y2 := ⟨_, rfl⟩
        rw [hX2, hY2] at HP
        have HX2 := Lib.hid hX2
        have HY2 := Lib.hid hY2
        clear hX2 hY2
        cases hv : sB sc
        · have ef : Hid (scs.any (fun s => !sB s) = true) := Lib.hid (any_hit HZ.out (by simp [hv]))
          have HN : Hid ((vB X && vB Y && alB f sc) = false) := Lib.hid (by rw [alB_of, hv]; simp)
          clear hv
          go_wp2_with fail
          refine rg19_12 (w0 := w) (B := w.heap.size) (n := wr.heap.size + 1) (L := [(wr.heap.size, 0, .int .i64 A), (wr.heap.size, 1, .int .i64 B)]) (E := fun W => IAt W g ps ex) (F := fun _ => True) (by kernel_rfl) (by kernel_rfl) ⟨by go_grown, by go_size, (by simp [go_sem] <;> omega)⟩ (HI.out.below (by go_grown)) (fun _ _ h hb => h.below hb) trivial (fun _ _ _ _ => trivial) (fun w5 K_w5 E_w5 F_w5 => ?_)
          have _ne : Nonempty (KX (w.heap.size) w (wr.heap.size + 1) [(wr.heap.size, 0, .int .i64 A), (wr.heap.size, 1, .int .i64 B)] (fun W => IAt W g ps ex)) := ⟨⟨_, K_w5, E_w5⟩⟩
          repeat (go_big_quiet_step (fail))
          refine wpQuiet_nil ?_
          have rD0 : ∀ s : KX (w.heap.size) w (wr.heap.size + 1) [(wr.heap.size, 0, .int .i64 A), (wr.heap.size, 1, .int .i64 B)] (fun W => IAt W g ps ex), s.val.cell? ⟨wr.heap.size, 0, none⟩ = some (.int .i64 A) := fun s => s.kept.at (by simp)
          have rD1 : ∀ s : KX (w.heap.size) w (wr.heap.size + 1) [(wr.heap.size, 0, .int .i64 A), (wr.heap.size, 1, .int .i64 B)] (fun W => IAt W g ps ex), s.val.cell? ⟨wr.heap.size, 1, none⟩ = some (.int .i64 B) := fun s => s.kept.at (by simp)
          have rX : ∀ s : KX (w.heap.size) w (wr.heap.size + 1) [(wr.heap.size, 0, .int .i64 A), (wr.heap.size, 1, .int .i64 B)] (fun W => IAt W g ps ex), s.val.cell? ⟨g, A, none⟩ = some (.int .i64 X) := fun s => s.ex.cell HX.out
          have rY : ∀ s : KX (w.heap.size) w (wr.heap.size + 1) [(wr.heap.size, 0, .int .i64 A), (wr.heap.size, 1, .int .i64 B)] (fun W => IAt W g ps ex), s.val.cell? ⟨g, B, none⟩ = some (.int .i64 Y) := fun s => s.ex.cell HY.out
          have rS : ∀ s : KX (w.heap.size) w (wr.heap.size + 1) [(wr.heap.size, 0, .int .i64 A), (wr.heap.size, 1, .int .i64 B)] (fun W => IAt W g ps ex), s.val.cell? ⟨b3, o3 + k, none⟩ = some (.int .i64 sc) := fun s => (s.kept.below.cell (p := ⟨b3, o3 + k, none⟩) hb3).trans e3.out
          repeat (go_big_quiet_step (fail))
          refine wpQuiet_nil ?_
          clear rD0 rD1 rX rY rS
          repeat (go_big_quiet_step (fail))
          refine wpQuiet_nil ?_
          have rD0 : ∀ s : KX (w.heap.size) w (wr.heap.size + 1) [(wr.heap.size, 0, .int .i64 A), (wr.heap.size, 1, .int .i64 B)] (fun W => IAt W g ps ex), s.val.cell? ⟨wr.heap.size, 0, none⟩ = some (.int .i64 A) := fun s => s.kept.at (by simp)
          have rD1 : ∀ s : KX (w.heap.size) w (wr.heap.size + 1) [(wr.heap.size, 0, .int .i64 A), (wr.heap.size, 1, .int .i64 B)] (fun W => IAt W g ps ex), s.val.cell? ⟨wr.heap.size, 1, none⟩ = some (.int .i64 B) := fun s => s.kept.at (by simp)
          have rX : ∀ s : KX (w.heap.size) w (wr.heap.size + 1) [(wr.heap.size, 0, .int .i64 A), (wr.heap.size, 1, .int .i64 B)] (fun W => IAt W g ps ex), s.val.cell? ⟨g, A, none⟩ = some (.int .i64 X) := fun s => s.ex.cell HX.out
          have rY : ∀ s : KX (w.heap.size) w (wr.heap.size + 1) [(wr.heap.size, 0, .int .i64 A), (wr.heap.size, 1, .int .i64 B)] (fun W => IAt W g ps ex), s.val.cell? ⟨g, B, none⟩ = some (.int .i64 Y) := fun s => s.ex.cell HY.out
          have rS : ∀ s : KX (w.heap.size) w (wr.heap.size + 1) [(wr.heap.size, 0, .int .i64 A), (wr.heap.size, 1, .int .i64 B)] (fun W => IAt W g ps ex), s.val.cell? ⟨b3, o3 + k, none⟩ = some (.int .i64 sc) := fun s => (s.kept.below.cell (p := ⟨b3, o3 + k, none⟩) hb3).trans e3.out
          repeat (go_big_quiet_step (fail))
          refine wpQuiet_nil ?_
          clear rD0 rD1 rX rY rS
          repeat (go_big_quiet_step (fail))
          refine wpQuiet_nil ?_
          have rD0 : ∀ s : KX (w.heap.size) w (wr.heap.size + 1) [(wr.heap.size, 0, .int .i64 A), (wr.heap.size, 1, .int .i64 B)] (fun W => IAt W g ps ex), s.val.cell? ⟨wr.heap.size, 0, none⟩ = some (.int .i64 A) := fun s => s.kept.at (by simp)
          have rD1 : ∀ s : KX (w.heap.size) w (wr.heap.size + 1) [(wr.heap.size, 0, .int .i64 A), (wr.heap.size, 1, .int .i64 B)] (fun W => IAt W g ps ex), s.val.cell? ⟨wr.heap.size, 1, none⟩ = some (.int .i64 B) := fun s => s.kept.at (by simp)
          have rX : ∀ s : KX (w.heap.size) w (wr.heap.size + 1) [(wr.heap.size, 0, .int .i64 A), (wr.heap.size, 1, .int .i64 B)] (fun W => IAt W g ps ex), s.val.cell? ⟨g, A, none⟩ = some (.int .i64 X) := fun s => s.ex.cell HX.out
          have rY : ∀ s : KX (w.heap.size) w (wr.heap.size + 1) [(wr.heap.size, 0, .int .i64 A), (wr.heap.size, 1, .int .i64 B)] (fun W => IAt W g ps ex), s.val.cell? ⟨g, B, none⟩ = some (.int .i64 Y) := fun s => s.ex.cell HY.out
          have rS : ∀ s : KX (w.heap.size) w (wr.heap.size + 1) [(wr.heap.size, 0, .int .i64 A), (wr.heap.size, 1, .int .i64 B)] (fun W => IAt W g ps ex), s.val.cell? ⟨b3, o3 + k, none⟩ = some (.int .i64 sc) := fun s => (s.kept.below.cell (p := ⟨b3, o3 + k, none⟩) hb3).trans e3.out
          repeat (go_big_quiet_step (fail))
          refine wpQuiet_nil ?_
          clear rD0 rD1 rX rY rS
          have KH_w5 := Lib.hid K_w5
          have hw_w5 := K_w5.below
          have hz_w5 := K_w5.size
          have lD_w5 : wr.heap.size < w5.heap.size := by omega
          clear K_w5
          have HI := Lib.hid E_w5
          clear E_w5 F_w5
          refine ⟨fun K hK0 => ?_, trivial⟩
          have hK := Lib.hid hK0
          clear hK0
          go_wp2_with fail
          with_reducible refine (match18_no X Y f sc _ HN.out).mono ?_
          rintro e w' ⟨rfl, rfl⟩
          go_wp2_with fail
          first | (refine ⟨rfl, hK.out _ _ ?_⟩; clear hK K) | (refine hK.out _ _ ?_; clear hK K)
          repeat (go_big_quiet_step (fail))
          refine wpQuiet_nil ?_
          clear _ne
          go_wp2_with fail
          exact bodyPost_ret (v := .tuple #[.slice none 0 0, .int .i64 3]) (by simp [results, Try.results19, go_sem]) rfl ⟨.inr ⟨ef.out, rfl⟩, by go_grown⟩
        · have ht2 := Lib.hid (any_next HT.out HZ.out (by simp [hv]))
          have HL : Hid (alB f sc = true) := Lib.hid (by rw [alB_of, hv, HF.out]; rfl)
          clear hv
          go_wp2_with fail
          refine rg19_12 (w0 := w) (B := w.heap.size) (n := wr.heap.size + 1) (L := [(wr.heap.size, 0, .int .i64 A), (wr.heap.size, 1, .int .i64 B)]) (E := fun W => IAt W g ps ex) (F := fun _ => True) (by kernel_rfl) (by kernel_rfl) ⟨by go_grown, by go_size, (by simp [go_sem] <;> omega)⟩ (HI.out.below (by go_grown)) (fun _ _ h hb => h.below hb) trivial (fun _ _ _ _ => trivial) (fun w5 K_w5 E_w5 F_w5 => ?_)
          have _ne : Nonempty (KX (w.heap.size) w (wr.heap.size + 1) [(wr.heap.size, 0, .int .i64 A), (wr.heap.size, 1, .int .i64 B)] (fun W => IAt W g ps ex)) := ⟨⟨_, K_w5, E_w5⟩⟩
          repeat (go_big_quiet_step (fail))
          refine wpQuiet_nil ?_
          have rD0 : ∀ s : KX (w.heap.size) w (wr.heap.size + 1) [(wr.heap.size, 0, .int .i64 A), (wr.heap.size, 1, .int .i64 B)] (fun W => IAt W g ps ex), s.val.cell? ⟨wr.heap.size, 0, none⟩ = some (.int .i64 A) := fun s => s.kept.at (by simp)
          have rD1 : ∀ s : KX (w.heap.size) w (wr.heap.size + 1) [(wr.heap.size, 0, .int .i64 A), (wr.heap.size, 1, .int .i64 B)] (fun W => IAt W g ps ex), s.val.cell? ⟨wr.heap.size, 1, none⟩ = some (.int .i64 B) := fun s => s.kept.at (by simp)
          have rX : ∀ s : KX (w.heap.size) w (wr.heap.size + 1) [(wr.heap.size, 0, .int .i64 A), (wr.heap.size, 1, .int .i64 B)] (fun W => IAt W g ps ex), s.val.cell? ⟨g, A, none⟩ = some (.int .i64 X) := fun s => s.ex.cell HX.out
          have rY : ∀ s : KX (w.heap.size) w (wr.heap.size + 1) [(wr.heap.size, 0, .int .i64 A), (wr.heap.size, 1, .int .i64 B)] (fun W => IAt W g ps ex), s.val.cell? ⟨g, B, none⟩ = some (.int .i64 Y) := fun s => s.ex.cell HY.out
          have rS : ∀ s : KX (w.heap.size) w (wr.heap.size + 1) [(wr.heap.size, 0, .int .i64 A), (wr.heap.size, 1, .int .i64 B)] (fun W => IAt W g ps ex), s.val.cell? ⟨b3, o3 + k, none⟩ = some (.int .i64 sc) := fun s => (s.kept.below.cell (p := ⟨b3, o3 + k, none⟩) hb3).trans e3.out
          repeat (go_big_quiet_step (fail))
          refine wpQuiet_nil ?_
          clear rD0 rD1 rX rY rS
          repeat (go_big_quiet_step (fail))
          refine wpQuiet_nil ?_
          have rD0 : ∀ s : KX (w.heap.size) w (wr.heap.size + 1) [(wr.heap.size, 0, .int .i64 A), (wr.heap.size, 1, .int .i64 B)] (fun W => IAt W g ps ex), s.val.cell? ⟨wr.heap.size, 0, none⟩ = some (.int .i64 A) := fun s => s.kept.at (by simp)
          have rD1 : ∀ s : KX (w.heap.size) w (wr.heap.size + 1) [(wr.heap.size, 0, .int .i64 A), (wr.heap.size, 1, .int .i64 B)] (fun W => IAt W g ps ex), s.val.cell? ⟨wr.heap.size, 1, none⟩ = some (.int .i64 B) := fun s => s.kept.at (by simp)
          have rX : ∀ s : KX (w.heap.size) w (wr.heap.size + 1) [(wr.heap.size, 0, .int .i64 A), (wr.heap.size, 1, .int .i64 B)] (fun W => IAt W g ps ex), s.val.cell? ⟨g, A, none⟩ = some (.int .i64 X) := fun s => s.ex.cell HX.out
          have rY : ∀ s : KX (w.heap.size) w (wr.heap.size + 1) [(wr.heap.size, 0, .int .i64 A), (wr.heap.size, 1, .int .i64 B)] (fun W => IAt W g ps ex), s.val.cell? ⟨g, B, none⟩ = some (.int .i64 Y) := fun s => s.ex.cell HY.out
          have rS : ∀ s : KX (w.heap.size) w (wr.heap.size + 1) [(wr.heap.size, 0, .int .i64 A), (wr.heap.size, 1, .int .i64 B)] (fun W => IAt W g ps ex), s.val.cell? ⟨b3, o3 + k, none⟩ = some (.int .i64 sc) := fun s => (s.kept.below.cell (p := ⟨b3, o3 + k, none⟩) hb3).trans e3.out
          repeat (go_big_quiet_step (fail))
          refine wpQuiet_nil ?_
          clear rD0 rD1 rX rY rS
          repeat (go_big_quiet_step (fail))
          refine wpQuiet_nil ?_
          have rD0 : ∀ s : KX (w.heap.size) w (wr.heap.size + 1) [(wr.heap.size, 0, .int .i64 A), (wr.heap.size, 1, .int .i64 B)] (fun W => IAt W g ps ex), s.val.cell? ⟨wr.heap.size, 0, none⟩ = some (.int .i64 A) := fun s => s.kept.at (by simp)
          have rD1 : ∀ s : KX (w.heap.size) w (wr.heap.size + 1) [(wr.heap.size, 0, .int .i64 A), (wr.heap.size, 1, .int .i64 B)] (fun W => IAt W g ps ex), s.val.cell? ⟨wr.heap.size, 1, none⟩ = some (.int .i64 B) := fun s => s.kept.at (by simp)
          have rX : ∀ s : KX (w.heap.size) w (wr.heap.size + 1) [(wr.heap.size, 0, .int .i64 A), (wr.heap.size, 1, .int .i64 B)] (fun W => IAt W g ps ex), s.val.cell? ⟨g, A, none⟩ = some (.int .i64 X) := fun s => s.ex.cell HX.out
          have rY : ∀ s : KX (w.heap.size) w (wr.heap.size + 1) [(wr.heap.size, 0, .int .i64 A), (wr.heap.size, 1, .int .i64 B)] (fun W => IAt W g ps ex), s.val.cell? ⟨g, B, none⟩ = some (.int .i64 Y) := fun s => s.ex.cell HY.out
          have rS : ∀ s : KX (w.heap.size) w (wr.heap.size + 1) [(wr.heap.size, 0, .int .i64 A), (wr.heap.size, 1, .int .i64 B)] (fun W => IAt W g ps ex), s.val.cell? ⟨b3, o3 + k, none⟩ = some (.int .i64 sc) := fun s => (s.kept.below.cell (p := ⟨b3, o3 + k, none⟩) hb3).trans e3.out
          repeat (go_big_quiet_step (fail))
          refine wpQuiet_nil ?_
          clear rD0 rD1 rX rY rS
          have KH_w5 := Lib.hid K_w5
          have hw_w5 := K_w5.below
          have hz_w5 := K_w5.size
          have lD_w5 : wr.heap.size < w5.heap.size := by omega
          clear K_w5
          have HI := Lib.hid E_w5
          clear E_w5 F_w5
          refine ⟨fun K hK0 => ?_, trivial⟩
          have hK := Lib.hid hK0
          clear hK0
          go_wp2_with fail
          with_reducible refine (match18c X Y f sc X2 Y2 _ VX.out VY.out HL.out HX2.out HY2.out).mono ?_
          rintro e w' ⟨rfl, rfl⟩
          go_wp2_with fail
          first | (refine ⟨rfl, hK.out _ _ ?_⟩; clear hK K) | (refine hK.out _ _ ?_; clear hK K)
          repeat (go_big_quiet_step (fail))
          refine wpQuiet_nil ?_
          clear _ne
          go_wp2_with fail
          refine rg19_15 (w0 := w) (B := w.heap.size) (n := wr.heap.size + 1) (L := [(wr.heap.size, 0, .int .i64 A), (wr.heap.size, 1, .int .i64 B)]) (E := fun _ => True) (F := fun W => IAt W g ps ex) (by kernel_rfl) (by kernel_rfl) (KH_w5.out.step (by omega) (by go_grown)) trivial (fun _ _ _ _ => trivial) (HI.out.below (by go_grown)) (fun _ _ h hb => h.below hb) (fun w6 K_w6 E_w6 F_w6 => ?_)
          have _ne : Nonempty (KX (w.heap.size) w (wr.heap.size + 1) [(wr.heap.size, 0, .int .i64 A), (wr.heap.size, 1, .int .i64 B)] (fun _ => True)) := ⟨⟨_, K_w6, E_w6⟩⟩
          repeat (go_big_quiet_step (fail))
          refine wpQuiet_nil ?_
          have rD0 : ∀ s : KX (w.heap.size) w (wr.heap.size + 1) [(wr.heap.size, 0, .int .i64 A), (wr.heap.size, 1, .int .i64 B)] (fun _ => True), s.val.cell? ⟨wr.heap.size, 0, none⟩ = some (.int .i64 A) := fun s => s.kept.at (by simp)
          have rD1 : ∀ s : KX (w.heap.size) w (wr.heap.size + 1) [(wr.heap.size, 0, .int .i64 A), (wr.heap.size, 1, .int .i64 B)] (fun _ => True), s.val.cell? ⟨wr.heap.size, 1, none⟩ = some (.int .i64 B) := fun s => s.kept.at (by simp)
          repeat (go_big_quiet_step (fail))
          refine wpQuiet_nil ?_
          clear rD0 rD1
          repeat (go_big_quiet_step (fail))
          refine wpQuiet_nil ?_
          have rD0 : ∀ s : KX (w.heap.size) w (wr.heap.size + 1) [(wr.heap.size, 0, .int .i64 A), (wr.heap.size, 1, .int .i64 B)] (fun _ => True), s.val.cell? ⟨wr.heap.size, 0, none⟩ = some (.int .i64 A) := fun s => s.kept.at (by simp)
          have rD1 : ∀ s : KX (w.heap.size) w (wr.heap.size + 1) [(wr.heap.size, 0, .int .i64 A), (wr.heap.size, 1, .int .i64 B)] (fun _ => True), s.val.cell? ⟨wr.heap.size, 1, none⟩ = some (.int .i64 B) := fun s => s.kept.at (by simp)
          repeat (go_big_quiet_step (fail))
          refine wpQuiet_nil ?_
          clear rD0 rD1
          have KH_w6 := Lib.hid K_w6
          have hw_w6 := K_w6.below
          have hz_w6 := K_w6.size
          have lD_w6 : wr.heap.size < w6.heap.size := by omega
          clear lD_w5
          clear K_w6
          have HI := Lib.hid (F_w6)
          clear E_w6 F_w6
          refine ⟨fun K hK0 => ?_, trivial⟩
          have hK := Lib.hid hK0
          clear hK0
          have kx := HI.out.cell HX.out
          have ky := HI.out.cell HY.out
          have fx := HI.out.free A
          have fy := HI.out.free B
          go_wp2_with fail
          first | (refine ⟨rfl, ⟨⟨_, KH_w6.out.onl (S := [g]) ((Onl.refl _ _).setCell (.inl (by simp)) _) (by omega) (by simp; omega) (by simp; omega), trivial⟩, rfl⟩, hK.out _ _ ?_⟩; clear hK K) | (refine ⟨⟨⟨_, KH_w6.out.onl (S := [g]) ((Onl.refl _ _).setCell (.inl (by simp)) _) (by omega) (by simp; omega) (by simp; omega), trivial⟩, rfl⟩, hK.out _ _ ?_⟩; clear hK K)
          repeat (go_big_quiet_step (fail))
          refine wpQuiet_nil ?_
          refine ⟨fun K hK0 => ?_, trivial⟩
          have hK := Lib.hid hK0
          clear hK0
          go_wp2_with fail
          first | (refine ⟨rfl, hK.out _ _ ?_⟩; clear hK K) | (refine hK.out _ _ ?_; clear hK K)
          clear _ne
          go_wp2_with fail
          go_roundw
          case rel => exact ⟨k + 1, by omega, by go_num, ht2.out, by rw [HP.out]; exact (HI.out.set A _ hpA).set B _ (by simpa using hpB), (KH_w6.out.below.setCell (by simpa using hgb) _).setCell (by simpa using hgb) _⟩
          case measure => simp [intOf]; omega

      · have ef : Hid (scs.any (fun s => !sB s) = false) := Lib.hid (by
          have h1 := HT.out
          rw [List.take_of_length_le (by have := HQ.out; omega)] at h1
          exact h1)
        have ek : k = rows.length := by omega
        have HE : Hid (IAt wr g (plK f xs rows scs rows.length) ex) := Lib.hid (by rw [← ek]; exact HI.out)
        have hl2 : (plK f xs rows scs rows.length).length = xs.length := plK_len f xs rows scs rows.length
        have HL2 := Lib.hid hl2
        have hn1 : decide ((k : Int) < (rows.length : Int)) = false := by simp; omega
        clear ek hl2
        go_wp2_with fail
        exact bodyPost_ret (v := .tuple #[.slice (some ⟨g, 0, none⟩) xs.length cap, .int .i64 0]) (by simp [results, Try.results19, go_sem]) rfl ⟨.inl ⟨ef.out, _, rfl, .inr ⟨g, cap, ex, by rw [HL2.out], hgb, by rw [HL2.out]; exact hgm, HE.out⟩⟩, hb⟩
end Go.Proofs.Ytnabpcgpheakfaa
