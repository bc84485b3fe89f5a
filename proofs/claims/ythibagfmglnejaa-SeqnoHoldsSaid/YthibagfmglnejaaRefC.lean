/- The reference's window: Accept. -/
import Derived.Test.YthibagfmglnejaaRefP
import Derived.Deep.LoopGhost
import Derived.Deep.DeepCutAuto
import Derived.Deep.Onto
namespace Go.Proofs.Ythibagfmglnejaa
open Go.RowKit Plain
set_option linter.unusedVariables false
set_option linter.unusedSimpArgs false

theorem hasN_true {l : List Bool} {d : Nat} (h : hasN l d = true) (h1 : d < 32768) : l[d]? = some true := by
  unfold hasN at h
  rw [List.getD_eq_getElem?_getD] at h
  cases h2 : l[d]? with
  | none => rw [h2] at h; simp at h; omega
  | some b => rw [h2] at h; simp at h; rw [show b = true by rcases h with h | h; omega; exact h]
theorem RepR.dec2 {f n : Int} {l : List Bool} {zs : List Int} {d : Nat} (h : RepR f l zs) (hf : U16 f) (hn : U16 n) (hd : dist f n = (d : Int)) : decide (n ∈ zs) = l.getD d false := by
  rw [List.getD_eq_getElem?_getD]
  cases h2 : l[d]? with
  | none =>
    simp
    intro hm
    obtain ⟨e, h3, h4⟩ := (h n hn).1 hm
    have : e = d := by omega
    subst this
    rw [h2] at h4; simp at h4
  | some b =>
    cases b with
    | true => simpa using (h n hn).2 ⟨d, hd, h2⟩
    | false =>
      simp
      intro hm
      obtain ⟨e, h3, h4⟩ := (h n hn).1 hm
      have : e = d := by omega
      subst this
      rw [h2] at h4; simp at h4
set_option maxRecDepth 100000 in
set_option maxHeartbeats 2000000 in
theorem accept24_stale (f S n : Int) (d : Nat) (l : List Bool) (v : Value) (zs : List Int) (w : World) (hf : U16 f) (hn : U16 n) (hl : l.length ≤ 1024) (hS : S = (l.length : Int)) (X : List Nat) (hX : ∀ x ∈ X, x < w.heap.size) (hs : SegX w .u16 v zs X) (hm : zs.length ≤ 1000) (hr : RepR f l zs) (h0 : l[0]? = some false) (hd : dist f n = (d : Int)) (hv : hasN l d = true) : Calls Try.prog 24 #[.agg #[.int .u16 f, .int .i64 S, v], .int .u16 n] w fun e w' => e = .returned (.tuple #[.agg #[.int .u16 f, .int .i64 S, v], .int .i64 13]) ∧ Below w.heap.size w w' := by
  have HX0 := Lib.hid hX
  clear hX
  have HSX := Lib.hid hs
  have HS := Lib.hid hs.seg
  have HR := Lib.hid hr
  have H0 := Lib.hid h0
  have HD := Lib.hid hd
  have d0 := (dist_bd f n).2
  rw [hd] at d0
  obtain ⟨m1, a1, c1, rfl, _⟩ := seg_form hs.seg
  subst hS
  clear hs hr h0 hd
  have HV := Lib.hid hv
  clear hv
  by_cases h1 : 32768 ≤ d
  · have q1 : (32768 : Int) ≤ (d : Int) := by omega
    go_enter Try.func24, Try.ntmps24
    go_wp2_with fail
    with_reducible refine (dist12c f n d _ hf hn HD.out).mono ?_
    rintro e w' ⟨rfl, rfl⟩
    go_wp2_with fail
    exact bodyPost_ret (v := .tuple #[.agg #[.int .u16 f, .int .i64 (l.length : Int), .slice a1 zs.length c1], .int .i64 13]) (by simp [results, Try.results24, go_sem]) rfl ⟨rfl, by go_grown⟩
  · have q1 : decide ((32768 : Int) ≤ (d : Int)) = false := by simp; omega
    have HWT : Hid (decide (n ∈ zs) = true) := Lib.hid (by rw [HR.out.dec2 hf hn HD.out, List.getD_eq_getElem?_getD, hasN_true HV.out (by omega)]; rfl)
    go_enter Try.func24, Try.ntmps24
    go_wp2_with fail
    with_reducible refine (dist12c f n d _ hf hn HD.out).mono ?_
    rintro e w' ⟨rfl, rfl⟩
    go_wp2_with fail
    with_reducible refine (waits30c f (l.length : Int) n _ zs true _ (HS.out.below (by go_grown)) HWT.out).mono ?_
    rintro e w1 ⟨rfl, hb_w1⟩
    have K_w1 : Kept w.heap.size w (w.heap.size + 2) [(w.heap.size, 0, .int .u16 f), (w.heap.size, 1, .int .i64 (l.length : Int)), (w.heap.size, 2, .slice a1 zs.length c1), (w.heap.size + 1, 0, .int .u16 0), (w.heap.size + 1, 1, .int .i64 0), (w.heap.size + 1, 2, .slice none 0 0)] w1 := Kept.of hb_w1 (by go_grown) (by go_size) (by omega) (by simp [go_sem] <;> omega)
    clear hb_w1
    have KH_w1 := Lib.hid K_w1
    have hw_w1 := K_w1.below
    have hz_w1 := K_w1.size
    have lB_w1 : w.heap.size < w1.heap.size := by omega
    have cB0_w1 := K_w1.at (b := w.heap.size) (o := 0) (v := .int .u16 f) (by simp)
    have fB0_w1 := K_w1.free (b := w.heap.size) (o := 0) (v := .int .u16 f) (by simp)
    have cB1_w1 := K_w1.at (b := w.heap.size) (o := 1) (v := .int .i64 (l.length : Int)) (by simp)
    have fB1_w1 := K_w1.free (b := w.heap.size) (o := 1) (v := .int .i64 (l.length : Int)) (by simp)
    have cB2_w1 := K_w1.at (b := w.heap.size) (o := 2) (v := .slice a1 zs.length c1) (by simp)
    have fB2_w1 := K_w1.free (b := w.heap.size) (o := 2) (v := .slice a1 zs.length c1) (by simp)
    have lR_w1 : w.heap.size + 1 < w1.heap.size := by omega
    have cR0_w1 := K_w1.at (b := w.heap.size + 1) (o := 0) (v := .int .u16 0) (by simp)
    have fR0_w1 := K_w1.free (b := w.heap.size + 1) (o := 0) (v := .int .u16 0) (by simp)
    have cR1_w1 := K_w1.at (b := w.heap.size + 1) (o := 1) (v := .int .i64 0) (by simp)
    have fR1_w1 := K_w1.free (b := w.heap.size + 1) (o := 1) (v := .int .i64 0) (by simp)
    have cR2_w1 := K_w1.at (b := w.heap.size + 1) (o := 2) (v := .slice none 0 0) (by simp)
    have fR2_w1 := K_w1.free (b := w.heap.size + 1) (o := 2) (v := .slice none 0 0) (by simp)
    clear K_w1
    go_wp2_with fail
    exact bodyPost_ret (v := .tuple #[.agg #[.int .u16 f, .int .i64 (l.length : Int), .slice a1 zs.length c1], .int .i64 13]) (by simp [results, Try.results24, go_sem, lB_w1, cB0_w1, fB0_w1, cB1_w1, fB1_w1, cB2_w1, fB2_w1, lR_w1, cR0_w1, fR0_w1, cR1_w1, fR1_w1, cR2_w1, fR2_w1]) rfl ⟨rfl, by go_grown⟩

set_option maxRecDepth 100000 in
set_option maxHeartbeats 2000000 in
theorem accept24_range (f S n : Int) (d : Nat) (l : List Bool) (v : Value) (zs : List Int) (w : World) (hf : U16 f) (hn : U16 n) (hl : l.length ≤ 1024) (hS : S = (l.length : Int)) (X : List Nat) (hX : ∀ x ∈ X, x < w.heap.size) (hs : SegX w .u16 v zs X) (hm : zs.length ≤ 1000) (hr : RepR f l zs) (h0 : l[0]? = some false) (hd : dist f n = (d : Int)) (hv : hasN l d = false) (hdl : l.length ≤ d) : Calls Try.prog 24 #[.agg #[.int .u16 f, .int .i64 S, v], .int .u16 n] w fun e w' => e = .returned (.tuple #[.agg #[.int .u16 f, .int .i64 S, v], .int .i64 3]) ∧ Below w.heap.size w w' := by
  have HX0 := Lib.hid hX
  clear hX
  have HSX := Lib.hid hs
  have HS := Lib.hid hs.seg
  have HR := Lib.hid hr
  have H0 := Lib.hid h0
  have HD := Lib.hid hd
  have d0 := (dist_bd f n).2
  rw [hd] at d0
  obtain ⟨m1, a1, c1, rfl, _⟩ := seg_form hs.seg
  subst hS
  clear hs hr h0 hd
  have q1 : decide ((32768 : Int) ≤ (d : Int)) = false := by
    simp [hasN] at hv
    simp; omega
  have q2 : decide ((l.length : Int) ≤ (d : Int)) = true := by simp; omega
  have HWT : Hid (decide (n ∈ zs) = false) := Lib.hid (by rw [HR.out.dec2 hf hn HD.out]; simp [hasN] at hv; simpa using hv.2)
  clear hv
  go_enter Try.func24, Try.ntmps24
  go_wp2_with fail
  with_reducible refine (dist12c f n d _ hf hn HD.out).mono ?_
  rintro e w' ⟨rfl, rfl⟩
  go_wp2_with fail
  with_reducible refine (waits30c f (l.length : Int) n _ zs false _ (HS.out.below (by go_grown)) HWT.out).mono ?_
  rintro e w1 ⟨rfl, hb_w1⟩
  have K_w1 : Kept w.heap.size w (w.heap.size + 2) [(w.heap.size, 0, .int .u16 f), (w.heap.size, 1, .int .i64 (l.length : Int)), (w.heap.size, 2, .slice a1 zs.length c1), (w.heap.size + 1, 0, .int .u16 0), (w.heap.size + 1, 1, .int .i64 0), (w.heap.size + 1, 2, .slice none 0 0)] w1 := Kept.of hb_w1 (by go_grown) (by go_size) (by omega) (by simp [go_sem] <;> omega)
  clear hb_w1
  have KH_w1 := Lib.hid K_w1
  have hw_w1 := K_w1.below
  have hz_w1 := K_w1.size
  have lB_w1 : w.heap.size < w1.heap.size := by omega
  have cB0_w1 := K_w1.at (b := w.heap.size) (o := 0) (v := .int .u16 f) (by simp)
  have fB0_w1 := K_w1.free (b := w.heap.size) (o := 0) (v := .int .u16 f) (by simp)
  have cB1_w1 := K_w1.at (b := w.heap.size) (o := 1) (v := .int .i64 (l.length : Int)) (by simp)
  have fB1_w1 := K_w1.free (b := w.heap.size) (o := 1) (v := .int .i64 (l.length : Int)) (by simp)
  have cB2_w1 := K_w1.at (b := w.heap.size) (o := 2) (v := .slice a1 zs.length c1) (by simp)
  have fB2_w1 := K_w1.free (b := w.heap.size) (o := 2) (v := .slice a1 zs.length c1) (by simp)
  have lR_w1 : w.heap.size + 1 < w1.heap.size := by omega
  have cR0_w1 := K_w1.at (b := w.heap.size + 1) (o := 0) (v := .int .u16 0) (by simp)
  have fR0_w1 := K_w1.free (b := w.heap.size + 1) (o := 0) (v := .int .u16 0) (by simp)
  have cR1_w1 := K_w1.at (b := w.heap.size + 1) (o := 1) (v := .int .i64 0) (by simp)
  have fR1_w1 := K_w1.free (b := w.heap.size + 1) (o := 1) (v := .int .i64 0) (by simp)
  have cR2_w1 := K_w1.at (b := w.heap.size + 1) (o := 2) (v := .slice none 0 0) (by simp)
  have fR2_w1 := K_w1.free (b := w.heap.size + 1) (o := 2) (v := .slice none 0 0) (by simp)
  clear K_w1
  go_wp2_with fail
  exact bodyPost_ret (v := .tuple #[.agg #[.int .u16 f, .int .i64 (l.length : Int), .slice a1 zs.length c1], .int .i64 3]) (by simp [results, Try.results24, go_sem, lB_w1, cB0_w1, fB0_w1, cB1_w1, fB1_w1, cB2_w1, fB2_w1, lR_w1, cR0_w1, fR0_w1, cR1_w1, fR1_w1, cR2_w1, fR2_w1]) rfl ⟨rfl, by go_grown⟩

set_option maxRecDepth 100000 in
set_option maxHeartbeats 2000000 in
theorem accept24_add (f S n : Int) (d : Nat) (l : List Bool) (v : Value) (zs : List Int) (w : World) (hf : U16 f) (hn : U16 n) (hl : l.length ≤ 1024) (hS : S = (l.length : Int)) (X : List Nat) (hX : ∀ x ∈ X, x < w.heap.size) (hs : SegX w .u16 v zs X) (hm : zs.length ≤ 1000) (hr : RepR f l zs) (h0 : l[0]? = some false) (hd : dist f n = (d : Int)) (hv : hasN l d = false) (hd1 : 1 ≤ d) (hdl : d < l.length) : Calls Try.prog 24 #[.agg #[.int .u16 f, .int .i64 S, v], .int .u16 n] w (AccAt w (accF f l d) S (accL l d) 0 (zs.length + 1) X) := by
  obtain ⟨i0, hi, hz0, hz1, hz2⟩ := info_parts info22
  have HX0 := Lib.hid hX
  clear hX
  have HSX := Lib.hid hs
  have HS := Lib.hid hs.seg
  have HR := Lib.hid hr
  have H0 := Lib.hid h0
  have HD := Lib.hid hd
  have d0 := (dist_bd f n).2
  rw [hd] at d0
  obtain ⟨m1, a1, c1, rfl, _⟩ := seg_form hs.seg
  subst hS
  clear hs hr h0 hd
  have q1 : decide ((32768 : Int) ≤ (d : Int)) = false := by
    simp [hasN] at hv
    simp; omega
  have q2 : decide ((l.length : Int) ≤ (d : Int)) = false := by simp; omega
  have q2' : decide (l.length ≤ d) = false := by simp; omega
  have q3' : 0 < d := by omega
  have q3 : (0 : Int) < (d : Int) := by omega
  have HF : Hid (accF f l d = f) := Lib.hid (accF_set f l d hf hd1 H0.out)
  have HE : Hid (RepR (accF f l d) (accL l d) (zs ++ [n])) := Lib.hid (rep_add HR.out hf hn H0.out HD.out hd1 hdl)
  have HWT : Hid (decide (n ∈ zs) = false) := Lib.hid (by rw [HR.out.dec2 hf hn HD.out]; simp [hasN] at hv; simpa using hv.2)
  clear hv
  go_enter Try.func24, Try.ntmps24
  go_wp2_with fail
  with_reducible refine (dist12c f n d _ hf hn HD.out).mono ?_
  rintro e w' ⟨rfl, rfl⟩
  go_wp2_with fail
  with_reducible refine (waits30c f (l.length : Int) n _ zs false _ (HS.out.below (by go_grown)) HWT.out).mono ?_
  rintro e w1 ⟨rfl, hb_w1⟩
  have K_w1 : Kept w.heap.size w (w.heap.size + 2) [(w.heap.size, 0, .int .u16 f), (w.heap.size, 1, .int .i64 (l.length : Int)), (w.heap.size, 2, .slice a1 zs.length c1), (w.heap.size + 1, 0, .int .u16 0), (w.heap.size + 1, 1, .int .i64 0), (w.heap.size + 1, 2, .slice none 0 0)] w1 := Kept.of hb_w1 (by go_grown) (by go_size) (by omega) (by simp [go_sem] <;> omega)
  clear hb_w1
  have KH_w1 := Lib.hid K_w1
  have hw_w1 := K_w1.below
  have hz_w1 := K_w1.size
  have lB_w1 : w.heap.size < w1.heap.size := by omega
  have cB0_w1 := K_w1.at (b := w.heap.size) (o := 0) (v := .int .u16 f) (by simp)
  have fB0_w1 := K_w1.free (b := w.heap.size) (o := 0) (v := .int .u16 f) (by simp)
  have cB1_w1 := K_w1.at (b := w.heap.size) (o := 1) (v := .int .i64 (l.length : Int)) (by simp)
  have fB1_w1 := K_w1.free (b := w.heap.size) (o := 1) (v := .int .i64 (l.length : Int)) (by simp)
  have cB2_w1 := K_w1.at (b := w.heap.size) (o := 2) (v := .slice a1 zs.length c1) (by simp)
  have fB2_w1 := K_w1.free (b := w.heap.size) (o := 2) (v := .slice a1 zs.length c1) (by simp)
  have lR_w1 : w.heap.size + 1 < w1.heap.size := by omega
  have cR0_w1 := K_w1.at (b := w.heap.size + 1) (o := 0) (v := .int .u16 0) (by simp)
  have fR0_w1 := K_w1.free (b := w.heap.size + 1) (o := 0) (v := .int .u16 0) (by simp)
  have cR1_w1 := K_w1.at (b := w.heap.size + 1) (o := 1) (v := .int .i64 0) (by simp)
  have fR1_w1 := K_w1.free (b := w.heap.size + 1) (o := 1) (v := .int .i64 0) (by simp)
  have cR2_w1 := K_w1.at (b := w.heap.size + 1) (o := 2) (v := .slice none 0 0) (by simp)
  have fR2_w1 := K_w1.free (b := w.heap.size + 1) (o := 2) (v := .slice none 0 0) (by simp)
  clear K_w1
  go_wp2_with (at_builtin; first | (refine wpList_copy_owns rfl (.const (.slice none 0 0)) (.tmp 27) 33 rfl 22 i0 .u16 2 Try.underlying33 hi hz0 hz1 hz2 rfl _ zs rfl (HS.out.below (by go_grown)) (by omega) (by unfold maxLen; omega) ?_; intro v3 w3 hown3 hb3; have hzz := hb3.size) | (refine wpList_append_own _ rfl (.tmp 28) (.tmp 30) 33 rfl w1.heap.size 22 i0 (.int .u16 0) 1 2 Try.underlying33 hi hz0 hz1 hz2 rfl (by decide) _ _ _ rfl (hown3.alloc _) ⟨w3.heap.size, 0, none⟩ 1 1 [.int .u16 n] rfl rfl ?c1 ?c2 ?c3 ?c4 ?c5 ?_))
  case c1 => exact cell_one_new _ _ _
  case c2 => simp [Value.oneCell']
  case c3 => unfold maxLen; omega
  case c4 => omega
  case c5 => simp; omega
  intro v4 w4 hown4 hgrow _
  have hb_w4 : Below w1.heap.size w1 w4 := (hb3.alloc hb3.size _).grown hgrow (by simp; omega) (fun k hk => (hown3.lt k hk).1)
  have HO4 : Hid (w4.ownsRow w1.heap.size 22 1 v4 (zs ++ [n]).length ((zs ++ [n]).map (Value.int .u16))) := Lib.hid (by simpa using hown4)
  clear hown3 hown4 hgrow hb3 hzz
  obtain ⟨a4, c4, rfl⟩ := owns_form HO4.out
  have K_w4 : Kept w.heap.size w (w.heap.size + 2) [(w.heap.size, 0, .int .u16 f), (w.heap.size, 1, .int .i64 (l.length : Int)), (w.heap.size, 2, .slice a1 zs.length c1), (w.heap.size + 1, 0, .int .u16 0), (w.heap.size + 1, 1, .int .i64 0), (w.heap.size + 1, 2, .slice none 0 0)] w4 := (KH_w1.out.step (by omega) (by go_grown)).step (by omega) hb_w4
  have KH_w4 := Lib.hid K_w4
  clear hb_w4
  have hw_w4 := K_w4.below
  have hz_w4 := K_w4.size
  have lB_w4 : w.heap.size < w4.heap.size := by omega
  have cB0_w4 := K_w4.at (b := w.heap.size) (o := 0) (v := .int .u16 f) (by simp)
  have fB0_w4 := K_w4.free (b := w.heap.size) (o := 0) (v := .int .u16 f) (by simp)
  have cB1_w4 := K_w4.at (b := w.heap.size) (o := 1) (v := .int .i64 (l.length : Int)) (by simp)
  have fB1_w4 := K_w4.free (b := w.heap.size) (o := 1) (v := .int .i64 (l.length : Int)) (by simp)
  have cB2_w4 := K_w4.at (b := w.heap.size) (o := 2) (v := .slice a1 zs.length c1) (by simp)
  have fB2_w4 := K_w4.free (b := w.heap.size) (o := 2) (v := .slice a1 zs.length c1) (by simp)
  have lR_w4 : w.heap.size + 1 < w4.heap.size := by omega
  have cR0_w4 := K_w4.at (b := w.heap.size + 1) (o := 0) (v := .int .u16 0) (by simp)
  have fR0_w4 := K_w4.free (b := w.heap.size + 1) (o := 0) (v := .int .u16 0) (by simp)
  have cR1_w4 := K_w4.at (b := w.heap.size + 1) (o := 1) (v := .int .i64 0) (by simp)
  have fR1_w4 := K_w4.free (b := w.heap.size + 1) (o := 1) (v := .int .i64 0) (by simp)
  have cR2_w4 := K_w4.at (b := w.heap.size + 1) (o := 2) (v := .slice none 0 0) (by simp)
  have fR2_w4 := K_w4.free (b := w.heap.size + 1) (o := 2) (v := .slice none 0 0) (by simp)
  clear lB_w1 cB0_w1 fB0_w1 cB1_w1 fB1_w1 cB2_w1 fB2_w1 lR_w1 cR0_w1 fR0_w1 cR1_w1 fR1_w1 cR2_w1 fR2_w1
  clear K_w4
  go_wp2_with fail
  exact bodyPost_ret (v := .tuple #[.agg #[.int .u16 f, .int .i64 (l.length : Int), .slice a4 (zs ++ [n]).length c4], .int .i64 0]) (by simp [results, Try.results24, go_sem, lB_w4, cB0_w4, fB0_w4, cB1_w4, fB1_w4, cB2_w4, fB2_w4, lR_w4, cR0_w4, fR0_w4, cR1_w4, fR1_w4, cR2_w4, fR2_w4]) rfl ⟨a4, c4, zs ++ [n], by rw [HF.out], SegX.of_owns (base := w1.heap.size) (ownsRow_setCell_below (ownsRow_setCell_below (ownsRow_setCell_below (ownsRow_setCell_below HO4.out (by simp; omega) _) (by simp; omega) _) (by simp; omega) _) (by simp; omega) _) (by unfold maxLen; simp; omega) (fun x hx => by have := HX0.out x hx; omega), HE.out, by simp, by go_grown⟩

end Go.Proofs.Ythibagfmglnejaa
