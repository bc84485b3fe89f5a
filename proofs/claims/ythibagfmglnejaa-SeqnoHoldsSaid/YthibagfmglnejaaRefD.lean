/- The reference's window: Accept of the first number. -/
import Derived.Test.YthibagfmglnejaaRefC
import Derived.Deep.LoopGhost
import Derived.Deep.DeepCutAuto
namespace Go.Proofs.Ythibagfmglnejaa
open Go.RowKit Plain
set_option linter.unusedVariables false
set_option linter.unusedSimpArgs false

theorem set0 {l : List Bool} (h : 0 < l.length) : ∀ j, j ≤ 0 → (l.set 0 true)[j]? = some true := by
  intro j hj
  obtain rfl : j = 0 := by omega
  exact List.getElem?_set_self h
theorem at5_nxt (f : Int) : nxt f = at5 f 1 := by unfold nxt at5; simp
def LpRel (w : World) (X : List Nat) (f : Int) (l : List Bool) (zs0 : List Int) (g : Nat) (wr : World) : Prop := ∃ (t : Nat) (a2 : Option Addr) (c2 : Nat) (ys : List Int), g = l.length - t ∧ t < l.length ∧ (∀ j, j ≤ t → (l.set 0 true)[j]? = some true) ∧ RepT f l t ys ∧ ys.length ≤ zs0.length ∧ SegX wr .u16 (.slice a2 ys.length c2) ys (w.heap.size :: (w.heap.size + 1) :: X) ∧
  Kept w.heap.size w (w.heap.size + 2) [(w.heap.size, 0, .int .u16 (at5 f (t + 1))), (w.heap.size, 1, .int .i64 (l.length : Int)), (w.heap.size, 2, .slice a2 ys.length c2), (w.heap.size + 1, 0, .int .u16 0), (w.heap.size + 1, 1, .int .i64 0), (w.heap.size + 1, 2, .slice none 0 0)] wr
set_option maxRecDepth 100000 in
set_option maxHeartbeats 2000000 in
theorem accept24_zero (f S n : Int) (l : List Bool) (v : Value) (zs : List Int) (w : World) (hf : U16 f) (hn : U16 n) (hl : l.length ≤ 1024) (hS : S = (l.length : Int)) (X : List Nat) (hX : ∀ x ∈ X, x < w.heap.size) (hs : SegX w .u16 v zs X) (hm : zs.length ≤ 1000) (hr : RepR f l zs) (h0 : l[0]? = some false) (hd : dist f n = ((0 : Nat) : Int)) (hl1 : 0 < l.length) : Calls Try.prog 24 #[.agg #[.int .u16 f, .int .i64 S, v], .int .u16 n] w (AccAt w (accF f l 0) S (accL l 0) 0 zs.length X) := by
  have HX0 := Lib.hid hX
  clear hX
  have HSX := Lib.hid hs
  have HS := Lib.hid hs.seg
  have HR := Lib.hid hr
  have H0 := Lib.hid h0
  have HD := Lib.hid hd
  have d0 := (dist_bd f n).2
  rw [hd] at d0
  obtain ⟨m1, a1, c1, rfl, _⟩ := seg_form hs.seg
  subst hS
  clear hs hr h0 hd
  have HWT : Hid (decide (n ∈ zs) = false) := Lib.hid (by rw [HR.out.dec2 hf hn HD.out, List.getD_eq_getElem?_getD, H0.out]; rfl)
  have hpl : l ≠ [] := by intro e; rw [e] at hl1; simp at hl1
  have q1 : decide ((l.length : Int) ≤ 0) = false := by simpa using hpl
  have q1' : decide (l.length ≤ 0) = false := by simpa using hpl
  have q1'' : decide (l = []) = false := by simpa using hpl
  go_enter Try.func24, Try.ntmps24
  go_wp2_with fail
  with_reducible refine (dist12c f n 0 _ hf hn (by simpa using HD.out)).mono ?_
  rintro e w' ⟨rfl, rfl⟩
  go_wp2_with fail
  with_reducible refine (waits30c f (l.length : Int) n _ zs false _ (HS.out.below (by go_grown)) HWT.out).mono ?_
  rintro e w1 ⟨rfl, hb_w1⟩
  have K_w1 : Kept w.heap.size w (w.heap.size + 2) [(w.heap.size, 0, .int .u16 f), (w.heap.size, 1, .int .i64 (l.length : Int)), (w.heap.size, 2, .slice a1 zs.length c1), (w.heap.size + 1, 0, .int .u16 0), (w.heap.size + 1, 1, .int .i64 0), (w.heap.size + 1, 2, .slice none 0 0)] w1 := Kept.of hb_w1 (by go_grown) (by go_size) (by omega) (by simp [go_sem] <;> omega)
  clear hb_w1
  have KH_w1 := Lib.hid K_w1
  have hw_w1 := K_w1.below
  have hz_w1 := K_w1.size
  have lB_w1 : w.heap.size < w1.heap.size := by omega
  have cB0_w1 := K_w1.at (b := w.heap.size) (o := 0) (v := .int .u16 f) (by simp)
  have fB0_w1 := K_w1.free (b := w.heap.size) (o := 0) (v := .int .u16 f) (by simp)
  have cB1_w1 := K_w1.at (b := w.heap.size) (o := 1) (v := .int .i64 (l.length : Int)) (by simp)
  have fB1_w1 := K_w1.free (b := w.heap.size) (o := 1) (v := .int .i64 (l.length : Int)) (by simp)
  have cB2_w1 := K_w1.at (b := w.heap.size) (o := 2) (v := .slice a1 zs.length c1) (by simp)
  have fB2_w1 := K_w1.free (b := w.heap.size) (o := 2) (v := .slice a1 zs.length c1) (by simp)
  have lR_w1 : w.heap.size + 1 < w1.heap.size := by omega
  have cR0_w1 := K_w1.at (b := w.heap.size + 1) (o := 0) (v := .int .u16 0) (by simp)
  have fR0_w1 := K_w1.free (b := w.heap.size + 1) (o := 0) (v := .int .u16 0) (by simp)
  have cR1_w1 := K_w1.at (b := w.heap.size + 1) (o := 1) (v := .int .i64 0) (by simp)
  have fR1_w1 := K_w1.free (b := w.heap.size + 1) (o := 1) (v := .int .i64 0) (by simp)
  have cR2_w1 := K_w1.at (b := w.heap.size + 1) (o := 2) (v := .slice none 0 0) (by simp)
  have fR2_w1 := K_w1.free (b := w.heap.size + 1) (o := 2) (v := .slice none 0 0) (by simp)
  clear K_w1
  go_wp2_with fail
  with_reducible refine (next10 f _ hf).mono ?_
  rintro e w' ⟨rfl, rfl⟩
  go_wp2_with fail
  go_loopg [] l.length (fun g wr => LpRel w X f l zs g wr)
  case atStart => exact ⟨0, a1, c1, zs, rfl, hl1, set0 hl1, repT_zero HR.out H0.out, Nat.le_refl _, (HSX.out.more.below (by go_grown)).set (by simp) _, ⟨by go_grown, by go_size, (by simp [go_sem, at5_nxt, lB_w1, cB0_w1, fB0_w1, cB1_w1, fB1_w1, cB2_w1, fB2_w1, lR_w1, cR0_w1, fR0_w1, cR1_w1, fR1_w1, cR2_w1, fR2_w1] <;> omega)⟩⟩
  case round =>
    obtain ⟨t, a2, c2, ys, rfl, ht, hj, hrt, hyl, hx, hK⟩ := hrel
    have HJ := Lib.hid hj
    have HT := Lib.hid hrt
    have HX := Lib.hid hx
    have KH_wr := Lib.hid hK
    have hw_wr := hK.below
    have hz_wr := hK.size
    clear hj hrt hx hK
    cases hb : l.getD (t + 1) false with
    | true =>
        have ht2 := Lib.hid (set_true hb)
        have HW : Hid (decide (at5 f (t + 1) ∈ ys) = true) := Lib.hid ((repT_dec HT.out hf (by omega)).trans hb)
        have HN := Lib.hid (repT_next HT.out hf (by omega))
        have HJ2 : Hid (∀ j, j ≤ t + 1 → (l.set 0 true)[j]? = some true) := Lib.hid (fun j hj => by
          rcases Nat.lt_or_ge j (t + 1) with h1 | h1
          · exact HJ.out j (by omega)
          · have : j = t + 1 := by omega
            subst this
            exact ht2.out.1)
        clear hb
        have cB0_wr := KH_wr.out.at (b := w.heap.size) (o := 0) (v := .int .u16 (at5 f (t + 1))) (by simp)
        have fB0_wr := KH_wr.out.free (b := w.heap.size) (o := 0) (v := .int .u16 (at5 f (t + 1))) (by simp)
        have cB1_wr := KH_wr.out.at (b := w.heap.size) (o := 1) (v := .int .i64 (l.length : Int)) (by simp)
        have fB1_wr := KH_wr.out.free (b := w.heap.size) (o := 1) (v := .int .i64 (l.length : Int)) (by simp)
        have cB2_wr := KH_wr.out.at (b := w.heap.size) (o := 2) (v := .slice a2 ys.length c2) (by simp)
        have fB2_wr := KH_wr.out.free (b := w.heap.size) (o := 2) (v := .slice a2 ys.length c2) (by simp)
        have cR0_wr := KH_wr.out.at (b := w.heap.size + 1) (o := 0) (v := .int .u16 0) (by simp)
        have fR0_wr := KH_wr.out.free (b := w.heap.size + 1) (o := 0) (v := .int .u16 0) (by simp)
        have cR1_wr := KH_wr.out.at (b := w.heap.size + 1) (o := 1) (v := .int .i64 0) (by simp)
        have fR1_wr := KH_wr.out.free (b := w.heap.size + 1) (o := 1) (v := .int .i64 0) (by simp)
        have cR2_wr := KH_wr.out.at (b := w.heap.size + 1) (o := 2) (v := .slice none 0 0) (by simp)
        have fR2_wr := KH_wr.out.free (b := w.heap.size + 1) (o := 2) (v := .slice none 0 0) (by simp)
        go_wp2_with fail
        with_reducible refine (waits30c (at5 f (t + 1)) (l.length : Int) (at5 f (t + 1)) _ ys true _ HX.out.seg HW.out).mono ?_
        rintro e w21 ⟨rfl, hb_w21⟩
        have K_w21 : Kept w.heap.size w (w.heap.size + 2) [(w.heap.size, 0, .int .u16 (at5 f (t + 1))), (w.heap.size, 1, .int .i64 (l.length : Int)), (w.heap.size, 2, .slice a2 ys.length c2), (w.heap.size + 1, 0, .int .u16 0), (w.heap.size + 1, 1, .int .i64 0), (w.heap.size + 1, 2, .slice none 0 0)] w21 := (KH_wr.out.step (by omega) (by go_grown)).step (by omega) hb_w21
        replace HX := Lib.hid (HX.out.below hb_w21)
        clear hb_w21
        have KH_w21 := Lib.hid K_w21
        have hw_w21 := K_w21.below
        have hz_w21 := K_w21.size
        have lB_w21 : w.heap.size < w21.heap.size := by omega
        have cB0_w21 := K_w21.at (b := w.heap.size) (o := 0) (v := .int .u16 (at5 f (t + 1))) (by simp)
        have fB0_w21 := K_w21.free (b := w.heap.size) (o := 0) (v := .int .u16 (at5 f (t + 1))) (by simp)
        have cB1_w21 := K_w21.at (b := w.heap.size) (o := 1) (v := .int .i64 (l.length : Int)) (by simp)
        have fB1_w21 := K_w21.free (b := w.heap.size) (o := 1) (v := .int .i64 (l.length : Int)) (by simp)
        have cB2_w21 := K_w21.at (b := w.heap.size) (o := 2) (v := .slice a2 ys.length c2) (by simp)
        have fB2_w21 := K_w21.free (b := w.heap.size) (o := 2) (v := .slice a2 ys.length c2) (by simp)
        have lR_w21 : w.heap.size + 1 < w21.heap.size := by omega
        have cR0_w21 := K_w21.at (b := w.heap.size + 1) (o := 0) (v := .int .u16 0) (by simp)
        have fR0_w21 := K_w21.free (b := w.heap.size + 1) (o := 0) (v := .int .u16 0) (by simp)
        have cR1_w21 := K_w21.at (b := w.heap.size + 1) (o := 1) (v := .int .i64 0) (by simp)
        have fR1_w21 := K_w21.free (b := w.heap.size + 1) (o := 1) (v := .int .i64 0) (by simp)
        have cR2_w21 := K_w21.at (b := w.heap.size + 1) (o := 2) (v := .slice none 0 0) (by simp)
        have fR2_w21 := K_w21.free (b := w.heap.size + 1) (o := 2) (v := .slice none 0 0) (by simp)
        clear cB0_wr fB0_wr cB1_wr fB1_wr cB2_wr fB2_wr cR0_wr fR0_wr cR1_wr fR1_wr cR2_wr fR2_wr
        clear K_w21
        go_wp2_with fail
        with_reducible refine (without31 (at5 f (t + 1)) (l.length : Int) (at5 f (t + 1)) _ ys _ HX.out.seg (by omega)).mono ?_
        rintro e w22 ⟨v3, rfl, hown, hb_w22⟩
        have K_w22 : Kept w.heap.size w (w.heap.size + 2) [(w.heap.size, 0, .int .u16 (at5 f (t + 1))), (w.heap.size, 1, .int .i64 (l.length : Int)), (w.heap.size, 2, .slice a2 ys.length c2), (w.heap.size + 1, 0, .int .u16 0), (w.heap.size + 1, 1, .int .i64 0), (w.heap.size + 1, 2, .slice none 0 0)] w22 := (KH_w21.out.step (by omega) (by go_grown)).step (by omega) hb_w22
        clear hb_w22
        have KH_w22 := Lib.hid K_w22
        have hw_w22 := K_w22.below
        have hz_w22 := K_w22.size
        have lB_w22 : w.heap.size < w22.heap.size := by omega
        have cB0_w22 := K_w22.at (b := w.heap.size) (o := 0) (v := .int .u16 (at5 f (t + 1))) (by simp)
        have fB0_w22 := K_w22.free (b := w.heap.size) (o := 0) (v := .int .u16 (at5 f (t + 1))) (by simp)
        have cB1_w22 := K_w22.at (b := w.heap.size) (o := 1) (v := .int .i64 (l.length : Int)) (by simp)
        have fB1_w22 := K_w22.free (b := w.heap.size) (o := 1) (v := .int .i64 (l.length : Int)) (by simp)
        have cB2_w22 := K_w22.at (b := w.heap.size) (o := 2) (v := .slice a2 ys.length c2) (by simp)
        have fB2_w22 := K_w22.free (b := w.heap.size) (o := 2) (v := .slice a2 ys.length c2) (by simp)
        have lR_w22 : w.heap.size + 1 < w22.heap.size := by omega
        have cR0_w22 := K_w22.at (b := w.heap.size + 1) (o := 0) (v := .int .u16 0) (by simp)
        have fR0_w22 := K_w22.free (b := w.heap.size + 1) (o := 0) (v := .int .u16 0) (by simp)
        have cR1_w22 := K_w22.at (b := w.heap.size + 1) (o := 1) (v := .int .i64 0) (by simp)
        have fR1_w22 := K_w22.free (b := w.heap.size + 1) (o := 1) (v := .int .i64 0) (by simp)
        have cR2_w22 := K_w22.at (b := w.heap.size + 1) (o := 2) (v := .slice none 0 0) (by simp)
        have fR2_w22 := K_w22.free (b := w.heap.size + 1) (o := 2) (v := .slice none 0 0) (by simp)
        clear lB_w21 cB0_w21 fB0_w21 cB1_w21 fB1_w21 cB2_w21 fB2_w21 lR_w21 cR0_w21 fR0_w21 cR1_w21 fR1_w21 cR2_w21 fR2_w21
        clear K_w22
        have hwl := wo_len (at5 f (t + 1)) ys
        obtain ⟨zs3, hz3⟩ : ∃ zs3, wo (at5 f (t + 1)) ys = zs3 := ⟨_, rfl⟩
        rw [hz3] at hown hwl HN
        replace HX := Lib.hid (SegX.of_owns (X := w.heap.size :: (w.heap.size + 1) :: X) hown (by unfold maxLen; omega) (fun x hx => by simp at hx; rcases hx with h | h | h; omega; omega; have := HX0.out x h; omega))
        obtain ⟨a3, c3, rfl⟩ := owns_form hown
        clear hown hz3
        go_wp2_with fail
        with_reducible refine (next10 (at5 f (t + 1)) _ (at5_U f _)).mono ?_
        rintro e w' ⟨rfl, rfl⟩
        go_wp2_with fail
        rw [at5_succ]
        go_roundg (l.length - (t + 1))
        case rel => exact ⟨t + 1, a3, c3, zs3, rfl, ht2.out.2, HJ2.out, HN.out, by omega, (HX.out.set (by simp) _).set (by simp) _, ⟨by go_grown, by go_size, (by simp [go_sem, lB_w22, cB0_w22, fB0_w22, cB1_w22, fB1_w22, cB2_w22, fB2_w22, lR_w22, cR0_w22, fR0_w22, cR1_w22, fR1_w22, cR2_w22, fR2_w22] <;> omega)⟩⟩
        case measure => omega
    | false =>
      have HW : Hid (decide (at5 f (t + 1) ∈ ys) = false) := Lib.hid ((repT_dec HT.out hf (by omega)).trans hb)
      have HE := Lib.hid (rep_end HT.out hf hl (gone_at ht HJ.out hb) ht)
      clear hb
      have cB0_wr := KH_wr.out.at (b := w.heap.size) (o := 0) (v := .int .u16 (at5 f (t + 1))) (by simp)
      have fB0_wr := KH_wr.out.free (b := w.heap.size) (o := 0) (v := .int .u16 (at5 f (t + 1))) (by simp)
      have cB1_wr := KH_wr.out.at (b := w.heap.size) (o := 1) (v := .int .i64 (l.length : Int)) (by simp)
      have fB1_wr := KH_wr.out.free (b := w.heap.size) (o := 1) (v := .int .i64 (l.length : Int)) (by simp)
      have cB2_wr := KH_wr.out.at (b := w.heap.size) (o := 2) (v := .slice a2 ys.length c2) (by simp)
      have fB2_wr := KH_wr.out.free (b := w.heap.size) (o := 2) (v := .slice a2 ys.length c2) (by simp)
      have cR0_wr := KH_wr.out.at (b := w.heap.size + 1) (o := 0) (v := .int .u16 0) (by simp)
      have fR0_wr := KH_wr.out.free (b := w.heap.size + 1) (o := 0) (v := .int .u16 0) (by simp)
      have cR1_wr := KH_wr.out.at (b := w.heap.size + 1) (o := 1) (v := .int .i64 0) (by simp)
      have fR1_wr := KH_wr.out.free (b := w.heap.size + 1) (o := 1) (v := .int .i64 0) (by simp)
      have cR2_wr := KH_wr.out.at (b := w.heap.size + 1) (o := 2) (v := .slice none 0 0) (by simp)
      have fR2_wr := KH_wr.out.free (b := w.heap.size + 1) (o := 2) (v := .slice none 0 0) (by simp)
      go_wp2_with fail
      with_reducible refine (waits30c (at5 f (t + 1)) (l.length : Int) (at5 f (t + 1)) _ ys false _ HX.out.seg HW.out).mono ?_
      rintro e w21 ⟨rfl, hb_w21⟩
      have K_w21 : Kept w.heap.size w (w.heap.size + 2) [(w.heap.size, 0, .int .u16 (at5 f (t + 1))), (w.heap.size, 1, .int .i64 (l.length : Int)), (w.heap.size, 2, .slice a2 ys.length c2), (w.heap.size + 1, 0, .int .u16 0), (w.heap.size + 1, 1, .int .i64 0), (w.heap.size + 1, 2, .slice none 0 0)] w21 := (KH_wr.out.step (by omega) (by go_grown)).step (by omega) hb_w21
      replace HX := Lib.hid (HX.out.below hb_w21)
      clear hb_w21
      have KH_w21 := Lib.hid K_w21
      have hw_w21 := K_w21.below
      have hz_w21 := K_w21.size
      have lB_w21 : w.heap.size < w21.heap.size := by omega
      have cB0_w21 := K_w21.at (b := w.heap.size) (o := 0) (v := .int .u16 (at5 f (t + 1))) (by simp)
      have fB0_w21 := K_w21.free (b := w.heap.size) (o := 0) (v := .int .u16 (at5 f (t + 1))) (by simp)
      have cB1_w21 := K_w21.at (b := w.heap.size) (o := 1) (v := .int .i64 (l.length : Int)) (by simp)
      have fB1_w21 := K_w21.free (b := w.heap.size) (o := 1) (v := .int .i64 (l.length : Int)) (by simp)
      have cB2_w21 := K_w21.at (b := w.heap.size) (o := 2) (v := .slice a2 ys.length c2) (by simp)
      have fB2_w21 := K_w21.free (b := w.heap.size) (o := 2) (v := .slice a2 ys.length c2) (by simp)
      have lR_w21 : w.heap.size + 1 < w21.heap.size := by omega
      have cR0_w21 := K_w21.at (b := w.heap.size + 1) (o := 0) (v := .int .u16 0) (by simp)
      have fR0_w21 := K_w21.free (b := w.heap.size + 1) (o := 0) (v := .int .u16 0) (by simp)
      have cR1_w21 := K_w21.at (b := w.heap.size + 1) (o := 1) (v := .int .i64 0) (by simp)
      have fR1_w21 := K_w21.free (b := w.heap.size + 1) (o := 1) (v := .int .i64 0) (by simp)
      have cR2_w21 := K_w21.at (b := w.heap.size + 1) (o := 2) (v := .slice none 0 0) (by simp)
      have fR2_w21 := K_w21.free (b := w.heap.size + 1) (o := 2) (v := .slice none 0 0) (by simp)
      clear cB0_wr fB0_wr cB1_wr fB1_wr cB2_wr fB2_wr cR0_wr fR0_wr cR1_wr fR1_wr cR2_wr fR2_wr
      clear K_w21
      go_wp2_with fail
      exact bodyPost_ret (v := .tuple #[.agg #[.int .u16 (at5 f (t + 1)), .int .i64 (l.length : Int), .slice a2 ys.length c2], .int .i64 0]) (by simp [results, Try.results24, go_sem, lB_w21, cB0_w21, fB0_w21, cB1_w21, fB1_w21, cB2_w21, fB2_w21, lR_w21, cR0_w21, fR0_w21, cR1_w21, fR1_w21, cR2_w21, fR2_w21]) rfl ⟨a2, c2, ys, by rw [HE.out.2], (((HX.out.set (by simp) _).set (by simp) _).set (by simp) _).less (fun x hx => by simp [hx]), HE.out.1, by omega, by go_grown⟩

end Go.Proofs.Ythibagfmglnejaa
