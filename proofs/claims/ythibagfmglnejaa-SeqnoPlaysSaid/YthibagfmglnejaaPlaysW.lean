/- SeqnoPlays: the walk. -/
import Derived.Test.YthibagfmglnejaaRefF
import Derived.Laws.Tables
namespace Go.Proofs.Ythibagfmglnejaa
open Go.RowKit Plain
set_option linter.unusedVariables false
set_option linter.unusedSimpArgs false

set_option maxRecDepth 100000 in
set_option maxHeartbeats 2000000 in
theorem plays7_long (f s at_ : Int) (lv : Value) (zs : List Int) (w : World) (hf : U16 f) (a0 : 0 ≤ at_) (a1 : at_ ≤ 255) (hs : Seg w .u16 lv zs) (hz : ∀ z ∈ zs, U16 z) (h : 100 < zs.length) : Calls Try.prog 7 #[.int .u16 f, .int .i64 s, lv, .int .u8 at_] w fun e w' => e = .returned (.bool true) ∧ Below w.heap.size w w' := by
  obtain ⟨m1, la, lc, rfl, f1⟩ := seg_form hs
  have F1 := Lib.hid f1
  have HZS := Lib.hid hz
  clear hs f1 hz
  go_enter Try.func7, Try.ntmps7
  go_wp2_with fail
  with_reducible refine (known15 _).mono ?_
  rintro e w1 ⟨rfl, hb_w1⟩
  have K_w1 : Kept w.heap.size w (w.heap.size) [] w1 := Kept.of hb_w1 (by go_grown) (by go_size) (by omega) (by simp [go_sem] <;> omega)
  clear hb_w1
  have KH_w1 := Lib.hid K_w1
  have hw_w1 := K_w1.below
  have hz_w1 := K_w1.size
  clear K_w1
  go_wp2_with fail
  go_returns
  exact ⟨rfl, by go_grown⟩

set_option maxRecDepth 100000 in
set_option maxHeartbeats 2000000 in
theorem plays7_mid (f s at_ : Int) (lv : Value) (zs : List Int) (w : World) (hf : U16 f) (a0 : 0 ≤ at_) (a1 : at_ ≤ 255) (hs : Seg w .u16 lv zs) (hz : ∀ z ∈ zs, U16 z) (h : ¬ 100 < zs.length) (h1 : 70 < s) (h2 : s ≤ 1024) : Calls Try.prog 7 #[.int .u16 f, .int .i64 s, lv, .int .u8 at_] w fun e w' => e = .returned (.bool true) ∧ Below w.heap.size w w' := by
  obtain ⟨m1, la, lc, rfl, f1⟩ := seg_form hs
  have F1 := Lib.hid f1
  have HZS := Lib.hid hz
  clear hs f1 hz
  go_enter Try.func7, Try.ntmps7
  go_wp2_with fail
  with_reducible refine (known15 _).mono ?_
  rintro e w1 ⟨rfl, hb_w1⟩
  have K_w1 : Kept w.heap.size w (w.heap.size) [] w1 := Kept.of hb_w1 (by go_grown) (by go_size) (by omega) (by simp [go_sem] <;> omega)
  clear hb_w1
  have KH_w1 := Lib.hid K_w1
  have hw_w1 := K_w1.below
  have hz_w1 := K_w1.size
  clear K_w1
  go_wp2_with fail
  go_returns
  exact ⟨rfl, by go_grown⟩

set_option maxRecDepth 100000 in
set_option maxHeartbeats 2000000 in
theorem plays7_bad (f s at_ : Int) (lv : Value) (zs : List Int) (w : World) (hf : U16 f) (a0 : 0 ≤ at_) (a1 : at_ ≤ 255) (hs : Seg w .u16 lv zs) (hz : ∀ z ∈ zs, U16 z) (h : ¬ 100 < zs.length) (h1 : s < 1 ∨ 1024 < s) : Calls Try.prog 7 #[.int .u16 f, .int .i64 s, lv, .int .u8 at_] w fun e w' => e = .returned (.bool true) ∧ Below w.heap.size w w' := by
  obtain ⟨m1, la, lc, rfl, f1⟩ := seg_form hs
  have F1 := Lib.hid f1
  have HZS := Lib.hid hz
  clear hs f1 hz
  have H1 := Lib.hid h1
  by_cases h2 : s < 1
  · have h3 : ¬ 70 < s := by omega
    have h4 : s ≤ 1024 := by omega
    clear h1
    go_enter Try.func7, Try.ntmps7
    go_wp2_with fail
    with_reducible refine (new16_bad f s _ H1.out).mono ?_
    rintro e w' ⟨rfl, rfl⟩
    go_wp2_with fail
    with_reducible refine (new22_bad f s _ H1.out).mono ?_
    rintro e w1 ⟨rfl, hb_w1⟩
    have K_w1 : Kept w.heap.size w (w.heap.size) [] w1 := Kept.of hb_w1 (by go_grown) (by go_size) (by omega) (by simp [go_sem] <;> omega)
    clear hb_w1
    have KH_w1 := Lib.hid K_w1
    have hw_w1 := K_w1.below
    have hz_w1 := K_w1.size
    clear K_w1
    go_wp2_with fail
    with_reducible refine (known15 _).mono ?_
    rintro e w2 ⟨rfl, hb_w2⟩
    have K_w2 : Kept w.heap.size w (w.heap.size) [] w2 := (KH_w1.out.step (by omega) (by go_grown)).step (by omega) hb_w2
    clear hb_w2
    have KH_w2 := Lib.hid K_w2
    have hw_w2 := K_w2.below
    have hz_w2 := K_w2.size
    clear K_w2
    go_wp2_with fail
    go_returns
    exact ⟨rfl, by go_grown⟩
  · have h3 : 70 < s := by omega
    have h4 : ¬ s ≤ 1024 := by omega
    clear h1
    go_enter Try.func7, Try.ntmps7
    go_wp2_with fail
    with_reducible refine (new16_bad f s _ H1.out).mono ?_
    rintro e w' ⟨rfl, rfl⟩
    go_wp2_with fail
    with_reducible refine (new22_bad f s _ H1.out).mono ?_
    rintro e w1 ⟨rfl, hb_w1⟩
    have K_w1 : Kept w.heap.size w (w.heap.size) [] w1 := Kept.of hb_w1 (by go_grown) (by go_size) (by omega) (by simp [go_sem] <;> omega)
    clear hb_w1
    have KH_w1 := Lib.hid K_w1
    have hw_w1 := K_w1.below
    have hz_w1 := K_w1.size
    clear K_w1
    go_wp2_with fail
    with_reducible refine (known15 _).mono ?_
    rintro e w2 ⟨rfl, hb_w2⟩
    have K_w2 : Kept w.heap.size w (w.heap.size) [] w2 := (KH_w1.out.step (by omega) (by go_grown)).step (by omega) hb_w2
    clear hb_w2
    have KH_w2 := Lib.hid K_w2
    have hw_w2 := K_w2.below
    have hz_w2 := K_w2.size
    clear K_w2
    go_wp2_with fail
    go_returns
    exact ⟨rfl, by go_grown⟩

theorem SegX.grow {w w' : World} {k : IntKind} {v : Value} {zs : List Int} {X Y : List Nat} (h : SegX w k v zs X) (hb : Below w.heap.size w w') (hY : ∀ y ∈ Y, y ∈ X ∨ w.heap.size ≤ y) : SegX w' k v zs Y :=
  ⟨h.seg.below hb, fun h0 b off n cap hv hm => by
    obtain ⟨_, b', off', cap', hv', hlt, _⟩ := h.seg.some h0
    have h2 := h.2 h0 _ _ _ _ hv
    rw [hv] at hv'
    simp at hv'
    rcases hY b hm with h3 | h3
    · exact h2 h3
    · omega⟩
theorem SegX.onl {w w' : World} {k : IntKind} {v : Value} {zs : List Int} {X S : List Nat} (h : SegX w k v zs X) (ho : Onl S w w') (hS : ∀ s ∈ S, s ∈ X) : SegX w' k v zs X := by
  refine ⟨?_, h.2⟩
  rcases h.seg with h1 | ⟨h0, h1, b, off, cap, hv, hlt, hc⟩
  · exact .inl h1
  · have hb := h.2 h0 _ _ _ _ hv
    exact .inr ⟨h0, h1, b, off, cap, hv, Nat.lt_of_lt_of_le hlt ho.size, fun i z hi => (ho.cell hlt (fun e => hb (hS b e))).trans (hc i z hi)⟩
/-- a round's relation -/
def PlRel (w : World) (X size : Nat) (zs : List Int) (p i : Value) (wr : World) : Prop := ∃ (k P D : Nat) (f2 : Int) (l2 : List Bool) (cap : Nat) (ex : List Value) (a : Option Addr) (c : Nat) (ys : List Int), k ≤ zs.length ∧ i = .int .i64 k ∧ p = .pointer (some ⟨P, 0, none⟩) ∧
  WinAt wr P D f2 l2 cap ex ∧ w.heap.size ≤ P ∧ w.heap.size ≤ D ∧ P ≠ X ∧ D ≠ X ∧ RepR f2 l2 ys ∧ l2[0]? = some false ∧ l2.length = size ∧ ys.length ≤ k ∧ SegX wr .u16 (.slice a ys.length c) ys [X, P, D] ∧ Kept w.heap.size w (X + 1) [(X, 0, .int .u16 f2), (X, 1, .int .i64 size), (X, 2, .slice a ys.length c)] wr
theorem rg7_23 {P : Program} {B n : Nat} {w0 : World} {L : List (Nat × Nat × Value)} {E F : World → Prop} {id : Nat} {Q : Exit → Act → World → Prop} {a : Act} {w : World} {o0 o1 o2 o3 o4 o5 o6 : Oper} (hm : P.follows .mixedOrders = true)
    (hB : (Region.noSelect [o0, o1, o2, o3, o4, o5, o6].toArray && Scr.ok .any [o0, o1, o2, o3, o4, o5, o6].toArray [2, 3] [0, 1, 6] (.free 0 (.free 1 (.read 2 (.read 3 (.alt 4 (.altc 5 (.free 6 .done) .stop) .stop))))) true true [o0, o1, o2, o3, o4, o5, o6].toArray.size (Array.replicate [o0, o1, o2, o3, o4, o5, o6].toArray.size false)) = true)
    (k : Kept B w0 n L w) (he : E w) (hE : ∀ W W', E W → Below W.heap.size W W' → E W') (hf : F w) (hF : ∀ W W', F W → Below W.heap.size W W' → F W')
    (h : ∀ wk, Kept B w0 n L wk → E wk → F wk → wpQuiet P [o0, o1, o2, o3, o4, o5, o6].toArray (fun _ => True) (fun a0 => wpQuiet P [o0, o1, o2, o3, o4, o5, o6].toArray (fun w' => ∃ s : KX B w0 n L E, w' = s.val) (fun a1 => ((∀ K2 : Act → World → Prop, (∀ a2 w2, ((∀ K3 : Act → World → Prop, (∀ a3 w3, wpQuiet P [o0, o1, o2, o3, o4, o5, o6].toArray (fun _ => True) (fun a4 => Q .normal a4 w3) [o6] a3 → K3 a3 w3) → wpList P [o0, o1, o2, o3, o4, o5, o6].toArray (fun e a3 w3 => e = .normal ∧ K3 a3 w3) [o5] a2 w2) ∧ True) → K2 a2 w2) → wpList P [o0, o1, o2, o3, o4, o5, o6].toArray (fun e a2 w2 => e = .normal ∧ (∃ s : KX B w0 n L E, w2 = s.val) ∧ K2 a2 w2) [o4] a1 wk) ∧ True)) [o2, o3] a0) [o0, o1] a) : (Code.region id [o0, o1, o2, o3, o4, o5, o6].toArray true).wp P Q a w := by
  have e1 : E w.drew := hE _ _ he ((Below.refl _ _).drew)
  have g := h _ k.drew e1 (hF _ _ hf ((Below.refl _ _).drew))
  exact wp_region_scr (U := (fun w' => ∃ s : KX B w0 n L E, w' = s.val)) (ops := [o0, o1, o2, o3, o4, o5, o6].toArray) (.free 0 (.free 1 (.read 2 (.read 3 (.alt 4 (.altc 5 (.free 6 .done) .stop) .stop))))) [2, 3] [0, 1, 6] hm hB ⟨⟨_, k.drew, e1⟩, rfl⟩ (Scr.of_free rfl g (fun _ g0 => Scr.of_free rfl g0 (fun _ g1 => Scr.of_read rfl g1 (fun _ g2 => Scr.of_read rfl g2 (fun _ g3 => (Scr.of_alt rfl (g3.1 _ (fun _ _ g => g)) (fun _ _ g4 => (Scr.of_altc rfl (g4.1 _ (fun _ _ g => g)) (fun _ _ g5 => Scr.of_free rfl g5 (fun _ g6 => g6)) trivial)) trivial))))))
theorem repR_new (f : Int) (m : Nat) : RepR f (List.replicate m false) [] := by
  intro n hn
  simp
  intro d _ h
  rw [List.getElem?_replicate] at h
  split at h <;> simp at h
set_option maxRecDepth 100000 in
set_option maxHeartbeats 4000000 in
theorem plays7 (f s at_ : Int) (lv : Value) (zs : List Int) (w : World) (hf : U16 f) (a0 : 0 ≤ at_) (a1 : at_ ≤ 255) (hs : Seg w .u16 lv zs) (hz : ∀ z ∈ zs, U16 z) (h : ¬ 100 < zs.length) (s1 : 1 ≤ s) (s3 : s ≤ 70) : Calls Try.prog 7 #[.int .u16 f, .int .i64 s, lv, .int .u8 at_] w fun e w' => e = .returned (.bool true) ∧ Below w.heap.size w w' := by
  obtain ⟨m1, la, lc, rfl, f1⟩ := seg_form hs
  have F1 := Lib.hid f1
  have HZS := Lib.hid hz
  clear hs f1 hz
  have s2 : s ≤ 1024 := by omega
  have s4 : ¬ 70 < s := by omega
  go_enter Try.func7, Try.ntmps7
  go_wp2_with fail
  with_reducible refine (new16z f s _ hf s1 s2).mono ?_
  rintro e w1 ⟨P, D, cap, ex, hP, hD, rfl, hW, hb_w1⟩
  have K_w1 : Kept w.heap.size w (w.heap.size) [] w1 := Kept.of hb_w1 (by go_grown) (by go_size) (by omega) (by simp [go_sem] <;> omega)
  clear hb_w1
  have KH_w1 := Lib.hid K_w1
  have hw_w1 := K_w1.below
  have hz_w1 := K_w1.size
  clear K_w1
  have HW := Lib.hid hW
  clear hW
  go_wp2_with fail
  with_reducible refine (new22 f s _ s1 s2).mono ?_
  rintro e w2 ⟨rfl, hb_w2⟩
  have K_w2 : Kept w.heap.size w (w.heap.size) [] w2 := (KH_w1.out.step (by omega) (by go_grown)).step (by omega) hb_w2
  replace HW := Lib.hid (HW.out.below hb_w2)
  clear hb_w2
  have KH_w2 := Lib.hid K_w2
  have hw_w2 := K_w2.below
  have hz_w2 := K_w2.size
  clear K_w2
  go_wp2_with fail
  obtain ⟨size, rfl⟩ : ∃ size : Nat, s = (size : Int) := ⟨s.toNat, by omega⟩
  have hPl := HW.out.plt
  have hDl := HW.out.d.lt
  go_loopw [9, 57] (fun p i wr => PlRel w w2.heap.size size zs p i wr) (fun _ i _ => zs.length - (intOf i).toNat)
  case atStart => exact ⟨0, P, D, f, List.replicate size false, cap, ex, none, 0, [], Nat.zero_le _, rfl, rfl, by simpa using HW.out.below (by go_grown), hP, hD, by omega, by omega, repR_new f size, by rw [List.getElem?_replicate, if_pos (by omega)], by simp, Nat.le_refl _, ⟨.inl ⟨rfl, .inl rfl⟩, fun h => absurd rfl h⟩, ⟨by go_grown, by go_size, (by simp [go_sem] <;> omega)⟩⟩
  case round =>
    obtain ⟨k, P, D, f2, l2, cap, ex, a, c, ys, hk, rfl, rfl, hw2, hP1, hD1, hPX, hDX, hr, h0, hsz, hyl, hx, hK⟩ := hrel
    have HW := Lib.hid hw2
    have HR := Lib.hid hr
    have H0 := Lib.hid h0
    have HSZ := Lib.hid hsz
    have HX := Lib.hid hx
    have KH_wr := Lib.hid hK
    have hw_wr := hK.below
    have hz_wr := hK.size
    have hl2 : l2.length ≤ 70 := by omega
    have hl1 : 1 ≤ l2.length := by omega
    clear hw2 hr h0 hsz hx hK
    by_cases hlt : k < zs.length
    · obtain ⟨b1, o1, rfl, hb1, hc1⟩ := F1.out (by omega)
      obtain ⟨z, hz⟩ : ∃ z, zs[k]? = some z := ⟨zs[k], List.getElem?_eq_getElem hlt⟩
      have e1 := (hw_wr.cell (p := ⟨b1, o1 + k, none⟩) hb1).trans (hc1 k z hz)
      have HZ := Lib.hid (HZS.out z (List.mem_of_getElem? hz))
      have i1 : (0 : Int) ≤ (k : Int) := by omega
      have i2 : (k : Int) < (zs.length : Int) := by omega
      have db := dist_bd f2 z
      have hPl := HW.out.plt
      have hDl := HW.out.d.lt
      obtain ⟨d, hd⟩ : ∃ d : Nat, dist f2 z = (d : Int) := ⟨(dist f2 z).toNat, by omega⟩
      obtain ⟨r, e1'⟩ : ∃ r, resN l2 d = r := ⟨_, rfl⟩
      obtain ⟨F2, e2'⟩ : ∃ F2, resF f2 l2 d = F2 := ⟨_, rfl⟩
      obtain ⟨L2, e3'⟩ : ∃ L2, resL l2 d = L2 := ⟨_, rfl⟩
      obtain ⟨b, hbb⟩ : ∃ b, hasN l2 d = b := ⟨_, rfl⟩
      have q : (r == 13) = b := by rw [← e1', ← hbb]; exact resN_stale l2 d
      have HD := Lib.hid hd
      have E1 := Lib.hid e1'
      have E2 := Lib.hid e2'
      have E3 := Lib.hid e3'
      have HB := Lib.hid hbb
      have HL2 : Hid (L2.length = size) := Lib.hid (by rw [← e3', resL_len]; exact HSZ.out)
      have HH2 : Hid (L2[0]? = some false) := Lib.hid (by rw [← e3']; exact resL_head hl1 H0.out)
      clear hc1 hz hd e1' e2' e3' hbb db
      cases hat : ((k : Int) == at_)
      · skip
        have cX0_wr := KH_wr.out.at (b := w2.heap.size) (o := 0) (v := .int .u16 f2) (by simp)
        have fX0_wr := KH_wr.out.free (b := w2.heap.size) (o := 0) (v := .int .u16 f2) (by simp)
        have cX1_wr := KH_wr.out.at (b := w2.heap.size) (o := 1) (v := .int .i64 size) (by simp)
        have fX1_wr := KH_wr.out.free (b := w2.heap.size) (o := 1) (v := .int .i64 size) (by simp)
        have cX2_wr := KH_wr.out.at (b := w2.heap.size) (o := 2) (v := .slice a ys.length c) (by simp)
        have fX2_wr := KH_wr.out.free (b := w2.heap.size) (o := 2) (v := .slice a ys.length c) (by simp)
        go_wp2_with fail
        with_reducible refine (accept24_allc r F2 L2 f2 (size : Int) z d l2 _ ys _ HW.out.f0 HZ.out (by omega) (by rw [HSZ.out]) [w2.heap.size, P, D] (by simp; omega) HX.out (by omega) HR.out H0.out HD.out (by omega) E1.out E2.out E3.out).mono ?_
        rintro e w21 ⟨a3, c3, ys3, rfl, hx3, hr3, hl3, hb_w21⟩
        have K_w21 : Kept w.heap.size w (w2.heap.size + 1) [(w2.heap.size, 0, .int .u16 f2), (w2.heap.size, 1, .int .i64 size), (w2.heap.size, 2, .slice a ys.length c)] w21 := (KH_wr.out.step (by omega) (by go_grown)).step (by omega) hb_w21
        replace HW := Lib.hid (HW.out.below hb_w21)
        clear hb_w21
        have KH_w21 := Lib.hid K_w21
        have hw_w21 := K_w21.below
        have hz_w21 := K_w21.size
        have lX_w21 : w2.heap.size < w21.heap.size := by omega
        clear cX0_wr fX0_wr cX1_wr fX1_wr cX2_wr fX2_wr
        clear K_w21
        replace HX := Lib.hid hx3
        replace HR := Lib.hid hr3
        clear hx3 hr3
        have cX0_w21 := KH_w21.out.at (b := w2.heap.size) (o := 0) (v := .int .u16 f2) (by simp)
        have fX0_w21 := KH_w21.out.free (b := w2.heap.size) (o := 0) (v := .int .u16 f2) (by simp)
        have cX1_w21 := KH_w21.out.at (b := w2.heap.size) (o := 1) (v := .int .i64 size) (by simp)
        have fX1_w21 := KH_w21.out.free (b := w2.heap.size) (o := 1) (v := .int .i64 size) (by simp)
        have cX2_w21 := KH_w21.out.at (b := w2.heap.size) (o := 2) (v := .slice a ys.length c) (by simp)
        have fX2_w21 := KH_w21.out.free (b := w2.heap.size) (o := 2) (v := .slice a ys.length c) (by simp)
        have hPw := HW.out.plt
        have hDw := HW.out.d.lt
        go_wp2_with fail
        with_reducible refine (has21c P D f2 l2 cap ex _ (HW.out.below (by go_grown)) z d b HZ.out HD HB.out).mono ?_
        rintro e w' ⟨rfl, rfl⟩
        go_wp2_with fail
        with_reducible refine (accept17_allc r F2 L2 P D f2 l2 cap ex _ (HW.out.below (by go_grown)) z d HZ.out HD E1.out E2.out E3.out).mono ?_
        rintro e w22 ⟨rfl, hB_w22, hO_w22⟩
        have K_w22 : Kept w.heap.size w (w21.heap.size + 1) [(w2.heap.size, 0, .int .u16 f2), (w2.heap.size, 1, .int .i64 size), (w2.heap.size, 2, .slice a ys.length c), (w21.heap.size, 0, .int .u16 F2), (w21.heap.size, 1, .int .i64 size), (w21.heap.size, 2, .slice a3 ys3.length c3)] w22 := Kept.onl (S := [P, D]) ⟨by go_grown, by go_size, (by simp [go_sem, lX_w21, cX0_w21, fX0_w21, cX1_w21, fX1_w21, cX2_w21, fX2_w21] <;> omega)⟩ hO_w22 (by omega) (by simp <;> omega) (by simp <;> omega)
        replace HW := Lib.hid (hB_w22)
        replace HX := Lib.hid ((HX.out.below (by go_grown)).onl hO_w22 (by simp))
        clear hO_w22 hB_w22
        have KH_w22 := Lib.hid K_w22
        have hw_w22 := K_w22.below
        have hz_w22 := K_w22.size
        have lX_w22 : w2.heap.size < w22.heap.size := by omega
        have lY_w22 : w21.heap.size < w22.heap.size := by omega
        clear lX_w21 cX0_w21 fX0_w21 cX1_w21 fX1_w21 cX2_w21 fX2_w21
        clear K_w22
        have cX0_w22 := KH_w22.out.at (b := w2.heap.size) (o := 0) (v := .int .u16 f2) (by simp)
        have fX0_w22 := KH_w22.out.free (b := w2.heap.size) (o := 0) (v := .int .u16 f2) (by simp)
        have cX1_w22 := KH_w22.out.at (b := w2.heap.size) (o := 1) (v := .int .i64 size) (by simp)
        have fX1_w22 := KH_w22.out.free (b := w2.heap.size) (o := 1) (v := .int .i64 size) (by simp)
        have cX2_w22 := KH_w22.out.at (b := w2.heap.size) (o := 2) (v := .slice a ys.length c) (by simp)
        have fX2_w22 := KH_w22.out.free (b := w2.heap.size) (o := 2) (v := .slice a ys.length c) (by simp)
        have cY0_w22 := KH_w22.out.at (b := w21.heap.size) (o := 0) (v := .int .u16 F2) (by simp)
        have fY0_w22 := KH_w22.out.free (b := w21.heap.size) (o := 0) (v := .int .u16 F2) (by simp)
        have cY1_w22 := KH_w22.out.at (b := w21.heap.size) (o := 1) (v := .int .i64 size) (by simp)
        have fY1_w22 := KH_w22.out.free (b := w21.heap.size) (o := 1) (v := .int .i64 size) (by simp)
        have cY2_w22 := KH_w22.out.at (b := w21.heap.size) (o := 2) (v := .slice a3 ys3.length c3) (by simp)
        have fY2_w22 := KH_w22.out.free (b := w21.heap.size) (o := 2) (v := .slice a3 ys3.length c3) (by simp)
        go_wp2_with fail
        refine rg7_23 (w0 := w) (B := w.heap.size) (n := w2.heap.size + 1) (L := [(w2.heap.size, 0, .int .u16 F2), (w2.heap.size, 1, .int .i64 size), (w2.heap.size, 2, .slice a3 ys3.length c3)]) (E := fun _ => True) (F := fun W => WinAt W P D F2 L2 cap ex ∧ SegX W .u16 (.slice a3 ys3.length c3) ys3 [w2.heap.size, P, D]) (by kernel_rfl) (by kernel_rfl) ⟨by go_grown, by go_size, (by simp [go_sem, lX_w22, lY_w22, cX0_w22, fX0_w22, cX1_w22, fX1_w22, cX2_w22, fX2_w22, cY0_w22, fY0_w22, cY1_w22, fY1_w22, cY2_w22, fY2_w22] <;> omega)⟩ trivial (fun _ _ _ _ => trivial) ⟨HW.out.onl (S := [w2.heap.size]) ((((Onl.refl _ _).setCell (.inl (by simp)) _).setCell (.inl (by simp)) _).setCell (.inl (by simp)) _) (by simp; omega) (by simp; omega), ((HX.out.set (by simp) _).set (by simp) _).set (by simp) _⟩ (fun _ _ h hb => ⟨h.1.below hb, h.2.below hb⟩) (fun w23 K_w23 E_w23 F_w23 => ?_)
        have _ne : Nonempty (KX (w.heap.size) w (w2.heap.size + 1) [(w2.heap.size, 0, .int .u16 F2), (w2.heap.size, 1, .int .i64 size), (w2.heap.size, 2, .slice a3 ys3.length c3)] (fun _ => True)) := ⟨⟨_, K_w23, E_w23⟩⟩
        repeat (go_big_quiet_step (fail))
        refine wpQuiet_nil ?_
        have rX0 : ∀ s : KX (w.heap.size) w (w2.heap.size + 1) [(w2.heap.size, 0, .int .u16 F2), (w2.heap.size, 1, .int .i64 size), (w2.heap.size, 2, .slice a3 ys3.length c3)] (fun _ => True), s.val.cell? ⟨w2.heap.size, 0, none⟩ = some (.int .u16 F2) := fun s => s.kept.at (by simp)
        have rX1 : ∀ s : KX (w.heap.size) w (w2.heap.size + 1) [(w2.heap.size, 0, .int .u16 F2), (w2.heap.size, 1, .int .i64 size), (w2.heap.size, 2, .slice a3 ys3.length c3)] (fun _ => True), s.val.cell? ⟨w2.heap.size, 1, none⟩ = some (.int .i64 size) := fun s => s.kept.at (by simp)
        have rX2 : ∀ s : KX (w.heap.size) w (w2.heap.size + 1) [(w2.heap.size, 0, .int .u16 F2), (w2.heap.size, 1, .int .i64 size), (w2.heap.size, 2, .slice a3 ys3.length c3)] (fun _ => True), s.val.cell? ⟨w2.heap.size, 2, none⟩ = some (.slice a3 ys3.length c3) := fun s => s.kept.at (by simp)
        repeat (go_big_quiet_step (fail))
        refine wpQuiet_nil ?_
        clear rX0 rX1 rX2
        have KH_w23 := Lib.hid K_w23
        have hw_w23 := K_w23.below
        have hz_w23 := K_w23.size
        have lX_w23 : w2.heap.size < w23.heap.size := by omega
        clear lX_w22 lY_w22 cX0_w22 fX0_w22 cX1_w22 fX1_w22 cX2_w22 fX2_w22 cY0_w22 fY0_w22 cY1_w22 fY1_w22 cY2_w22 fY2_w22
        clear K_w23
        have HW := Lib.hid (F_w23.1)
        have HX := Lib.hid (F_w23.2)
        clear E_w23 F_w23
        refine ⟨fun K hK0 => ?_, trivial⟩
        have hK := Lib.hid hK0
        clear hK0
        go_wp2_with fail
        with_reducible refine (pending25 F2 (size : Int) L2 _ ys3 _ HW.out.f0 (by have := HL2.out; omega) (by rw [HL2.out]) HX.out.seg HR.out).mono ?_
        rintro e w24 ⟨v9, rfl, hown9, hb_w24⟩
        have K_w24 : Kept w.heap.size w (w2.heap.size + 1) [(w2.heap.size, 0, .int .u16 F2), (w2.heap.size, 1, .int .i64 size), (w2.heap.size, 2, .slice a3 ys3.length c3)] w24 := (KH_w23.out.step (by omega) (by go_grown)).step (by omega) hb_w24
        replace HW := Lib.hid (HW.out.below hb_w24)
        replace HX := Lib.hid (HX.out.below hb_w24)
        clear hb_w24
        have KH_w24 := Lib.hid K_w24
        have hw_w24 := K_w24.below
        have hz_w24 := K_w24.size
        have lX_w24 : w2.heap.size < w24.heap.size := by omega
        clear lX_w23
        clear K_w24
        have hpl := pend_len F2 L2
        have HS9 := Lib.hid (seg_of_owns hown9 (by have := HL2.out; unfold maxLen; omega))
        clear hown9 hpl
        go_wp2_with fail
        first | (refine ⟨rfl, ⟨⟨_, KH_w24.out, trivial⟩, rfl⟩, hK.out _ _ ?_⟩; clear hK K) | (refine ⟨⟨⟨_, KH_w24.out, trivial⟩, rfl⟩, hK.out _ _ ?_⟩; clear hK K)
        refine ⟨fun K hK0 => ?_, trivial⟩
        have hK := Lib.hid hK0
        clear hK0
        go_wp2_with fail
        with_reducible refine (looks20c P D F2 L2 cap ex _ HW.out _ (pend F2 L2) HS9.out rfl).mono ?_
        rintro e w25 ⟨rfl, hb_w25⟩
        have K_w25 : Kept w.heap.size w (w2.heap.size + 1) [(w2.heap.size, 0, .int .u16 F2), (w2.heap.size, 1, .int .i64 size), (w2.heap.size, 2, .slice a3 ys3.length c3)] w25 := (KH_w24.out.step (by omega) (by go_grown)).step (by omega) hb_w25
        replace HW := Lib.hid (HW.out.below hb_w25)
        replace HX := Lib.hid (HX.out.below hb_w25)
        clear hb_w25
        have KH_w25 := Lib.hid K_w25
        have hw_w25 := K_w25.below
        have hz_w25 := K_w25.size
        have lX_w25 : w2.heap.size < w25.heap.size := by omega
        clear lX_w24
        clear K_w25
        go_wp2_with fail
        first | (refine ⟨rfl, hK.out _ _ ?_⟩; clear hK K) | (refine hK.out _ _ ?_; clear hK K)
        repeat (go_big_quiet_step (fail))
        refine wpQuiet_nil ?_
        clear _ne
        go_wp2_with fail
        go_roundw
        case rel => exact ⟨k + 1, P, D, F2, L2, cap, ex, a3, c3, ys3, by omega, by go_num, rfl, HW.out, by omega, by omega, by omega, by omega, HR.out, HH2.out, HL2.out, by omega, HX.out, KH_w25.out⟩
        case measure => simp [intOf]; omega
      · skip
        go_wp2_with fail
        with_reducible refine (copy23 P D f2 l2 cap ex _ HW.out).mono ?_
        rintro e w21 ⟨P2, D2, cap2, ex2, hP2, hD2, rfl, hW2, hb_w21⟩
        have K_w21 : Kept w.heap.size w (w2.heap.size + 1) [(w2.heap.size, 0, .int .u16 f2), (w2.heap.size, 1, .int .i64 size), (w2.heap.size, 2, .slice a ys.length c)] w21 := (KH_wr.out.step (by omega) (by go_grown)).step (by omega) hb_w21
        replace HW := Lib.hid (HW.out.below hb_w21)
        replace HX := Lib.hid (HX.out.grow (Y := [w2.heap.size, P, D, P2, D2]) hb_w21 (by simp; omega))
        clear hb_w21
        have KH_w21 := Lib.hid K_w21
        have hw_w21 := K_w21.below
        have hz_w21 := K_w21.size
        have lX_w21 : w2.heap.size < w21.heap.size := by omega
        clear K_w21
        have HV := Lib.hid hW2
        clear hW2
        have n1 : P2 ≠ P := by omega
        have n2 : P2 ≠ D := by omega
        have n3 : D2 ≠ P := by omega
        have n4 : D2 ≠ D := by omega
        skip
        go_wp2_with fail
        with_reducible refine (first18 P D f2 l2 cap ex _ HW.out).mono ?_
        rintro e w' ⟨rfl, rfl⟩
        go_wp2_with fail
        with_reducible refine (accept17_any P D f2 l2 cap ex _ HW.out f2 HW.out.f0).mono ?_
        rintro e w22 ⟨r1, f3, l3, rfl, hB_w22, hO_w22⟩
        have K_w22 : Kept w.heap.size w (w2.heap.size + 1) [(w2.heap.size, 0, .int .u16 f2), (w2.heap.size, 1, .int .i64 size), (w2.heap.size, 2, .slice a ys.length c)] w22 := (KH_w21.out.step (by omega) (by go_grown)).onl (S := [P, D]) hO_w22 (by omega) (by simp <;> omega) (by simp <;> omega)
        replace HW := Lib.hid (hB_w22)
        replace HV := Lib.hid (HV.out.onl hO_w22 (by simp [n1, n2]) (by simp [n3, n4]))
        replace HX := Lib.hid (HX.out.onl hO_w22 (by simp))
        clear hO_w22 hB_w22
        have KH_w22 := Lib.hid K_w22
        have hw_w22 := K_w22.below
        have hz_w22 := K_w22.size
        have lX_w22 : w2.heap.size < w22.heap.size := by omega
        clear lX_w21
        clear K_w22
        go_wp2_with fail
        with_reducible refine (first18 P D f3 l3 cap ex _ HW.out).mono ?_
        rintro e w' ⟨rfl, rfl⟩
        obtain ⟨y3, hy3⟩ : ∃ y3, IntKind.u16.wrap (f3 + 1) = y3 := ⟨_, rfl⟩
        have hy4 : U16 y3 := by rw [← hy3, IntKind.wrap_u16]; exact U16_mod _
        have HY4 := Lib.hid hy4
        clear hy4
        go_wp2_with fail
        with_reducible refine (accept17_any P D f3 l3 cap ex _ HW.out y3 HY4.out).mono ?_
        rintro e w23 ⟨r2, f4, l4, rfl, hB_w23, hO_w23⟩
        have K_w23 : Kept w.heap.size w (w2.heap.size + 1) [(w2.heap.size, 0, .int .u16 f2), (w2.heap.size, 1, .int .i64 size), (w2.heap.size, 2, .slice a ys.length c)] w23 := (KH_w22.out.step (by omega) (by go_grown)).onl (S := [P, D]) hO_w23 (by omega) (by simp <;> omega) (by simp <;> omega)
        replace HW := Lib.hid (hB_w23)
        replace HV := Lib.hid (HV.out.onl hO_w23 (by simp [n1, n2]) (by simp [n3, n4]))
        replace HX := Lib.hid (HX.out.onl hO_w23 (by simp))
        clear hO_w23 hB_w23
        have KH_w23 := Lib.hid K_w23
        have hw_w23 := K_w23.below
        have hz_w23 := K_w23.size
        have lX_w23 : w2.heap.size < w23.heap.size := by omega
        clear lX_w22
        clear K_w23
        replace HW := HV
        replace HX := Lib.hid (HX.out.less (Y := [w2.heap.size, P2, D2]) (by simp))
        clear HV hy3
        have hPl3 := HW.out.plt
        have hDl3 := HW.out.d.lt
        have hPl2 : P2 ≠ w2.heap.size := by omega
        have hDl2 : D2 ≠ w2.heap.size := by omega
        have cX0_w23 := KH_w23.out.at (b := w2.heap.size) (o := 0) (v := .int .u16 f2) (by simp)
        have fX0_w23 := KH_w23.out.free (b := w2.heap.size) (o := 0) (v := .int .u16 f2) (by simp)
        have cX1_w23 := KH_w23.out.at (b := w2.heap.size) (o := 1) (v := .int .i64 size) (by simp)
        have fX1_w23 := KH_w23.out.free (b := w2.heap.size) (o := 1) (v := .int .i64 size) (by simp)
        have cX2_w23 := KH_w23.out.at (b := w2.heap.size) (o := 2) (v := .slice a ys.length c) (by simp)
        have fX2_w23 := KH_w23.out.free (b := w2.heap.size) (o := 2) (v := .slice a ys.length c) (by simp)
        go_wp2_with fail
        with_reducible refine (accept24_allc r F2 L2 f2 (size : Int) z d l2 _ ys _ HW.out.f0 HZ.out (by omega) (by rw [HSZ.out]) [w2.heap.size, P2, D2] (by simp; omega) HX.out (by omega) HR.out H0.out HD.out (by omega) E1.out E2.out E3.out).mono ?_
        rintro e w24 ⟨a3, c3, ys3, rfl, hx3, hr3, hl3, hb_w24⟩
        have K_w24 : Kept w.heap.size w (w2.heap.size + 1) [(w2.heap.size, 0, .int .u16 f2), (w2.heap.size, 1, .int .i64 size), (w2.heap.size, 2, .slice a ys.length c)] w24 := (KH_w23.out.step (by omega) (by go_grown)).step (by omega) hb_w24
        replace HW := Lib.hid (HW.out.below hb_w24)
        clear hb_w24
        have KH_w24 := Lib.hid K_w24
        have hw_w24 := K_w24.below
        have hz_w24 := K_w24.size
        have lX_w24 : w2.heap.size < w24.heap.size := by omega
        clear lX_w23 cX0_w23 fX0_w23 cX1_w23 fX1_w23 cX2_w23 fX2_w23
        clear K_w24
        replace HX := Lib.hid hx3
        replace HR := Lib.hid hr3
        clear hx3 hr3
        have cX0_w24 := KH_w24.out.at (b := w2.heap.size) (o := 0) (v := .int .u16 f2) (by simp)
        have fX0_w24 := KH_w24.out.free (b := w2.heap.size) (o := 0) (v := .int .u16 f2) (by simp)
        have cX1_w24 := KH_w24.out.at (b := w2.heap.size) (o := 1) (v := .int .i64 size) (by simp)
        have fX1_w24 := KH_w24.out.free (b := w2.heap.size) (o := 1) (v := .int .i64 size) (by simp)
        have cX2_w24 := KH_w24.out.at (b := w2.heap.size) (o := 2) (v := .slice a ys.length c) (by simp)
        have fX2_w24 := KH_w24.out.free (b := w2.heap.size) (o := 2) (v := .slice a ys.length c) (by simp)
        have hPw := HW.out.plt
        have hDw := HW.out.d.lt
        go_wp2_with fail
        with_reducible refine (has21c P2 D2 f2 l2 cap2 ex2 _ (HW.out.below (by go_grown)) z d b HZ.out HD HB.out).mono ?_
        rintro e w' ⟨rfl, rfl⟩
        go_wp2_with fail
        with_reducible refine (accept17_allc r F2 L2 P2 D2 f2 l2 cap2 ex2 _ (HW.out.below (by go_grown)) z d HZ.out HD E1.out E2.out E3.out).mono ?_
        rintro e w25 ⟨rfl, hB_w25, hO_w25⟩
        have K_w25 : Kept w.heap.size w (w24.heap.size + 1) [(w2.heap.size, 0, .int .u16 f2), (w2.heap.size, 1, .int .i64 size), (w2.heap.size, 2, .slice a ys.length c), (w24.heap.size, 0, .int .u16 F2), (w24.heap.size, 1, .int .i64 size), (w24.heap.size, 2, .slice a3 ys3.length c3)] w25 := Kept.onl (S := [P2, D2]) ⟨by go_grown, by go_size, (by simp [go_sem, lX_w24, cX0_w24, fX0_w24, cX1_w24, fX1_w24, cX2_w24, fX2_w24] <;> omega)⟩ hO_w25 (by omega) (by simp <;> omega) (by simp <;> omega)
        replace HW := Lib.hid (hB_w25)
        replace HX := Lib.hid ((HX.out.below (by go_grown)).onl hO_w25 (by simp))
        clear hO_w25 hB_w25
        have KH_w25 := Lib.hid K_w25
        have hw_w25 := K_w25.below
        have hz_w25 := K_w25.size
        have lX_w25 : w2.heap.size < w25.heap.size := by omega
        have lY_w25 : w24.heap.size < w25.heap.size := by omega
        clear lX_w24 cX0_w24 fX0_w24 cX1_w24 fX1_w24 cX2_w24 fX2_w24
        clear K_w25
        have cX0_w25 := KH_w25.out.at (b := w2.heap.size) (o := 0) (v := .int .u16 f2) (by simp)
        have fX0_w25 := KH_w25.out.free (b := w2.heap.size) (o := 0) (v := .int .u16 f2) (by simp)
        have cX1_w25 := KH_w25.out.at (b := w2.heap.size) (o := 1) (v := .int .i64 size) (by simp)
        have fX1_w25 := KH_w25.out.free (b := w2.heap.size) (o := 1) (v := .int .i64 size) (by simp)
        have cX2_w25 := KH_w25.out.at (b := w2.heap.size) (o := 2) (v := .slice a ys.length c) (by simp)
        have fX2_w25 := KH_w25.out.free (b := w2.heap.size) (o := 2) (v := .slice a ys.length c) (by simp)
        have cY0_w25 := KH_w25.out.at (b := w24.heap.size) (o := 0) (v := .int .u16 F2) (by simp)
        have fY0_w25 := KH_w25.out.free (b := w24.heap.size) (o := 0) (v := .int .u16 F2) (by simp)
        have cY1_w25 := KH_w25.out.at (b := w24.heap.size) (o := 1) (v := .int .i64 size) (by simp)
        have fY1_w25 := KH_w25.out.free (b := w24.heap.size) (o := 1) (v := .int .i64 size) (by simp)
        have cY2_w25 := KH_w25.out.at (b := w24.heap.size) (o := 2) (v := .slice a3 ys3.length c3) (by simp)
        have fY2_w25 := KH_w25.out.free (b := w24.heap.size) (o := 2) (v := .slice a3 ys3.length c3) (by simp)
        go_wp2_with fail
        refine rg7_23 (w0 := w) (B := w.heap.size) (n := w2.heap.size + 1) (L := [(w2.heap.size, 0, .int .u16 F2), (w2.heap.size, 1, .int .i64 size), (w2.heap.size, 2, .slice a3 ys3.length c3)]) (E := fun _ => True) (F := fun W => WinAt W P2 D2 F2 L2 cap2 ex2 ∧ SegX W .u16 (.slice a3 ys3.length c3) ys3 [w2.heap.size, P2, D2]) (by kernel_rfl) (by kernel_rfl) ⟨by go_grown, by go_size, (by simp [go_sem, lX_w25, lY_w25, cX0_w25, fX0_w25, cX1_w25, fX1_w25, cX2_w25, fX2_w25, cY0_w25, fY0_w25, cY1_w25, fY1_w25, cY2_w25, fY2_w25] <;> omega)⟩ trivial (fun _ _ _ _ => trivial) ⟨HW.out.onl (S := [w2.heap.size]) ((((Onl.refl _ _).setCell (.inl (by simp)) _).setCell (.inl (by simp)) _).setCell (.inl (by simp)) _) (by simp; omega) (by simp; omega), ((HX.out.set (by simp) _).set (by simp) _).set (by simp) _⟩ (fun _ _ h hb => ⟨h.1.below hb, h.2.below hb⟩) (fun w26 K_w26 E_w26 F_w26 => ?_)
        have _ne : Nonempty (KX (w.heap.size) w (w2.heap.size + 1) [(w2.heap.size, 0, .int .u16 F2), (w2.heap.size, 1, .int .i64 size), (w2.heap.size, 2, .slice a3 ys3.length c3)] (fun _ => True)) := ⟨⟨_, K_w26, E_w26⟩⟩
        repeat (go_big_quiet_step (fail))
        refine wpQuiet_nil ?_
        have rX0 : ∀ s : KX (w.heap.size) w (w2.heap.size + 1) [(w2.heap.size, 0, .int .u16 F2), (w2.heap.size, 1, .int .i64 size), (w2.heap.size, 2, .slice a3 ys3.length c3)] (fun _ => True), s.val.cell? ⟨w2.heap.size, 0, none⟩ = some (.int .u16 F2) := fun s => s.kept.at (by simp)
        have rX1 : ∀ s : KX (w.heap.size) w (w2.heap.size + 1) [(w2.heap.size, 0, .int .u16 F2), (w2.heap.size, 1, .int .i64 size), (w2.heap.size, 2, .slice a3 ys3.length c3)] (fun _ => True), s.val.cell? ⟨w2.heap.size, 1, none⟩ = some (.int .i64 size) := fun s => s.kept.at (by simp)
        have rX2 : ∀ s : KX (w.heap.size) w (w2.heap.size + 1) [(w2.heap.size, 0, .int .u16 F2), (w2.heap.size, 1, .int .i64 size), (w2.heap.size, 2, .slice a3 ys3.length c3)] (fun _ => True), s.val.cell? ⟨w2.heap.size, 2, none⟩ = some (.slice a3 ys3.length c3) := fun s => s.kept.at (by simp)
        repeat (go_big_quiet_step (fail))
        refine wpQuiet_nil ?_
        clear rX0 rX1 rX2
        have KH_w26 := Lib.hid K_w26
        have hw_w26 := K_w26.below
        have hz_w26 := K_w26.size
        have lX_w26 : w2.heap.size < w26.heap.size := by omega
        clear lX_w25 lY_w25 cX0_w25 fX0_w25 cX1_w25 fX1_w25 cX2_w25 fX2_w25 cY0_w25 fY0_w25 cY1_w25 fY1_w25 cY2_w25 fY2_w25
        clear K_w26
        have HW := Lib.hid (F_w26.1)
        have HX := Lib.hid (F_w26.2)
        clear E_w26 F_w26
        refine ⟨fun K hK0 => ?_, trivial⟩
        have hK := Lib.hid hK0
        clear hK0
        go_wp2_with fail
        with_reducible refine (pending25 F2 (size : Int) L2 _ ys3 _ HW.out.f0 (by have := HL2.out; omega) (by rw [HL2.out]) HX.out.seg HR.out).mono ?_
        rintro e w27 ⟨v9, rfl, hown9, hb_w27⟩
        have K_w27 : Kept w.heap.size w (w2.heap.size + 1) [(w2.heap.size, 0, .int .u16 F2), (w2.heap.size, 1, .int .i64 size), (w2.heap.size, 2, .slice a3 ys3.length c3)] w27 := (KH_w26.out.step (by omega) (by go_grown)).step (by omega) hb_w27
        replace HW := Lib.hid (HW.out.below hb_w27)
        replace HX := Lib.hid (HX.out.below hb_w27)
        clear hb_w27
        have KH_w27 := Lib.hid K_w27
        have hw_w27 := K_w27.below
        have hz_w27 := K_w27.size
        have lX_w27 : w2.heap.size < w27.heap.size := by omega
        clear lX_w26
        clear K_w27
        have hpl := pend_len F2 L2
        have HS9 := Lib.hid (seg_of_owns hown9 (by have := HL2.out; unfold maxLen; omega))
        clear hown9 hpl
        go_wp2_with fail
        first | (refine ⟨rfl, ⟨⟨_, KH_w27.out, trivial⟩, rfl⟩, hK.out _ _ ?_⟩; clear hK K) | (refine ⟨⟨⟨_, KH_w27.out, trivial⟩, rfl⟩, hK.out _ _ ?_⟩; clear hK K)
        refine ⟨fun K hK0 => ?_, trivial⟩
        have hK := Lib.hid hK0
        clear hK0
        go_wp2_with fail
        with_reducible refine (looks20c P2 D2 F2 L2 cap2 ex2 _ HW.out _ (pend F2 L2) HS9.out rfl).mono ?_
        rintro e w28 ⟨rfl, hb_w28⟩
        have K_w28 : Kept w.heap.size w (w2.heap.size + 1) [(w2.heap.size, 0, .int .u16 F2), (w2.heap.size, 1, .int .i64 size), (w2.heap.size, 2, .slice a3 ys3.length c3)] w28 := (KH_w27.out.step (by omega) (by go_grown)).step (by omega) hb_w28
        replace HW := Lib.hid (HW.out.below hb_w28)
        replace HX := Lib.hid (HX.out.below hb_w28)
        clear hb_w28
        have KH_w28 := Lib.hid K_w28
        have hw_w28 := K_w28.below
        have hz_w28 := K_w28.size
        have lX_w28 : w2.heap.size < w28.heap.size := by omega
        clear lX_w27
        clear K_w28
        go_wp2_with fail
        first | (refine ⟨rfl, hK.out _ _ ?_⟩; clear hK K) | (refine hK.out _ _ ?_; clear hK K)
        repeat (go_big_quiet_step (fail))
        refine wpQuiet_nil ?_
        clear _ne
        go_wp2_with fail
        go_roundw
        case rel => exact ⟨k + 1, P2, D2, F2, L2, cap2, ex2, a3, c3, ys3, by omega, by go_num, rfl, HW.out, by omega, by omega, by omega, by omega, HR.out, HH2.out, HL2.out, by omega, HX.out, KH_w28.out⟩
        case measure => simp [intOf]; omega
    · have hn1 : decide ((k : Int) < (zs.length : Int)) = false := by simp; omega
      go_wp2_with fail
      with_reducible refine (known15 _).mono ?_
      rintro e w41 ⟨rfl, hb_w41⟩
      have K_w41 : Kept w.heap.size w (w2.heap.size + 1) [(w2.heap.size, 0, .int .u16 f2), (w2.heap.size, 1, .int .i64 size), (w2.heap.size, 2, .slice a ys.length c)] w41 := (KH_wr.out.step (by omega) (by go_grown)).step (by omega) hb_w41
      clear hb_w41
      have KH_w41 := Lib.hid K_w41
      have hw_w41 := K_w41.below
      have hz_w41 := K_w41.size
      have lX_w41 : w2.heap.size < w41.heap.size := by omega
      clear K_w41
      go_wp2_with fail
      go_returns
      exact ⟨rfl, by go_grown⟩


end Go.Proofs.Ythibagfmglnejaa
