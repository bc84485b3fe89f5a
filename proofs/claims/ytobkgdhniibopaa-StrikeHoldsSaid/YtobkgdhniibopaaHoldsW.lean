/- The walk of StrikeHolds. -/
import Derived.Test.YtobkgdhniibopaaHoldsB
import Derived.Deep.CutBlock
namespace Go.Proofs.Ytobkgdhniibopaa
open Go.RowKit Plain
set_option linter.unusedVariables false
set_option linter.unusedSimpArgs false

theorem rcx {B n : Nat} {w : World} {L : List (Nat × Nat × Value)} {E : World → Prop} (_ : Nonempty (KX B w n L E)) (b o : Nat) (v : Value) (h : (b, o, v) ∈ L) : ∀ s : KX B w n L E, s.val.cell? ⟨b, o, none⟩ = some v := fun s => s.kept.at h
theorem kept_less {B n m : Nat} {w W : World} {L L' : List (Nat × Nat × Value)} (k : Kept B w n L W) (h1 : m ≤ n) (h2 : ∀ x ∈ L', x ∈ L ∧ x.1 < m) : Kept B w m L' W :=
  ⟨k.below, Nat.le_trans h1 k.size, fun x hx => ⟨(h2 x hx).2, (k.cells x (h2 x hx).1).2⟩⟩

set_option maxRecDepth 100000 in
set_option maxHeartbeats 40000000 in
theorem holds5_some (n g t : Int) (v : Value) (rows : List (List Int)) (len cap : Nat) (a : Option Addr) (w : World) (hv : v = .slice a len cap) (hlen : rows.length = len) (HV : Hid (vC n g = true)) (OK : Hid (bk0 n g t).Ok) (h80 : rows.length ≤ 80) (hs : Hid (SRow [.i64, .i64, .u64] w v rows)) :
    Calls Try.prog 5 #[.agg #[.int .i64 n, .int .u64 g], .int .u64 t, v] w fun e w' => e = .returned (.bool true) ∧ Below w.heap.size w w' := by
  subst hv hlen
  go_enter Try.func5, Try.ntmps5
  go_wp2_with fail
  with_reducible refine (valid9c n g _ _ HV.out).mono ?_
  rintro e w1 ⟨rfl, hb_w1⟩
  have K_w1 : Kept w.heap.size w (w.heap.size + 1) [(w.heap.size, 0, .int .i64 n), (w.heap.size, 1, .int .u64 g)] w1 := Kept.of hb_w1 (by go_grown) (by go_size) (by omega) (by simp [go_sem] <;> omega)
  clear hb_w1
  have KH_w1 := Lib.hid K_w1
  have hw_w1 := K_w1.below
  have hz_w1 := K_w1.size
  have lC_w1 : w.heap.size < w1.heap.size := by omega
  have cC0_w1 := K_w1.at (b := w.heap.size) (o := 0) (v := .int .i64 n) (by simp)
  have fC0_w1 := K_w1.free (b := w.heap.size) (o := 0) (v := .int .i64 n) (by simp)
  have cC1_w1 := K_w1.at (b := w.heap.size) (o := 1) (v := .int .u64 g) (by simp)
  have fC1_w1 := K_w1.free (b := w.heap.size) (o := 1) (v := .int .u64 g) (by simp)
  clear K_w1
  go_wp2_with fail
  with_reducible refine (new8 n g t _ HV.out).mono ?_
  rintro e w2 ⟨P, hP, rfl, hB, hb_w2⟩
  have K_w2 : Kept w.heap.size w (w.heap.size + 1) [(w.heap.size, 0, .int .i64 n), (w.heap.size, 1, .int .u64 g)] w2 := (KH_w1.out.step (by omega) (by go_grown)).step (by omega) hb_w2
  clear hb_w2
  have KH_w2 := Lib.hid K_w2
  have hw_w2 := K_w2.below
  have hz_w2 := K_w2.size
  have lC_w2 : w.heap.size < w2.heap.size := by omega
  have cC0_w2 := K_w2.at (b := w.heap.size) (o := 0) (v := .int .i64 n) (by simp)
  have fC0_w2 := K_w2.free (b := w.heap.size) (o := 0) (v := .int .i64 n) (by simp)
  have cC1_w2 := K_w2.at (b := w.heap.size) (o := 1) (v := .int .u64 g) (by simp)
  have fC1_w2 := K_w2.free (b := w.heap.size) (o := 1) (v := .int .u64 g) (by simp)
  clear lC_w1 cC0_w1 fC0_w1 cC1_w1 fC1_w1
  clear K_w2
  have HB := Lib.hid hB
  have hPl := hB.lt
  clear hB
  go_wp2_with fail
  go_loopw [10] (fun i wr => HoInv w P w2.heap.size rows.length n g i wr) (fun i _ => rows.length - (intOf i).toNat)
  case atStart =>
    refine ⟨0, bk0 n g t, 0, 0, Nat.zero_le _, rfl, by omega, by omega, HB.out.below (by go_grown), ⟨OK.out, rfl, rfl, ⟨by omega, by omega, ?_⟩, ⟨by omega, by omega, ?_⟩⟩, by go_grown, by go_size, ?_⟩
    · have := OK.out.n1
      show (0 : Int) = min 0 n
      have : 1 ≤ n := this
      omega
    · have := OK.out.n1
      show (0 : Int) = min 0 n
      have : 1 ≤ n := this
      omega
    · simp [go_sem, lC_w2, cC0_w2, fC0_w2, cC1_w2, fC1_w2]
  case round =>
    obtain ⟨k, b, c0, c1, hk, rfl, hc0, hc1, hB, hH, K⟩ := hrel
    have HB := Lib.hid hB
    have HH := Lib.hid hH
    have KH_wr := Lib.hid K
    have hlt := hB.lt
    have hz_wr := K.size
    have hw_wr := K.below
    have y0 := hH.k0.1
    have y1 := hH.k1.1
    clear hB K hH
    by_cases hk2 : k < rows.length
    · obtain ⟨_, ba, off, cap', hvv, hba, hcells⟩ := hs.out.some (by intro e; rw [e] at hk2; simp at hk2)
      obtain ⟨r, hr⟩ : ∃ r, rows[k]? = some r := ⟨rows[k], List.getElem?_eq_getElem hk2⟩
      obtain ⟨hrl, hcl⟩ := hcells k r hr
      obtain ⟨what, p, ta, rfl⟩ : ∃ x y z, r = [x, y, z] := by
        match r, hrl with
        | [x, y, z], _ => exact ⟨x, y, z, rfl⟩
      have cA0 : wr.cell? ⟨ba, off + k * 3, none⟩ = some (.int .i64 what) := (hw_wr.cell (p := ⟨ba, off + k * 3, none⟩) hba).trans (hcl 0 _ _ rfl rfl).1
      have cA1 : wr.cell? ⟨ba, off + k * 3 + 1, none⟩ = some (.int .i64 p) := (hw_wr.cell (p := ⟨ba, off + k * 3 + 1, none⟩) hba).trans (hcl 1 _ _ rfl rfl).1
      have cA2 : wr.cell? ⟨ba, off + k * 3 + 2, none⟩ = some (.int .u64 ta) := (hw_wr.cell (p := ⟨ba, off + k * 3 + 2, none⟩) hba).trans (hcl 2 _ _ rfl rfl).1
      have hta : U ta := by simpa [U, Lit.wf, IntKind.min, IntKind.max, IntKind.signed, IntKind.bits] using (hcl 2 _ _ rfl rfl).2
      simp only [Value.slice.injEq] at hvv
      obtain ⟨rfl, _, rfl⟩ := hvv
      clear hcells hr hrl hcl
      have i1 : (0 : Int) ≤ (k : Int) := by omega
      have i2 : (k : Int) < (rows.length : Int) := by omega
      have lC_wr : w.heap.size < wr.heap.size := by omega
      have lK_wr : w2.heap.size < wr.heap.size := by omega
      have cC0_wr := KH_wr.out.at (b := w.heap.size) (o := 0) (v := .int .i64 n) (by simp)
      have fC0_wr := KH_wr.out.free (b := w.heap.size) (o := 0) (v := .int .i64 n) (by simp)
      have cC1_wr := KH_wr.out.at (b := w.heap.size) (o := 1) (v := .int .u64 g) (by simp)
      have fC1_wr := KH_wr.out.free (b := w.heap.size) (o := 1) (v := .int .u64 g) (by simp)
      have cK0_wr := KH_wr.out.at (b := w2.heap.size) (o := 0) (v := .int .i64 c0) (by simp)
      have fK0_wr := KH_wr.out.free (b := w2.heap.size) (o := 0) (v := .int .i64 c0) (by simp)
      have cK1_wr := KH_wr.out.at (b := w2.heap.size) (o := 1) (v := .int .i64 c1) (by simp)
      have fK1_wr := KH_wr.out.free (b := w2.heap.size) (o := 1) (v := .int .i64 c1) (by simp)
      by_cases p0 : p = 0
      · subst p0
        go_wp2_with fail
        with_reducible refine (auto20_1 P b _ (HB.out.below (by go_grown)) HH.out.ok.n1).mono ?_
        rintro e w11 ⟨rfl, hb_w11⟩
        have K_w11 : Kept w.heap.size w (wr.heap.size + 1) [(w.heap.size, 0, .int .i64 n), (w.heap.size, 1, .int .u64 g), (w2.heap.size, 0, .int .i64 c0), (w2.heap.size, 1, .int .i64 c1), (wr.heap.size, 0, .int .i64 what), (wr.heap.size, 1, .int .i64 0), (wr.heap.size, 2, .int .u64 ta)] w11 := Kept.of hb_w11 (by go_grown) (by go_size) (by omega) (by simp [go_sem, lC_wr, lK_wr, cC0_wr, fC0_wr, cC1_wr, fC1_wr, cK0_wr, fK0_wr, cK1_wr, fK1_wr] <;> omega)
        replace HB := Lib.hid ((HB.out.below (by go_grown)).below hb_w11)
        clear hb_w11
        have KH_w11 := Lib.hid K_w11
        have hw_w11 := K_w11.below
        have hz_w11 := K_w11.size
        have lC_w11 : w.heap.size < w11.heap.size := by omega
        have lK_w11 : w2.heap.size < w11.heap.size := by omega
        have lA_w11 : wr.heap.size < w11.heap.size := by omega
        clear lC_wr lK_wr cC0_wr fC0_wr cC1_wr fC1_wr cK0_wr fK0_wr cK1_wr fK1_wr
        clear K_w11
        go_wp2_with fail
        with_reducible refine (strikes21_1 P b _ HB.out HH.out.ok.n1).mono ?_
        rintro e w12 ⟨rfl, hb_w12⟩
        have K_w12 : Kept w.heap.size w (wr.heap.size + 1) [(w.heap.size, 0, .int .i64 n), (w.heap.size, 1, .int .u64 g), (w2.heap.size, 0, .int .i64 c0), (w2.heap.size, 1, .int .i64 c1), (wr.heap.size, 0, .int .i64 what), (wr.heap.size, 1, .int .i64 0), (wr.heap.size, 2, .int .u64 ta)] w12 := (KH_w11.out.step (by omega) (by go_grown)).step (by omega) hb_w12
        replace HB := Lib.hid (HB.out.below hb_w12)
        clear hb_w12
        have KH_w12 := Lib.hid K_w12
        have hw_w12 := K_w12.below
        have hz_w12 := K_w12.size
        have lC_w12 : w.heap.size < w12.heap.size := by omega
        have lK_w12 : w2.heap.size < w12.heap.size := by omega
        have lA_w12 : wr.heap.size < w12.heap.size := by omega
        clear lC_w11 lK_w11 lA_w11
        clear K_w12
        go_wp2_with fail
        with_reducible refine (here18_1 P b _ HB.out HH.out.ok.n1).mono ?_
        rintro e w13 ⟨rfl, hb_w13⟩
        have K_w13 : Kept w.heap.size w (wr.heap.size + 1) [(w.heap.size, 0, .int .i64 n), (w.heap.size, 1, .int .u64 g), (w2.heap.size, 0, .int .i64 c0), (w2.heap.size, 1, .int .i64 c1), (wr.heap.size, 0, .int .i64 what), (wr.heap.size, 1, .int .i64 0), (wr.heap.size, 2, .int .u64 ta)] w13 := (KH_w12.out.step (by omega) (by go_grown)).step (by omega) hb_w13
        replace HB := Lib.hid (HB.out.below hb_w13)
        clear hb_w13
        have KH_w13 := Lib.hid K_w13
        have hw_w13 := K_w13.below
        have hz_w13 := K_w13.size
        have lC_w13 : w.heap.size < w13.heap.size := by omega
        have lK_w13 : w2.heap.size < w13.heap.size := by omega
        have lA_w13 : wr.heap.size < w13.heap.size := by omega
        clear lC_w12 lK_w12 lA_w12
        clear K_w13
        go_wp2_with fail
        with_reducible refine (due19_1 P b _ HB.out HH.out.ok.n1 HH.out.ok.t1 (ug HH.out.ok)).mono ?_
        rintro e w14 ⟨rfl, hb_w14⟩
        have K_w14 : Kept w.heap.size w (wr.heap.size + 1) [(w.heap.size, 0, .int .i64 n), (w.heap.size, 1, .int .u64 g), (w2.heap.size, 0, .int .i64 c0), (w2.heap.size, 1, .int .i64 c1), (wr.heap.size, 0, .int .i64 what), (wr.heap.size, 1, .int .i64 0), (wr.heap.size, 2, .int .u64 ta)] w14 := (KH_w13.out.step (by omega) (by go_grown)).step (by omega) hb_w14
        replace HB := Lib.hid (HB.out.below hb_w14)
        clear hb_w14
        have KH_w14 := Lib.hid K_w14
        have hw_w14 := K_w14.below
        have hz_w14 := K_w14.size
        have lC_w14 : w.heap.size < w14.heap.size := by omega
        have lK_w14 : w2.heap.size < w14.heap.size := by omega
        have lA_w14 : wr.heap.size < w14.heap.size := by omega
        clear lC_w13 lK_w13 lA_w13
        clear K_w14
        have cC0_w14 := KH_w14.out.at (b := w.heap.size) (o := 0) (v := .int .i64 n) (by simp)
        have fC0_w14 := KH_w14.out.free (b := w.heap.size) (o := 0) (v := .int .i64 n) (by simp)
        have cC1_w14 := KH_w14.out.at (b := w.heap.size) (o := 1) (v := .int .u64 g) (by simp)
        have fC1_w14 := KH_w14.out.free (b := w.heap.size) (o := 1) (v := .int .u64 g) (by simp)
        have cK0_w14 := KH_w14.out.at (b := w2.heap.size) (o := 0) (v := .int .i64 c0) (by simp)
        have fK0_w14 := KH_w14.out.free (b := w2.heap.size) (o := 0) (v := .int .i64 c0) (by simp)
        have cK1_w14 := KH_w14.out.at (b := w2.heap.size) (o := 1) (v := .int .i64 c1) (by simp)
        have fK1_w14 := KH_w14.out.free (b := w2.heap.size) (o := 1) (v := .int .i64 c1) (by simp)
        have cA0_w14 := KH_w14.out.at (b := wr.heap.size) (o := 0) (v := .int .i64 what) (by simp)
        have fA0_w14 := KH_w14.out.free (b := wr.heap.size) (o := 0) (v := .int .i64 what) (by simp)
        have cA1_w14 := KH_w14.out.at (b := wr.heap.size) (o := 1) (v := .int .i64 0) (by simp)
        have fA1_w14 := KH_w14.out.free (b := wr.heap.size) (o := 1) (v := .int .i64 0) (by simp)
        have cA2_w14 := KH_w14.out.at (b := wr.heap.size) (o := 2) (v := .int .u64 ta) (by simp)
        have fA2_w14 := KH_w14.out.free (b := wr.heap.size) (o := 2) (v := .int .u64 ta) (by simp)
        go_upto_block 2 with fail
        go_cut [] (fun wx => HoCut w P w2.heap.size wr.heap.size k n g what 0 ta b.a1 b.s1 b.h1 b.d1 true wx)
        case first =>
          by_cases h0 : what = 0
          · subst h0
            as_aux_lemma =>
              go_wp2_with fail
              go_wp2_with fail
              with_reducible refine (strike22_0v P b (decide (n ≤ c0 + 1)) _ (HB.out.other (by simp; omega) _) HH.out.ok (HH.out.strike0 (by omega)).a0).mono ?_
              rintro e w15 ⟨rfl, hB_w15, hO_w15⟩
              have K_w15 : Kept w.heap.size w (wr.heap.size + 1) [(w.heap.size, 0, .int .i64 n), (w.heap.size, 1, .int .u64 g), (w2.heap.size, 0, .int .i64 (c0 + 1)), (w2.heap.size, 1, .int .i64 c1), (wr.heap.size, 0, .int .i64 0), (wr.heap.size, 1, .int .i64 0), (wr.heap.size, 2, .int .u64 ta)] w15 := Kept.ofOnly hO_w15 (by omega) (by omega) (by simp <;> omega) (by go_grown) (by go_size) (by simp [go_sem, lC_w14, lK_w14, lA_w14, cC0_w14, fC0_w14, cC1_w14, fC1_w14, cK0_w14, fK0_w14, cK1_w14, fK1_w14, cA0_w14, fA0_w14, cA1_w14, fA1_w14, cA2_w14, fA2_w14] <;> omega)
              replace HB := Lib.hid (hB_w15)
              clear hO_w15 hB_w15
              have KH_w15 := Lib.hid K_w15
              have hw_w15 := K_w15.below
              have hz_w15 := K_w15.size
              have lC_w15 : w.heap.size < w15.heap.size := by omega
              have lK_w15 : w2.heap.size < w15.heap.size := by omega
              have lA_w15 : wr.heap.size < w15.heap.size := by omega
              clear lC_w14 lK_w14 lA_w14 cC0_w14 fC0_w14 cC1_w14 fC1_w14 cK0_w14 fK0_w14 cK1_w14 fK1_w14 cA0_w14 fA0_w14 cA1_w14 fA1_w14 cA2_w14 fA2_w14
              clear K_w15
              go_wp2_with fail
              refine rg5_18 (w0 := w) (B := w.heap.size) (n := wr.heap.size + 1) (L := [(w.heap.size, 0, .int .i64 n), (w.heap.size, 1, .int .u64 g), (w2.heap.size, 0, .int .i64 (c0 + 1)), (w2.heap.size, 1, .int .i64 c1), (wr.heap.size, 0, .int .i64 0), (wr.heap.size, 1, .int .i64 0), (wr.heap.size, 2, .int .u64 ta)]) (E := fun _ => True) (F := fun W => BookAt W P b.strike0) (by kernel_rfl) (by kernel_rfl) (KH_w15.out.step (by omega) (by go_grown)) trivial (fun _ _ _ _ => trivial) (HB.out.below (by go_grown)) (fun _ _ h hb => h.below hb) (fun w16 K_w16 E_w16 F_w16 => ?_)
              have _ne : Nonempty (KX (w.heap.size) w (wr.heap.size + 1) [(w.heap.size, 0, .int .i64 n), (w.heap.size, 1, .int .u64 g), (w2.heap.size, 0, .int .i64 (c0 + 1)), (w2.heap.size, 1, .int .i64 c1), (wr.heap.size, 0, .int .i64 0), (wr.heap.size, 1, .int .i64 0), (wr.heap.size, 2, .int .u64 ta)] (fun _ => True)) := ⟨⟨_, K_w16, E_w16⟩⟩
              repeat (go_big_quiet_step (fail))
              refine wpQuiet_nil ?_
              have rC0 := rcx _ne w.heap.size 0 (.int .i64 n) (by simp)
              have rC1 := rcx _ne w.heap.size 1 (.int .u64 g) (by simp)
              have rK0 := rcx _ne w2.heap.size 0 (.int .i64 (c0 + 1)) (by simp)
              have rK1 := rcx _ne w2.heap.size 1 (.int .i64 c1) (by simp)
              have rA0 := rcx _ne wr.heap.size 0 (.int .i64 0) (by simp)
              have rA1 := rcx _ne wr.heap.size 1 (.int .i64 0) (by simp)
              have rA2 := rcx _ne wr.heap.size 2 (.int .u64 ta) (by simp)
              repeat (go_big_quiet_step (fail))
              refine wpQuiet_nil ?_
              clear rC0 rC1 rK0 rK1 rA0 rA1 rA2
              repeat (go_big_quiet_step (fail))
              refine wpQuiet_nil ?_
              have rC0 := rcx _ne w.heap.size 0 (.int .i64 n) (by simp)
              have rC1 := rcx _ne w.heap.size 1 (.int .u64 g) (by simp)
              have rK0 := rcx _ne w2.heap.size 0 (.int .i64 (c0 + 1)) (by simp)
              have rK1 := rcx _ne w2.heap.size 1 (.int .i64 c1) (by simp)
              have rA0 := rcx _ne wr.heap.size 0 (.int .i64 0) (by simp)
              have rA1 := rcx _ne wr.heap.size 1 (.int .i64 0) (by simp)
              have rA2 := rcx _ne wr.heap.size 2 (.int .u64 ta) (by simp)
              repeat (go_big_quiet_step (fail))
              refine wpQuiet_nil ?_
              clear rC0 rC1 rK0 rK1 rA0 rA1 rA2
              repeat (go_big_quiet_step (fail))
              refine wpQuiet_nil ?_
              clear _ne
              have KH_w16 := Lib.hid K_w16
              have hw_w16 := K_w16.below
              have hz_w16 := K_w16.size
              have lC_w16 : w.heap.size < w16.heap.size := by omega
              have lK_w16 : w2.heap.size < w16.heap.size := by omega
              have lA_w16 : wr.heap.size < w16.heap.size := by omega
              clear lC_w15 lK_w15 lA_w15
              clear K_w16
              have HB := Lib.hid (F_w16)
              clear E_w16 F_w16
              go_wp2_with fail
              go_meet
              case rel => exact ⟨b.strike0, (c0 + 1), c1, by omega, by omega, HB.out, HH.out.strike0 (by omega), other_strike0 b, KH_w16.out⟩
          by_cases h1 : what = 1
          · subst h1
            as_aux_lemma =>
              go_wp2_with fail
              go_wp2_with fail
              with_reducible refine (answer23_0 P b _ (HB.out.other (by simp; omega) _) HH.out.ok.n1).mono ?_
              rintro e w15 ⟨rfl, hB_w15, hO_w15⟩
              have K_w15 : Kept w.heap.size w (wr.heap.size + 1) [(w.heap.size, 0, .int .i64 n), (w.heap.size, 1, .int .u64 g), (w2.heap.size, 0, .int .i64 0), (w2.heap.size, 1, .int .i64 c1), (wr.heap.size, 0, .int .i64 1), (wr.heap.size, 1, .int .i64 0), (wr.heap.size, 2, .int .u64 ta)] w15 := Kept.ofOnly hO_w15 (by omega) (by omega) (by simp <;> omega) (by go_grown) (by go_size) (by simp [go_sem, lC_w14, lK_w14, lA_w14, cC0_w14, fC0_w14, cC1_w14, fC1_w14, cK0_w14, fK0_w14, cK1_w14, fK1_w14, cA0_w14, fA0_w14, cA1_w14, fA1_w14, cA2_w14, fA2_w14] <;> omega)
              replace HB := Lib.hid (hB_w15)
              clear hO_w15 hB_w15
              have KH_w15 := Lib.hid K_w15
              have hw_w15 := K_w15.below
              have hz_w15 := K_w15.size
              have lC_w15 : w.heap.size < w15.heap.size := by omega
              have lK_w15 : w2.heap.size < w15.heap.size := by omega
              have lA_w15 : wr.heap.size < w15.heap.size := by omega
              clear lC_w14 lK_w14 lA_w14 cC0_w14 fC0_w14 cC1_w14 fC1_w14 cK0_w14 fK0_w14 cK1_w14 fK1_w14 cA0_w14 fA0_w14 cA1_w14 fA1_w14 cA2_w14 fA2_w14
              clear K_w15
              go_wp2_with fail
              go_meet
              case rel => exact ⟨b.answer0, 0, c1, by omega, by omega, HB.out, HH.out.answer0, other_answer0 b, KH_w15.out⟩
          by_cases h2 : what = 2
          · subst h2
            obtain ⟨dv, hdv⟩ : ∃ d, b.d0 = d := ⟨_, rfl⟩
            have HDV := Lib.hid hdv
            cases q1 : (dv != 18446744073709551615)
            · have HOV : Hid (over b.d0 ta = false) := Lib.hid (by rw [hdv]; simp [over, q1])
              clear hdv
              as_aux_lemma =>
                go_wp2_with fail
                refine rg5_25 (w0 := w) (B := w.heap.size) (n := wr.heap.size + 1) (L := [(w.heap.size, 0, .int .i64 n), (w.heap.size, 1, .int .u64 g), (w2.heap.size, 0, .int .i64 c0), (w2.heap.size, 1, .int .i64 c1), (wr.heap.size, 0, .int .i64 2), (wr.heap.size, 1, .int .i64 0), (wr.heap.size, 2, .int .u64 ta)]) (E := fun _ => True) (F := fun W => BookAt W P b) (by kernel_rfl) (by kernel_rfl) (KH_w14.out.step (by omega) (by go_grown)) trivial (fun _ _ _ _ => trivial) (HB.out.below (by go_grown)) (fun _ _ h hb => h.below hb) (fun w15 K_w15 E_w15 F_w15 => ?_)
                have _ne : Nonempty (KX (w.heap.size) w (wr.heap.size + 1) [(w.heap.size, 0, .int .i64 n), (w.heap.size, 1, .int .u64 g), (w2.heap.size, 0, .int .i64 c0), (w2.heap.size, 1, .int .i64 c1), (wr.heap.size, 0, .int .i64 2), (wr.heap.size, 1, .int .i64 0), (wr.heap.size, 2, .int .u64 ta)] (fun _ => True)) := ⟨⟨_, K_w15, E_w15⟩⟩
                repeat (go_big_quiet_step (fail))
                refine wpQuiet_nil ?_
                have rC0 := rcx _ne w.heap.size 0 (.int .i64 n) (by simp)
                have rC1 := rcx _ne w.heap.size 1 (.int .u64 g) (by simp)
                have rK0 := rcx _ne w2.heap.size 0 (.int .i64 c0) (by simp)
                have rK1 := rcx _ne w2.heap.size 1 (.int .i64 c1) (by simp)
                have rA0 := rcx _ne wr.heap.size 0 (.int .i64 2) (by simp)
                have rA1 := rcx _ne wr.heap.size 1 (.int .i64 0) (by simp)
                have rA2 := rcx _ne wr.heap.size 2 (.int .u64 ta) (by simp)
                repeat (go_big_quiet_step (fail))
                refine wpQuiet_nil ?_
                clear rC0 rC1 rK0 rK1 rA0 rA1 rA2
                have KH_w15 := Lib.hid K_w15
                have hw_w15 := K_w15.below
                have hz_w15 := K_w15.size
                have lC_w15 : w.heap.size < w15.heap.size := by omega
                have lK_w15 : w2.heap.size < w15.heap.size := by omega
                have lA_w15 : wr.heap.size < w15.heap.size := by omega
                clear lC_w14 lK_w14 lA_w14 cC0_w14 fC0_w14 cC1_w14 fC1_w14 cK0_w14 fK0_w14 cK1_w14 fK1_w14 cA0_w14 fA0_w14 cA1_w14 fA1_w14 cA2_w14 fA2_w14
                clear K_w15
                have HB := Lib.hid (F_w15)
                clear E_w15 F_w15
                refine ⟨fun K hK0 => ?_, trivial⟩
                have hK := Lib.hid hK0
                clear hK0
                go_wp2_with fail
                with_reducible refine (due19_0c P b dv _ HB.out HH.out.ok.n1 HH.out.ok.t0 (ug HH.out.ok) HDV.out).mono ?_
                rintro e w16 ⟨rfl, hb_w16⟩
                have K_w16 : Kept w.heap.size w (wr.heap.size + 1) [(w.heap.size, 0, .int .i64 n), (w.heap.size, 1, .int .u64 g), (w2.heap.size, 0, .int .i64 c0), (w2.heap.size, 1, .int .i64 c1), (wr.heap.size, 0, .int .i64 2), (wr.heap.size, 1, .int .i64 0), (wr.heap.size, 2, .int .u64 ta)] w16 := (KH_w15.out.step (by omega) (by go_grown)).step (by omega) hb_w16
                replace HB := Lib.hid (HB.out.below hb_w16)
                clear hb_w16
                have KH_w16 := Lib.hid K_w16
                have hw_w16 := K_w16.below
                have hz_w16 := K_w16.size
                have lC_w16 : w.heap.size < w16.heap.size := by omega
                have lK_w16 : w2.heap.size < w16.heap.size := by omega
                have lA_w16 : wr.heap.size < w16.heap.size := by omega
                clear lC_w15 lK_w15 lA_w15
                clear K_w16
                go_wp2_with fail
                first | (refine ⟨rfl, ⟨⟨_, KH_w16.out, trivial⟩, rfl⟩, hK.out _ _ ?_⟩; clear hK K) | (refine ⟨⟨⟨_, KH_w16.out, trivial⟩, rfl⟩, hK.out _ _ ?_⟩; clear hK K)
                repeat (go_big_quiet_step (fail))
                refine wpQuiet_nil ?_
                have rC0 := rcx _ne w.heap.size 0 (.int .i64 n) (by simp)
                have rC1 := rcx _ne w.heap.size 1 (.int .u64 g) (by simp)
                have rK0 := rcx _ne w2.heap.size 0 (.int .i64 c0) (by simp)
                have rK1 := rcx _ne w2.heap.size 1 (.int .i64 c1) (by simp)
                have rA0 := rcx _ne wr.heap.size 0 (.int .i64 2) (by simp)
                have rA1 := rcx _ne wr.heap.size 1 (.int .i64 0) (by simp)
                have rA2 := rcx _ne wr.heap.size 2 (.int .u64 ta) (by simp)
                repeat (go_big_quiet_step (fail))
                refine wpQuiet_nil ?_
                clear rC0 rC1 rK0 rK1 rA0 rA1 rA2
                refine ⟨fun K hK0 => ?_, trivial⟩
                have hK := Lib.hid hK0
                clear hK0
                go_wp2_with fail
                first | (refine ⟨rfl, ⟨⟨_, KH_w16.out, trivial⟩, rfl⟩, hK.out _ _ ?_⟩; clear hK K) | (refine ⟨⟨⟨_, KH_w16.out, trivial⟩, rfl⟩, hK.out _ _ ?_⟩; clear hK K)
                repeat (go_big_quiet_step (fail))
                refine wpQuiet_nil ?_
                clear _ne
                have cA0_w16 := KH_w16.out.at (b := wr.heap.size) (o := 0) (v := .int .i64 2) (by simp)
                have fA0_w16 := KH_w16.out.free (b := wr.heap.size) (o := 0) (v := .int .i64 2) (by simp)
                have cA1_w16 := KH_w16.out.at (b := wr.heap.size) (o := 1) (v := .int .i64 0) (by simp)
                have fA1_w16 := KH_w16.out.free (b := wr.heap.size) (o := 1) (v := .int .i64 0) (by simp)
                have cA2_w16 := KH_w16.out.at (b := wr.heap.size) (o := 2) (v := .int .u64 ta) (by simp)
                have fA2_w16 := KH_w16.out.free (b := wr.heap.size) (o := 2) (v := .int .u64 ta) (by simp)
                go_wp2_with fail
                with_reducible refine (join14_0 P b ta _ HB.out HH.out.ok HOV.out).mono ?_
                rintro e w17 ⟨rfl, hB_w17, hO_w17⟩
                have K_w17 : Kept w.heap.size w (wr.heap.size + 1) [(w.heap.size, 0, .int .i64 n), (w.heap.size, 1, .int .u64 g), (w2.heap.size, 0, .int .i64 c0), (w2.heap.size, 1, .int .i64 c1), (wr.heap.size, 0, .int .i64 2), (wr.heap.size, 1, .int .i64 0), (wr.heap.size, 2, .int .u64 ta)] w17 := (KH_w16.out.step (by omega) (by go_grown)).only hO_w17 (by omega) (by omega) (by simp <;> omega)
                replace HB := Lib.hid (hB_w17)
                clear hO_w17 hB_w17
                have KH_w17 := Lib.hid K_w17
                have hw_w17 := K_w17.below
                have hz_w17 := K_w17.size
                have lC_w17 : w.heap.size < w17.heap.size := by omega
                have lK_w17 : w2.heap.size < w17.heap.size := by omega
                have lA_w17 : wr.heap.size < w17.heap.size := by omega
                clear lC_w16 lK_w16 lA_w16 cA0_w16 fA0_w16 cA1_w16 fA1_w16 cA2_w16 fA2_w16
                clear K_w17
                go_wp2_with fail
                go_meet
                case rel => exact ⟨b.join0, c0, c1, by omega, by omega, HB.out, HH.out.join0, other_join0 b, KH_w17.out⟩
            · by_cases q2 : dv ≤ ta
              · have HOV : Hid (over b.d0 ta = true) := Lib.hid (by rw [hdv]; simp [over, q1, q2])
                clear hdv
                as_aux_lemma =>
                  go_wp2_with fail
                  refine rg5_25 (w0 := w) (B := w.heap.size) (n := wr.heap.size + 1) (L := [(w.heap.size, 0, .int .i64 n), (w.heap.size, 1, .int .u64 g), (w2.heap.size, 0, .int .i64 c0), (w2.heap.size, 1, .int .i64 c1), (wr.heap.size, 0, .int .i64 2), (wr.heap.size, 1, .int .i64 0), (wr.heap.size, 2, .int .u64 ta)]) (E := fun _ => True) (F := fun W => BookAt W P b) (by kernel_rfl) (by kernel_rfl) (KH_w14.out.step (by omega) (by go_grown)) trivial (fun _ _ _ _ => trivial) (HB.out.below (by go_grown)) (fun _ _ h hb => h.below hb) (fun w15 K_w15 E_w15 F_w15 => ?_)
                  have _ne : Nonempty (KX (w.heap.size) w (wr.heap.size + 1) [(w.heap.size, 0, .int .i64 n), (w.heap.size, 1, .int .u64 g), (w2.heap.size, 0, .int .i64 c0), (w2.heap.size, 1, .int .i64 c1), (wr.heap.size, 0, .int .i64 2), (wr.heap.size, 1, .int .i64 0), (wr.heap.size, 2, .int .u64 ta)] (fun _ => True)) := ⟨⟨_, K_w15, E_w15⟩⟩
                  repeat (go_big_quiet_step (fail))
                  refine wpQuiet_nil ?_
                  have rC0 := rcx _ne w.heap.size 0 (.int .i64 n) (by simp)
                  have rC1 := rcx _ne w.heap.size 1 (.int .u64 g) (by simp)
                  have rK0 := rcx _ne w2.heap.size 0 (.int .i64 c0) (by simp)
                  have rK1 := rcx _ne w2.heap.size 1 (.int .i64 c1) (by simp)
                  have rA0 := rcx _ne wr.heap.size 0 (.int .i64 2) (by simp)
                  have rA1 := rcx _ne wr.heap.size 1 (.int .i64 0) (by simp)
                  have rA2 := rcx _ne wr.heap.size 2 (.int .u64 ta) (by simp)
                  repeat (go_big_quiet_step (fail))
                  refine wpQuiet_nil ?_
                  clear rC0 rC1 rK0 rK1 rA0 rA1 rA2
                  have KH_w15 := Lib.hid K_w15
                  have hw_w15 := K_w15.below
                  have hz_w15 := K_w15.size
                  have lC_w15 : w.heap.size < w15.heap.size := by omega
                  have lK_w15 : w2.heap.size < w15.heap.size := by omega
                  have lA_w15 : wr.heap.size < w15.heap.size := by omega
                  clear lC_w14 lK_w14 lA_w14 cC0_w14 fC0_w14 cC1_w14 fC1_w14 cK0_w14 fK0_w14 cK1_w14 fK1_w14 cA0_w14 fA0_w14 cA1_w14 fA1_w14 cA2_w14 fA2_w14
                  clear K_w15
                  have HB := Lib.hid (F_w15)
                  clear E_w15 F_w15
                  refine ⟨fun K hK0 => ?_, trivial⟩
                  have hK := Lib.hid hK0
                  clear hK0
                  go_wp2_with fail
                  with_reducible refine (due19_0c P b dv _ HB.out HH.out.ok.n1 HH.out.ok.t0 (ug HH.out.ok) HDV.out).mono ?_
                  rintro e w16 ⟨rfl, hb_w16⟩
                  have K_w16 : Kept w.heap.size w (wr.heap.size + 1) [(w.heap.size, 0, .int .i64 n), (w.heap.size, 1, .int .u64 g), (w2.heap.size, 0, .int .i64 c0), (w2.heap.size, 1, .int .i64 c1), (wr.heap.size, 0, .int .i64 2), (wr.heap.size, 1, .int .i64 0), (wr.heap.size, 2, .int .u64 ta)] w16 := (KH_w15.out.step (by omega) (by go_grown)).step (by omega) hb_w16
                  replace HB := Lib.hid (HB.out.below hb_w16)
                  clear hb_w16
                  have KH_w16 := Lib.hid K_w16
                  have hw_w16 := K_w16.below
                  have hz_w16 := K_w16.size
                  have lC_w16 : w.heap.size < w16.heap.size := by omega
                  have lK_w16 : w2.heap.size < w16.heap.size := by omega
                  have lA_w16 : wr.heap.size < w16.heap.size := by omega
                  clear lC_w15 lK_w15 lA_w15
                  clear K_w16
                  go_wp2_with fail
                  first | (refine ⟨rfl, ⟨⟨_, KH_w16.out, trivial⟩, rfl⟩, hK.out _ _ ?_⟩; clear hK K) | (refine ⟨⟨⟨_, KH_w16.out, trivial⟩, rfl⟩, hK.out _ _ ?_⟩; clear hK K)
                  repeat (go_big_quiet_step (fail))
                  refine wpQuiet_nil ?_
                  have rC0 := rcx _ne w.heap.size 0 (.int .i64 n) (by simp)
                  have rC1 := rcx _ne w.heap.size 1 (.int .u64 g) (by simp)
                  have rK0 := rcx _ne w2.heap.size 0 (.int .i64 c0) (by simp)
                  have rK1 := rcx _ne w2.heap.size 1 (.int .i64 c1) (by simp)
                  have rA0 := rcx _ne wr.heap.size 0 (.int .i64 2) (by simp)
                  have rA1 := rcx _ne wr.heap.size 1 (.int .i64 0) (by simp)
                  have rA2 := rcx _ne wr.heap.size 2 (.int .u64 ta) (by simp)
                  repeat (go_big_quiet_step (fail))
                  refine wpQuiet_nil ?_
                  clear rC0 rC1 rK0 rK1 rA0 rA1 rA2
                  refine ⟨fun K hK0 => ?_, trivial⟩
                  have hK := Lib.hid hK0
                  clear hK0
                  go_wp2_with fail
                  with_reducible refine (due19_0c P b dv _ HB.out HH.out.ok.n1 HH.out.ok.t0 (ug HH.out.ok) HDV.out).mono ?_
                  rintro e w17 ⟨rfl, hb_w17⟩
                  have K_w17 : Kept w.heap.size w (wr.heap.size + 1) [(w.heap.size, 0, .int .i64 n), (w.heap.size, 1, .int .u64 g), (w2.heap.size, 0, .int .i64 c0), (w2.heap.size, 1, .int .i64 c1), (wr.heap.size, 0, .int .i64 2), (wr.heap.size, 1, .int .i64 0), (wr.heap.size, 2, .int .u64 ta)] w17 := (KH_w16.out.step (by omega) (by go_grown)).step (by omega) hb_w17
                  replace HB := Lib.hid (HB.out.below hb_w17)
                  clear hb_w17
                  have KH_w17 := Lib.hid K_w17
                  have hw_w17 := K_w17.below
                  have hz_w17 := K_w17.size
                  have lC_w17 : w.heap.size < w17.heap.size := by omega
                  have lK_w17 : w2.heap.size < w17.heap.size := by omega
                  have lA_w17 : wr.heap.size < w17.heap.size := by omega
                  clear lC_w16 lK_w16 lA_w16
                  clear K_w17
                  go_wp2_with fail
                  first | (refine ⟨rfl, ⟨⟨_, KH_w17.out, trivial⟩, rfl⟩, hK.out _ _ ?_⟩; clear hK K) | (refine ⟨⟨⟨_, KH_w17.out, trivial⟩, rfl⟩, hK.out _ _ ?_⟩; clear hK K)
                  repeat (go_big_quiet_step (fail))
                  refine wpQuiet_nil ?_
                  clear _ne
                  have cA0_w17 := KH_w17.out.at (b := wr.heap.size) (o := 0) (v := .int .i64 2) (by simp)
                  have fA0_w17 := KH_w17.out.free (b := wr.heap.size) (o := 0) (v := .int .i64 2) (by simp)
                  have cA1_w17 := KH_w17.out.at (b := wr.heap.size) (o := 1) (v := .int .i64 0) (by simp)
                  have fA1_w17 := KH_w17.out.free (b := wr.heap.size) (o := 1) (v := .int .i64 0) (by simp)
                  have cA2_w17 := KH_w17.out.at (b := wr.heap.size) (o := 2) (v := .int .u64 ta) (by simp)
                  have fA2_w17 := KH_w17.out.free (b := wr.heap.size) (o := 2) (v := .int .u64 ta) (by simp)
                  go_wp2_with fail
                  with_reducible refine (join14_0_late P b ta _ HB.out HH.out.ok HOV.out).mono ?_
                  rintro e w18 ⟨rfl, hB_w18, hO_w18⟩
                  have K_w18 : Kept w.heap.size w (wr.heap.size + 1) [(w.heap.size, 0, .int .i64 n), (w.heap.size, 1, .int .u64 g), (w2.heap.size, 0, .int .i64 c0), (w2.heap.size, 1, .int .i64 c1), (wr.heap.size, 0, .int .i64 2), (wr.heap.size, 1, .int .i64 0), (wr.heap.size, 2, .int .u64 ta)] w18 := (KH_w17.out.step (by omega) (by go_grown)).only hO_w18 (by omega) (by omega) (by simp <;> omega)
                  replace HB := Lib.hid (hB_w18)
                  clear hO_w18 hB_w18
                  have KH_w18 := Lib.hid K_w18
                  have hw_w18 := K_w18.below
                  have hz_w18 := K_w18.size
                  have lC_w18 : w.heap.size < w18.heap.size := by omega
                  have lK_w18 : w2.heap.size < w18.heap.size := by omega
                  have lA_w18 : wr.heap.size < w18.heap.size := by omega
                  clear lC_w17 lK_w17 lA_w17 cA0_w17 fA0_w17 cA1_w17 fA1_w17 cA2_w17 fA2_w17
                  clear K_w18
                  go_wp2_with fail
                  go_meet
                  case rel => exact ⟨b, c0, c1, by omega, by omega, HB.out, HH.out, ⟨rfl, rfl, rfl, rfl⟩, KH_w18.out⟩
              · have HOV : Hid (over b.d0 ta = false) := Lib.hid (by rw [hdv]; simp [over, q1, q2])
                clear hdv
                as_aux_lemma =>
                  go_wp2_with fail
                  refine rg5_25 (w0 := w) (B := w.heap.size) (n := wr.heap.size + 1) (L := [(w.heap.size, 0, .int .i64 n), (w.heap.size, 1, .int .u64 g), (w2.heap.size, 0, .int .i64 c0), (w2.heap.size, 1, .int .i64 c1), (wr.heap.size, 0, .int .i64 2), (wr.heap.size, 1, .int .i64 0), (wr.heap.size, 2, .int .u64 ta)]) (E := fun _ => True) (F := fun W => BookAt W P b) (by kernel_rfl) (by kernel_rfl) (KH_w14.out.step (by omega) (by go_grown)) trivial (fun _ _ _ _ => trivial) (HB.out.below (by go_grown)) (fun _ _ h hb => h.below hb) (fun w15 K_w15 E_w15 F_w15 => ?_)
                  have _ne : Nonempty (KX (w.heap.size) w (wr.heap.size + 1) [(w.heap.size, 0, .int .i64 n), (w.heap.size, 1, .int .u64 g), (w2.heap.size, 0, .int .i64 c0), (w2.heap.size, 1, .int .i64 c1), (wr.heap.size, 0, .int .i64 2), (wr.heap.size, 1, .int .i64 0), (wr.heap.size, 2, .int .u64 ta)] (fun _ => True)) := ⟨⟨_, K_w15, E_w15⟩⟩
                  repeat (go_big_quiet_step (fail))
                  refine wpQuiet_nil ?_
                  have rC0 := rcx _ne w.heap.size 0 (.int .i64 n) (by simp)
                  have rC1 := rcx _ne w.heap.size 1 (.int .u64 g) (by simp)
                  have rK0 := rcx _ne w2.heap.size 0 (.int .i64 c0) (by simp)
                  have rK1 := rcx _ne w2.heap.size 1 (.int .i64 c1) (by simp)
                  have rA0 := rcx _ne wr.heap.size 0 (.int .i64 2) (by simp)
                  have rA1 := rcx _ne wr.heap.size 1 (.int .i64 0) (by simp)
                  have rA2 := rcx _ne wr.heap.size 2 (.int .u64 ta) (by simp)
                  repeat (go_big_quiet_step (fail))
                  refine wpQuiet_nil ?_
                  clear rC0 rC1 rK0 rK1 rA0 rA1 rA2
                  have KH_w15 := Lib.hid K_w15
                  have hw_w15 := K_w15.below
                  have hz_w15 := K_w15.size
                  have lC_w15 : w.heap.size < w15.heap.size := by omega
                  have lK_w15 : w2.heap.size < w15.heap.size := by omega
                  have lA_w15 : wr.heap.size < w15.heap.size := by omega
                  clear lC_w14 lK_w14 lA_w14 cC0_w14 fC0_w14 cC1_w14 fC1_w14 cK0_w14 fK0_w14 cK1_w14 fK1_w14 cA0_w14 fA0_w14 cA1_w14 fA1_w14 cA2_w14 fA2_w14
                  clear K_w15
                  have HB := Lib.hid (F_w15)
                  clear E_w15 F_w15
                  refine ⟨fun K hK0 => ?_, trivial⟩
                  have hK := Lib.hid hK0
                  clear hK0
                  go_wp2_with fail
                  with_reducible refine (due19_0c P b dv _ HB.out HH.out.ok.n1 HH.out.ok.t0 (ug HH.out.ok) HDV.out).mono ?_
                  rintro e w16 ⟨rfl, hb_w16⟩
                  have K_w16 : Kept w.heap.size w (wr.heap.size + 1) [(w.heap.size, 0, .int .i64 n), (w.heap.size, 1, .int .u64 g), (w2.heap.size, 0, .int .i64 c0), (w2.heap.size, 1, .int .i64 c1), (wr.heap.size, 0, .int .i64 2), (wr.heap.size, 1, .int .i64 0), (wr.heap.size, 2, .int .u64 ta)] w16 := (KH_w15.out.step (by omega) (by go_grown)).step (by omega) hb_w16
                  replace HB := Lib.hid (HB.out.below hb_w16)
                  clear hb_w16
                  have KH_w16 := Lib.hid K_w16
                  have hw_w16 := K_w16.below
                  have hz_w16 := K_w16.size
                  have lC_w16 : w.heap.size < w16.heap.size := by omega
                  have lK_w16 : w2.heap.size < w16.heap.size := by omega
                  have lA_w16 : wr.heap.size < w16.heap.size := by omega
                  clear lC_w15 lK_w15 lA_w15
                  clear K_w16
                  go_wp2_with fail
                  first | (refine ⟨rfl, ⟨⟨_, KH_w16.out, trivial⟩, rfl⟩, hK.out _ _ ?_⟩; clear hK K) | (refine ⟨⟨⟨_, KH_w16.out, trivial⟩, rfl⟩, hK.out _ _ ?_⟩; clear hK K)
                  repeat (go_big_quiet_step (fail))
                  refine wpQuiet_nil ?_
                  have rC0 := rcx _ne w.heap.size 0 (.int .i64 n) (by simp)
                  have rC1 := rcx _ne w.heap.size 1 (.int .u64 g) (by simp)
                  have rK0 := rcx _ne w2.heap.size 0 (.int .i64 c0) (by simp)
                  have rK1 := rcx _ne w2.heap.size 1 (.int .i64 c1) (by simp)
                  have rA0 := rcx _ne wr.heap.size 0 (.int .i64 2) (by simp)
                  have rA1 := rcx _ne wr.heap.size 1 (.int .i64 0) (by simp)
                  have rA2 := rcx _ne wr.heap.size 2 (.int .u64 ta) (by simp)
                  repeat (go_big_quiet_step (fail))
                  refine wpQuiet_nil ?_
                  clear rC0 rC1 rK0 rK1 rA0 rA1 rA2
                  refine ⟨fun K hK0 => ?_, trivial⟩
                  have hK := Lib.hid hK0
                  clear hK0
                  go_wp2_with fail
                  with_reducible refine (due19_0c P b dv _ HB.out HH.out.ok.n1 HH.out.ok.t0 (ug HH.out.ok) HDV.out).mono ?_
                  rintro e w17 ⟨rfl, hb_w17⟩
                  have K_w17 : Kept w.heap.size w (wr.heap.size + 1) [(w.heap.size, 0, .int .i64 n), (w.heap.size, 1, .int .u64 g), (w2.heap.size, 0, .int .i64 c0), (w2.heap.size, 1, .int .i64 c1), (wr.heap.size, 0, .int .i64 2), (wr.heap.size, 1, .int .i64 0), (wr.heap.size, 2, .int .u64 ta)] w17 := (KH_w16.out.step (by omega) (by go_grown)).step (by omega) hb_w17
                  replace HB := Lib.hid (HB.out.below hb_w17)
                  clear hb_w17
                  have KH_w17 := Lib.hid K_w17
                  have hw_w17 := K_w17.below
                  have hz_w17 := K_w17.size
                  have lC_w17 : w.heap.size < w17.heap.size := by omega
                  have lK_w17 : w2.heap.size < w17.heap.size := by omega
                  have lA_w17 : wr.heap.size < w17.heap.size := by omega
                  clear lC_w16 lK_w16 lA_w16
                  clear K_w17
                  go_wp2_with fail
                  first | (refine ⟨rfl, ⟨⟨_, KH_w17.out, trivial⟩, rfl⟩, hK.out _ _ ?_⟩; clear hK K) | (refine ⟨⟨⟨_, KH_w17.out, trivial⟩, rfl⟩, hK.out _ _ ?_⟩; clear hK K)
                  repeat (go_big_quiet_step (fail))
                  refine wpQuiet_nil ?_
                  clear _ne
                  have cA0_w17 := KH_w17.out.at (b := wr.heap.size) (o := 0) (v := .int .i64 2) (by simp)
                  have fA0_w17 := KH_w17.out.free (b := wr.heap.size) (o := 0) (v := .int .i64 2) (by simp)
                  have cA1_w17 := KH_w17.out.at (b := wr.heap.size) (o := 1) (v := .int .i64 0) (by simp)
                  have fA1_w17 := KH_w17.out.free (b := wr.heap.size) (o := 1) (v := .int .i64 0) (by simp)
                  have cA2_w17 := KH_w17.out.at (b := wr.heap.size) (o := 2) (v := .int .u64 ta) (by simp)
                  have fA2_w17 := KH_w17.out.free (b := wr.heap.size) (o := 2) (v := .int .u64 ta) (by simp)
                  go_wp2_with fail
                  with_reducible refine (join14_0 P b ta _ HB.out HH.out.ok HOV.out).mono ?_
                  rintro e w18 ⟨rfl, hB_w18, hO_w18⟩
                  have K_w18 : Kept w.heap.size w (wr.heap.size + 1) [(w.heap.size, 0, .int .i64 n), (w.heap.size, 1, .int .u64 g), (w2.heap.size, 0, .int .i64 c0), (w2.heap.size, 1, .int .i64 c1), (wr.heap.size, 0, .int .i64 2), (wr.heap.size, 1, .int .i64 0), (wr.heap.size, 2, .int .u64 ta)] w18 := (KH_w17.out.step (by omega) (by go_grown)).only hO_w18 (by omega) (by omega) (by simp <;> omega)
                  replace HB := Lib.hid (hB_w18)
                  clear hO_w18 hB_w18
                  have KH_w18 := Lib.hid K_w18
                  have hw_w18 := K_w18.below
                  have hz_w18 := K_w18.size
                  have lC_w18 : w.heap.size < w18.heap.size := by omega
                  have lK_w18 : w2.heap.size < w18.heap.size := by omega
                  have lA_w18 : wr.heap.size < w18.heap.size := by omega
                  clear lC_w17 lK_w17 lA_w17 cA0_w17 fA0_w17 cA1_w17 fA1_w17 cA2_w17 fA2_w17
                  clear K_w18
                  go_wp2_with fail
                  go_meet
                  case rel => exact ⟨b.join0, c0, c1, by omega, by omega, HB.out, HH.out.join0, other_join0 b, KH_w18.out⟩
          by_cases h3 : what = 3
          · subst h3
            have HLV := Lib.hid (HH.out.leave0 (t := ta) hta)
            cases hws : b.h0
            · have HWS := Lib.hid hws
              clear hws
              as_aux_lemma =>
                go_wp2_with fail
                with_reducible refine (here18_0c P b false _ HB.out HH.out.ok.n1 HWS.out).mono ?_
                rintro e w15 ⟨rfl, hb_w15⟩
                have K_w15 : Kept w.heap.size w (wr.heap.size + 1) [(w.heap.size, 0, .int .i64 n), (w.heap.size, 1, .int .u64 g), (w2.heap.size, 0, .int .i64 c0), (w2.heap.size, 1, .int .i64 c1), (wr.heap.size, 0, .int .i64 3), (wr.heap.size, 1, .int .i64 0), (wr.heap.size, 2, .int .u64 ta)] w15 := (KH_w14.out.step (by omega) (by go_grown)).step (by omega) hb_w15
                replace HB := Lib.hid (HB.out.below hb_w15)
                clear hb_w15
                have KH_w15 := Lib.hid K_w15
                have hw_w15 := K_w15.below
                have hz_w15 := K_w15.size
                have lC_w15 : w.heap.size < w15.heap.size := by omega
                have lK_w15 : w2.heap.size < w15.heap.size := by omega
                have lA_w15 : wr.heap.size < w15.heap.size := by omega
                clear lC_w14 lK_w14 lA_w14 cC0_w14 fC0_w14 cC1_w14 fC1_w14 cK0_w14 fK0_w14 cK1_w14 fK1_w14 cA0_w14 fA0_w14 cA1_w14 fA1_w14 cA2_w14 fA2_w14
                clear K_w15
                go_wp2_with fail
                refine rg5_30 (w0 := w) (B := w.heap.size) (n := wr.heap.size + 1) (L := [(w.heap.size, 0, .int .i64 n), (w.heap.size, 1, .int .u64 g), (w2.heap.size, 0, .int .i64 c0), (w2.heap.size, 1, .int .i64 c1), (wr.heap.size, 0, .int .i64 3), (wr.heap.size, 1, .int .i64 0), (wr.heap.size, 2, .int .u64 ta)]) (E := fun _ => True) (F := fun W => BookAt W P b) (by kernel_rfl) (by kernel_rfl) (KH_w15.out.step (by omega) (by go_grown)) trivial (fun _ _ _ _ => trivial) (HB.out.below (by go_grown)) (fun _ _ h hb => h.below hb) (fun w16 K_w16 E_w16 F_w16 => ?_)
                have _ne : Nonempty (KX (w.heap.size) w (wr.heap.size + 1) [(w.heap.size, 0, .int .i64 n), (w.heap.size, 1, .int .u64 g), (w2.heap.size, 0, .int .i64 c0), (w2.heap.size, 1, .int .i64 c1), (wr.heap.size, 0, .int .i64 3), (wr.heap.size, 1, .int .i64 0), (wr.heap.size, 2, .int .u64 ta)] (fun _ => True)) := ⟨⟨_, K_w16, E_w16⟩⟩
                repeat (go_big_quiet_step (fail))
                refine wpQuiet_nil ?_
                have rC0 := rcx _ne w.heap.size 0 (.int .i64 n) (by simp)
                have rC1 := rcx _ne w.heap.size 1 (.int .u64 g) (by simp)
                have rK0 := rcx _ne w2.heap.size 0 (.int .i64 c0) (by simp)
                have rK1 := rcx _ne w2.heap.size 1 (.int .i64 c1) (by simp)
                have rA0 := rcx _ne wr.heap.size 0 (.int .i64 3) (by simp)
                have rA1 := rcx _ne wr.heap.size 1 (.int .i64 0) (by simp)
                have rA2 := rcx _ne wr.heap.size 2 (.int .u64 ta) (by simp)
                repeat (go_big_quiet_step (fail))
                refine wpQuiet_nil ?_
                clear rC0 rC1 rK0 rK1 rA0 rA1 rA2
                have KH_w16 := Lib.hid K_w16
                have hw_w16 := K_w16.below
                have hz_w16 := K_w16.size
                have lC_w16 : w.heap.size < w16.heap.size := by omega
                have lK_w16 : w2.heap.size < w16.heap.size := by omega
                have lA_w16 : wr.heap.size < w16.heap.size := by omega
                clear lC_w15 lK_w15 lA_w15
                clear K_w16
                have HB := Lib.hid (F_w16)
                clear E_w16 F_w16
                refine ⟨fun K hK0 => ?_, trivial⟩
                have hK := Lib.hid hK0
                clear hK0
                go_wp2_with fail
                with_reducible refine (leave16_0 P b ta _ HB.out HH.out.ok.n1).mono ?_
                rintro e w17 ⟨rfl, hB_w17, hO_w17⟩
                have K_w17 : Kept w.heap.size w (wr.heap.size + 1) [(w.heap.size, 0, .int .i64 n), (w.heap.size, 1, .int .u64 g), (w2.heap.size, 0, .int .i64 c0), (w2.heap.size, 1, .int .i64 c1), (wr.heap.size, 0, .int .i64 3), (wr.heap.size, 1, .int .i64 0), (wr.heap.size, 2, .int .u64 ta)] w17 := (KH_w16.out.step (by omega) (by go_grown)).only hO_w17 (by omega) (by omega) (by simp <;> omega)
                replace HB := Lib.hid (hB_w17)
                clear hO_w17 hB_w17
                have KH_w17 := Lib.hid K_w17
                have hw_w17 := K_w17.below
                have hz_w17 := K_w17.size
                have lC_w17 : w.heap.size < w17.heap.size := by omega
                have lK_w17 : w2.heap.size < w17.heap.size := by omega
                have lA_w17 : wr.heap.size < w17.heap.size := by omega
                clear lC_w16 lK_w16 lA_w16
                clear K_w17
                go_wp2_with fail
                first | (refine ⟨rfl, ⟨⟨_, KH_w17.out, trivial⟩, rfl⟩, hK.out _ _ ?_⟩; clear hK K) | (refine ⟨⟨⟨_, KH_w17.out, trivial⟩, rfl⟩, hK.out _ _ ?_⟩; clear hK K)
                repeat (go_big_quiet_step (fail))
                refine wpQuiet_nil ?_
                have rC0 := rcx _ne w.heap.size 0 (.int .i64 n) (by simp)
                have rC1 := rcx _ne w.heap.size 1 (.int .u64 g) (by simp)
                have rK0 := rcx _ne w2.heap.size 0 (.int .i64 c0) (by simp)
                have rK1 := rcx _ne w2.heap.size 1 (.int .i64 c1) (by simp)
                have rA0 := rcx _ne wr.heap.size 0 (.int .i64 3) (by simp)
                have rA1 := rcx _ne wr.heap.size 1 (.int .i64 0) (by simp)
                have rA2 := rcx _ne wr.heap.size 2 (.int .u64 ta) (by simp)
                repeat (go_big_quiet_step (fail))
                refine wpQuiet_nil ?_
                clear rC0 rC1 rK0 rK1 rA0 rA1 rA2
                refine ⟨fun K hK0 => ?_, trivial⟩
                have hK := Lib.hid hK0
                clear hK0
                go_wp2_with fail
                with_reducible refine (here18_0c P (b.leave0 ta) false _ HB.out HLV.out.ok.n1 leave0_here).mono ?_
                rintro e w18 ⟨rfl, hb_w18⟩
                have K_w18 : Kept w.heap.size w (wr.heap.size + 1) [(w.heap.size, 0, .int .i64 n), (w.heap.size, 1, .int .u64 g), (w2.heap.size, 0, .int .i64 c0), (w2.heap.size, 1, .int .i64 c1), (wr.heap.size, 0, .int .i64 3), (wr.heap.size, 1, .int .i64 0), (wr.heap.size, 2, .int .u64 ta)] w18 := (KH_w17.out.step (by omega) (by go_grown)).step (by omega) hb_w18
                replace HB := Lib.hid (HB.out.below hb_w18)
                clear hb_w18
                have KH_w18 := Lib.hid K_w18
                have hw_w18 := K_w18.below
                have hz_w18 := K_w18.size
                have lC_w18 : w.heap.size < w18.heap.size := by omega
                have lK_w18 : w2.heap.size < w18.heap.size := by omega
                have lA_w18 : wr.heap.size < w18.heap.size := by omega
                clear lC_w17 lK_w17 lA_w17
                clear K_w18
                go_wp2_with fail
                first | (refine ⟨rfl, ⟨⟨_, KH_w18.out, trivial⟩, rfl⟩, hK.out _ _ ?_⟩; clear hK K) | (refine ⟨⟨⟨_, KH_w18.out, trivial⟩, rfl⟩, hK.out _ _ ?_⟩; clear hK K)
                repeat (go_big_quiet_step (fail))
                refine wpQuiet_nil ?_
                have rC0 := rcx _ne w.heap.size 0 (.int .i64 n) (by simp)
                have rC1 := rcx _ne w.heap.size 1 (.int .u64 g) (by simp)
                have rK0 := rcx _ne w2.heap.size 0 (.int .i64 c0) (by simp)
                have rK1 := rcx _ne w2.heap.size 1 (.int .i64 c1) (by simp)
                have rA0 := rcx _ne wr.heap.size 0 (.int .i64 3) (by simp)
                have rA1 := rcx _ne wr.heap.size 1 (.int .i64 0) (by simp)
                have rA2 := rcx _ne wr.heap.size 2 (.int .u64 ta) (by simp)
                repeat (go_big_quiet_step (fail))
                refine wpQuiet_nil ?_
                clear rC0 rC1 rK0 rK1 rA0 rA1 rA2
                refine ⟨fun K hK0 => ?_, trivial⟩
                have hK := Lib.hid hK0
                clear hK0
                go_wp2_with fail
                first | (refine ⟨rfl, ⟨⟨_, KH_w18.out, trivial⟩, rfl⟩, hK.out _ _ ?_⟩; clear hK K) | (refine ⟨⟨⟨_, KH_w18.out, trivial⟩, rfl⟩, hK.out _ _ ?_⟩; clear hK K)
                repeat (go_big_quiet_step (fail))
                refine wpQuiet_nil ?_
                clear _ne
                go_wp2_with fail
                go_meet
                case rel => exact ⟨b.leave0 ta, c0, c1, by omega, by omega, HB.out, HLV.out, other_leave0 b ta, KH_w18.out⟩
            · have HWS := Lib.hid hws
              clear hws
              obtain ⟨dw, hdw⟩ : ∃ d, (b.leave0 ta).d0 = d := ⟨_, rfl⟩
              have q5 : decide (dw < ta) = false := by
                have e1 := leave0_due (t := ta) HWS.out
                have e2 := addN_ge ta b.g hta.2 HH.out.ok.g1
                rw [hdw] at e1
                simp
                omega
              have HDW := Lib.hid hdw
              clear hdw
              as_aux_lemma =>
                go_wp2_with fail
                with_reducible refine (here18_0c P b true _ HB.out HH.out.ok.n1 HWS.out).mono ?_
                rintro e w15 ⟨rfl, hb_w15⟩
                have K_w15 : Kept w.heap.size w (wr.heap.size + 1) [(w.heap.size, 0, .int .i64 n), (w.heap.size, 1, .int .u64 g), (w2.heap.size, 0, .int .i64 c0), (w2.heap.size, 1, .int .i64 c1), (wr.heap.size, 0, .int .i64 3), (wr.heap.size, 1, .int .i64 0), (wr.heap.size, 2, .int .u64 ta)] w15 := (KH_w14.out.step (by omega) (by go_grown)).step (by omega) hb_w15
                replace HB := Lib.hid (HB.out.below hb_w15)
                clear hb_w15
                have KH_w15 := Lib.hid K_w15
                have hw_w15 := K_w15.below
                have hz_w15 := K_w15.size
                have lC_w15 : w.heap.size < w15.heap.size := by omega
                have lK_w15 : w2.heap.size < w15.heap.size := by omega
                have lA_w15 : wr.heap.size < w15.heap.size := by omega
                clear lC_w14 lK_w14 lA_w14 cC0_w14 fC0_w14 cC1_w14 fC1_w14 cK0_w14 fK0_w14 cK1_w14 fK1_w14 cA0_w14 fA0_w14 cA1_w14 fA1_w14 cA2_w14 fA2_w14
                clear K_w15
                go_wp2_with fail
                refine rg5_30 (w0 := w) (B := w.heap.size) (n := wr.heap.size + 1) (L := [(w.heap.size, 0, .int .i64 n), (w.heap.size, 1, .int .u64 g), (w2.heap.size, 0, .int .i64 c0), (w2.heap.size, 1, .int .i64 c1), (wr.heap.size, 0, .int .i64 3), (wr.heap.size, 1, .int .i64 0), (wr.heap.size, 2, .int .u64 ta)]) (E := fun _ => True) (F := fun W => BookAt W P b) (by kernel_rfl) (by kernel_rfl) (KH_w15.out.step (by omega) (by go_grown)) trivial (fun _ _ _ _ => trivial) (HB.out.below (by go_grown)) (fun _ _ h hb => h.below hb) (fun w16 K_w16 E_w16 F_w16 => ?_)
                have _ne : Nonempty (KX (w.heap.size) w (wr.heap.size + 1) [(w.heap.size, 0, .int .i64 n), (w.heap.size, 1, .int .u64 g), (w2.heap.size, 0, .int .i64 c0), (w2.heap.size, 1, .int .i64 c1), (wr.heap.size, 0, .int .i64 3), (wr.heap.size, 1, .int .i64 0), (wr.heap.size, 2, .int .u64 ta)] (fun _ => True)) := ⟨⟨_, K_w16, E_w16⟩⟩
                repeat (go_big_quiet_step (fail))
                refine wpQuiet_nil ?_
                have rC0 := rcx _ne w.heap.size 0 (.int .i64 n) (by simp)
                have rC1 := rcx _ne w.heap.size 1 (.int .u64 g) (by simp)
                have rK0 := rcx _ne w2.heap.size 0 (.int .i64 c0) (by simp)
                have rK1 := rcx _ne w2.heap.size 1 (.int .i64 c1) (by simp)
                have rA0 := rcx _ne wr.heap.size 0 (.int .i64 3) (by simp)
                have rA1 := rcx _ne wr.heap.size 1 (.int .i64 0) (by simp)
                have rA2 := rcx _ne wr.heap.size 2 (.int .u64 ta) (by simp)
                repeat (go_big_quiet_step (fail))
                refine wpQuiet_nil ?_
                clear rC0 rC1 rK0 rK1 rA0 rA1 rA2
                have KH_w16 := Lib.hid K_w16
                have hw_w16 := K_w16.below
                have hz_w16 := K_w16.size
                have lC_w16 : w.heap.size < w16.heap.size := by omega
                have lK_w16 : w2.heap.size < w16.heap.size := by omega
                have lA_w16 : wr.heap.size < w16.heap.size := by omega
                clear lC_w15 lK_w15 lA_w15
                clear K_w16
                have HB := Lib.hid (F_w16)
                clear E_w16 F_w16
                refine ⟨fun K hK0 => ?_, trivial⟩
                have hK := Lib.hid hK0
                clear hK0
                go_wp2_with fail
                with_reducible refine (leave16_0 P b ta _ HB.out HH.out.ok.n1).mono ?_
                rintro e w17 ⟨rfl, hB_w17, hO_w17⟩
                have K_w17 : Kept w.heap.size w (wr.heap.size + 1) [(w.heap.size, 0, .int .i64 n), (w.heap.size, 1, .int .u64 g), (w2.heap.size, 0, .int .i64 c0), (w2.heap.size, 1, .int .i64 c1), (wr.heap.size, 0, .int .i64 3), (wr.heap.size, 1, .int .i64 0), (wr.heap.size, 2, .int .u64 ta)] w17 := (KH_w16.out.step (by omega) (by go_grown)).only hO_w17 (by omega) (by omega) (by simp <;> omega)
                replace HB := Lib.hid (hB_w17)
                clear hO_w17 hB_w17
                have KH_w17 := Lib.hid K_w17
                have hw_w17 := K_w17.below
                have hz_w17 := K_w17.size
                have lC_w17 : w.heap.size < w17.heap.size := by omega
                have lK_w17 : w2.heap.size < w17.heap.size := by omega
                have lA_w17 : wr.heap.size < w17.heap.size := by omega
                clear lC_w16 lK_w16 lA_w16
                clear K_w17
                go_wp2_with fail
                first | (refine ⟨rfl, ⟨⟨_, KH_w17.out, trivial⟩, rfl⟩, hK.out _ _ ?_⟩; clear hK K) | (refine ⟨⟨⟨_, KH_w17.out, trivial⟩, rfl⟩, hK.out _ _ ?_⟩; clear hK K)
                repeat (go_big_quiet_step (fail))
                refine wpQuiet_nil ?_
                have rC0 := rcx _ne w.heap.size 0 (.int .i64 n) (by simp)
                have rC1 := rcx _ne w.heap.size 1 (.int .u64 g) (by simp)
                have rK0 := rcx _ne w2.heap.size 0 (.int .i64 c0) (by simp)
                have rK1 := rcx _ne w2.heap.size 1 (.int .i64 c1) (by simp)
                have rA0 := rcx _ne wr.heap.size 0 (.int .i64 3) (by simp)
                have rA1 := rcx _ne wr.heap.size 1 (.int .i64 0) (by simp)
                have rA2 := rcx _ne wr.heap.size 2 (.int .u64 ta) (by simp)
                repeat (go_big_quiet_step (fail))
                refine wpQuiet_nil ?_
                clear rC0 rC1 rK0 rK1 rA0 rA1 rA2
                refine ⟨fun K hK0 => ?_, trivial⟩
                have hK := Lib.hid hK0
                clear hK0
                go_wp2_with fail
                with_reducible refine (here18_0c P (b.leave0 ta) false _ HB.out HLV.out.ok.n1 leave0_here).mono ?_
                rintro e w18 ⟨rfl, hb_w18⟩
                have K_w18 : Kept w.heap.size w (wr.heap.size + 1) [(w.heap.size, 0, .int .i64 n), (w.heap.size, 1, .int .u64 g), (w2.heap.size, 0, .int .i64 c0), (w2.heap.size, 1, .int .i64 c1), (wr.heap.size, 0, .int .i64 3), (wr.heap.size, 1, .int .i64 0), (wr.heap.size, 2, .int .u64 ta)] w18 := (KH_w17.out.step (by omega) (by go_grown)).step (by omega) hb_w18
                replace HB := Lib.hid (HB.out.below hb_w18)
                clear hb_w18
                have KH_w18 := Lib.hid K_w18
                have hw_w18 := K_w18.below
                have hz_w18 := K_w18.size
                have lC_w18 : w.heap.size < w18.heap.size := by omega
                have lK_w18 : w2.heap.size < w18.heap.size := by omega
                have lA_w18 : wr.heap.size < w18.heap.size := by omega
                clear lC_w17 lK_w17 lA_w17
                clear K_w18
                go_wp2_with fail
                first | (refine ⟨rfl, ⟨⟨_, KH_w18.out, trivial⟩, rfl⟩, hK.out _ _ ?_⟩; clear hK K) | (refine ⟨⟨⟨_, KH_w18.out, trivial⟩, rfl⟩, hK.out _ _ ?_⟩; clear hK K)
                repeat (go_big_quiet_step (fail))
                refine wpQuiet_nil ?_
                have rC0 := rcx _ne w.heap.size 0 (.int .i64 n) (by simp)
                have rC1 := rcx _ne w.heap.size 1 (.int .u64 g) (by simp)
                have rK0 := rcx _ne w2.heap.size 0 (.int .i64 c0) (by simp)
                have rK1 := rcx _ne w2.heap.size 1 (.int .i64 c1) (by simp)
                have rA0 := rcx _ne wr.heap.size 0 (.int .i64 3) (by simp)
                have rA1 := rcx _ne wr.heap.size 1 (.int .i64 0) (by simp)
                have rA2 := rcx _ne wr.heap.size 2 (.int .u64 ta) (by simp)
                repeat (go_big_quiet_step (fail))
                refine wpQuiet_nil ?_
                clear rC0 rC1 rK0 rK1 rA0 rA1 rA2
                refine ⟨fun K hK0 => ?_, trivial⟩
                have hK := Lib.hid hK0
                clear hK0
                go_wp2_with fail
                with_reducible refine (due19_0c P (b.leave0 ta) dw _ HB.out HLV.out.ok.n1 HLV.out.ok.t0 (ug HLV.out.ok) HDW.out).mono ?_
                rintro e w19 ⟨rfl, hb_w19⟩
                have K_w19 : Kept w.heap.size w (wr.heap.size + 1) [(w.heap.size, 0, .int .i64 n), (w.heap.size, 1, .int .u64 g), (w2.heap.size, 0, .int .i64 c0), (w2.heap.size, 1, .int .i64 c1), (wr.heap.size, 0, .int .i64 3), (wr.heap.size, 1, .int .i64 0), (wr.heap.size, 2, .int .u64 ta)] w19 := (KH_w18.out.step (by omega) (by go_grown)).step (by omega) hb_w19
                replace HB := Lib.hid (HB.out.below hb_w19)
                clear hb_w19
                have KH_w19 := Lib.hid K_w19
                have hw_w19 := K_w19.below
                have hz_w19 := K_w19.size
                have lC_w19 : w.heap.size < w19.heap.size := by omega
                have lK_w19 : w2.heap.size < w19.heap.size := by omega
                have lA_w19 : wr.heap.size < w19.heap.size := by omega
                clear lC_w18 lK_w18 lA_w18
                clear K_w19
                go_wp2_with fail
                first | (refine ⟨rfl, ⟨⟨_, KH_w19.out, trivial⟩, rfl⟩, hK.out _ _ ?_⟩; clear hK K) | (refine ⟨⟨⟨_, KH_w19.out, trivial⟩, rfl⟩, hK.out _ _ ?_⟩; clear hK K)
                repeat (go_big_quiet_step (fail))
                refine wpQuiet_nil ?_
                clear _ne
                go_wp2_with fail
                go_meet
                case rel => exact ⟨b.leave0 ta, c0, c1, by omega, by omega, HB.out, HLV.out, other_leave0 b ta, KH_w19.out⟩
          have o0 : (what == 0) = false := by simpa using h0
          have o1 : (what == 1) = false := by simpa using h1
          have o2 : (what == 2) = false := by simpa using h2
          have o3 : (what == 3) = false := by simpa using h3
          go_wp2_with fail
          go_meet
          case rel => exact ⟨b, c0, c1, by omega, by omega, HB.out, HH.out, ⟨rfl, rfl, rfl, rfl⟩, KH_w14.out⟩
        case rest =>
          obtain ⟨b2, e0, e1, hc2, hc3, hB2, hH2, hsm, K2⟩ := hcut
          obtain ⟨m1, m2, m3, m4⟩ := hsm
          have HB := Lib.hid hB2
          have HH := Lib.hid hH2
          have KH_wc := Lib.hid K2
          have hz_wc := K2.size
          have hw_wc := K2.below
          have M1 := Lib.hid m1
          have M2 := Lib.hid m2
          have M3 := Lib.hid m3
          have M4 := Lib.hid m4
          have u0 : U b2.d0 := U_due hH2.ok.t0 (ug hH2.ok)
          have u1 : U b2.d1 := U_due hH2.ok.t1 (ug hH2.ok)
          have hLO := lost_over (t := ta) u0.2 u1.2
          clear hB2 hH2 K2 m1 m2 m3 m4 u0 u1
          rcases hLO with hL | ⟨hL, v0⟩ | ⟨hL, v1⟩ | ⟨hL, v0, v1⟩
          · have HL := Lib.hid hL
            clear hL
            as_aux_lemma =>
              go_wp2_with fail
              with_reducible refine (auto20_1c P b2 b.a1 _ HB.out HH.out.ok.n1 M1.out).mono ?_
              rintro e w61 ⟨rfl, hb_w61⟩
              have K_w61 : Kept w.heap.size w (wr.heap.size + 1) [(w.heap.size, 0, .int .i64 n), (w.heap.size, 1, .int .u64 g), (w2.heap.size, 0, .int .i64 e0), (w2.heap.size, 1, .int .i64 e1), (wr.heap.size, 0, .int .i64 what), (wr.heap.size, 1, .int .i64 0), (wr.heap.size, 2, .int .u64 ta)] w61 := (KH_wc.out.step (by omega) (by go_grown)).step (by omega) hb_w61
              replace HB := Lib.hid (HB.out.below hb_w61)
              clear hb_w61
              have KH_w61 := Lib.hid K_w61
              have hw_w61 := K_w61.below
              have hz_w61 := K_w61.size
              have lC_w61 : w.heap.size < w61.heap.size := by omega
              have lK_w61 : w2.heap.size < w61.heap.size := by omega
              have lA_w61 : wr.heap.size < w61.heap.size := by omega
              clear K_w61
              go_wp2_with fail
              with_reducible refine (strikes21_1c P b2 b.s1 _ HB.out HH.out.ok.n1 M2.out).mono ?_
              rintro e w62 ⟨rfl, hb_w62⟩
              have K_w62 : Kept w.heap.size w (wr.heap.size + 1) [(w.heap.size, 0, .int .i64 n), (w.heap.size, 1, .int .u64 g), (w2.heap.size, 0, .int .i64 e0), (w2.heap.size, 1, .int .i64 e1), (wr.heap.size, 0, .int .i64 what), (wr.heap.size, 1, .int .i64 0), (wr.heap.size, 2, .int .u64 ta)] w62 := (KH_w61.out.step (by omega) (by go_grown)).step (by omega) hb_w62
              replace HB := Lib.hid (HB.out.below hb_w62)
              clear hb_w62
              have KH_w62 := Lib.hid K_w62
              have hw_w62 := K_w62.below
              have hz_w62 := K_w62.size
              have lC_w62 : w.heap.size < w62.heap.size := by omega
              have lK_w62 : w2.heap.size < w62.heap.size := by omega
              have lA_w62 : wr.heap.size < w62.heap.size := by omega
              clear lC_w61 lK_w61 lA_w61
              clear K_w62
              go_wp2_with fail
              with_reducible refine (here18_1c P b2 b.h1 _ HB.out HH.out.ok.n1 M3.out).mono ?_
              rintro e w63 ⟨rfl, hb_w63⟩
              have K_w63 : Kept w.heap.size w (wr.heap.size + 1) [(w.heap.size, 0, .int .i64 n), (w.heap.size, 1, .int .u64 g), (w2.heap.size, 0, .int .i64 e0), (w2.heap.size, 1, .int .i64 e1), (wr.heap.size, 0, .int .i64 what), (wr.heap.size, 1, .int .i64 0), (wr.heap.size, 2, .int .u64 ta)] w63 := (KH_w62.out.step (by omega) (by go_grown)).step (by omega) hb_w63
              replace HB := Lib.hid (HB.out.below hb_w63)
              clear hb_w63
              have KH_w63 := Lib.hid K_w63
              have hw_w63 := K_w63.below
              have hz_w63 := K_w63.size
              have lC_w63 : w.heap.size < w63.heap.size := by omega
              have lK_w63 : w2.heap.size < w63.heap.size := by omega
              have lA_w63 : wr.heap.size < w63.heap.size := by omega
              clear lC_w62 lK_w62 lA_w62
              clear K_w63
              go_wp2_with fail
              with_reducible refine (due19_1c P b2 b.d1 _ HB.out HH.out.ok.n1 HH.out.ok.t1 (ug HH.out.ok) M4.out).mono ?_
              rintro e w64 ⟨rfl, hb_w64⟩
              have K_w64 : Kept w.heap.size w (wr.heap.size + 1) [(w.heap.size, 0, .int .i64 n), (w.heap.size, 1, .int .u64 g), (w2.heap.size, 0, .int .i64 e0), (w2.heap.size, 1, .int .i64 e1), (wr.heap.size, 0, .int .i64 what), (wr.heap.size, 1, .int .i64 0), (wr.heap.size, 2, .int .u64 ta)] w64 := (KH_w63.out.step (by omega) (by go_grown)).step (by omega) hb_w64
              replace HB := Lib.hid (HB.out.below hb_w64)
              clear hb_w64
              have KH_w64 := Lib.hid K_w64
              have hw_w64 := K_w64.below
              have hz_w64 := K_w64.size
              have lC_w64 : w.heap.size < w64.heap.size := by omega
              have lK_w64 : w2.heap.size < w64.heap.size := by omega
              have lA_w64 : wr.heap.size < w64.heap.size := by omega
              clear lC_w63 lK_w63 lA_w63
              clear K_w64
              go_wp2_with fail
              refine wp_loop_rounds 3 ?_
              rw [rounds_succ]
              have cA0_w64 := KH_w64.out.at (b := wr.heap.size) (o := 0) (v := .int .i64 what) (by simp)
              have fA0_w64 := KH_w64.out.free (b := wr.heap.size) (o := 0) (v := .int .i64 what) (by simp)
              have cA1_w64 := KH_w64.out.at (b := wr.heap.size) (o := 1) (v := .int .i64 0) (by simp)
              have fA1_w64 := KH_w64.out.free (b := wr.heap.size) (o := 1) (v := .int .i64 0) (by simp)
              have cA2_w64 := KH_w64.out.at (b := wr.heap.size) (o := 2) (v := .int .u64 ta) (by simp)
              have fA2_w64 := KH_w64.out.free (b := wr.heap.size) (o := 2) (v := .int .u64 ta) (by simp)
              go_wp2_with fail
              with_reducible refine (lost15c P b2 ta (-1) _ HB.out HH.out.ok HL.out).mono ?_
              rintro e w65 ⟨rfl, hb_w65⟩
              have K_w65 : Kept w.heap.size w (wr.heap.size + 1) [(w.heap.size, 0, .int .i64 n), (w.heap.size, 1, .int .u64 g), (w2.heap.size, 0, .int .i64 e0), (w2.heap.size, 1, .int .i64 e1), (wr.heap.size, 0, .int .i64 what), (wr.heap.size, 1, .int .i64 0), (wr.heap.size, 2, .int .u64 ta)] w65 := (KH_w64.out.step (by omega) (by go_grown)).step (by omega) hb_w65
              replace HB := Lib.hid (HB.out.below hb_w65)
              clear hb_w65
              have KH_w65 := Lib.hid K_w65
              have hw_w65 := K_w65.below
              have hz_w65 := K_w65.size
              have lC_w65 : w.heap.size < w65.heap.size := by omega
              have lK_w65 : w2.heap.size < w65.heap.size := by omega
              have lA_w65 : wr.heap.size < w65.heap.size := by omega
              clear lC_w64 lK_w64 lA_w64 cA0_w64 fA0_w64 cA1_w64 fA1_w64 cA2_w64 fA2_w64
              clear K_w65
              go_wp2_with fail
              refine rg5_38 (w0 := w) (B := w.heap.size) (n := wr.heap.size + 1) (L := [(w.heap.size, 0, .int .i64 n), (w.heap.size, 1, .int .u64 g), (w2.heap.size, 0, .int .i64 e0), (w2.heap.size, 1, .int .i64 e1), (wr.heap.size, 0, .int .i64 what), (wr.heap.size, 1, .int .i64 0), (wr.heap.size, 2, .int .u64 ta)]) (E := fun _ => True) (F := fun W => BookAt W P b2) (by kernel_rfl) (by kernel_rfl) (KH_w65.out.step (by omega) (by go_grown)) trivial (fun _ _ _ _ => trivial) (HB.out.below (by go_grown)) (fun _ _ h hb => h.below hb) (fun w66 K_w66 E_w66 F_w66 => ?_)
              have _ne : Nonempty (KX (w.heap.size) w (wr.heap.size + 1) [(w.heap.size, 0, .int .i64 n), (w.heap.size, 1, .int .u64 g), (w2.heap.size, 0, .int .i64 e0), (w2.heap.size, 1, .int .i64 e1), (wr.heap.size, 0, .int .i64 what), (wr.heap.size, 1, .int .i64 0), (wr.heap.size, 2, .int .u64 ta)] (fun _ => True)) := ⟨⟨_, K_w66, E_w66⟩⟩
              repeat (go_big_quiet_step (fail))
              refine wpQuiet_nil ?_
              have rC0 := rcx _ne w.heap.size 0 (.int .i64 n) (by simp)
              have rC1 := rcx _ne w.heap.size 1 (.int .u64 g) (by simp)
              have rK0 := rcx _ne w2.heap.size 0 (.int .i64 e0) (by simp)
              have rK1 := rcx _ne w2.heap.size 1 (.int .i64 e1) (by simp)
              have rA0 := rcx _ne wr.heap.size 0 (.int .i64 what) (by simp)
              have rA1 := rcx _ne wr.heap.size 1 (.int .i64 0) (by simp)
              have rA2 := rcx _ne wr.heap.size 2 (.int .u64 ta) (by simp)
              repeat (go_big_quiet_step (fail))
              refine wpQuiet_nil ?_
              clear rC0 rC1 rK0 rK1 rA0 rA1 rA2
              repeat (go_big_quiet_step (fail))
              refine wpQuiet_nil ?_
              have KH_w66 := Lib.hid K_w66
              have hw_w66 := K_w66.below
              have hz_w66 := K_w66.size
              have lC_w66 : w.heap.size < w66.heap.size := by omega
              have lK_w66 : w2.heap.size < w66.heap.size := by omega
              have lA_w66 : wr.heap.size < w66.heap.size := by omega
              clear lC_w65 lK_w65 lA_w65
              clear K_w66
              have HB := Lib.hid (F_w66)
              clear E_w66 F_w66
              refine ⟨fun K hK0 => ?_, trivial⟩
              have hK := Lib.hid hK0
              clear hK0
              go_wp2_with fail
              with_reducible refine (auto20_0c P b2 (decide (n ≤ e0)) _ HB.out HH.out.ok.n1 HH.out.a0).mono ?_
              rintro e w67 ⟨rfl, hb_w67⟩
              have K_w67 : Kept w.heap.size w (wr.heap.size + 1) [(w.heap.size, 0, .int .i64 n), (w.heap.size, 1, .int .u64 g), (w2.heap.size, 0, .int .i64 e0), (w2.heap.size, 1, .int .i64 e1), (wr.heap.size, 0, .int .i64 what), (wr.heap.size, 1, .int .i64 0), (wr.heap.size, 2, .int .u64 ta)] w67 := (KH_w66.out.step (by omega) (by go_grown)).step (by omega) hb_w67
              replace HB := Lib.hid (HB.out.below hb_w67)
              clear hb_w67
              have KH_w67 := Lib.hid K_w67
              have hw_w67 := K_w67.below
              have hz_w67 := K_w67.size
              have lC_w67 : w.heap.size < w67.heap.size := by omega
              have lK_w67 : w2.heap.size < w67.heap.size := by omega
              have lA_w67 : wr.heap.size < w67.heap.size := by omega
              clear lC_w66 lK_w66 lA_w66
              clear K_w67
              go_wp2_with fail
              first | (refine ⟨rfl, ⟨⟨_, KH_w67.out, trivial⟩, rfl⟩, hK.out _ _ ?_⟩; clear hK K) | (refine ⟨⟨⟨_, KH_w67.out, trivial⟩, rfl⟩, hK.out _ _ ?_⟩; clear hK K)
              repeat (go_big_quiet_step (fail))
              refine wpQuiet_nil ?_
              refine ⟨fun K hK0 => ?_, trivial⟩
              have hK := Lib.hid hK0
              clear hK0
              go_wp2_with fail
              first | (refine ⟨rfl, ⟨⟨_, KH_w67.out, trivial⟩, rfl⟩, hK.out _ _ ?_⟩; clear hK K) | (refine ⟨⟨⟨_, KH_w67.out, trivial⟩, rfl⟩, hK.out _ _ ?_⟩; clear hK K)
              repeat (go_big_quiet_step (fail))
              refine wpQuiet_nil ?_
              have rC0 := rcx _ne w.heap.size 0 (.int .i64 n) (by simp)
              have rC1 := rcx _ne w.heap.size 1 (.int .u64 g) (by simp)
              have rK0 := rcx _ne w2.heap.size 0 (.int .i64 e0) (by simp)
              have rK1 := rcx _ne w2.heap.size 1 (.int .i64 e1) (by simp)
              have rA0 := rcx _ne wr.heap.size 0 (.int .i64 what) (by simp)
              have rA1 := rcx _ne wr.heap.size 1 (.int .i64 0) (by simp)
              have rA2 := rcx _ne wr.heap.size 2 (.int .u64 ta) (by simp)
              repeat (go_big_quiet_step (fail))
              refine wpQuiet_nil ?_
              clear rC0 rC1 rK0 rK1 rA0 rA1 rA2
              refine ⟨fun K hK0 => ?_, trivial⟩
              have hK := Lib.hid hK0
              clear hK0
              go_wp2_with fail
              first | (refine ⟨rfl, ⟨⟨_, KH_w67.out, trivial⟩, rfl⟩, hK.out _ _ ?_⟩; clear hK K) | (refine ⟨⟨⟨_, KH_w67.out, trivial⟩, rfl⟩, hK.out _ _ ?_⟩; clear hK K)
              repeat (go_big_quiet_step (fail))
              refine wpQuiet_nil ?_
              clear _ne
              go_wp2_with fail
              rw [rounds_succ]
              have cA0_w67 := KH_w67.out.at (b := wr.heap.size) (o := 0) (v := .int .i64 what) (by simp)
              have fA0_w67 := KH_w67.out.free (b := wr.heap.size) (o := 0) (v := .int .i64 what) (by simp)
              have cA1_w67 := KH_w67.out.at (b := wr.heap.size) (o := 1) (v := .int .i64 0) (by simp)
              have fA1_w67 := KH_w67.out.free (b := wr.heap.size) (o := 1) (v := .int .i64 0) (by simp)
              have cA2_w67 := KH_w67.out.at (b := wr.heap.size) (o := 2) (v := .int .u64 ta) (by simp)
              have fA2_w67 := KH_w67.out.free (b := wr.heap.size) (o := 2) (v := .int .u64 ta) (by simp)
              go_wp2_with fail
              with_reducible refine (lost15c P b2 ta (-1) _ HB.out HH.out.ok HL.out).mono ?_
              rintro e w68 ⟨rfl, hb_w68⟩
              have K_w68 : Kept w.heap.size w (wr.heap.size + 1) [(w.heap.size, 0, .int .i64 n), (w.heap.size, 1, .int .u64 g), (w2.heap.size, 0, .int .i64 e0), (w2.heap.size, 1, .int .i64 e1), (wr.heap.size, 0, .int .i64 what), (wr.heap.size, 1, .int .i64 0), (wr.heap.size, 2, .int .u64 ta)] w68 := (KH_w67.out.step (by omega) (by go_grown)).step (by omega) hb_w68
              replace HB := Lib.hid (HB.out.below hb_w68)
              clear hb_w68
              have KH_w68 := Lib.hid K_w68
              have hw_w68 := K_w68.below
              have hz_w68 := K_w68.size
              have lC_w68 : w.heap.size < w68.heap.size := by omega
              have lK_w68 : w2.heap.size < w68.heap.size := by omega
              have lA_w68 : wr.heap.size < w68.heap.size := by omega
              clear lC_w67 lK_w67 lA_w67 cA0_w67 fA0_w67 cA1_w67 fA1_w67 cA2_w67 fA2_w67
              clear K_w68
              go_wp2_with fail
              refine rg5_38 (w0 := w) (B := w.heap.size) (n := wr.heap.size + 1) (L := [(w.heap.size, 0, .int .i64 n), (w.heap.size, 1, .int .u64 g), (w2.heap.size, 0, .int .i64 e0), (w2.heap.size, 1, .int .i64 e1), (wr.heap.size, 0, .int .i64 what), (wr.heap.size, 1, .int .i64 0), (wr.heap.size, 2, .int .u64 ta)]) (E := fun _ => True) (F := fun W => BookAt W P b2) (by kernel_rfl) (by kernel_rfl) (KH_w68.out.step (by omega) (by go_grown)) trivial (fun _ _ _ _ => trivial) (HB.out.below (by go_grown)) (fun _ _ h hb => h.below hb) (fun w69 K_w69 E_w69 F_w69 => ?_)
              have _ne : Nonempty (KX (w.heap.size) w (wr.heap.size + 1) [(w.heap.size, 0, .int .i64 n), (w.heap.size, 1, .int .u64 g), (w2.heap.size, 0, .int .i64 e0), (w2.heap.size, 1, .int .i64 e1), (wr.heap.size, 0, .int .i64 what), (wr.heap.size, 1, .int .i64 0), (wr.heap.size, 2, .int .u64 ta)] (fun _ => True)) := ⟨⟨_, K_w69, E_w69⟩⟩
              repeat (go_big_quiet_step (fail))
              refine wpQuiet_nil ?_
              have rC0 := rcx _ne w.heap.size 0 (.int .i64 n) (by simp)
              have rC1 := rcx _ne w.heap.size 1 (.int .u64 g) (by simp)
              have rK0 := rcx _ne w2.heap.size 0 (.int .i64 e0) (by simp)
              have rK1 := rcx _ne w2.heap.size 1 (.int .i64 e1) (by simp)
              have rA0 := rcx _ne wr.heap.size 0 (.int .i64 what) (by simp)
              have rA1 := rcx _ne wr.heap.size 1 (.int .i64 0) (by simp)
              have rA2 := rcx _ne wr.heap.size 2 (.int .u64 ta) (by simp)
              repeat (go_big_quiet_step (fail))
              refine wpQuiet_nil ?_
              clear rC0 rC1 rK0 rK1 rA0 rA1 rA2
              repeat (go_big_quiet_step (fail))
              refine wpQuiet_nil ?_
              have KH_w69 := Lib.hid K_w69
              have hw_w69 := K_w69.below
              have hz_w69 := K_w69.size
              have lC_w69 : w.heap.size < w69.heap.size := by omega
              have lK_w69 : w2.heap.size < w69.heap.size := by omega
              have lA_w69 : wr.heap.size < w69.heap.size := by omega
              clear lC_w68 lK_w68 lA_w68
              clear K_w69
              have HB := Lib.hid (F_w69)
              clear E_w69 F_w69
              refine ⟨fun K hK0 => ?_, trivial⟩
              have hK := Lib.hid hK0
              clear hK0
              go_wp2_with fail
              with_reducible refine (auto20_1c P b2 (decide (n ≤ e1)) _ HB.out HH.out.ok.n1 HH.out.a1).mono ?_
              rintro e w70 ⟨rfl, hb_w70⟩
              have K_w70 : Kept w.heap.size w (wr.heap.size + 1) [(w.heap.size, 0, .int .i64 n), (w.heap.size, 1, .int .u64 g), (w2.heap.size, 0, .int .i64 e0), (w2.heap.size, 1, .int .i64 e1), (wr.heap.size, 0, .int .i64 what), (wr.heap.size, 1, .int .i64 0), (wr.heap.size, 2, .int .u64 ta)] w70 := (KH_w69.out.step (by omega) (by go_grown)).step (by omega) hb_w70
              replace HB := Lib.hid (HB.out.below hb_w70)
              clear hb_w70
              have KH_w70 := Lib.hid K_w70
              have hw_w70 := K_w70.below
              have hz_w70 := K_w70.size
              have lC_w70 : w.heap.size < w70.heap.size := by omega
              have lK_w70 : w2.heap.size < w70.heap.size := by omega
              have lA_w70 : wr.heap.size < w70.heap.size := by omega
              clear lC_w69 lK_w69 lA_w69
              clear K_w70
              go_wp2_with fail
              first | (refine ⟨rfl, ⟨⟨_, KH_w70.out, trivial⟩, rfl⟩, hK.out _ _ ?_⟩; clear hK K) | (refine ⟨⟨⟨_, KH_w70.out, trivial⟩, rfl⟩, hK.out _ _ ?_⟩; clear hK K)
              repeat (go_big_quiet_step (fail))
              refine wpQuiet_nil ?_
              refine ⟨fun K hK0 => ?_, trivial⟩
              have hK := Lib.hid hK0
              clear hK0
              go_wp2_with fail
              first | (refine ⟨rfl, ⟨⟨_, KH_w70.out, trivial⟩, rfl⟩, hK.out _ _ ?_⟩; clear hK K) | (refine ⟨⟨⟨_, KH_w70.out, trivial⟩, rfl⟩, hK.out _ _ ?_⟩; clear hK K)
              repeat (go_big_quiet_step (fail))
              refine wpQuiet_nil ?_
              have rC0 := rcx _ne w.heap.size 0 (.int .i64 n) (by simp)
              have rC1 := rcx _ne w.heap.size 1 (.int .u64 g) (by simp)
              have rK0 := rcx _ne w2.heap.size 0 (.int .i64 e0) (by simp)
              have rK1 := rcx _ne w2.heap.size 1 (.int .i64 e1) (by simp)
              have rA0 := rcx _ne wr.heap.size 0 (.int .i64 what) (by simp)
              have rA1 := rcx _ne wr.heap.size 1 (.int .i64 0) (by simp)
              have rA2 := rcx _ne wr.heap.size 2 (.int .u64 ta) (by simp)
              repeat (go_big_quiet_step (fail))
              refine wpQuiet_nil ?_
              clear rC0 rC1 rK0 rK1 rA0 rA1 rA2
              refine ⟨fun K hK0 => ?_, trivial⟩
              have hK := Lib.hid hK0
              clear hK0
              go_wp2_with fail
              first | (refine ⟨rfl, ⟨⟨_, KH_w70.out, trivial⟩, rfl⟩, hK.out _ _ ?_⟩; clear hK K) | (refine ⟨⟨⟨_, KH_w70.out, trivial⟩, rfl⟩, hK.out _ _ ?_⟩; clear hK K)
              repeat (go_big_quiet_step (fail))
              refine wpQuiet_nil ?_
              clear _ne
              go_wp2_with fail
              rw [rounds_succ]
              go_wp2_with fail
              go_roundw
              case rel => exact ⟨k + 1, b2, e0, e1, by omega, by go_num, by omega, by omega, HB.out, HH.out, kept_less KH_w70.out (by omega) (by simp; omega)⟩
              case measure => simp [intOf]; omega
          · have HL := Lib.hid hL
            clear hL
            have V0 := Lib.hid (due_over v0)
            have z0 : decide (ta < b2.d0) = false := by have : b2.d0 ≤ ta := (due_over v0).2; simp; omega
            clear v0
            as_aux_lemma =>
              go_wp2_with fail
              with_reducible refine (auto20_1c P b2 b.a1 _ HB.out HH.out.ok.n1 M1.out).mono ?_
              rintro e w61 ⟨rfl, hb_w61⟩
              have K_w61 : Kept w.heap.size w (wr.heap.size + 1) [(w.heap.size, 0, .int .i64 n), (w.heap.size, 1, .int .u64 g), (w2.heap.size, 0, .int .i64 e0), (w2.heap.size, 1, .int .i64 e1), (wr.heap.size, 0, .int .i64 what), (wr.heap.size, 1, .int .i64 0), (wr.heap.size, 2, .int .u64 ta)] w61 := (KH_wc.out.step (by omega) (by go_grown)).step (by omega) hb_w61
              replace HB := Lib.hid (HB.out.below hb_w61)
              clear hb_w61
              have KH_w61 := Lib.hid K_w61
              have hw_w61 := K_w61.below
              have hz_w61 := K_w61.size
              have lC_w61 : w.heap.size < w61.heap.size := by omega
              have lK_w61 : w2.heap.size < w61.heap.size := by omega
              have lA_w61 : wr.heap.size < w61.heap.size := by omega
              clear K_w61
              go_wp2_with fail
              with_reducible refine (strikes21_1c P b2 b.s1 _ HB.out HH.out.ok.n1 M2.out).mono ?_
              rintro e w62 ⟨rfl, hb_w62⟩
              have K_w62 : Kept w.heap.size w (wr.heap.size + 1) [(w.heap.size, 0, .int .i64 n), (w.heap.size, 1, .int .u64 g), (w2.heap.size, 0, .int .i64 e0), (w2.heap.size, 1, .int .i64 e1), (wr.heap.size, 0, .int .i64 what), (wr.heap.size, 1, .int .i64 0), (wr.heap.size, 2, .int .u64 ta)] w62 := (KH_w61.out.step (by omega) (by go_grown)).step (by omega) hb_w62
              replace HB := Lib.hid (HB.out.below hb_w62)
              clear hb_w62
              have KH_w62 := Lib.hid K_w62
              have hw_w62 := K_w62.below
              have hz_w62 := K_w62.size
              have lC_w62 : w.heap.size < w62.heap.size := by omega
              have lK_w62 : w2.heap.size < w62.heap.size := by omega
              have lA_w62 : wr.heap.size < w62.heap.size := by omega
              clear lC_w61 lK_w61 lA_w61
              clear K_w62
              go_wp2_with fail
              with_reducible refine (here18_1c P b2 b.h1 _ HB.out HH.out.ok.n1 M3.out).mono ?_
              rintro e w63 ⟨rfl, hb_w63⟩
              have K_w63 : Kept w.heap.size w (wr.heap.size + 1) [(w.heap.size, 0, .int .i64 n), (w.heap.size, 1, .int .u64 g), (w2.heap.size, 0, .int .i64 e0), (w2.heap.size, 1, .int .i64 e1), (wr.heap.size, 0, .int .i64 what), (wr.heap.size, 1, .int .i64 0), (wr.heap.size, 2, .int .u64 ta)] w63 := (KH_w62.out.step (by omega) (by go_grown)).step (by omega) hb_w63
              replace HB := Lib.hid (HB.out.below hb_w63)
              clear hb_w63
              have KH_w63 := Lib.hid K_w63
              have hw_w63 := K_w63.below
              have hz_w63 := K_w63.size
              have lC_w63 : w.heap.size < w63.heap.size := by omega
              have lK_w63 : w2.heap.size < w63.heap.size := by omega
              have lA_w63 : wr.heap.size < w63.heap.size := by omega
              clear lC_w62 lK_w62 lA_w62
              clear K_w63
              go_wp2_with fail
              with_reducible refine (due19_1c P b2 b.d1 _ HB.out HH.out.ok.n1 HH.out.ok.t1 (ug HH.out.ok) M4.out).mono ?_
              rintro e w64 ⟨rfl, hb_w64⟩
              have K_w64 : Kept w.heap.size w (wr.heap.size + 1) [(w.heap.size, 0, .int .i64 n), (w.heap.size, 1, .int .u64 g), (w2.heap.size, 0, .int .i64 e0), (w2.heap.size, 1, .int .i64 e1), (wr.heap.size, 0, .int .i64 what), (wr.heap.size, 1, .int .i64 0), (wr.heap.size, 2, .int .u64 ta)] w64 := (KH_w63.out.step (by omega) (by go_grown)).step (by omega) hb_w64
              replace HB := Lib.hid (HB.out.below hb_w64)
              clear hb_w64
              have KH_w64 := Lib.hid K_w64
              have hw_w64 := K_w64.below
              have hz_w64 := K_w64.size
              have lC_w64 : w.heap.size < w64.heap.size := by omega
              have lK_w64 : w2.heap.size < w64.heap.size := by omega
              have lA_w64 : wr.heap.size < w64.heap.size := by omega
              clear lC_w63 lK_w63 lA_w63
              clear K_w64
              go_wp2_with fail
              refine wp_loop_rounds 3 ?_
              rw [rounds_succ]
              have cA0_w64 := KH_w64.out.at (b := wr.heap.size) (o := 0) (v := .int .i64 what) (by simp)
              have fA0_w64 := KH_w64.out.free (b := wr.heap.size) (o := 0) (v := .int .i64 what) (by simp)
              have cA1_w64 := KH_w64.out.at (b := wr.heap.size) (o := 1) (v := .int .i64 0) (by simp)
              have fA1_w64 := KH_w64.out.free (b := wr.heap.size) (o := 1) (v := .int .i64 0) (by simp)
              have cA2_w64 := KH_w64.out.at (b := wr.heap.size) (o := 2) (v := .int .u64 ta) (by simp)
              have fA2_w64 := KH_w64.out.free (b := wr.heap.size) (o := 2) (v := .int .u64 ta) (by simp)
              go_wp2_with fail
              with_reducible refine (lost15c P b2 ta (0) _ HB.out HH.out.ok HL.out).mono ?_
              rintro e w65 ⟨rfl, hb_w65⟩
              have K_w65 : Kept w.heap.size w (wr.heap.size + 1) [(w.heap.size, 0, .int .i64 n), (w.heap.size, 1, .int .u64 g), (w2.heap.size, 0, .int .i64 e0), (w2.heap.size, 1, .int .i64 e1), (wr.heap.size, 0, .int .i64 what), (wr.heap.size, 1, .int .i64 0), (wr.heap.size, 2, .int .u64 ta)] w65 := (KH_w64.out.step (by omega) (by go_grown)).step (by omega) hb_w65
              replace HB := Lib.hid (HB.out.below hb_w65)
              clear hb_w65
              have KH_w65 := Lib.hid K_w65
              have hw_w65 := K_w65.below
              have hz_w65 := K_w65.size
              have lC_w65 : w.heap.size < w65.heap.size := by omega
              have lK_w65 : w2.heap.size < w65.heap.size := by omega
              have lA_w65 : wr.heap.size < w65.heap.size := by omega
              clear lC_w64 lK_w64 lA_w64 cA0_w64 fA0_w64 cA1_w64 fA1_w64 cA2_w64 fA2_w64
              clear K_w65
              go_wp2_with fail
              refine rg5_38 (w0 := w) (B := w.heap.size) (n := wr.heap.size + 1) (L := [(w.heap.size, 0, .int .i64 n), (w.heap.size, 1, .int .u64 g), (w2.heap.size, 0, .int .i64 e0), (w2.heap.size, 1, .int .i64 e1), (wr.heap.size, 0, .int .i64 what), (wr.heap.size, 1, .int .i64 0), (wr.heap.size, 2, .int .u64 ta)]) (E := fun _ => True) (F := fun W => BookAt W P b2) (by kernel_rfl) (by kernel_rfl) (KH_w65.out.step (by omega) (by go_grown)) trivial (fun _ _ _ _ => trivial) (HB.out.below (by go_grown)) (fun _ _ h hb => h.below hb) (fun w66 K_w66 E_w66 F_w66 => ?_)
              have _ne : Nonempty (KX (w.heap.size) w (wr.heap.size + 1) [(w.heap.size, 0, .int .i64 n), (w.heap.size, 1, .int .u64 g), (w2.heap.size, 0, .int .i64 e0), (w2.heap.size, 1, .int .i64 e1), (wr.heap.size, 0, .int .i64 what), (wr.heap.size, 1, .int .i64 0), (wr.heap.size, 2, .int .u64 ta)] (fun _ => True)) := ⟨⟨_, K_w66, E_w66⟩⟩
              repeat (go_big_quiet_step (fail))
              refine wpQuiet_nil ?_
              have rC0 := rcx _ne w.heap.size 0 (.int .i64 n) (by simp)
              have rC1 := rcx _ne w.heap.size 1 (.int .u64 g) (by simp)
              have rK0 := rcx _ne w2.heap.size 0 (.int .i64 e0) (by simp)
              have rK1 := rcx _ne w2.heap.size 1 (.int .i64 e1) (by simp)
              have rA0 := rcx _ne wr.heap.size 0 (.int .i64 what) (by simp)
              have rA1 := rcx _ne wr.heap.size 1 (.int .i64 0) (by simp)
              have rA2 := rcx _ne wr.heap.size 2 (.int .u64 ta) (by simp)
              repeat (go_big_quiet_step (fail))
              refine wpQuiet_nil ?_
              clear rC0 rC1 rK0 rK1 rA0 rA1 rA2
              repeat (go_big_quiet_step (fail))
              refine wpQuiet_nil ?_
              have KH_w66 := Lib.hid K_w66
              have hw_w66 := K_w66.below
              have hz_w66 := K_w66.size
              have lC_w66 : w.heap.size < w66.heap.size := by omega
              have lK_w66 : w2.heap.size < w66.heap.size := by omega
              have lA_w66 : wr.heap.size < w66.heap.size := by omega
              clear lC_w65 lK_w65 lA_w65
              clear K_w66
              have HB := Lib.hid (F_w66)
              clear E_w66 F_w66
              refine ⟨fun K hK0 => ?_, trivial⟩
              have hK := Lib.hid hK0
              clear hK0
              go_wp2_with fail
              with_reducible refine (auto20_0c P b2 (decide (n ≤ e0)) _ HB.out HH.out.ok.n1 HH.out.a0).mono ?_
              rintro e w67 ⟨rfl, hb_w67⟩
              have K_w67 : Kept w.heap.size w (wr.heap.size + 1) [(w.heap.size, 0, .int .i64 n), (w.heap.size, 1, .int .u64 g), (w2.heap.size, 0, .int .i64 e0), (w2.heap.size, 1, .int .i64 e1), (wr.heap.size, 0, .int .i64 what), (wr.heap.size, 1, .int .i64 0), (wr.heap.size, 2, .int .u64 ta)] w67 := (KH_w66.out.step (by omega) (by go_grown)).step (by omega) hb_w67
              replace HB := Lib.hid (HB.out.below hb_w67)
              clear hb_w67
              have KH_w67 := Lib.hid K_w67
              have hw_w67 := K_w67.below
              have hz_w67 := K_w67.size
              have lC_w67 : w.heap.size < w67.heap.size := by omega
              have lK_w67 : w2.heap.size < w67.heap.size := by omega
              have lA_w67 : wr.heap.size < w67.heap.size := by omega
              clear lC_w66 lK_w66 lA_w66
              clear K_w67
              go_wp2_with fail
              first | (refine ⟨rfl, ⟨⟨_, KH_w67.out, trivial⟩, rfl⟩, hK.out _ _ ?_⟩; clear hK K) | (refine ⟨⟨⟨_, KH_w67.out, trivial⟩, rfl⟩, hK.out _ _ ?_⟩; clear hK K)
              repeat (go_big_quiet_step (fail))
              refine wpQuiet_nil ?_
              refine ⟨fun K hK0 => ?_, trivial⟩
              have hK := Lib.hid hK0
              clear hK0
              go_wp2_with fail
              with_reducible refine (here18_0c P b2 false _ HB.out HH.out.ok.n1 V0.out.1).mono ?_
              rintro e w68 ⟨rfl, hb_w68⟩
              have K_w68 : Kept w.heap.size w (wr.heap.size + 1) [(w.heap.size, 0, .int .i64 n), (w.heap.size, 1, .int .u64 g), (w2.heap.size, 0, .int .i64 e0), (w2.heap.size, 1, .int .i64 e1), (wr.heap.size, 0, .int .i64 what), (wr.heap.size, 1, .int .i64 0), (wr.heap.size, 2, .int .u64 ta)] w68 := (KH_w67.out.step (by omega) (by go_grown)).step (by omega) hb_w68
              replace HB := Lib.hid (HB.out.below hb_w68)
              clear hb_w68
              have KH_w68 := Lib.hid K_w68
              have hw_w68 := K_w68.below
              have hz_w68 := K_w68.size
              have lC_w68 : w.heap.size < w68.heap.size := by omega
              have lK_w68 : w2.heap.size < w68.heap.size := by omega
              have lA_w68 : wr.heap.size < w68.heap.size := by omega
              clear lC_w67 lK_w67 lA_w67
              clear K_w68
              go_wp2_with fail
              first | (refine ⟨rfl, ⟨⟨_, KH_w68.out, trivial⟩, rfl⟩, hK.out _ _ ?_⟩; clear hK K) | (refine ⟨⟨⟨_, KH_w68.out, trivial⟩, rfl⟩, hK.out _ _ ?_⟩; clear hK K)
              repeat (go_big_quiet_step (fail))
              refine wpQuiet_nil ?_
              have rC0 := rcx _ne w.heap.size 0 (.int .i64 n) (by simp)
              have rC1 := rcx _ne w.heap.size 1 (.int .u64 g) (by simp)
              have rK0 := rcx _ne w2.heap.size 0 (.int .i64 e0) (by simp)
              have rK1 := rcx _ne w2.heap.size 1 (.int .i64 e1) (by simp)
              have rA0 := rcx _ne wr.heap.size 0 (.int .i64 what) (by simp)
              have rA1 := rcx _ne wr.heap.size 1 (.int .i64 0) (by simp)
              have rA2 := rcx _ne wr.heap.size 2 (.int .u64 ta) (by simp)
              repeat (go_big_quiet_step (fail))
              refine wpQuiet_nil ?_
              clear rC0 rC1 rK0 rK1 rA0 rA1 rA2
              refine ⟨fun K hK0 => ?_, trivial⟩
              have hK := Lib.hid hK0
              clear hK0
              go_wp2_with fail
              with_reducible refine (due19_0 P b2 _ HB.out HH.out.ok.n1 HH.out.ok.t0 (ug HH.out.ok)).mono ?_
              rintro e w69 ⟨rfl, hb_w69⟩
              have K_w69 : Kept w.heap.size w (wr.heap.size + 1) [(w.heap.size, 0, .int .i64 n), (w.heap.size, 1, .int .u64 g), (w2.heap.size, 0, .int .i64 e0), (w2.heap.size, 1, .int .i64 e1), (wr.heap.size, 0, .int .i64 what), (wr.heap.size, 1, .int .i64 0), (wr.heap.size, 2, .int .u64 ta)] w69 := (KH_w68.out.step (by omega) (by go_grown)).step (by omega) hb_w69
              replace HB := Lib.hid (HB.out.below hb_w69)
              clear hb_w69
              have KH_w69 := Lib.hid K_w69
              have hw_w69 := K_w69.below
              have hz_w69 := K_w69.size
              have lC_w69 : w.heap.size < w69.heap.size := by omega
              have lK_w69 : w2.heap.size < w69.heap.size := by omega
              have lA_w69 : wr.heap.size < w69.heap.size := by omega
              clear lC_w68 lK_w68 lA_w68
              clear K_w69
              go_wp2_with fail
              first | (refine ⟨rfl, ⟨⟨_, KH_w69.out, trivial⟩, rfl⟩, hK.out _ _ ?_⟩; clear hK K) | (refine ⟨⟨⟨_, KH_w69.out, trivial⟩, rfl⟩, hK.out _ _ ?_⟩; clear hK K)
              repeat (go_big_quiet_step (fail))
              refine wpQuiet_nil ?_
              clear _ne
              go_wp2_with fail
              rw [rounds_succ]
              have cA0_w69 := KH_w69.out.at (b := wr.heap.size) (o := 0) (v := .int .i64 what) (by simp)
              have fA0_w69 := KH_w69.out.free (b := wr.heap.size) (o := 0) (v := .int .i64 what) (by simp)
              have cA1_w69 := KH_w69.out.at (b := wr.heap.size) (o := 1) (v := .int .i64 0) (by simp)
              have fA1_w69 := KH_w69.out.free (b := wr.heap.size) (o := 1) (v := .int .i64 0) (by simp)
              have cA2_w69 := KH_w69.out.at (b := wr.heap.size) (o := 2) (v := .int .u64 ta) (by simp)
              have fA2_w69 := KH_w69.out.free (b := wr.heap.size) (o := 2) (v := .int .u64 ta) (by simp)
              go_wp2_with fail
              with_reducible refine (lost15c P b2 ta (0) _ HB.out HH.out.ok HL.out).mono ?_
              rintro e w70 ⟨rfl, hb_w70⟩
              have K_w70 : Kept w.heap.size w (wr.heap.size + 1) [(w.heap.size, 0, .int .i64 n), (w.heap.size, 1, .int .u64 g), (w2.heap.size, 0, .int .i64 e0), (w2.heap.size, 1, .int .i64 e1), (wr.heap.size, 0, .int .i64 what), (wr.heap.size, 1, .int .i64 0), (wr.heap.size, 2, .int .u64 ta)] w70 := (KH_w69.out.step (by omega) (by go_grown)).step (by omega) hb_w70
              replace HB := Lib.hid (HB.out.below hb_w70)
              clear hb_w70
              have KH_w70 := Lib.hid K_w70
              have hw_w70 := K_w70.below
              have hz_w70 := K_w70.size
              have lC_w70 : w.heap.size < w70.heap.size := by omega
              have lK_w70 : w2.heap.size < w70.heap.size := by omega
              have lA_w70 : wr.heap.size < w70.heap.size := by omega
              clear lC_w69 lK_w69 lA_w69 cA0_w69 fA0_w69 cA1_w69 fA1_w69 cA2_w69 fA2_w69
              clear K_w70
              go_wp2_with fail
              refine rg5_38 (w0 := w) (B := w.heap.size) (n := wr.heap.size + 1) (L := [(w.heap.size, 0, .int .i64 n), (w.heap.size, 1, .int .u64 g), (w2.heap.size, 0, .int .i64 e0), (w2.heap.size, 1, .int .i64 e1), (wr.heap.size, 0, .int .i64 what), (wr.heap.size, 1, .int .i64 0), (wr.heap.size, 2, .int .u64 ta)]) (E := fun _ => True) (F := fun W => BookAt W P b2) (by kernel_rfl) (by kernel_rfl) (KH_w70.out.step (by omega) (by go_grown)) trivial (fun _ _ _ _ => trivial) (HB.out.below (by go_grown)) (fun _ _ h hb => h.below hb) (fun w71 K_w71 E_w71 F_w71 => ?_)
              have _ne : Nonempty (KX (w.heap.size) w (wr.heap.size + 1) [(w.heap.size, 0, .int .i64 n), (w.heap.size, 1, .int .u64 g), (w2.heap.size, 0, .int .i64 e0), (w2.heap.size, 1, .int .i64 e1), (wr.heap.size, 0, .int .i64 what), (wr.heap.size, 1, .int .i64 0), (wr.heap.size, 2, .int .u64 ta)] (fun _ => True)) := ⟨⟨_, K_w71, E_w71⟩⟩
              repeat (go_big_quiet_step (fail))
              refine wpQuiet_nil ?_
              have rC0 := rcx _ne w.heap.size 0 (.int .i64 n) (by simp)
              have rC1 := rcx _ne w.heap.size 1 (.int .u64 g) (by simp)
              have rK0 := rcx _ne w2.heap.size 0 (.int .i64 e0) (by simp)
              have rK1 := rcx _ne w2.heap.size 1 (.int .i64 e1) (by simp)
              have rA0 := rcx _ne wr.heap.size 0 (.int .i64 what) (by simp)
              have rA1 := rcx _ne wr.heap.size 1 (.int .i64 0) (by simp)
              have rA2 := rcx _ne wr.heap.size 2 (.int .u64 ta) (by simp)
              repeat (go_big_quiet_step (fail))
              refine wpQuiet_nil ?_
              clear rC0 rC1 rK0 rK1 rA0 rA1 rA2
              repeat (go_big_quiet_step (fail))
              refine wpQuiet_nil ?_
              have KH_w71 := Lib.hid K_w71
              have hw_w71 := K_w71.below
              have hz_w71 := K_w71.size
              have lC_w71 : w.heap.size < w71.heap.size := by omega
              have lK_w71 : w2.heap.size < w71.heap.size := by omega
              have lA_w71 : wr.heap.size < w71.heap.size := by omega
              clear lC_w70 lK_w70 lA_w70
              clear K_w71
              have HB := Lib.hid (F_w71)
              clear E_w71 F_w71
              refine ⟨fun K hK0 => ?_, trivial⟩
              have hK := Lib.hid hK0
              clear hK0
              go_wp2_with fail
              with_reducible refine (auto20_1c P b2 (decide (n ≤ e1)) _ HB.out HH.out.ok.n1 HH.out.a1).mono ?_
              rintro e w72 ⟨rfl, hb_w72⟩
              have K_w72 : Kept w.heap.size w (wr.heap.size + 1) [(w.heap.size, 0, .int .i64 n), (w.heap.size, 1, .int .u64 g), (w2.heap.size, 0, .int .i64 e0), (w2.heap.size, 1, .int .i64 e1), (wr.heap.size, 0, .int .i64 what), (wr.heap.size, 1, .int .i64 0), (wr.heap.size, 2, .int .u64 ta)] w72 := (KH_w71.out.step (by omega) (by go_grown)).step (by omega) hb_w72
              replace HB := Lib.hid (HB.out.below hb_w72)
              clear hb_w72
              have KH_w72 := Lib.hid K_w72
              have hw_w72 := K_w72.below
              have hz_w72 := K_w72.size
              have lC_w72 : w.heap.size < w72.heap.size := by omega
              have lK_w72 : w2.heap.size < w72.heap.size := by omega
              have lA_w72 : wr.heap.size < w72.heap.size := by omega
              clear lC_w71 lK_w71 lA_w71
              clear K_w72
              go_wp2_with fail
              first | (refine ⟨rfl, ⟨⟨_, KH_w72.out, trivial⟩, rfl⟩, hK.out _ _ ?_⟩; clear hK K) | (refine ⟨⟨⟨_, KH_w72.out, trivial⟩, rfl⟩, hK.out _ _ ?_⟩; clear hK K)
              repeat (go_big_quiet_step (fail))
              refine wpQuiet_nil ?_
              refine ⟨fun K hK0 => ?_, trivial⟩
              have hK := Lib.hid hK0
              clear hK0
              go_wp2_with fail
              first | (refine ⟨rfl, ⟨⟨_, KH_w72.out, trivial⟩, rfl⟩, hK.out _ _ ?_⟩; clear hK K) | (refine ⟨⟨⟨_, KH_w72.out, trivial⟩, rfl⟩, hK.out _ _ ?_⟩; clear hK K)
              repeat (go_big_quiet_step (fail))
              refine wpQuiet_nil ?_
              have rC0 := rcx _ne w.heap.size 0 (.int .i64 n) (by simp)
              have rC1 := rcx _ne w.heap.size 1 (.int .u64 g) (by simp)
              have rK0 := rcx _ne w2.heap.size 0 (.int .i64 e0) (by simp)
              have rK1 := rcx _ne w2.heap.size 1 (.int .i64 e1) (by simp)
              have rA0 := rcx _ne wr.heap.size 0 (.int .i64 what) (by simp)
              have rA1 := rcx _ne wr.heap.size 1 (.int .i64 0) (by simp)
              have rA2 := rcx _ne wr.heap.size 2 (.int .u64 ta) (by simp)
              repeat (go_big_quiet_step (fail))
              refine wpQuiet_nil ?_
              clear rC0 rC1 rK0 rK1 rA0 rA1 rA2
              refine ⟨fun K hK0 => ?_, trivial⟩
              have hK := Lib.hid hK0
              clear hK0
              go_wp2_with fail
              first | (refine ⟨rfl, ⟨⟨_, KH_w72.out, trivial⟩, rfl⟩, hK.out _ _ ?_⟩; clear hK K) | (refine ⟨⟨⟨_, KH_w72.out, trivial⟩, rfl⟩, hK.out _ _ ?_⟩; clear hK K)
              repeat (go_big_quiet_step (fail))
              refine wpQuiet_nil ?_
              clear _ne
              go_wp2_with fail
              rw [rounds_succ]
              go_wp2_with fail
              go_roundw
              case rel => exact ⟨k + 1, b2, e0, e1, by omega, by go_num, by omega, by omega, HB.out, HH.out, kept_less KH_w72.out (by omega) (by simp; omega)⟩
              case measure => simp [intOf]; omega
          · have HL := Lib.hid hL
            clear hL
            have V1 := Lib.hid (due_over v1)
            have z1 : decide (ta < b2.d1) = false := by have : b2.d1 ≤ ta := (due_over v1).2; simp; omega
            clear v1
            as_aux_lemma =>
              go_wp2_with fail
              with_reducible refine (auto20_1c P b2 b.a1 _ HB.out HH.out.ok.n1 M1.out).mono ?_
              rintro e w61 ⟨rfl, hb_w61⟩
              have K_w61 : Kept w.heap.size w (wr.heap.size + 1) [(w.heap.size, 0, .int .i64 n), (w.heap.size, 1, .int .u64 g), (w2.heap.size, 0, .int .i64 e0), (w2.heap.size, 1, .int .i64 e1), (wr.heap.size, 0, .int .i64 what), (wr.heap.size, 1, .int .i64 0), (wr.heap.size, 2, .int .u64 ta)] w61 := (KH_wc.out.step (by omega) (by go_grown)).step (by omega) hb_w61
              replace HB := Lib.hid (HB.out.below hb_w61)
              clear hb_w61
              have KH_w61 := Lib.hid K_w61
              have hw_w61 := K_w61.below
              have hz_w61 := K_w61.size
              have lC_w61 : w.heap.size < w61.heap.size := by omega
              have lK_w61 : w2.heap.size < w61.heap.size := by omega
              have lA_w61 : wr.heap.size < w61.heap.size := by omega
              clear K_w61
              go_wp2_with fail
              with_reducible refine (strikes21_1c P b2 b.s1 _ HB.out HH.out.ok.n1 M2.out).mono ?_
              rintro e w62 ⟨rfl, hb_w62⟩
              have K_w62 : Kept w.heap.size w (wr.heap.size + 1) [(w.heap.size, 0, .int .i64 n), (w.heap.size, 1, .int .u64 g), (w2.heap.size, 0, .int .i64 e0), (w2.heap.size, 1, .int .i64 e1), (wr.heap.size, 0, .int .i64 what), (wr.heap.size, 1, .int .i64 0), (wr.heap.size, 2, .int .u64 ta)] w62 := (KH_w61.out.step (by omega) (by go_grown)).step (by omega) hb_w62
              replace HB := Lib.hid (HB.out.below hb_w62)
              clear hb_w62
              have KH_w62 := Lib.hid K_w62
              have hw_w62 := K_w62.below
              have hz_w62 := K_w62.size
              have lC_w62 : w.heap.size < w62.heap.size := by omega
              have lK_w62 : w2.heap.size < w62.heap.size := by omega
              have lA_w62 : wr.heap.size < w62.heap.size := by omega
              clear lC_w61 lK_w61 lA_w61
              clear K_w62
              go_wp2_with fail
              with_reducible refine (here18_1c P b2 b.h1 _ HB.out HH.out.ok.n1 M3.out).mono ?_
              rintro e w63 ⟨rfl, hb_w63⟩
              have K_w63 : Kept w.heap.size w (wr.heap.size + 1) [(w.heap.size, 0, .int .i64 n), (w.heap.size, 1, .int .u64 g), (w2.heap.size, 0, .int .i64 e0), (w2.heap.size, 1, .int .i64 e1), (wr.heap.size, 0, .int .i64 what), (wr.heap.size, 1, .int .i64 0), (wr.heap.size, 2, .int .u64 ta)] w63 := (KH_w62.out.step (by omega) (by go_grown)).step (by omega) hb_w63
              replace HB := Lib.hid (HB.out.below hb_w63)
              clear hb_w63
              have KH_w63 := Lib.hid K_w63
              have hw_w63 := K_w63.below
              have hz_w63 := K_w63.size
              have lC_w63 : w.heap.size < w63.heap.size := by omega
              have lK_w63 : w2.heap.size < w63.heap.size := by omega
              have lA_w63 : wr.heap.size < w63.heap.size := by omega
              clear lC_w62 lK_w62 lA_w62
              clear K_w63
              go_wp2_with fail
              with_reducible refine (due19_1c P b2 b.d1 _ HB.out HH.out.ok.n1 HH.out.ok.t1 (ug HH.out.ok) M4.out).mono ?_
              rintro e w64 ⟨rfl, hb_w64⟩
              have K_w64 : Kept w.heap.size w (wr.heap.size + 1) [(w.heap.size, 0, .int .i64 n), (w.heap.size, 1, .int .u64 g), (w2.heap.size, 0, .int .i64 e0), (w2.heap.size, 1, .int .i64 e1), (wr.heap.size, 0, .int .i64 what), (wr.heap.size, 1, .int .i64 0), (wr.heap.size, 2, .int .u64 ta)] w64 := (KH_w63.out.step (by omega) (by go_grown)).step (by omega) hb_w64
              replace HB := Lib.hid (HB.out.below hb_w64)
              clear hb_w64
              have KH_w64 := Lib.hid K_w64
              have hw_w64 := K_w64.below
              have hz_w64 := K_w64.size
              have lC_w64 : w.heap.size < w64.heap.size := by omega
              have lK_w64 : w2.heap.size < w64.heap.size := by omega
              have lA_w64 : wr.heap.size < w64.heap.size := by omega
              clear lC_w63 lK_w63 lA_w63
              clear K_w64
              go_wp2_with fail
              refine wp_loop_rounds 3 ?_
              rw [rounds_succ]
              have cA0_w64 := KH_w64.out.at (b := wr.heap.size) (o := 0) (v := .int .i64 what) (by simp)
              have fA0_w64 := KH_w64.out.free (b := wr.heap.size) (o := 0) (v := .int .i64 what) (by simp)
              have cA1_w64 := KH_w64.out.at (b := wr.heap.size) (o := 1) (v := .int .i64 0) (by simp)
              have fA1_w64 := KH_w64.out.free (b := wr.heap.size) (o := 1) (v := .int .i64 0) (by simp)
              have cA2_w64 := KH_w64.out.at (b := wr.heap.size) (o := 2) (v := .int .u64 ta) (by simp)
              have fA2_w64 := KH_w64.out.free (b := wr.heap.size) (o := 2) (v := .int .u64 ta) (by simp)
              go_wp2_with fail
              with_reducible refine (lost15c P b2 ta (1) _ HB.out HH.out.ok HL.out).mono ?_
              rintro e w65 ⟨rfl, hb_w65⟩
              have K_w65 : Kept w.heap.size w (wr.heap.size + 1) [(w.heap.size, 0, .int .i64 n), (w.heap.size, 1, .int .u64 g), (w2.heap.size, 0, .int .i64 e0), (w2.heap.size, 1, .int .i64 e1), (wr.heap.size, 0, .int .i64 what), (wr.heap.size, 1, .int .i64 0), (wr.heap.size, 2, .int .u64 ta)] w65 := (KH_w64.out.step (by omega) (by go_grown)).step (by omega) hb_w65
              replace HB := Lib.hid (HB.out.below hb_w65)
              clear hb_w65
              have KH_w65 := Lib.hid K_w65
              have hw_w65 := K_w65.below
              have hz_w65 := K_w65.size
              have lC_w65 : w.heap.size < w65.heap.size := by omega
              have lK_w65 : w2.heap.size < w65.heap.size := by omega
              have lA_w65 : wr.heap.size < w65.heap.size := by omega
              clear lC_w64 lK_w64 lA_w64 cA0_w64 fA0_w64 cA1_w64 fA1_w64 cA2_w64 fA2_w64
              clear K_w65
              go_wp2_with fail
              refine rg5_38 (w0 := w) (B := w.heap.size) (n := wr.heap.size + 1) (L := [(w.heap.size, 0, .int .i64 n), (w.heap.size, 1, .int .u64 g), (w2.heap.size, 0, .int .i64 e0), (w2.heap.size, 1, .int .i64 e1), (wr.heap.size, 0, .int .i64 what), (wr.heap.size, 1, .int .i64 0), (wr.heap.size, 2, .int .u64 ta)]) (E := fun _ => True) (F := fun W => BookAt W P b2) (by kernel_rfl) (by kernel_rfl) (KH_w65.out.step (by omega) (by go_grown)) trivial (fun _ _ _ _ => trivial) (HB.out.below (by go_grown)) (fun _ _ h hb => h.below hb) (fun w66 K_w66 E_w66 F_w66 => ?_)
              have _ne : Nonempty (KX (w.heap.size) w (wr.heap.size + 1) [(w.heap.size, 0, .int .i64 n), (w.heap.size, 1, .int .u64 g), (w2.heap.size, 0, .int .i64 e0), (w2.heap.size, 1, .int .i64 e1), (wr.heap.size, 0, .int .i64 what), (wr.heap.size, 1, .int .i64 0), (wr.heap.size, 2, .int .u64 ta)] (fun _ => True)) := ⟨⟨_, K_w66, E_w66⟩⟩
              repeat (go_big_quiet_step (fail))
              refine wpQuiet_nil ?_
              have rC0 := rcx _ne w.heap.size 0 (.int .i64 n) (by simp)
              have rC1 := rcx _ne w.heap.size 1 (.int .u64 g) (by simp)
              have rK0 := rcx _ne w2.heap.size 0 (.int .i64 e0) (by simp)
              have rK1 := rcx _ne w2.heap.size 1 (.int .i64 e1) (by simp)
              have rA0 := rcx _ne wr.heap.size 0 (.int .i64 what) (by simp)
              have rA1 := rcx _ne wr.heap.size 1 (.int .i64 0) (by simp)
              have rA2 := rcx _ne wr.heap.size 2 (.int .u64 ta) (by simp)
              repeat (go_big_quiet_step (fail))
              refine wpQuiet_nil ?_
              clear rC0 rC1 rK0 rK1 rA0 rA1 rA2
              repeat (go_big_quiet_step (fail))
              refine wpQuiet_nil ?_
              have KH_w66 := Lib.hid K_w66
              have hw_w66 := K_w66.below
              have hz_w66 := K_w66.size
              have lC_w66 : w.heap.size < w66.heap.size := by omega
              have lK_w66 : w2.heap.size < w66.heap.size := by omega
              have lA_w66 : wr.heap.size < w66.heap.size := by omega
              clear lC_w65 lK_w65 lA_w65
              clear K_w66
              have HB := Lib.hid (F_w66)
              clear E_w66 F_w66
              refine ⟨fun K hK0 => ?_, trivial⟩
              have hK := Lib.hid hK0
              clear hK0
              go_wp2_with fail
              with_reducible refine (auto20_0c P b2 (decide (n ≤ e0)) _ HB.out HH.out.ok.n1 HH.out.a0).mono ?_
              rintro e w67 ⟨rfl, hb_w67⟩
              have K_w67 : Kept w.heap.size w (wr.heap.size + 1) [(w.heap.size, 0, .int .i64 n), (w.heap.size, 1, .int .u64 g), (w2.heap.size, 0, .int .i64 e0), (w2.heap.size, 1, .int .i64 e1), (wr.heap.size, 0, .int .i64 what), (wr.heap.size, 1, .int .i64 0), (wr.heap.size, 2, .int .u64 ta)] w67 := (KH_w66.out.step (by omega) (by go_grown)).step (by omega) hb_w67
              replace HB := Lib.hid (HB.out.below hb_w67)
              clear hb_w67
              have KH_w67 := Lib.hid K_w67
              have hw_w67 := K_w67.below
              have hz_w67 := K_w67.size
              have lC_w67 : w.heap.size < w67.heap.size := by omega
              have lK_w67 : w2.heap.size < w67.heap.size := by omega
              have lA_w67 : wr.heap.size < w67.heap.size := by omega
              clear lC_w66 lK_w66 lA_w66
              clear K_w67
              go_wp2_with fail
              first | (refine ⟨rfl, ⟨⟨_, KH_w67.out, trivial⟩, rfl⟩, hK.out _ _ ?_⟩; clear hK K) | (refine ⟨⟨⟨_, KH_w67.out, trivial⟩, rfl⟩, hK.out _ _ ?_⟩; clear hK K)
              repeat (go_big_quiet_step (fail))
              refine wpQuiet_nil ?_
              refine ⟨fun K hK0 => ?_, trivial⟩
              have hK := Lib.hid hK0
              clear hK0
              go_wp2_with fail
              first | (refine ⟨rfl, ⟨⟨_, KH_w67.out, trivial⟩, rfl⟩, hK.out _ _ ?_⟩; clear hK K) | (refine ⟨⟨⟨_, KH_w67.out, trivial⟩, rfl⟩, hK.out _ _ ?_⟩; clear hK K)
              repeat (go_big_quiet_step (fail))
              refine wpQuiet_nil ?_
              have rC0 := rcx _ne w.heap.size 0 (.int .i64 n) (by simp)
              have rC1 := rcx _ne w.heap.size 1 (.int .u64 g) (by simp)
              have rK0 := rcx _ne w2.heap.size 0 (.int .i64 e0) (by simp)
              have rK1 := rcx _ne w2.heap.size 1 (.int .i64 e1) (by simp)
              have rA0 := rcx _ne wr.heap.size 0 (.int .i64 what) (by simp)
              have rA1 := rcx _ne wr.heap.size 1 (.int .i64 0) (by simp)
              have rA2 := rcx _ne wr.heap.size 2 (.int .u64 ta) (by simp)
              repeat (go_big_quiet_step (fail))
              refine wpQuiet_nil ?_
              clear rC0 rC1 rK0 rK1 rA0 rA1 rA2
              refine ⟨fun K hK0 => ?_, trivial⟩
              have hK := Lib.hid hK0
              clear hK0
              go_wp2_with fail
              first | (refine ⟨rfl, ⟨⟨_, KH_w67.out, trivial⟩, rfl⟩, hK.out _ _ ?_⟩; clear hK K) | (refine ⟨⟨⟨_, KH_w67.out, trivial⟩, rfl⟩, hK.out _ _ ?_⟩; clear hK K)
              repeat (go_big_quiet_step (fail))
              refine wpQuiet_nil ?_
              clear _ne
              go_wp2_with fail
              rw [rounds_succ]
              have cA0_w67 := KH_w67.out.at (b := wr.heap.size) (o := 0) (v := .int .i64 what) (by simp)
              have fA0_w67 := KH_w67.out.free (b := wr.heap.size) (o := 0) (v := .int .i64 what) (by simp)
              have cA1_w67 := KH_w67.out.at (b := wr.heap.size) (o := 1) (v := .int .i64 0) (by simp)
              have fA1_w67 := KH_w67.out.free (b := wr.heap.size) (o := 1) (v := .int .i64 0) (by simp)
              have cA2_w67 := KH_w67.out.at (b := wr.heap.size) (o := 2) (v := .int .u64 ta) (by simp)
              have fA2_w67 := KH_w67.out.free (b := wr.heap.size) (o := 2) (v := .int .u64 ta) (by simp)
              go_wp2_with fail
              with_reducible refine (lost15c P b2 ta (1) _ HB.out HH.out.ok HL.out).mono ?_
              rintro e w68 ⟨rfl, hb_w68⟩
              have K_w68 : Kept w.heap.size w (wr.heap.size + 1) [(w.heap.size, 0, .int .i64 n), (w.heap.size, 1, .int .u64 g), (w2.heap.size, 0, .int .i64 e0), (w2.heap.size, 1, .int .i64 e1), (wr.heap.size, 0, .int .i64 what), (wr.heap.size, 1, .int .i64 0), (wr.heap.size, 2, .int .u64 ta)] w68 := (KH_w67.out.step (by omega) (by go_grown)).step (by omega) hb_w68
              replace HB := Lib.hid (HB.out.below hb_w68)
              clear hb_w68
              have KH_w68 := Lib.hid K_w68
              have hw_w68 := K_w68.below
              have hz_w68 := K_w68.size
              have lC_w68 : w.heap.size < w68.heap.size := by omega
              have lK_w68 : w2.heap.size < w68.heap.size := by omega
              have lA_w68 : wr.heap.size < w68.heap.size := by omega
              clear lC_w67 lK_w67 lA_w67 cA0_w67 fA0_w67 cA1_w67 fA1_w67 cA2_w67 fA2_w67
              clear K_w68
              go_wp2_with fail
              refine rg5_38 (w0 := w) (B := w.heap.size) (n := wr.heap.size + 1) (L := [(w.heap.size, 0, .int .i64 n), (w.heap.size, 1, .int .u64 g), (w2.heap.size, 0, .int .i64 e0), (w2.heap.size, 1, .int .i64 e1), (wr.heap.size, 0, .int .i64 what), (wr.heap.size, 1, .int .i64 0), (wr.heap.size, 2, .int .u64 ta)]) (E := fun _ => True) (F := fun W => BookAt W P b2) (by kernel_rfl) (by kernel_rfl) (KH_w68.out.step (by omega) (by go_grown)) trivial (fun _ _ _ _ => trivial) (HB.out.below (by go_grown)) (fun _ _ h hb => h.below hb) (fun w69 K_w69 E_w69 F_w69 => ?_)
              have _ne : Nonempty (KX (w.heap.size) w (wr.heap.size + 1) [(w.heap.size, 0, .int .i64 n), (w.heap.size, 1, .int .u64 g), (w2.heap.size, 0, .int .i64 e0), (w2.heap.size, 1, .int .i64 e1), (wr.heap.size, 0, .int .i64 what), (wr.heap.size, 1, .int .i64 0), (wr.heap.size, 2, .int .u64 ta)] (fun _ => True)) := ⟨⟨_, K_w69, E_w69⟩⟩
              repeat (go_big_quiet_step (fail))
              refine wpQuiet_nil ?_
              have rC0 := rcx _ne w.heap.size 0 (.int .i64 n) (by simp)
              have rC1 := rcx _ne w.heap.size 1 (.int .u64 g) (by simp)
              have rK0 := rcx _ne w2.heap.size 0 (.int .i64 e0) (by simp)
              have rK1 := rcx _ne w2.heap.size 1 (.int .i64 e1) (by simp)
              have rA0 := rcx _ne wr.heap.size 0 (.int .i64 what) (by simp)
              have rA1 := rcx _ne wr.heap.size 1 (.int .i64 0) (by simp)
              have rA2 := rcx _ne wr.heap.size 2 (.int .u64 ta) (by simp)
              repeat (go_big_quiet_step (fail))
              refine wpQuiet_nil ?_
              clear rC0 rC1 rK0 rK1 rA0 rA1 rA2
              repeat (go_big_quiet_step (fail))
              refine wpQuiet_nil ?_
              have KH_w69 := Lib.hid K_w69
              have hw_w69 := K_w69.below
              have hz_w69 := K_w69.size
              have lC_w69 : w.heap.size < w69.heap.size := by omega
              have lK_w69 : w2.heap.size < w69.heap.size := by omega
              have lA_w69 : wr.heap.size < w69.heap.size := by omega
              clear lC_w68 lK_w68 lA_w68
              clear K_w69
              have HB := Lib.hid (F_w69)
              clear E_w69 F_w69
              refine ⟨fun K hK0 => ?_, trivial⟩
              have hK := Lib.hid hK0
              clear hK0
              go_wp2_with fail
              with_reducible refine (auto20_1c P b2 (decide (n ≤ e1)) _ HB.out HH.out.ok.n1 HH.out.a1).mono ?_
              rintro e w70 ⟨rfl, hb_w70⟩
              have K_w70 : Kept w.heap.size w (wr.heap.size + 1) [(w.heap.size, 0, .int .i64 n), (w.heap.size, 1, .int .u64 g), (w2.heap.size, 0, .int .i64 e0), (w2.heap.size, 1, .int .i64 e1), (wr.heap.size, 0, .int .i64 what), (wr.heap.size, 1, .int .i64 0), (wr.heap.size, 2, .int .u64 ta)] w70 := (KH_w69.out.step (by omega) (by go_grown)).step (by omega) hb_w70
              replace HB := Lib.hid (HB.out.below hb_w70)
              clear hb_w70
              have KH_w70 := Lib.hid K_w70
              have hw_w70 := K_w70.below
              have hz_w70 := K_w70.size
              have lC_w70 : w.heap.size < w70.heap.size := by omega
              have lK_w70 : w2.heap.size < w70.heap.size := by omega
              have lA_w70 : wr.heap.size < w70.heap.size := by omega
              clear lC_w69 lK_w69 lA_w69
              clear K_w70
              go_wp2_with fail
              first | (refine ⟨rfl, ⟨⟨_, KH_w70.out, trivial⟩, rfl⟩, hK.out _ _ ?_⟩; clear hK K) | (refine ⟨⟨⟨_, KH_w70.out, trivial⟩, rfl⟩, hK.out _ _ ?_⟩; clear hK K)
              repeat (go_big_quiet_step (fail))
              refine wpQuiet_nil ?_
              refine ⟨fun K hK0 => ?_, trivial⟩
              have hK := Lib.hid hK0
              clear hK0
              go_wp2_with fail
              with_reducible refine (here18_1c P b2 false _ HB.out HH.out.ok.n1 V1.out.1).mono ?_
              rintro e w71 ⟨rfl, hb_w71⟩
              have K_w71 : Kept w.heap.size w (wr.heap.size + 1) [(w.heap.size, 0, .int .i64 n), (w.heap.size, 1, .int .u64 g), (w2.heap.size, 0, .int .i64 e0), (w2.heap.size, 1, .int .i64 e1), (wr.heap.size, 0, .int .i64 what), (wr.heap.size, 1, .int .i64 0), (wr.heap.size, 2, .int .u64 ta)] w71 := (KH_w70.out.step (by omega) (by go_grown)).step (by omega) hb_w71
              replace HB := Lib.hid (HB.out.below hb_w71)
              clear hb_w71
              have KH_w71 := Lib.hid K_w71
              have hw_w71 := K_w71.below
              have hz_w71 := K_w71.size
              have lC_w71 : w.heap.size < w71.heap.size := by omega
              have lK_w71 : w2.heap.size < w71.heap.size := by omega
              have lA_w71 : wr.heap.size < w71.heap.size := by omega
              clear lC_w70 lK_w70 lA_w70
              clear K_w71
              go_wp2_with fail
              first | (refine ⟨rfl, ⟨⟨_, KH_w71.out, trivial⟩, rfl⟩, hK.out _ _ ?_⟩; clear hK K) | (refine ⟨⟨⟨_, KH_w71.out, trivial⟩, rfl⟩, hK.out _ _ ?_⟩; clear hK K)
              repeat (go_big_quiet_step (fail))
              refine wpQuiet_nil ?_
              have rC0 := rcx _ne w.heap.size 0 (.int .i64 n) (by simp)
              have rC1 := rcx _ne w.heap.size 1 (.int .u64 g) (by simp)
              have rK0 := rcx _ne w2.heap.size 0 (.int .i64 e0) (by simp)
              have rK1 := rcx _ne w2.heap.size 1 (.int .i64 e1) (by simp)
              have rA0 := rcx _ne wr.heap.size 0 (.int .i64 what) (by simp)
              have rA1 := rcx _ne wr.heap.size 1 (.int .i64 0) (by simp)
              have rA2 := rcx _ne wr.heap.size 2 (.int .u64 ta) (by simp)
              repeat (go_big_quiet_step (fail))
              refine wpQuiet_nil ?_
              clear rC0 rC1 rK0 rK1 rA0 rA1 rA2
              refine ⟨fun K hK0 => ?_, trivial⟩
              have hK := Lib.hid hK0
              clear hK0
              go_wp2_with fail
              with_reducible refine (due19_1 P b2 _ HB.out HH.out.ok.n1 HH.out.ok.t1 (ug HH.out.ok)).mono ?_
              rintro e w72 ⟨rfl, hb_w72⟩
              have K_w72 : Kept w.heap.size w (wr.heap.size + 1) [(w.heap.size, 0, .int .i64 n), (w.heap.size, 1, .int .u64 g), (w2.heap.size, 0, .int .i64 e0), (w2.heap.size, 1, .int .i64 e1), (wr.heap.size, 0, .int .i64 what), (wr.heap.size, 1, .int .i64 0), (wr.heap.size, 2, .int .u64 ta)] w72 := (KH_w71.out.step (by omega) (by go_grown)).step (by omega) hb_w72
              replace HB := Lib.hid (HB.out.below hb_w72)
              clear hb_w72
              have KH_w72 := Lib.hid K_w72
              have hw_w72 := K_w72.below
              have hz_w72 := K_w72.size
              have lC_w72 : w.heap.size < w72.heap.size := by omega
              have lK_w72 : w2.heap.size < w72.heap.size := by omega
              have lA_w72 : wr.heap.size < w72.heap.size := by omega
              clear lC_w71 lK_w71 lA_w71
              clear K_w72
              go_wp2_with fail
              first | (refine ⟨rfl, ⟨⟨_, KH_w72.out, trivial⟩, rfl⟩, hK.out _ _ ?_⟩; clear hK K) | (refine ⟨⟨⟨_, KH_w72.out, trivial⟩, rfl⟩, hK.out _ _ ?_⟩; clear hK K)
              repeat (go_big_quiet_step (fail))
              refine wpQuiet_nil ?_
              clear _ne
              go_wp2_with fail
              rw [rounds_succ]
              go_wp2_with fail
              go_roundw
              case rel => exact ⟨k + 1, b2, e0, e1, by omega, by go_num, by omega, by omega, HB.out, HH.out, kept_less KH_w72.out (by omega) (by simp; omega)⟩
              case measure => simp [intOf]; omega
          · have HL := Lib.hid hL
            clear hL
            have V0 := Lib.hid (due_over v0)
            have z0 : decide (ta < b2.d0) = false := by have : b2.d0 ≤ ta := (due_over v0).2; simp; omega
            clear v0
            have V1 := Lib.hid (due_over v1)
            have z1 : decide (ta < b2.d1) = false := by have : b2.d1 ≤ ta := (due_over v1).2; simp; omega
            clear v1
            as_aux_lemma =>
              go_wp2_with fail
              with_reducible refine (auto20_1c P b2 b.a1 _ HB.out HH.out.ok.n1 M1.out).mono ?_
              rintro e w61 ⟨rfl, hb_w61⟩
              have K_w61 : Kept w.heap.size w (wr.heap.size + 1) [(w.heap.size, 0, .int .i64 n), (w.heap.size, 1, .int .u64 g), (w2.heap.size, 0, .int .i64 e0), (w2.heap.size, 1, .int .i64 e1), (wr.heap.size, 0, .int .i64 what), (wr.heap.size, 1, .int .i64 0), (wr.heap.size, 2, .int .u64 ta)] w61 := (KH_wc.out.step (by omega) (by go_grown)).step (by omega) hb_w61
              replace HB := Lib.hid (HB.out.below hb_w61)
              clear hb_w61
              have KH_w61 := Lib.hid K_w61
              have hw_w61 := K_w61.below
              have hz_w61 := K_w61.size
              have lC_w61 : w.heap.size < w61.heap.size := by omega
              have lK_w61 : w2.heap.size < w61.heap.size := by omega
              have lA_w61 : wr.heap.size < w61.heap.size := by omega
              clear K_w61
              go_wp2_with fail
              with_reducible refine (strikes21_1c P b2 b.s1 _ HB.out HH.out.ok.n1 M2.out).mono ?_
              rintro e w62 ⟨rfl, hb_w62⟩
              have K_w62 : Kept w.heap.size w (wr.heap.size + 1) [(w.heap.size, 0, .int .i64 n), (w.heap.size, 1, .int .u64 g), (w2.heap.size, 0, .int .i64 e0), (w2.heap.size, 1, .int .i64 e1), (wr.heap.size, 0, .int .i64 what), (wr.heap.size, 1, .int .i64 0), (wr.heap.size, 2, .int .u64 ta)] w62 := (KH_w61.out.step (by omega) (by go_grown)).step (by omega) hb_w62
              replace HB := Lib.hid (HB.out.below hb_w62)
              clear hb_w62
              have KH_w62 := Lib.hid K_w62
              have hw_w62 := K_w62.below
              have hz_w62 := K_w62.size
              have lC_w62 : w.heap.size < w62.heap.size := by omega
              have lK_w62 : w2.heap.size < w62.heap.size := by omega
              have lA_w62 : wr.heap.size < w62.heap.size := by omega
              clear lC_w61 lK_w61 lA_w61
              clear K_w62
              go_wp2_with fail
              with_reducible refine (here18_1c P b2 b.h1 _ HB.out HH.out.ok.n1 M3.out).mono ?_
              rintro e w63 ⟨rfl, hb_w63⟩
              have K_w63 : Kept w.heap.size w (wr.heap.size + 1) [(w.heap.size, 0, .int .i64 n), (w.heap.size, 1, .int .u64 g), (w2.heap.size, 0, .int .i64 e0), (w2.heap.size, 1, .int .i64 e1), (wr.heap.size, 0, .int .i64 what), (wr.heap.size, 1, .int .i64 0), (wr.heap.size, 2, .int .u64 ta)] w63 := (KH_w62.out.step (by omega) (by go_grown)).step (by omega) hb_w63
              replace HB := Lib.hid (HB.out.below hb_w63)
              clear hb_w63
              have KH_w63 := Lib.hid K_w63
              have hw_w63 := K_w63.below
              have hz_w63 := K_w63.size
              have lC_w63 : w.heap.size < w63.heap.size := by omega
              have lK_w63 : w2.heap.size < w63.heap.size := by omega
              have lA_w63 : wr.heap.size < w63.heap.size := by omega
              clear lC_w62 lK_w62 lA_w62
              clear K_w63
              go_wp2_with fail
              with_reducible refine (due19_1c P b2 b.d1 _ HB.out HH.out.ok.n1 HH.out.ok.t1 (ug HH.out.ok) M4.out).mono ?_
              rintro e w64 ⟨rfl, hb_w64⟩
              have K_w64 : Kept w.heap.size w (wr.heap.size + 1) [(w.heap.size, 0, .int .i64 n), (w.heap.size, 1, .int .u64 g), (w2.heap.size, 0, .int .i64 e0), (w2.heap.size, 1, .int .i64 e1), (wr.heap.size, 0, .int .i64 what), (wr.heap.size, 1, .int .i64 0), (wr.heap.size, 2, .int .u64 ta)] w64 := (KH_w63.out.step (by omega) (by go_grown)).step (by omega) hb_w64
              replace HB := Lib.hid (HB.out.below hb_w64)
              clear hb_w64
              have KH_w64 := Lib.hid K_w64
              have hw_w64 := K_w64.below
              have hz_w64 := K_w64.size
              have lC_w64 : w.heap.size < w64.heap.size := by omega
              have lK_w64 : w2.heap.size < w64.heap.size := by omega
              have lA_w64 : wr.heap.size < w64.heap.size := by omega
              clear lC_w63 lK_w63 lA_w63
              clear K_w64
              go_wp2_with fail
              refine wp_loop_rounds 3 ?_
              rw [rounds_succ]
              have cA0_w64 := KH_w64.out.at (b := wr.heap.size) (o := 0) (v := .int .i64 what) (by simp)
              have fA0_w64 := KH_w64.out.free (b := wr.heap.size) (o := 0) (v := .int .i64 what) (by simp)
              have cA1_w64 := KH_w64.out.at (b := wr.heap.size) (o := 1) (v := .int .i64 0) (by simp)
              have fA1_w64 := KH_w64.out.free (b := wr.heap.size) (o := 1) (v := .int .i64 0) (by simp)
              have cA2_w64 := KH_w64.out.at (b := wr.heap.size) (o := 2) (v := .int .u64 ta) (by simp)
              have fA2_w64 := KH_w64.out.free (b := wr.heap.size) (o := 2) (v := .int .u64 ta) (by simp)
              go_wp2_with fail
              with_reducible refine (lost15c P b2 ta (2) _ HB.out HH.out.ok HL.out).mono ?_
              rintro e w65 ⟨rfl, hb_w65⟩
              have K_w65 : Kept w.heap.size w (wr.heap.size + 1) [(w.heap.size, 0, .int .i64 n), (w.heap.size, 1, .int .u64 g), (w2.heap.size, 0, .int .i64 e0), (w2.heap.size, 1, .int .i64 e1), (wr.heap.size, 0, .int .i64 what), (wr.heap.size, 1, .int .i64 0), (wr.heap.size, 2, .int .u64 ta)] w65 := (KH_w64.out.step (by omega) (by go_grown)).step (by omega) hb_w65
              replace HB := Lib.hid (HB.out.below hb_w65)
              clear hb_w65
              have KH_w65 := Lib.hid K_w65
              have hw_w65 := K_w65.below
              have hz_w65 := K_w65.size
              have lC_w65 : w.heap.size < w65.heap.size := by omega
              have lK_w65 : w2.heap.size < w65.heap.size := by omega
              have lA_w65 : wr.heap.size < w65.heap.size := by omega
              clear lC_w64 lK_w64 lA_w64 cA0_w64 fA0_w64 cA1_w64 fA1_w64 cA2_w64 fA2_w64
              clear K_w65
              go_wp2_with fail
              refine rg5_38 (w0 := w) (B := w.heap.size) (n := wr.heap.size + 1) (L := [(w.heap.size, 0, .int .i64 n), (w.heap.size, 1, .int .u64 g), (w2.heap.size, 0, .int .i64 e0), (w2.heap.size, 1, .int .i64 e1), (wr.heap.size, 0, .int .i64 what), (wr.heap.size, 1, .int .i64 0), (wr.heap.size, 2, .int .u64 ta)]) (E := fun _ => True) (F := fun W => BookAt W P b2) (by kernel_rfl) (by kernel_rfl) (KH_w65.out.step (by omega) (by go_grown)) trivial (fun _ _ _ _ => trivial) (HB.out.below (by go_grown)) (fun _ _ h hb => h.below hb) (fun w66 K_w66 E_w66 F_w66 => ?_)
              have _ne : Nonempty (KX (w.heap.size) w (wr.heap.size + 1) [(w.heap.size, 0, .int .i64 n), (w.heap.size, 1, .int .u64 g), (w2.heap.size, 0, .int .i64 e0), (w2.heap.size, 1, .int .i64 e1), (wr.heap.size, 0, .int .i64 what), (wr.heap.size, 1, .int .i64 0), (wr.heap.size, 2, .int .u64 ta)] (fun _ => True)) := ⟨⟨_, K_w66, E_w66⟩⟩
              repeat (go_big_quiet_step (fail))
              refine wpQuiet_nil ?_
              have rC0 := rcx _ne w.heap.size 0 (.int .i64 n) (by simp)
              have rC1 := rcx _ne w.heap.size 1 (.int .u64 g) (by simp)
              have rK0 := rcx _ne w2.heap.size 0 (.int .i64 e0) (by simp)
              have rK1 := rcx _ne w2.heap.size 1 (.int .i64 e1) (by simp)
              have rA0 := rcx _ne wr.heap.size 0 (.int .i64 what) (by simp)
              have rA1 := rcx _ne wr.heap.size 1 (.int .i64 0) (by simp)
              have rA2 := rcx _ne wr.heap.size 2 (.int .u64 ta) (by simp)
              repeat (go_big_quiet_step (fail))
              refine wpQuiet_nil ?_
              clear rC0 rC1 rK0 rK1 rA0 rA1 rA2
              repeat (go_big_quiet_step (fail))
              refine wpQuiet_nil ?_
              have KH_w66 := Lib.hid K_w66
              have hw_w66 := K_w66.below
              have hz_w66 := K_w66.size
              have lC_w66 : w.heap.size < w66.heap.size := by omega
              have lK_w66 : w2.heap.size < w66.heap.size := by omega
              have lA_w66 : wr.heap.size < w66.heap.size := by omega
              clear lC_w65 lK_w65 lA_w65
              clear K_w66
              have HB := Lib.hid (F_w66)
              clear E_w66 F_w66
              refine ⟨fun K hK0 => ?_, trivial⟩
              have hK := Lib.hid hK0
              clear hK0
              go_wp2_with fail
              with_reducible refine (auto20_0c P b2 (decide (n ≤ e0)) _ HB.out HH.out.ok.n1 HH.out.a0).mono ?_
              rintro e w67 ⟨rfl, hb_w67⟩
              have K_w67 : Kept w.heap.size w (wr.heap.size + 1) [(w.heap.size, 0, .int .i64 n), (w.heap.size, 1, .int .u64 g), (w2.heap.size, 0, .int .i64 e0), (w2.heap.size, 1, .int .i64 e1), (wr.heap.size, 0, .int .i64 what), (wr.heap.size, 1, .int .i64 0), (wr.heap.size, 2, .int .u64 ta)] w67 := (KH_w66.out.step (by omega) (by go_grown)).step (by omega) hb_w67
              replace HB := Lib.hid (HB.out.below hb_w67)
              clear hb_w67
              have KH_w67 := Lib.hid K_w67
              have hw_w67 := K_w67.below
              have hz_w67 := K_w67.size
              have lC_w67 : w.heap.size < w67.heap.size := by omega
              have lK_w67 : w2.heap.size < w67.heap.size := by omega
              have lA_w67 : wr.heap.size < w67.heap.size := by omega
              clear lC_w66 lK_w66 lA_w66
              clear K_w67
              go_wp2_with fail
              first | (refine ⟨rfl, ⟨⟨_, KH_w67.out, trivial⟩, rfl⟩, hK.out _ _ ?_⟩; clear hK K) | (refine ⟨⟨⟨_, KH_w67.out, trivial⟩, rfl⟩, hK.out _ _ ?_⟩; clear hK K)
              repeat (go_big_quiet_step (fail))
              refine wpQuiet_nil ?_
              refine ⟨fun K hK0 => ?_, trivial⟩
              have hK := Lib.hid hK0
              clear hK0
              go_wp2_with fail
              with_reducible refine (here18_0c P b2 false _ HB.out HH.out.ok.n1 V0.out.1).mono ?_
              rintro e w68 ⟨rfl, hb_w68⟩
              have K_w68 : Kept w.heap.size w (wr.heap.size + 1) [(w.heap.size, 0, .int .i64 n), (w.heap.size, 1, .int .u64 g), (w2.heap.size, 0, .int .i64 e0), (w2.heap.size, 1, .int .i64 e1), (wr.heap.size, 0, .int .i64 what), (wr.heap.size, 1, .int .i64 0), (wr.heap.size, 2, .int .u64 ta)] w68 := (KH_w67.out.step (by omega) (by go_grown)).step (by omega) hb_w68
              replace HB := Lib.hid (HB.out.below hb_w68)
              clear hb_w68
              have KH_w68 := Lib.hid K_w68
              have hw_w68 := K_w68.below
              have hz_w68 := K_w68.size
              have lC_w68 : w.heap.size < w68.heap.size := by omega
              have lK_w68 : w2.heap.size < w68.heap.size := by omega
              have lA_w68 : wr.heap.size < w68.heap.size := by omega
              clear lC_w67 lK_w67 lA_w67
              clear K_w68
              go_wp2_with fail
              first | (refine ⟨rfl, ⟨⟨_, KH_w68.out, trivial⟩, rfl⟩, hK.out _ _ ?_⟩; clear hK K) | (refine ⟨⟨⟨_, KH_w68.out, trivial⟩, rfl⟩, hK.out _ _ ?_⟩; clear hK K)
              repeat (go_big_quiet_step (fail))
              refine wpQuiet_nil ?_
              have rC0 := rcx _ne w.heap.size 0 (.int .i64 n) (by simp)
              have rC1 := rcx _ne w.heap.size 1 (.int .u64 g) (by simp)
              have rK0 := rcx _ne w2.heap.size 0 (.int .i64 e0) (by simp)
              have rK1 := rcx _ne w2.heap.size 1 (.int .i64 e1) (by simp)
              have rA0 := rcx _ne wr.heap.size 0 (.int .i64 what) (by simp)
              have rA1 := rcx _ne wr.heap.size 1 (.int .i64 0) (by simp)
              have rA2 := rcx _ne wr.heap.size 2 (.int .u64 ta) (by simp)
              repeat (go_big_quiet_step (fail))
              refine wpQuiet_nil ?_
              clear rC0 rC1 rK0 rK1 rA0 rA1 rA2
              refine ⟨fun K hK0 => ?_, trivial⟩
              have hK := Lib.hid hK0
              clear hK0
              go_wp2_with fail
              with_reducible refine (due19_0 P b2 _ HB.out HH.out.ok.n1 HH.out.ok.t0 (ug HH.out.ok)).mono ?_
              rintro e w69 ⟨rfl, hb_w69⟩
              have K_w69 : Kept w.heap.size w (wr.heap.size + 1) [(w.heap.size, 0, .int .i64 n), (w.heap.size, 1, .int .u64 g), (w2.heap.size, 0, .int .i64 e0), (w2.heap.size, 1, .int .i64 e1), (wr.heap.size, 0, .int .i64 what), (wr.heap.size, 1, .int .i64 0), (wr.heap.size, 2, .int .u64 ta)] w69 := (KH_w68.out.step (by omega) (by go_grown)).step (by omega) hb_w69
              replace HB := Lib.hid (HB.out.below hb_w69)
              clear hb_w69
              have KH_w69 := Lib.hid K_w69
              have hw_w69 := K_w69.below
              have hz_w69 := K_w69.size
              have lC_w69 : w.heap.size < w69.heap.size := by omega
              have lK_w69 : w2.heap.size < w69.heap.size := by omega
              have lA_w69 : wr.heap.size < w69.heap.size := by omega
              clear lC_w68 lK_w68 lA_w68
              clear K_w69
              go_wp2_with fail
              first | (refine ⟨rfl, ⟨⟨_, KH_w69.out, trivial⟩, rfl⟩, hK.out _ _ ?_⟩; clear hK K) | (refine ⟨⟨⟨_, KH_w69.out, trivial⟩, rfl⟩, hK.out _ _ ?_⟩; clear hK K)
              repeat (go_big_quiet_step (fail))
              refine wpQuiet_nil ?_
              clear _ne
              go_wp2_with fail
              rw [rounds_succ]
              have cA0_w69 := KH_w69.out.at (b := wr.heap.size) (o := 0) (v := .int .i64 what) (by simp)
              have fA0_w69 := KH_w69.out.free (b := wr.heap.size) (o := 0) (v := .int .i64 what) (by simp)
              have cA1_w69 := KH_w69.out.at (b := wr.heap.size) (o := 1) (v := .int .i64 0) (by simp)
              have fA1_w69 := KH_w69.out.free (b := wr.heap.size) (o := 1) (v := .int .i64 0) (by simp)
              have cA2_w69 := KH_w69.out.at (b := wr.heap.size) (o := 2) (v := .int .u64 ta) (by simp)
              have fA2_w69 := KH_w69.out.free (b := wr.heap.size) (o := 2) (v := .int .u64 ta) (by simp)
              go_wp2_with fail
              with_reducible refine (lost15c P b2 ta (2) _ HB.out HH.out.ok HL.out).mono ?_
              rintro e w70 ⟨rfl, hb_w70⟩
              have K_w70 : Kept w.heap.size w (wr.heap.size + 1) [(w.heap.size, 0, .int .i64 n), (w.heap.size, 1, .int .u64 g), (w2.heap.size, 0, .int .i64 e0), (w2.heap.size, 1, .int .i64 e1), (wr.heap.size, 0, .int .i64 what), (wr.heap.size, 1, .int .i64 0), (wr.heap.size, 2, .int .u64 ta)] w70 := (KH_w69.out.step (by omega) (by go_grown)).step (by omega) hb_w70
              replace HB := Lib.hid (HB.out.below hb_w70)
              clear hb_w70
              have KH_w70 := Lib.hid K_w70
              have hw_w70 := K_w70.below
              have hz_w70 := K_w70.size
              have lC_w70 : w.heap.size < w70.heap.size := by omega
              have lK_w70 : w2.heap.size < w70.heap.size := by omega
              have lA_w70 : wr.heap.size < w70.heap.size := by omega
              clear lC_w69 lK_w69 lA_w69 cA0_w69 fA0_w69 cA1_w69 fA1_w69 cA2_w69 fA2_w69
              clear K_w70
              go_wp2_with fail
              refine rg5_38 (w0 := w) (B := w.heap.size) (n := wr.heap.size + 1) (L := [(w.heap.size, 0, .int .i64 n), (w.heap.size, 1, .int .u64 g), (w2.heap.size, 0, .int .i64 e0), (w2.heap.size, 1, .int .i64 e1), (wr.heap.size, 0, .int .i64 what), (wr.heap.size, 1, .int .i64 0), (wr.heap.size, 2, .int .u64 ta)]) (E := fun _ => True) (F := fun W => BookAt W P b2) (by kernel_rfl) (by kernel_rfl) (KH_w70.out.step (by omega) (by go_grown)) trivial (fun _ _ _ _ => trivial) (HB.out.below (by go_grown)) (fun _ _ h hb => h.below hb) (fun w71 K_w71 E_w71 F_w71 => ?_)
              have _ne : Nonempty (KX (w.heap.size) w (wr.heap.size + 1) [(w.heap.size, 0, .int .i64 n), (w.heap.size, 1, .int .u64 g), (w2.heap.size, 0, .int .i64 e0), (w2.heap.size, 1, .int .i64 e1), (wr.heap.size, 0, .int .i64 what), (wr.heap.size, 1, .int .i64 0), (wr.heap.size, 2, .int .u64 ta)] (fun _ => True)) := ⟨⟨_, K_w71, E_w71⟩⟩
              repeat (go_big_quiet_step (fail))
              refine wpQuiet_nil ?_
              have rC0 := rcx _ne w.heap.size 0 (.int .i64 n) (by simp)
              have rC1 := rcx _ne w.heap.size 1 (.int .u64 g) (by simp)
              have rK0 := rcx _ne w2.heap.size 0 (.int .i64 e0) (by simp)
              have rK1 := rcx _ne w2.heap.size 1 (.int .i64 e1) (by simp)
              have rA0 := rcx _ne wr.heap.size 0 (.int .i64 what) (by simp)
              have rA1 := rcx _ne wr.heap.size 1 (.int .i64 0) (by simp)
              have rA2 := rcx _ne wr.heap.size 2 (.int .u64 ta) (by simp)
              repeat (go_big_quiet_step (fail))
              refine wpQuiet_nil ?_
              clear rC0 rC1 rK0 rK1 rA0 rA1 rA2
              repeat (go_big_quiet_step (fail))
              refine wpQuiet_nil ?_
              have KH_w71 := Lib.hid K_w71
              have hw_w71 := K_w71.below
              have hz_w71 := K_w71.size
              have lC_w71 : w.heap.size < w71.heap.size := by omega
              have lK_w71 : w2.heap.size < w71.heap.size := by omega
              have lA_w71 : wr.heap.size < w71.heap.size := by omega
              clear lC_w70 lK_w70 lA_w70
              clear K_w71
              have HB := Lib.hid (F_w71)
              clear E_w71 F_w71
              refine ⟨fun K hK0 => ?_, trivial⟩
              have hK := Lib.hid hK0
              clear hK0
              go_wp2_with fail
              with_reducible refine (auto20_1c P b2 (decide (n ≤ e1)) _ HB.out HH.out.ok.n1 HH.out.a1).mono ?_
              rintro e w72 ⟨rfl, hb_w72⟩
              have K_w72 : Kept w.heap.size w (wr.heap.size + 1) [(w.heap.size, 0, .int .i64 n), (w.heap.size, 1, .int .u64 g), (w2.heap.size, 0, .int .i64 e0), (w2.heap.size, 1, .int .i64 e1), (wr.heap.size, 0, .int .i64 what), (wr.heap.size, 1, .int .i64 0), (wr.heap.size, 2, .int .u64 ta)] w72 := (KH_w71.out.step (by omega) (by go_grown)).step (by omega) hb_w72
              replace HB := Lib.hid (HB.out.below hb_w72)
              clear hb_w72
              have KH_w72 := Lib.hid K_w72
              have hw_w72 := K_w72.below
              have hz_w72 := K_w72.size
              have lC_w72 : w.heap.size < w72.heap.size := by omega
              have lK_w72 : w2.heap.size < w72.heap.size := by omega
              have lA_w72 : wr.heap.size < w72.heap.size := by omega
              clear lC_w71 lK_w71 lA_w71
              clear K_w72
              go_wp2_with fail
              first | (refine ⟨rfl, ⟨⟨_, KH_w72.out, trivial⟩, rfl⟩, hK.out _ _ ?_⟩; clear hK K) | (refine ⟨⟨⟨_, KH_w72.out, trivial⟩, rfl⟩, hK.out _ _ ?_⟩; clear hK K)
              repeat (go_big_quiet_step (fail))
              refine wpQuiet_nil ?_
              refine ⟨fun K hK0 => ?_, trivial⟩
              have hK := Lib.hid hK0
              clear hK0
              go_wp2_with fail
              with_reducible refine (here18_1c P b2 false _ HB.out HH.out.ok.n1 V1.out.1).mono ?_
              rintro e w73 ⟨rfl, hb_w73⟩
              have K_w73 : Kept w.heap.size w (wr.heap.size + 1) [(w.heap.size, 0, .int .i64 n), (w.heap.size, 1, .int .u64 g), (w2.heap.size, 0, .int .i64 e0), (w2.heap.size, 1, .int .i64 e1), (wr.heap.size, 0, .int .i64 what), (wr.heap.size, 1, .int .i64 0), (wr.heap.size, 2, .int .u64 ta)] w73 := (KH_w72.out.step (by omega) (by go_grown)).step (by omega) hb_w73
              replace HB := Lib.hid (HB.out.below hb_w73)
              clear hb_w73
              have KH_w73 := Lib.hid K_w73
              have hw_w73 := K_w73.below
              have hz_w73 := K_w73.size
              have lC_w73 : w.heap.size < w73.heap.size := by omega
              have lK_w73 : w2.heap.size < w73.heap.size := by omega
              have lA_w73 : wr.heap.size < w73.heap.size := by omega
              clear lC_w72 lK_w72 lA_w72
              clear K_w73
              go_wp2_with fail
              first | (refine ⟨rfl, ⟨⟨_, KH_w73.out, trivial⟩, rfl⟩, hK.out _ _ ?_⟩; clear hK K) | (refine ⟨⟨⟨_, KH_w73.out, trivial⟩, rfl⟩, hK.out _ _ ?_⟩; clear hK K)
              repeat (go_big_quiet_step (fail))
              refine wpQuiet_nil ?_
              have rC0 := rcx _ne w.heap.size 0 (.int .i64 n) (by simp)
              have rC1 := rcx _ne w.heap.size 1 (.int .u64 g) (by simp)
              have rK0 := rcx _ne w2.heap.size 0 (.int .i64 e0) (by simp)
              have rK1 := rcx _ne w2.heap.size 1 (.int .i64 e1) (by simp)
              have rA0 := rcx _ne wr.heap.size 0 (.int .i64 what) (by simp)
              have rA1 := rcx _ne wr.heap.size 1 (.int .i64 0) (by simp)
              have rA2 := rcx _ne wr.heap.size 2 (.int .u64 ta) (by simp)
              repeat (go_big_quiet_step (fail))
              refine wpQuiet_nil ?_
              clear rC0 rC1 rK0 rK1 rA0 rA1 rA2
              refine ⟨fun K hK0 => ?_, trivial⟩
              have hK := Lib.hid hK0
              clear hK0
              go_wp2_with fail
              with_reducible refine (due19_1 P b2 _ HB.out HH.out.ok.n1 HH.out.ok.t1 (ug HH.out.ok)).mono ?_
              rintro e w74 ⟨rfl, hb_w74⟩
              have K_w74 : Kept w.heap.size w (wr.heap.size + 1) [(w.heap.size, 0, .int .i64 n), (w.heap.size, 1, .int .u64 g), (w2.heap.size, 0, .int .i64 e0), (w2.heap.size, 1, .int .i64 e1), (wr.heap.size, 0, .int .i64 what), (wr.heap.size, 1, .int .i64 0), (wr.heap.size, 2, .int .u64 ta)] w74 := (KH_w73.out.step (by omega) (by go_grown)).step (by omega) hb_w74
              replace HB := Lib.hid (HB.out.below hb_w74)
              clear hb_w74
              have KH_w74 := Lib.hid K_w74
              have hw_w74 := K_w74.below
              have hz_w74 := K_w74.size
              have lC_w74 : w.heap.size < w74.heap.size := by omega
              have lK_w74 : w2.heap.size < w74.heap.size := by omega
              have lA_w74 : wr.heap.size < w74.heap.size := by omega
              clear lC_w73 lK_w73 lA_w73
              clear K_w74
              go_wp2_with fail
              first | (refine ⟨rfl, ⟨⟨_, KH_w74.out, trivial⟩, rfl⟩, hK.out _ _ ?_⟩; clear hK K) | (refine ⟨⟨⟨_, KH_w74.out, trivial⟩, rfl⟩, hK.out _ _ ?_⟩; clear hK K)
              repeat (go_big_quiet_step (fail))
              refine wpQuiet_nil ?_
              clear _ne
              go_wp2_with fail
              rw [rounds_succ]
              go_wp2_with fail
              go_roundw
              case rel => exact ⟨k + 1, b2, e0, e1, by omega, by go_num, by omega, by omega, HB.out, HH.out, kept_less KH_w74.out (by omega) (by simp; omega)⟩
              case measure => simp [intOf]; omega
      by_cases p1 : p = 1
      · subst p1
        go_wp2_with fail
        with_reducible refine (auto20_0 P b _ (HB.out.below (by go_grown)) HH.out.ok.n1).mono ?_
        rintro e w11 ⟨rfl, hb_w11⟩
        have K_w11 : Kept w.heap.size w (wr.heap.size + 1) [(w.heap.size, 0, .int .i64 n), (w.heap.size, 1, .int .u64 g), (w2.heap.size, 0, .int .i64 c0), (w2.heap.size, 1, .int .i64 c1), (wr.heap.size, 0, .int .i64 what), (wr.heap.size, 1, .int .i64 1), (wr.heap.size, 2, .int .u64 ta)] w11 := Kept.of hb_w11 (by go_grown) (by go_size) (by omega) (by simp [go_sem, lC_wr, lK_wr, cC0_wr, fC0_wr, cC1_wr, fC1_wr, cK0_wr, fK0_wr, cK1_wr, fK1_wr] <;> omega)
        replace HB := Lib.hid ((HB.out.below (by go_grown)).below hb_w11)
        clear hb_w11
        have KH_w11 := Lib.hid K_w11
        have hw_w11 := K_w11.below
        have hz_w11 := K_w11.size
        have lC_w11 : w.heap.size < w11.heap.size := by omega
        have lK_w11 : w2.heap.size < w11.heap.size := by omega
        have lA_w11 : wr.heap.size < w11.heap.size := by omega
        clear lC_wr lK_wr cC0_wr fC0_wr cC1_wr fC1_wr cK0_wr fK0_wr cK1_wr fK1_wr
        clear K_w11
        go_wp2_with fail
        with_reducible refine (strikes21_0 P b _ HB.out HH.out.ok.n1).mono ?_
        rintro e w12 ⟨rfl, hb_w12⟩
        have K_w12 : Kept w.heap.size w (wr.heap.size + 1) [(w.heap.size, 0, .int .i64 n), (w.heap.size, 1, .int .u64 g), (w2.heap.size, 0, .int .i64 c0), (w2.heap.size, 1, .int .i64 c1), (wr.heap.size, 0, .int .i64 what), (wr.heap.size, 1, .int .i64 1), (wr.heap.size, 2, .int .u64 ta)] w12 := (KH_w11.out.step (by omega) (by go_grown)).step (by omega) hb_w12
        replace HB := Lib.hid (HB.out.below hb_w12)
        clear hb_w12
        have KH_w12 := Lib.hid K_w12
        have hw_w12 := K_w12.below
        have hz_w12 := K_w12.size
        have lC_w12 : w.heap.size < w12.heap.size := by omega
        have lK_w12 : w2.heap.size < w12.heap.size := by omega
        have lA_w12 : wr.heap.size < w12.heap.size := by omega
        clear lC_w11 lK_w11 lA_w11
        clear K_w12
        go_wp2_with fail
        with_reducible refine (here18_0 P b _ HB.out HH.out.ok.n1).mono ?_
        rintro e w13 ⟨rfl, hb_w13⟩
        have K_w13 : Kept w.heap.size w (wr.heap.size + 1) [(w.heap.size, 0, .int .i64 n), (w.heap.size, 1, .int .u64 g), (w2.heap.size, 0, .int .i64 c0), (w2.heap.size, 1, .int .i64 c1), (wr.heap.size, 0, .int .i64 what), (wr.heap.size, 1, .int .i64 1), (wr.heap.size, 2, .int .u64 ta)] w13 := (KH_w12.out.step (by omega) (by go_grown)).step (by omega) hb_w13
        replace HB := Lib.hid (HB.out.below hb_w13)
        clear hb_w13
        have KH_w13 := Lib.hid K_w13
        have hw_w13 := K_w13.below
        have hz_w13 := K_w13.size
        have lC_w13 : w.heap.size < w13.heap.size := by omega
        have lK_w13 : w2.heap.size < w13.heap.size := by omega
        have lA_w13 : wr.heap.size < w13.heap.size := by omega
        clear lC_w12 lK_w12 lA_w12
        clear K_w13
        go_wp2_with fail
        with_reducible refine (due19_0 P b _ HB.out HH.out.ok.n1 HH.out.ok.t0 (ug HH.out.ok)).mono ?_
        rintro e w14 ⟨rfl, hb_w14⟩
        have K_w14 : Kept w.heap.size w (wr.heap.size + 1) [(w.heap.size, 0, .int .i64 n), (w.heap.size, 1, .int .u64 g), (w2.heap.size, 0, .int .i64 c0), (w2.heap.size, 1, .int .i64 c1), (wr.heap.size, 0, .int .i64 what), (wr.heap.size, 1, .int .i64 1), (wr.heap.size, 2, .int .u64 ta)] w14 := (KH_w13.out.step (by omega) (by go_grown)).step (by omega) hb_w14
        replace HB := Lib.hid (HB.out.below hb_w14)
        clear hb_w14
        have KH_w14 := Lib.hid K_w14
        have hw_w14 := K_w14.below
        have hz_w14 := K_w14.size
        have lC_w14 : w.heap.size < w14.heap.size := by omega
        have lK_w14 : w2.heap.size < w14.heap.size := by omega
        have lA_w14 : wr.heap.size < w14.heap.size := by omega
        clear lC_w13 lK_w13 lA_w13
        clear K_w14
        have cC0_w14 := KH_w14.out.at (b := w.heap.size) (o := 0) (v := .int .i64 n) (by simp)
        have fC0_w14 := KH_w14.out.free (b := w.heap.size) (o := 0) (v := .int .i64 n) (by simp)
        have cC1_w14 := KH_w14.out.at (b := w.heap.size) (o := 1) (v := .int .u64 g) (by simp)
        have fC1_w14 := KH_w14.out.free (b := w.heap.size) (o := 1) (v := .int .u64 g) (by simp)
        have cK0_w14 := KH_w14.out.at (b := w2.heap.size) (o := 0) (v := .int .i64 c0) (by simp)
        have fK0_w14 := KH_w14.out.free (b := w2.heap.size) (o := 0) (v := .int .i64 c0) (by simp)
        have cK1_w14 := KH_w14.out.at (b := w2.heap.size) (o := 1) (v := .int .i64 c1) (by simp)
        have fK1_w14 := KH_w14.out.free (b := w2.heap.size) (o := 1) (v := .int .i64 c1) (by simp)
        have cA0_w14 := KH_w14.out.at (b := wr.heap.size) (o := 0) (v := .int .i64 what) (by simp)
        have fA0_w14 := KH_w14.out.free (b := wr.heap.size) (o := 0) (v := .int .i64 what) (by simp)
        have cA1_w14 := KH_w14.out.at (b := wr.heap.size) (o := 1) (v := .int .i64 1) (by simp)
        have fA1_w14 := KH_w14.out.free (b := wr.heap.size) (o := 1) (v := .int .i64 1) (by simp)
        have cA2_w14 := KH_w14.out.at (b := wr.heap.size) (o := 2) (v := .int .u64 ta) (by simp)
        have fA2_w14 := KH_w14.out.free (b := wr.heap.size) (o := 2) (v := .int .u64 ta) (by simp)
        go_upto_block 2 with fail
        go_cut [] (fun wx => HoCut w P w2.heap.size wr.heap.size k n g what 1 ta b.a0 b.s0 b.h0 b.d0 false wx)
        case first =>
          by_cases h0 : what = 0
          · subst h0
            as_aux_lemma =>
              go_wp2_with fail
              go_wp2_with fail
              with_reducible refine (strike22_1v P b (decide (n ≤ c1 + 1)) _ (HB.out.other (by simp; omega) _) HH.out.ok (HH.out.strike1 (by omega)).a1).mono ?_
              rintro e w15 ⟨rfl, hB_w15, hO_w15⟩
              have K_w15 : Kept w.heap.size w (wr.heap.size + 1) [(w.heap.size, 0, .int .i64 n), (w.heap.size, 1, .int .u64 g), (w2.heap.size, 0, .int .i64 c0), (w2.heap.size, 1, .int .i64 (c1 + 1)), (wr.heap.size, 0, .int .i64 0), (wr.heap.size, 1, .int .i64 1), (wr.heap.size, 2, .int .u64 ta)] w15 := Kept.ofOnly hO_w15 (by omega) (by omega) (by simp <;> omega) (by go_grown) (by go_size) (by simp [go_sem, lC_w14, lK_w14, lA_w14, cC0_w14, fC0_w14, cC1_w14, fC1_w14, cK0_w14, fK0_w14, cK1_w14, fK1_w14, cA0_w14, fA0_w14, cA1_w14, fA1_w14, cA2_w14, fA2_w14] <;> omega)
              replace HB := Lib.hid (hB_w15)
              clear hO_w15 hB_w15
              have KH_w15 := Lib.hid K_w15
              have hw_w15 := K_w15.below
              have hz_w15 := K_w15.size
              have lC_w15 : w.heap.size < w15.heap.size := by omega
              have lK_w15 : w2.heap.size < w15.heap.size := by omega
              have lA_w15 : wr.heap.size < w15.heap.size := by omega
              clear lC_w14 lK_w14 lA_w14 cC0_w14 fC0_w14 cC1_w14 fC1_w14 cK0_w14 fK0_w14 cK1_w14 fK1_w14 cA0_w14 fA0_w14 cA1_w14 fA1_w14 cA2_w14 fA2_w14
              clear K_w15
              go_wp2_with fail
              refine rg5_18 (w0 := w) (B := w.heap.size) (n := wr.heap.size + 1) (L := [(w.heap.size, 0, .int .i64 n), (w.heap.size, 1, .int .u64 g), (w2.heap.size, 0, .int .i64 c0), (w2.heap.size, 1, .int .i64 (c1 + 1)), (wr.heap.size, 0, .int .i64 0), (wr.heap.size, 1, .int .i64 1), (wr.heap.size, 2, .int .u64 ta)]) (E := fun _ => True) (F := fun W => BookAt W P b.strike1) (by kernel_rfl) (by kernel_rfl) (KH_w15.out.step (by omega) (by go_grown)) trivial (fun _ _ _ _ => trivial) (HB.out.below (by go_grown)) (fun _ _ h hb => h.below hb) (fun w16 K_w16 E_w16 F_w16 => ?_)
              have _ne : Nonempty (KX (w.heap.size) w (wr.heap.size + 1) [(w.heap.size, 0, .int .i64 n), (w.heap.size, 1, .int .u64 g), (w2.heap.size, 0, .int .i64 c0), (w2.heap.size, 1, .int .i64 (c1 + 1)), (wr.heap.size, 0, .int .i64 0), (wr.heap.size, 1, .int .i64 1), (wr.heap.size, 2, .int .u64 ta)] (fun _ => True)) := ⟨⟨_, K_w16, E_w16⟩⟩
              repeat (go_big_quiet_step (fail))
              refine wpQuiet_nil ?_
              have rC0 := rcx _ne w.heap.size 0 (.int .i64 n) (by simp)
              have rC1 := rcx _ne w.heap.size 1 (.int .u64 g) (by simp)
              have rK0 := rcx _ne w2.heap.size 0 (.int .i64 c0) (by simp)
              have rK1 := rcx _ne w2.heap.size 1 (.int .i64 (c1 + 1)) (by simp)
              have rA0 := rcx _ne wr.heap.size 0 (.int .i64 0) (by simp)
              have rA1 := rcx _ne wr.heap.size 1 (.int .i64 1) (by simp)
              have rA2 := rcx _ne wr.heap.size 2 (.int .u64 ta) (by simp)
              repeat (go_big_quiet_step (fail))
              refine wpQuiet_nil ?_
              clear rC0 rC1 rK0 rK1 rA0 rA1 rA2
              repeat (go_big_quiet_step (fail))
              refine wpQuiet_nil ?_
              have rC0 := rcx _ne w.heap.size 0 (.int .i64 n) (by simp)
              have rC1 := rcx _ne w.heap.size 1 (.int .u64 g) (by simp)
              have rK0 := rcx _ne w2.heap.size 0 (.int .i64 c0) (by simp)
              have rK1 := rcx _ne w2.heap.size 1 (.int .i64 (c1 + 1)) (by simp)
              have rA0 := rcx _ne wr.heap.size 0 (.int .i64 0) (by simp)
              have rA1 := rcx _ne wr.heap.size 1 (.int .i64 1) (by simp)
              have rA2 := rcx _ne wr.heap.size 2 (.int .u64 ta) (by simp)
              repeat (go_big_quiet_step (fail))
              refine wpQuiet_nil ?_
              clear rC0 rC1 rK0 rK1 rA0 rA1 rA2
              repeat (go_big_quiet_step (fail))
              refine wpQuiet_nil ?_
              clear _ne
              have KH_w16 := Lib.hid K_w16
              have hw_w16 := K_w16.below
              have hz_w16 := K_w16.size
              have lC_w16 : w.heap.size < w16.heap.size := by omega
              have lK_w16 : w2.heap.size < w16.heap.size := by omega
              have lA_w16 : wr.heap.size < w16.heap.size := by omega
              clear lC_w15 lK_w15 lA_w15
              clear K_w16
              have HB := Lib.hid (F_w16)
              clear E_w16 F_w16
              go_wp2_with fail
              go_meet
              case rel => exact ⟨b.strike1, c0, (c1 + 1), by omega, by omega, HB.out, HH.out.strike1 (by omega), other_strike1 b, KH_w16.out⟩
          by_cases h1 : what = 1
          · subst h1
            as_aux_lemma =>
              go_wp2_with fail
              go_wp2_with fail
              with_reducible refine (answer23_1 P b _ (HB.out.other (by simp; omega) _) HH.out.ok.n1).mono ?_
              rintro e w15 ⟨rfl, hB_w15, hO_w15⟩
              have K_w15 : Kept w.heap.size w (wr.heap.size + 1) [(w.heap.size, 0, .int .i64 n), (w.heap.size, 1, .int .u64 g), (w2.heap.size, 0, .int .i64 c0), (w2.heap.size, 1, .int .i64 0), (wr.heap.size, 0, .int .i64 1), (wr.heap.size, 1, .int .i64 1), (wr.heap.size, 2, .int .u64 ta)] w15 := Kept.ofOnly hO_w15 (by omega) (by omega) (by simp <;> omega) (by go_grown) (by go_size) (by simp [go_sem, lC_w14, lK_w14, lA_w14, cC0_w14, fC0_w14, cC1_w14, fC1_w14, cK0_w14, fK0_w14, cK1_w14, fK1_w14, cA0_w14, fA0_w14, cA1_w14, fA1_w14, cA2_w14, fA2_w14] <;> omega)
              replace HB := Lib.hid (hB_w15)
              clear hO_w15 hB_w15
              have KH_w15 := Lib.hid K_w15
              have hw_w15 := K_w15.below
              have hz_w15 := K_w15.size
              have lC_w15 : w.heap.size < w15.heap.size := by omega
              have lK_w15 : w2.heap.size < w15.heap.size := by omega
              have lA_w15 : wr.heap.size < w15.heap.size := by omega
              clear lC_w14 lK_w14 lA_w14 cC0_w14 fC0_w14 cC1_w14 fC1_w14 cK0_w14 fK0_w14 cK1_w14 fK1_w14 cA0_w14 fA0_w14 cA1_w14 fA1_w14 cA2_w14 fA2_w14
              clear K_w15
              go_wp2_with fail
              go_meet
              case rel => exact ⟨b.answer1, c0, 0, by omega, by omega, HB.out, HH.out.answer1, other_answer1 b, KH_w15.out⟩
          by_cases h2 : what = 2
          · subst h2
            obtain ⟨dv, hdv⟩ : ∃ d, b.d1 = d := ⟨_, rfl⟩
            have HDV := Lib.hid hdv
            cases q1 : (dv != 18446744073709551615)
            · have HOV : Hid (over b.d1 ta = false) := Lib.hid (by rw [hdv]; simp [over, q1])
              clear hdv
              as_aux_lemma =>
                go_wp2_with fail
                refine rg5_25 (w0 := w) (B := w.heap.size) (n := wr.heap.size + 1) (L := [(w.heap.size, 0, .int .i64 n), (w.heap.size, 1, .int .u64 g), (w2.heap.size, 0, .int .i64 c0), (w2.heap.size, 1, .int .i64 c1), (wr.heap.size, 0, .int .i64 2), (wr.heap.size, 1, .int .i64 1), (wr.heap.size, 2, .int .u64 ta)]) (E := fun _ => True) (F := fun W => BookAt W P b) (by kernel_rfl) (by kernel_rfl) (KH_w14.out.step (by omega) (by go_grown)) trivial (fun _ _ _ _ => trivial) (HB.out.below (by go_grown)) (fun _ _ h hb => h.below hb) (fun w15 K_w15 E_w15 F_w15 => ?_)
                have _ne : Nonempty (KX (w.heap.size) w (wr.heap.size + 1) [(w.heap.size, 0, .int .i64 n), (w.heap.size, 1, .int .u64 g), (w2.heap.size, 0, .int .i64 c0), (w2.heap.size, 1, .int .i64 c1), (wr.heap.size, 0, .int .i64 2), (wr.heap.size, 1, .int .i64 1), (wr.heap.size, 2, .int .u64 ta)] (fun _ => True)) := ⟨⟨_, K_w15, E_w15⟩⟩
                repeat (go_big_quiet_step (fail))
                refine wpQuiet_nil ?_
                have rC0 := rcx _ne w.heap.size 0 (.int .i64 n) (by simp)
                have rC1 := rcx _ne w.heap.size 1 (.int .u64 g) (by simp)
                have rK0 := rcx _ne w2.heap.size 0 (.int .i64 c0) (by simp)
                have rK1 := rcx _ne w2.heap.size 1 (.int .i64 c1) (by simp)
                have rA0 := rcx _ne wr.heap.size 0 (.int .i64 2) (by simp)
                have rA1 := rcx _ne wr.heap.size 1 (.int .i64 1) (by simp)
                have rA2 := rcx _ne wr.heap.size 2 (.int .u64 ta) (by simp)
                repeat (go_big_quiet_step (fail))
                refine wpQuiet_nil ?_
                clear rC0 rC1 rK0 rK1 rA0 rA1 rA2
                have KH_w15 := Lib.hid K_w15
                have hw_w15 := K_w15.below
                have hz_w15 := K_w15.size
                have lC_w15 : w.heap.size < w15.heap.size := by omega
                have lK_w15 : w2.heap.size < w15.heap.size := by omega
                have lA_w15 : wr.heap.size < w15.heap.size := by omega
                clear lC_w14 lK_w14 lA_w14 cC0_w14 fC0_w14 cC1_w14 fC1_w14 cK0_w14 fK0_w14 cK1_w14 fK1_w14 cA0_w14 fA0_w14 cA1_w14 fA1_w14 cA2_w14 fA2_w14
                clear K_w15
                have HB := Lib.hid (F_w15)
                clear E_w15 F_w15
                refine ⟨fun K hK0 => ?_, trivial⟩
                have hK := Lib.hid hK0
                clear hK0
                go_wp2_with fail
                with_reducible refine (due19_1c P b dv _ HB.out HH.out.ok.n1 HH.out.ok.t1 (ug HH.out.ok) HDV.out).mono ?_
                rintro e w16 ⟨rfl, hb_w16⟩
                have K_w16 : Kept w.heap.size w (wr.heap.size + 1) [(w.heap.size, 0, .int .i64 n), (w.heap.size, 1, .int .u64 g), (w2.heap.size, 0, .int .i64 c0), (w2.heap.size, 1, .int .i64 c1), (wr.heap.size, 0, .int .i64 2), (wr.heap.size, 1, .int .i64 1), (wr.heap.size, 2, .int .u64 ta)] w16 := (KH_w15.out.step (by omega) (by go_grown)).step (by omega) hb_w16
                replace HB := Lib.hid (HB.out.below hb_w16)
                clear hb_w16
                have KH_w16 := Lib.hid K_w16
                have hw_w16 := K_w16.below
                have hz_w16 := K_w16.size
                have lC_w16 : w.heap.size < w16.heap.size := by omega
                have lK_w16 : w2.heap.size < w16.heap.size := by omega
                have lA_w16 : wr.heap.size < w16.heap.size := by omega
                clear lC_w15 lK_w15 lA_w15
                clear K_w16
                go_wp2_with fail
                first | (refine ⟨rfl, ⟨⟨_, KH_w16.out, trivial⟩, rfl⟩, hK.out _ _ ?_⟩; clear hK K) | (refine ⟨⟨⟨_, KH_w16.out, trivial⟩, rfl⟩, hK.out _ _ ?_⟩; clear hK K)
                repeat (go_big_quiet_step (fail))
                refine wpQuiet_nil ?_
                have rC0 := rcx _ne w.heap.size 0 (.int .i64 n) (by simp)
                have rC1 := rcx _ne w.heap.size 1 (.int .u64 g) (by simp)
                have rK0 := rcx _ne w2.heap.size 0 (.int .i64 c0) (by simp)
                have rK1 := rcx _ne w2.heap.size 1 (.int .i64 c1) (by simp)
                have rA0 := rcx _ne wr.heap.size 0 (.int .i64 2) (by simp)
                have rA1 := rcx _ne wr.heap.size 1 (.int .i64 1) (by simp)
                have rA2 := rcx _ne wr.heap.size 2 (.int .u64 ta) (by simp)
                repeat (go_big_quiet_step (fail))
                refine wpQuiet_nil ?_
                clear rC0 rC1 rK0 rK1 rA0 rA1 rA2
                refine ⟨fun K hK0 => ?_, trivial⟩
                have hK := Lib.hid hK0
                clear hK0
                go_wp2_with fail
                first | (refine ⟨rfl, ⟨⟨_, KH_w16.out, trivial⟩, rfl⟩, hK.out _ _ ?_⟩; clear hK K) | (refine ⟨⟨⟨_, KH_w16.out, trivial⟩, rfl⟩, hK.out _ _ ?_⟩; clear hK K)
                repeat (go_big_quiet_step (fail))
                refine wpQuiet_nil ?_
                clear _ne
                have cA0_w16 := KH_w16.out.at (b := wr.heap.size) (o := 0) (v := .int .i64 2) (by simp)
                have fA0_w16 := KH_w16.out.free (b := wr.heap.size) (o := 0) (v := .int .i64 2) (by simp)
                have cA1_w16 := KH_w16.out.at (b := wr.heap.size) (o := 1) (v := .int .i64 1) (by simp)
                have fA1_w16 := KH_w16.out.free (b := wr.heap.size) (o := 1) (v := .int .i64 1) (by simp)
                have cA2_w16 := KH_w16.out.at (b := wr.heap.size) (o := 2) (v := .int .u64 ta) (by simp)
                have fA2_w16 := KH_w16.out.free (b := wr.heap.size) (o := 2) (v := .int .u64 ta) (by simp)
                go_wp2_with fail
                with_reducible refine (join14_1 P b ta _ HB.out HH.out.ok HOV.out).mono ?_
                rintro e w17 ⟨rfl, hB_w17, hO_w17⟩
                have K_w17 : Kept w.heap.size w (wr.heap.size + 1) [(w.heap.size, 0, .int .i64 n), (w.heap.size, 1, .int .u64 g), (w2.heap.size, 0, .int .i64 c0), (w2.heap.size, 1, .int .i64 c1), (wr.heap.size, 0, .int .i64 2), (wr.heap.size, 1, .int .i64 1), (wr.heap.size, 2, .int .u64 ta)] w17 := (KH_w16.out.step (by omega) (by go_grown)).only hO_w17 (by omega) (by omega) (by simp <;> omega)
                replace HB := Lib.hid (hB_w17)
                clear hO_w17 hB_w17
                have KH_w17 := Lib.hid K_w17
                have hw_w17 := K_w17.below
                have hz_w17 := K_w17.size
                have lC_w17 : w.heap.size < w17.heap.size := by omega
                have lK_w17 : w2.heap.size < w17.heap.size := by omega
                have lA_w17 : wr.heap.size < w17.heap.size := by omega
                clear lC_w16 lK_w16 lA_w16 cA0_w16 fA0_w16 cA1_w16 fA1_w16 cA2_w16 fA2_w16
                clear K_w17
                go_wp2_with fail
                go_meet
                case rel => exact ⟨b.join1, c0, c1, by omega, by omega, HB.out, HH.out.join1, other_join1 b, KH_w17.out⟩
            · by_cases q2 : dv ≤ ta
              · have HOV : Hid (over b.d1 ta = true) := Lib.hid (by rw [hdv]; simp [over, q1, q2])
                clear hdv
                as_aux_lemma =>
                  go_wp2_with fail
                  refine rg5_25 (w0 := w) (B := w.heap.size) (n := wr.heap.size + 1) (L := [(w.heap.size, 0, .int .i64 n), (w.heap.size, 1, .int .u64 g), (w2.heap.size, 0, .int .i64 c0), (w2.heap.size, 1, .int .i64 c1), (wr.heap.size, 0, .int .i64 2), (wr.heap.size, 1, .int .i64 1), (wr.heap.size, 2, .int .u64 ta)]) (E := fun _ => True) (F := fun W => BookAt W P b) (by kernel_rfl) (by kernel_rfl) (KH_w14.out.step (by omega) (by go_grown)) trivial (fun _ _ _ _ => trivial) (HB.out.below (by go_grown)) (fun _ _ h hb => h.below hb) (fun w15 K_w15 E_w15 F_w15 => ?_)
                  have _ne : Nonempty (KX (w.heap.size) w (wr.heap.size + 1) [(w.heap.size, 0, .int .i64 n), (w.heap.size, 1, .int .u64 g), (w2.heap.size, 0, .int .i64 c0), (w2.heap.size, 1, .int .i64 c1), (wr.heap.size, 0, .int .i64 2), (wr.heap.size, 1, .int .i64 1), (wr.heap.size, 2, .int .u64 ta)] (fun _ => True)) := ⟨⟨_, K_w15, E_w15⟩⟩
                  repeat (go_big_quiet_step (fail))
                  refine wpQuiet_nil ?_
                  have rC0 := rcx _ne w.heap.size 0 (.int .i64 n) (by simp)
                  have rC1 := rcx _ne w.heap.size 1 (.int .u64 g) (by simp)
                  have rK0 := rcx _ne w2.heap.size 0 (.int .i64 c0) (by simp)
                  have rK1 := rcx _ne w2.heap.size 1 (.int .i64 c1) (by simp)
                  have rA0 := rcx _ne wr.heap.size 0 (.int .i64 2) (by simp)
                  have rA1 := rcx _ne wr.heap.size 1 (.int .i64 1) (by simp)
                  have rA2 := rcx _ne wr.heap.size 2 (.int .u64 ta) (by simp)
                  repeat (go_big_quiet_step (fail))
                  refine wpQuiet_nil ?_
                  clear rC0 rC1 rK0 rK1 rA0 rA1 rA2
                  have KH_w15 := Lib.hid K_w15
                  have hw_w15 := K_w15.below
                  have hz_w15 := K_w15.size
                  have lC_w15 : w.heap.size < w15.heap.size := by omega
                  have lK_w15 : w2.heap.size < w15.heap.size := by omega
                  have lA_w15 : wr.heap.size < w15.heap.size := by omega
                  clear lC_w14 lK_w14 lA_w14 cC0_w14 fC0_w14 cC1_w14 fC1_w14 cK0_w14 fK0_w14 cK1_w14 fK1_w14 cA0_w14 fA0_w14 cA1_w14 fA1_w14 cA2_w14 fA2_w14
                  clear K_w15
                  have HB := Lib.hid (F_w15)
                  clear E_w15 F_w15
                  refine ⟨fun K hK0 => ?_, trivial⟩
                  have hK := Lib.hid hK0
                  clear hK0
                  go_wp2_with fail
                  with_reducible refine (due19_1c P b dv _ HB.out HH.out.ok.n1 HH.out.ok.t1 (ug HH.out.ok) HDV.out).mono ?_
                  rintro e w16 ⟨rfl, hb_w16⟩
                  have K_w16 : Kept w.heap.size w (wr.heap.size + 1) [(w.heap.size, 0, .int .i64 n), (w.heap.size, 1, .int .u64 g), (w2.heap.size, 0, .int .i64 c0), (w2.heap.size, 1, .int .i64 c1), (wr.heap.size, 0, .int .i64 2), (wr.heap.size, 1, .int .i64 1), (wr.heap.size, 2, .int .u64 ta)] w16 := (KH_w15.out.step (by omega) (by go_grown)).step (by omega) hb_w16
                  replace HB := Lib.hid (HB.out.below hb_w16)
                  clear hb_w16
                  have KH_w16 := Lib.hid K_w16
                  have hw_w16 := K_w16.below
                  have hz_w16 := K_w16.size
                  have lC_w16 : w.heap.size < w16.heap.size := by omega
                  have lK_w16 : w2.heap.size < w16.heap.size := by omega
                  have lA_w16 : wr.heap.size < w16.heap.size := by omega
                  clear lC_w15 lK_w15 lA_w15
                  clear K_w16
                  go_wp2_with fail
                  first | (refine ⟨rfl, ⟨⟨_, KH_w16.out, trivial⟩, rfl⟩, hK.out _ _ ?_⟩; clear hK K) | (refine ⟨⟨⟨_, KH_w16.out, trivial⟩, rfl⟩, hK.out _ _ ?_⟩; clear hK K)
                  repeat (go_big_quiet_step (fail))
                  refine wpQuiet_nil ?_
                  have rC0 := rcx _ne w.heap.size 0 (.int .i64 n) (by simp)
                  have rC1 := rcx _ne w.heap.size 1 (.int .u64 g) (by simp)
                  have rK0 := rcx _ne w2.heap.size 0 (.int .i64 c0) (by simp)
                  have rK1 := rcx _ne w2.heap.size 1 (.int .i64 c1) (by simp)
                  have rA0 := rcx _ne wr.heap.size 0 (.int .i64 2) (by simp)
                  have rA1 := rcx _ne wr.heap.size 1 (.int .i64 1) (by simp)
                  have rA2 := rcx _ne wr.heap.size 2 (.int .u64 ta) (by simp)
                  repeat (go_big_quiet_step (fail))
                  refine wpQuiet_nil ?_
                  clear rC0 rC1 rK0 rK1 rA0 rA1 rA2
                  refine ⟨fun K hK0 => ?_, trivial⟩
                  have hK := Lib.hid hK0
                  clear hK0
                  go_wp2_with fail
                  with_reducible refine (due19_1c P b dv _ HB.out HH.out.ok.n1 HH.out.ok.t1 (ug HH.out.ok) HDV.out).mono ?_
                  rintro e w17 ⟨rfl, hb_w17⟩
                  have K_w17 : Kept w.heap.size w (wr.heap.size + 1) [(w.heap.size, 0, .int .i64 n), (w.heap.size, 1, .int .u64 g), (w2.heap.size, 0, .int .i64 c0), (w2.heap.size, 1, .int .i64 c1), (wr.heap.size, 0, .int .i64 2), (wr.heap.size, 1, .int .i64 1), (wr.heap.size, 2, .int .u64 ta)] w17 := (KH_w16.out.step (by omega) (by go_grown)).step (by omega) hb_w17
                  replace HB := Lib.hid (HB.out.below hb_w17)
                  clear hb_w17
                  have KH_w17 := Lib.hid K_w17
                  have hw_w17 := K_w17.below
                  have hz_w17 := K_w17.size
                  have lC_w17 : w.heap.size < w17.heap.size := by omega
                  have lK_w17 : w2.heap.size < w17.heap.size := by omega
                  have lA_w17 : wr.heap.size < w17.heap.size := by omega
                  clear lC_w16 lK_w16 lA_w16
                  clear K_w17
                  go_wp2_with fail
                  first | (refine ⟨rfl, ⟨⟨_, KH_w17.out, trivial⟩, rfl⟩, hK.out _ _ ?_⟩; clear hK K) | (refine ⟨⟨⟨_, KH_w17.out, trivial⟩, rfl⟩, hK.out _ _ ?_⟩; clear hK K)
                  repeat (go_big_quiet_step (fail))
                  refine wpQuiet_nil ?_
                  clear _ne
                  have cA0_w17 := KH_w17.out.at (b := wr.heap.size) (o := 0) (v := .int .i64 2) (by simp)
                  have fA0_w17 := KH_w17.out.free (b := wr.heap.size) (o := 0) (v := .int .i64 2) (by simp)
                  have cA1_w17 := KH_w17.out.at (b := wr.heap.size) (o := 1) (v := .int .i64 1) (by simp)
                  have fA1_w17 := KH_w17.out.free (b := wr.heap.size) (o := 1) (v := .int .i64 1) (by simp)
                  have cA2_w17 := KH_w17.out.at (b := wr.heap.size) (o := 2) (v := .int .u64 ta) (by simp)
                  have fA2_w17 := KH_w17.out.free (b := wr.heap.size) (o := 2) (v := .int .u64 ta) (by simp)
                  go_wp2_with fail
                  with_reducible refine (join14_1_late P b ta _ HB.out HH.out.ok HOV.out).mono ?_
                  rintro e w18 ⟨rfl, hB_w18, hO_w18⟩
                  have K_w18 : Kept w.heap.size w (wr.heap.size + 1) [(w.heap.size, 0, .int .i64 n), (w.heap.size, 1, .int .u64 g), (w2.heap.size, 0, .int .i64 c0), (w2.heap.size, 1, .int .i64 c1), (wr.heap.size, 0, .int .i64 2), (wr.heap.size, 1, .int .i64 1), (wr.heap.size, 2, .int .u64 ta)] w18 := (KH_w17.out.step (by omega) (by go_grown)).only hO_w18 (by omega) (by omega) (by simp <;> omega)
                  replace HB := Lib.hid (hB_w18)
                  clear hO_w18 hB_w18
                  have KH_w18 := Lib.hid K_w18
                  have hw_w18 := K_w18.below
                  have hz_w18 := K_w18.size
                  have lC_w18 : w.heap.size < w18.heap.size := by omega
                  have lK_w18 : w2.heap.size < w18.heap.size := by omega
                  have lA_w18 : wr.heap.size < w18.heap.size := by omega
                  clear lC_w17 lK_w17 lA_w17 cA0_w17 fA0_w17 cA1_w17 fA1_w17 cA2_w17 fA2_w17
                  clear K_w18
                  go_wp2_with fail
                  go_meet
                  case rel => exact ⟨b, c0, c1, by omega, by omega, HB.out, HH.out, ⟨rfl, rfl, rfl, rfl⟩, KH_w18.out⟩
              · have HOV : Hid (over b.d1 ta = false) := Lib.hid (by rw [hdv]; simp [over, q1, q2])
                clear hdv
                as_aux_lemma =>
                  go_wp2_with fail
                  refine rg5_25 (w0 := w) (B := w.heap.size) (n := wr.heap.size + 1) (L := [(w.heap.size, 0, .int .i64 n), (w.heap.size, 1, .int .u64 g), (w2.heap.size, 0, .int .i64 c0), (w2.heap.size, 1, .int .i64 c1), (wr.heap.size, 0, .int .i64 2), (wr.heap.size, 1, .int .i64 1), (wr.heap.size, 2, .int .u64 ta)]) (E := fun _ => True) (F := fun W => BookAt W P b) (by kernel_rfl) (by kernel_rfl) (KH_w14.out.step (by omega) (by go_grown)) trivial (fun _ _ _ _ => trivial) (HB.out.below (by go_grown)) (fun _ _ h hb => h.below hb) (fun w15 K_w15 E_w15 F_w15 => ?_)
                  have _ne : Nonempty (KX (w.heap.size) w (wr.heap.size + 1) [(w.heap.size, 0, .int .i64 n), (w.heap.size, 1, .int .u64 g), (w2.heap.size, 0, .int .i64 c0), (w2.heap.size, 1, .int .i64 c1), (wr.heap.size, 0, .int .i64 2), (wr.heap.size, 1, .int .i64 1), (wr.heap.size, 2, .int .u64 ta)] (fun _ => True)) := ⟨⟨_, K_w15, E_w15⟩⟩
                  repeat (go_big_quiet_step (fail))
                  refine wpQuiet_nil ?_
                  have rC0 := rcx _ne w.heap.size 0 (.int .i64 n) (by simp)
                  have rC1 := rcx _ne w.heap.size 1 (.int .u64 g) (by simp)
                  have rK0 := rcx _ne w2.heap.size 0 (.int .i64 c0) (by simp)
                  have rK1 := rcx _ne w2.heap.size 1 (.int .i64 c1) (by simp)
                  have rA0 := rcx _ne wr.heap.size 0 (.int .i64 2) (by simp)
                  have rA1 := rcx _ne wr.heap.size 1 (.int .i64 1) (by simp)
                  have rA2 := rcx _ne wr.heap.size 2 (.int .u64 ta) (by simp)
                  repeat (go_big_quiet_step (fail))
                  refine wpQuiet_nil ?_
                  clear rC0 rC1 rK0 rK1 rA0 rA1 rA2
                  have KH_w15 := Lib.hid K_w15
                  have hw_w15 := K_w15.below
                  have hz_w15 := K_w15.size
                  have lC_w15 : w.heap.size < w15.heap.size := by omega
                  have lK_w15 : w2.heap.size < w15.heap.size := by omega
                  have lA_w15 : wr.heap.size < w15.heap.size := by omega
                  clear lC_w14 lK_w14 lA_w14 cC0_w14 fC0_w14 cC1_w14 fC1_w14 cK0_w14 fK0_w14 cK1_w14 fK1_w14 cA0_w14 fA0_w14 cA1_w14 fA1_w14 cA2_w14 fA2_w14
                  clear K_w15
                  have HB := Lib.hid (F_w15)
                  clear E_w15 F_w15
                  refine ⟨fun K hK0 => ?_, trivial⟩
                  have hK := Lib.hid hK0
                  clear hK0
                  go_wp2_with fail
                  with_reducible refine (due19_1c P b dv _ HB.out HH.out.ok.n1 HH.out.ok.t1 (ug HH.out.ok) HDV.out).mono ?_
                  rintro e w16 ⟨rfl, hb_w16⟩
                  have K_w16 : Kept w.heap.size w (wr.heap.size + 1) [(w.heap.size, 0, .int .i64 n), (w.heap.size, 1, .int .u64 g), (w2.heap.size, 0, .int .i64 c0), (w2.heap.size, 1, .int .i64 c1), (wr.heap.size, 0, .int .i64 2), (wr.heap.size, 1, .int .i64 1), (wr.heap.size, 2, .int .u64 ta)] w16 := (KH_w15.out.step (by omega) (by go_grown)).step (by omega) hb_w16
                  replace HB := Lib.hid (HB.out.below hb_w16)
                  clear hb_w16
                  have KH_w16 := Lib.hid K_w16
                  have hw_w16 := K_w16.below
                  have hz_w16 := K_w16.size
                  have lC_w16 : w.heap.size < w16.heap.size := by omega
                  have lK_w16 : w2.heap.size < w16.heap.size := by omega
                  have lA_w16 : wr.heap.size < w16.heap.size := by omega
                  clear lC_w15 lK_w15 lA_w15
                  clear K_w16
                  go_wp2_with fail
                  first | (refine ⟨rfl, ⟨⟨_, KH_w16.out, trivial⟩, rfl⟩, hK.out _ _ ?_⟩; clear hK K) | (refine ⟨⟨⟨_, KH_w16.out, trivial⟩, rfl⟩, hK.out _ _ ?_⟩; clear hK K)
                  repeat (go_big_quiet_step (fail))
                  refine wpQuiet_nil ?_
                  have rC0 := rcx _ne w.heap.size 0 (.int .i64 n) (by simp)
                  have rC1 := rcx _ne w.heap.size 1 (.int .u64 g) (by simp)
                  have rK0 := rcx _ne w2.heap.size 0 (.int .i64 c0) (by simp)
                  have rK1 := rcx _ne w2.heap.size 1 (.int .i64 c1) (by simp)
                  have rA0 := rcx _ne wr.heap.size 0 (.int .i64 2) (by simp)
                  have rA1 := rcx _ne wr.heap.size 1 (.int .i64 1) (by simp)
                  have rA2 := rcx _ne wr.heap.size 2 (.int .u64 ta) (by simp)
                  repeat (go_big_quiet_step (fail))
                  refine wpQuiet_nil ?_
                  clear rC0 rC1 rK0 rK1 rA0 rA1 rA2
                  refine ⟨fun K hK0 => ?_, trivial⟩
                  have hK := Lib.hid hK0
                  clear hK0
                  go_wp2_with fail
                  with_reducible refine (due19_1c P b dv _ HB.out HH.out.ok.n1 HH.out.ok.t1 (ug HH.out.ok) HDV.out).mono ?_
                  rintro e w17 ⟨rfl, hb_w17⟩
                  have K_w17 : Kept w.heap.size w (wr.heap.size + 1) [(w.heap.size, 0, .int .i64 n), (w.heap.size, 1, .int .u64 g), (w2.heap.size, 0, .int .i64 c0), (w2.heap.size, 1, .int .i64 c1), (wr.heap.size, 0, .int .i64 2), (wr.heap.size, 1, .int .i64 1), (wr.heap.size, 2, .int .u64 ta)] w17 := (KH_w16.out.step (by omega) (by go_grown)).step (by omega) hb_w17
                  replace HB := Lib.hid (HB.out.below hb_w17)
                  clear hb_w17
                  have KH_w17 := Lib.hid K_w17
                  have hw_w17 := K_w17.below
                  have hz_w17 := K_w17.size
                  have lC_w17 : w.heap.size < w17.heap.size := by omega
                  have lK_w17 : w2.heap.size < w17.heap.size := by omega
                  have lA_w17 : wr.heap.size < w17.heap.size := by omega
                  clear lC_w16 lK_w16 lA_w16
                  clear K_w17
                  go_wp2_with fail
                  first | (refine ⟨rfl, ⟨⟨_, KH_w17.out, trivial⟩, rfl⟩, hK.out _ _ ?_⟩; clear hK K) | (refine ⟨⟨⟨_, KH_w17.out, trivial⟩, rfl⟩, hK.out _ _ ?_⟩; clear hK K)
                  repeat (go_big_quiet_step (fail))
                  refine wpQuiet_nil ?_
                  clear _ne
                  have cA0_w17 := KH_w17.out.at (b := wr.heap.size) (o := 0) (v := .int .i64 2) (by simp)
                  have fA0_w17 := KH_w17.out.free (b := wr.heap.size) (o := 0) (v := .int .i64 2) (by simp)
                  have cA1_w17 := KH_w17.out.at (b := wr.heap.size) (o := 1) (v := .int .i64 1) (by simp)
                  have fA1_w17 := KH_w17.out.free (b := wr.heap.size) (o := 1) (v := .int .i64 1) (by simp)
                  have cA2_w17 := KH_w17.out.at (b := wr.heap.size) (o := 2) (v := .int .u64 ta) (by simp)
                  have fA2_w17 := KH_w17.out.free (b := wr.heap.size) (o := 2) (v := .int .u64 ta) (by simp)
                  go_wp2_with fail
                  with_reducible refine (join14_1 P b ta _ HB.out HH.out.ok HOV.out).mono ?_
                  rintro e w18 ⟨rfl, hB_w18, hO_w18⟩
                  have K_w18 : Kept w.heap.size w (wr.heap.size + 1) [(w.heap.size, 0, .int .i64 n), (w.heap.size, 1, .int .u64 g), (w2.heap.size, 0, .int .i64 c0), (w2.heap.size, 1, .int .i64 c1), (wr.heap.size, 0, .int .i64 2), (wr.heap.size, 1, .int .i64 1), (wr.heap.size, 2, .int .u64 ta)] w18 := (KH_w17.out.step (by omega) (by go_grown)).only hO_w18 (by omega) (by omega) (by simp <;> omega)
                  replace HB := Lib.hid (hB_w18)
                  clear hO_w18 hB_w18
                  have KH_w18 := Lib.hid K_w18
                  have hw_w18 := K_w18.below
                  have hz_w18 := K_w18.size
                  have lC_w18 : w.heap.size < w18.heap.size := by omega
                  have lK_w18 : w2.heap.size < w18.heap.size := by omega
                  have lA_w18 : wr.heap.size < w18.heap.size := by omega
                  clear lC_w17 lK_w17 lA_w17 cA0_w17 fA0_w17 cA1_w17 fA1_w17 cA2_w17 fA2_w17
                  clear K_w18
                  go_wp2_with fail
                  go_meet
                  case rel => exact ⟨b.join1, c0, c1, by omega, by omega, HB.out, HH.out.join1, other_join1 b, KH_w18.out⟩
          by_cases h3 : what = 3
          · subst h3
            have HLV := Lib.hid (HH.out.leave1 (t := ta) hta)
            cases hws : b.h1
            · have HWS := Lib.hid hws
              clear hws
              as_aux_lemma =>
                go_wp2_with fail
                with_reducible refine (here18_1c P b false _ HB.out HH.out.ok.n1 HWS.out).mono ?_
                rintro e w15 ⟨rfl, hb_w15⟩
                have K_w15 : Kept w.heap.size w (wr.heap.size + 1) [(w.heap.size, 0, .int .i64 n), (w.heap.size, 1, .int .u64 g), (w2.heap.size, 0, .int .i64 c0), (w2.heap.size, 1, .int .i64 c1), (wr.heap.size, 0, .int .i64 3), (wr.heap.size, 1, .int .i64 1), (wr.heap.size, 2, .int .u64 ta)] w15 := (KH_w14.out.step (by omega) (by go_grown)).step (by omega) hb_w15
                replace HB := Lib.hid (HB.out.below hb_w15)
                clear hb_w15
                have KH_w15 := Lib.hid K_w15
                have hw_w15 := K_w15.below
                have hz_w15 := K_w15.size
                have lC_w15 : w.heap.size < w15.heap.size := by omega
                have lK_w15 : w2.heap.size < w15.heap.size := by omega
                have lA_w15 : wr.heap.size < w15.heap.size := by omega
                clear lC_w14 lK_w14 lA_w14 cC0_w14 fC0_w14 cC1_w14 fC1_w14 cK0_w14 fK0_w14 cK1_w14 fK1_w14 cA0_w14 fA0_w14 cA1_w14 fA1_w14 cA2_w14 fA2_w14
                clear K_w15
                go_wp2_with fail
                refine rg5_30 (w0 := w) (B := w.heap.size) (n := wr.heap.size + 1) (L := [(w.heap.size, 0, .int .i64 n), (w.heap.size, 1, .int .u64 g), (w2.heap.size, 0, .int .i64 c0), (w2.heap.size, 1, .int .i64 c1), (wr.heap.size, 0, .int .i64 3), (wr.heap.size, 1, .int .i64 1), (wr.heap.size, 2, .int .u64 ta)]) (E := fun _ => True) (F := fun W => BookAt W P b) (by kernel_rfl) (by kernel_rfl) (KH_w15.out.step (by omega) (by go_grown)) trivial (fun _ _ _ _ => trivial) (HB.out.below (by go_grown)) (fun _ _ h hb => h.below hb) (fun w16 K_w16 E_w16 F_w16 => ?_)
                have _ne : Nonempty (KX (w.heap.size) w (wr.heap.size + 1) [(w.heap.size, 0, .int .i64 n), (w.heap.size, 1, .int .u64 g), (w2.heap.size, 0, .int .i64 c0), (w2.heap.size, 1, .int .i64 c1), (wr.heap.size, 0, .int .i64 3), (wr.heap.size, 1, .int .i64 1), (wr.heap.size, 2, .int .u64 ta)] (fun _ => True)) := ⟨⟨_, K_w16, E_w16⟩⟩
                repeat (go_big_quiet_step (fail))
                refine wpQuiet_nil ?_
                have rC0 := rcx _ne w.heap.size 0 (.int .i64 n) (by simp)
                have rC1 := rcx _ne w.heap.size 1 (.int .u64 g) (by simp)
                have rK0 := rcx _ne w2.heap.size 0 (.int .i64 c0) (by simp)
                have rK1 := rcx _ne w2.heap.size 1 (.int .i64 c1) (by simp)
                have rA0 := rcx _ne wr.heap.size 0 (.int .i64 3) (by simp)
                have rA1 := rcx _ne wr.heap.size 1 (.int .i64 1) (by simp)
                have rA2 := rcx _ne wr.heap.size 2 (.int .u64 ta) (by simp)
                repeat (go_big_quiet_step (fail))
                refine wpQuiet_nil ?_
                clear rC0 rC1 rK0 rK1 rA0 rA1 rA2
                have KH_w16 := Lib.hid K_w16
                have hw_w16 := K_w16.below
                have hz_w16 := K_w16.size
                have lC_w16 : w.heap.size < w16.heap.size := by omega
                have lK_w16 : w2.heap.size < w16.heap.size := by omega
                have lA_w16 : wr.heap.size < w16.heap.size := by omega
                clear lC_w15 lK_w15 lA_w15
                clear K_w16
                have HB := Lib.hid (F_w16)
                clear E_w16 F_w16
                refine ⟨fun K hK0 => ?_, trivial⟩
                have hK := Lib.hid hK0
                clear hK0
                go_wp2_with fail
                with_reducible refine (leave16_1 P b ta _ HB.out HH.out.ok.n1).mono ?_
                rintro e w17 ⟨rfl, hB_w17, hO_w17⟩
                have K_w17 : Kept w.heap.size w (wr.heap.size + 1) [(w.heap.size, 0, .int .i64 n), (w.heap.size, 1, .int .u64 g), (w2.heap.size, 0, .int .i64 c0), (w2.heap.size, 1, .int .i64 c1), (wr.heap.size, 0, .int .i64 3), (wr.heap.size, 1, .int .i64 1), (wr.heap.size, 2, .int .u64 ta)] w17 := (KH_w16.out.step (by omega) (by go_grown)).only hO_w17 (by omega) (by omega) (by simp <;> omega)
                replace HB := Lib.hid (hB_w17)
                clear hO_w17 hB_w17
                have KH_w17 := Lib.hid K_w17
                have hw_w17 := K_w17.below
                have hz_w17 := K_w17.size
                have lC_w17 : w.heap.size < w17.heap.size := by omega
                have lK_w17 : w2.heap.size < w17.heap.size := by omega
                have lA_w17 : wr.heap.size < w17.heap.size := by omega
                clear lC_w16 lK_w16 lA_w16
                clear K_w17
                go_wp2_with fail
                first | (refine ⟨rfl, ⟨⟨_, KH_w17.out, trivial⟩, rfl⟩, hK.out _ _ ?_⟩; clear hK K) | (refine ⟨⟨⟨_, KH_w17.out, trivial⟩, rfl⟩, hK.out _ _ ?_⟩; clear hK K)
                repeat (go_big_quiet_step (fail))
                refine wpQuiet_nil ?_
                have rC0 := rcx _ne w.heap.size 0 (.int .i64 n) (by simp)
                have rC1 := rcx _ne w.heap.size 1 (.int .u64 g) (by simp)
                have rK0 := rcx _ne w2.heap.size 0 (.int .i64 c0) (by simp)
                have rK1 := rcx _ne w2.heap.size 1 (.int .i64 c1) (by simp)
                have rA0 := rcx _ne wr.heap.size 0 (.int .i64 3) (by simp)
                have rA1 := rcx _ne wr.heap.size 1 (.int .i64 1) (by simp)
                have rA2 := rcx _ne wr.heap.size 2 (.int .u64 ta) (by simp)
                repeat (go_big_quiet_step (fail))
                refine wpQuiet_nil ?_
                clear rC0 rC1 rK0 rK1 rA0 rA1 rA2
                refine ⟨fun K hK0 => ?_, trivial⟩
                have hK := Lib.hid hK0
                clear hK0
                go_wp2_with fail
                with_reducible refine (here18_1c P (b.leave1 ta) false _ HB.out HLV.out.ok.n1 leave1_here).mono ?_
                rintro e w18 ⟨rfl, hb_w18⟩
                have K_w18 : Kept w.heap.size w (wr.heap.size + 1) [(w.heap.size, 0, .int .i64 n), (w.heap.size, 1, .int .u64 g), (w2.heap.size, 0, .int .i64 c0), (w2.heap.size, 1, .int .i64 c1), (wr.heap.size, 0, .int .i64 3), (wr.heap.size, 1, .int .i64 1), (wr.heap.size, 2, .int .u64 ta)] w18 := (KH_w17.out.step (by omega) (by go_grown)).step (by omega) hb_w18
                replace HB := Lib.hid (HB.out.below hb_w18)
                clear hb_w18
                have KH_w18 := Lib.hid K_w18
                have hw_w18 := K_w18.below
                have hz_w18 := K_w18.size
                have lC_w18 : w.heap.size < w18.heap.size := by omega
                have lK_w18 : w2.heap.size < w18.heap.size := by omega
                have lA_w18 : wr.heap.size < w18.heap.size := by omega
                clear lC_w17 lK_w17 lA_w17
                clear K_w18
                go_wp2_with fail
                first | (refine ⟨rfl, ⟨⟨_, KH_w18.out, trivial⟩, rfl⟩, hK.out _ _ ?_⟩; clear hK K) | (refine ⟨⟨⟨_, KH_w18.out, trivial⟩, rfl⟩, hK.out _ _ ?_⟩; clear hK K)
                repeat (go_big_quiet_step (fail))
                refine wpQuiet_nil ?_
                have rC0 := rcx _ne w.heap.size 0 (.int .i64 n) (by simp)
                have rC1 := rcx _ne w.heap.size 1 (.int .u64 g) (by simp)
                have rK0 := rcx _ne w2.heap.size 0 (.int .i64 c0) (by simp)
                have rK1 := rcx _ne w2.heap.size 1 (.int .i64 c1) (by simp)
                have rA0 := rcx _ne wr.heap.size 0 (.int .i64 3) (by simp)
                have rA1 := rcx _ne wr.heap.size 1 (.int .i64 1) (by simp)
                have rA2 := rcx _ne wr.heap.size 2 (.int .u64 ta) (by simp)
                repeat (go_big_quiet_step (fail))
                refine wpQuiet_nil ?_
                clear rC0 rC1 rK0 rK1 rA0 rA1 rA2
                refine ⟨fun K hK0 => ?_, trivial⟩
                have hK := Lib.hid hK0
                clear hK0
                go_wp2_with fail
                first | (refine ⟨rfl, ⟨⟨_, KH_w18.out, trivial⟩, rfl⟩, hK.out _ _ ?_⟩; clear hK K) | (refine ⟨⟨⟨_, KH_w18.out, trivial⟩, rfl⟩, hK.out _ _ ?_⟩; clear hK K)
                repeat (go_big_quiet_step (fail))
                refine wpQuiet_nil ?_
                clear _ne
                go_wp2_with fail
                go_meet
                case rel => exact ⟨b.leave1 ta, c0, c1, by omega, by omega, HB.out, HLV.out, other_leave1 b ta, KH_w18.out⟩
            · have HWS := Lib.hid hws
              clear hws
              obtain ⟨dw, hdw⟩ : ∃ d, (b.leave1 ta).d1 = d := ⟨_, rfl⟩
              have q5 : decide (dw < ta) = false := by
                have e1 := leave1_due (t := ta) HWS.out
                have e2 := addN_ge ta b.g hta.2 HH.out.ok.g1
                rw [hdw] at e1
                simp
                omega
              have HDW := Lib.hid hdw
              clear hdw
              as_aux_lemma =>
                go_wp2_with fail
                with_reducible refine (here18_1c P b true _ HB.out HH.out.ok.n1 HWS.out).mono ?_
                rintro e w15 ⟨rfl, hb_w15⟩
                have K_w15 : Kept w.heap.size w (wr.heap.size + 1) [(w.heap.size, 0, .int .i64 n), (w.heap.size, 1, .int .u64 g), (w2.heap.size, 0, .int .i64 c0), (w2.heap.size, 1, .int .i64 c1), (wr.heap.size, 0, .int .i64 3), (wr.heap.size, 1, .int .i64 1), (wr.heap.size, 2, .int .u64 ta)] w15 := (KH_w14.out.step (by omega) (by go_grown)).step (by omega) hb_w15
                replace HB := Lib.hid (HB.out.below hb_w15)
                clear hb_w15
                have KH_w15 := Lib.hid K_w15
                have hw_w15 := K_w15.below
                have hz_w15 := K_w15.size
                have lC_w15 : w.heap.size < w15.heap.size := by omega
                have lK_w15 : w2.heap.size < w15.heap.size := by omega
                have lA_w15 : wr.heap.size < w15.heap.size := by omega
                clear lC_w14 lK_w14 lA_w14 cC0_w14 fC0_w14 cC1_w14 fC1_w14 cK0_w14 fK0_w14 cK1_w14 fK1_w14 cA0_w14 fA0_w14 cA1_w14 fA1_w14 cA2_w14 fA2_w14
                clear K_w15
                go_wp2_with fail
                refine rg5_30 (w0 := w) (B := w.heap.size) (n := wr.heap.size + 1) (L := [(w.heap.size, 0, .int .i64 n), (w.heap.size, 1, .int .u64 g), (w2.heap.size, 0, .int .i64 c0), (w2.heap.size, 1, .int .i64 c1), (wr.heap.size, 0, .int .i64 3), (wr.heap.size, 1, .int .i64 1), (wr.heap.size, 2, .int .u64 ta)]) (E := fun _ => True) (F := fun W => BookAt W P b) (by kernel_rfl) (by kernel_rfl) (KH_w15.out.step (by omega) (by go_grown)) trivial (fun _ _ _ _ => trivial) (HB.out.below (by go_grown)) (fun _ _ h hb => h.below hb) (fun w16 K_w16 E_w16 F_w16 => ?_)
                have _ne : Nonempty (KX (w.heap.size) w (wr.heap.size + 1) [(w.heap.size, 0, .int .i64 n), (w.heap.size, 1, .int .u64 g), (w2.heap.size, 0, .int .i64 c0), (w2.heap.size, 1, .int .i64 c1), (wr.heap.size, 0, .int .i64 3), (wr.heap.size, 1, .int .i64 1), (wr.heap.size, 2, .int .u64 ta)] (fun _ => True)) := ⟨⟨_, K_w16, E_w16⟩⟩
                repeat (go_big_quiet_step (fail))
                refine wpQuiet_nil ?_
                have rC0 := rcx _ne w.heap.size 0 (.int .i64 n) (by simp)
                have rC1 := rcx _ne w.heap.size 1 (.int .u64 g) (by simp)
                have rK0 := rcx _ne w2.heap.size 0 (.int .i64 c0) (by simp)
                have rK1 := rcx _ne w2.heap.size 1 (.int .i64 c1) (by simp)
                have rA0 := rcx _ne wr.heap.size 0 (.int .i64 3) (by simp)
                have rA1 := rcx _ne wr.heap.size 1 (.int .i64 1) (by simp)
                have rA2 := rcx _ne wr.heap.size 2 (.int .u64 ta) (by simp)
                repeat (go_big_quiet_step (fail))
                refine wpQuiet_nil ?_
                clear rC0 rC1 rK0 rK1 rA0 rA1 rA2
                have KH_w16 := Lib.hid K_w16
                have hw_w16 := K_w16.below
                have hz_w16 := K_w16.size
                have lC_w16 : w.heap.size < w16.heap.size := by omega
                have lK_w16 : w2.heap.size < w16.heap.size := by omega
                have lA_w16 : wr.heap.size < w16.heap.size := by omega
                clear lC_w15 lK_w15 lA_w15
                clear K_w16
                have HB := Lib.hid (F_w16)
                clear E_w16 F_w16
                refine ⟨fun K hK0 => ?_, trivial⟩
                have hK := Lib.hid hK0
                clear hK0
                go_wp2_with fail
                with_reducible refine (leave16_1 P b ta _ HB.out HH.out.ok.n1).mono ?_
                rintro e w17 ⟨rfl, hB_w17, hO_w17⟩
                have K_w17 : Kept w.heap.size w (wr.heap.size + 1) [(w.heap.size, 0, .int .i64 n), (w.heap.size, 1, .int .u64 g), (w2.heap.size, 0, .int .i64 c0), (w2.heap.size, 1, .int .i64 c1), (wr.heap.size, 0, .int .i64 3), (wr.heap.size, 1, .int .i64 1), (wr.heap.size, 2, .int .u64 ta)] w17 := (KH_w16.out.step (by omega) (by go_grown)).only hO_w17 (by omega) (by omega) (by simp <;> omega)
                replace HB := Lib.hid (hB_w17)
                clear hO_w17 hB_w17
                have KH_w17 := Lib.hid K_w17
                have hw_w17 := K_w17.below
                have hz_w17 := K_w17.size
                have lC_w17 : w.heap.size < w17.heap.size := by omega
                have lK_w17 : w2.heap.size < w17.heap.size := by omega
                have lA_w17 : wr.heap.size < w17.heap.size := by omega
                clear lC_w16 lK_w16 lA_w16
                clear K_w17
                go_wp2_with fail
                first | (refine ⟨rfl, ⟨⟨_, KH_w17.out, trivial⟩, rfl⟩, hK.out _ _ ?_⟩; clear hK K) | (refine ⟨⟨⟨_, KH_w17.out, trivial⟩, rfl⟩, hK.out _ _ ?_⟩; clear hK K)
                repeat (go_big_quiet_step (fail))
                refine wpQuiet_nil ?_
                have rC0 := rcx _ne w.heap.size 0 (.int .i64 n) (by simp)
                have rC1 := rcx _ne w.heap.size 1 (.int .u64 g) (by simp)
                have rK0 := rcx _ne w2.heap.size 0 (.int .i64 c0) (by simp)
                have rK1 := rcx _ne w2.heap.size 1 (.int .i64 c1) (by simp)
                have rA0 := rcx _ne wr.heap.size 0 (.int .i64 3) (by simp)
                have rA1 := rcx _ne wr.heap.size 1 (.int .i64 1) (by simp)
                have rA2 := rcx _ne wr.heap.size 2 (.int .u64 ta) (by simp)
                repeat (go_big_quiet_step (fail))
                refine wpQuiet_nil ?_
                clear rC0 rC1 rK0 rK1 rA0 rA1 rA2
                refine ⟨fun K hK0 => ?_, trivial⟩
                have hK := Lib.hid hK0
                clear hK0
                go_wp2_with fail
                with_reducible refine (here18_1c P (b.leave1 ta) false _ HB.out HLV.out.ok.n1 leave1_here).mono ?_
                rintro e w18 ⟨rfl, hb_w18⟩
                have K_w18 : Kept w.heap.size w (wr.heap.size + 1) [(w.heap.size, 0, .int .i64 n), (w.heap.size, 1, .int .u64 g), (w2.heap.size, 0, .int .i64 c0), (w2.heap.size, 1, .int .i64 c1), (wr.heap.size, 0, .int .i64 3), (wr.heap.size, 1, .int .i64 1), (wr.heap.size, 2, .int .u64 ta)] w18 := (KH_w17.out.step (by omega) (by go_grown)).step (by omega) hb_w18
                replace HB := Lib.hid (HB.out.below hb_w18)
                clear hb_w18
                have KH_w18 := Lib.hid K_w18
                have hw_w18 := K_w18.below
                have hz_w18 := K_w18.size
                have lC_w18 : w.heap.size < w18.heap.size := by omega
                have lK_w18 : w2.heap.size < w18.heap.size := by omega
                have lA_w18 : wr.heap.size < w18.heap.size := by omega
                clear lC_w17 lK_w17 lA_w17
                clear K_w18
                go_wp2_with fail
                first | (refine ⟨rfl, ⟨⟨_, KH_w18.out, trivial⟩, rfl⟩, hK.out _ _ ?_⟩; clear hK K) | (refine ⟨⟨⟨_, KH_w18.out, trivial⟩, rfl⟩, hK.out _ _ ?_⟩; clear hK K)
                repeat (go_big_quiet_step (fail))
                refine wpQuiet_nil ?_
                have rC0 := rcx _ne w.heap.size 0 (.int .i64 n) (by simp)
                have rC1 := rcx _ne w.heap.size 1 (.int .u64 g) (by simp)
                have rK0 := rcx _ne w2.heap.size 0 (.int .i64 c0) (by simp)
                have rK1 := rcx _ne w2.heap.size 1 (.int .i64 c1) (by simp)
                have rA0 := rcx _ne wr.heap.size 0 (.int .i64 3) (by simp)
                have rA1 := rcx _ne wr.heap.size 1 (.int .i64 1) (by simp)
                have rA2 := rcx _ne wr.heap.size 2 (.int .u64 ta) (by simp)
                repeat (go_big_quiet_step (fail))
                refine wpQuiet_nil ?_
                clear rC0 rC1 rK0 rK1 rA0 rA1 rA2
                refine ⟨fun K hK0 => ?_, trivial⟩
                have hK := Lib.hid hK0
                clear hK0
                go_wp2_with fail
                with_reducible refine (due19_1c P (b.leave1 ta) dw _ HB.out HLV.out.ok.n1 HLV.out.ok.t1 (ug HLV.out.ok) HDW.out).mono ?_
                rintro e w19 ⟨rfl, hb_w19⟩
                have K_w19 : Kept w.heap.size w (wr.heap.size + 1) [(w.heap.size, 0, .int .i64 n), (w.heap.size, 1, .int .u64 g), (w2.heap.size, 0, .int .i64 c0), (w2.heap.size, 1, .int .i64 c1), (wr.heap.size, 0, .int .i64 3), (wr.heap.size, 1, .int .i64 1), (wr.heap.size, 2, .int .u64 ta)] w19 := (KH_w18.out.step (by omega) (by go_grown)).step (by omega) hb_w19
                replace HB := Lib.hid (HB.out.below hb_w19)
                clear hb_w19
                have KH_w19 := Lib.hid K_w19
                have hw_w19 := K_w19.below
                have hz_w19 := K_w19.size
                have lC_w19 : w.heap.size < w19.heap.size := by omega
                have lK_w19 : w2.heap.size < w19.heap.size := by omega
                have lA_w19 : wr.heap.size < w19.heap.size := by omega
                clear lC_w18 lK_w18 lA_w18
                clear K_w19
                go_wp2_with fail
                first | (refine ⟨rfl, ⟨⟨_, KH_w19.out, trivial⟩, rfl⟩, hK.out _ _ ?_⟩; clear hK K) | (refine ⟨⟨⟨_, KH_w19.out, trivial⟩, rfl⟩, hK.out _ _ ?_⟩; clear hK K)
                repeat (go_big_quiet_step (fail))
                refine wpQuiet_nil ?_
                clear _ne
                go_wp2_with fail
                go_meet
                case rel => exact ⟨b.leave1 ta, c0, c1, by omega, by omega, HB.out, HLV.out, other_leave1 b ta, KH_w19.out⟩
          have o0 : (what == 0) = false := by simpa using h0
          have o1 : (what == 1) = false := by simpa using h1
          have o2 : (what == 2) = false := by simpa using h2
          have o3 : (what == 3) = false := by simpa using h3
          go_wp2_with fail
          go_meet
          case rel => exact ⟨b, c0, c1, by omega, by omega, HB.out, HH.out, ⟨rfl, rfl, rfl, rfl⟩, KH_w14.out⟩
        case rest =>
          obtain ⟨b2, e0, e1, hc2, hc3, hB2, hH2, hsm, K2⟩ := hcut
          obtain ⟨m1, m2, m3, m4⟩ := hsm
          have HB := Lib.hid hB2
          have HH := Lib.hid hH2
          have KH_wc := Lib.hid K2
          have hz_wc := K2.size
          have hw_wc := K2.below
          have M1 := Lib.hid m1
          have M2 := Lib.hid m2
          have M3 := Lib.hid m3
          have M4 := Lib.hid m4
          have u0 : U b2.d0 := U_due hH2.ok.t0 (ug hH2.ok)
          have u1 : U b2.d1 := U_due hH2.ok.t1 (ug hH2.ok)
          have hLO := lost_over (t := ta) u0.2 u1.2
          clear hB2 hH2 K2 m1 m2 m3 m4 u0 u1
          rcases hLO with hL | ⟨hL, v0⟩ | ⟨hL, v1⟩ | ⟨hL, v0, v1⟩
          · have HL := Lib.hid hL
            clear hL
            as_aux_lemma =>
              go_wp2_with fail
              with_reducible refine (auto20_0c P b2 b.a0 _ HB.out HH.out.ok.n1 M1.out).mono ?_
              rintro e w61 ⟨rfl, hb_w61⟩
              have K_w61 : Kept w.heap.size w (wr.heap.size + 1) [(w.heap.size, 0, .int .i64 n), (w.heap.size, 1, .int .u64 g), (w2.heap.size, 0, .int .i64 e0), (w2.heap.size, 1, .int .i64 e1), (wr.heap.size, 0, .int .i64 what), (wr.heap.size, 1, .int .i64 1), (wr.heap.size, 2, .int .u64 ta)] w61 := (KH_wc.out.step (by omega) (by go_grown)).step (by omega) hb_w61
              replace HB := Lib.hid (HB.out.below hb_w61)
              clear hb_w61
              have KH_w61 := Lib.hid K_w61
              have hw_w61 := K_w61.below
              have hz_w61 := K_w61.size
              have lC_w61 : w.heap.size < w61.heap.size := by omega
              have lK_w61 : w2.heap.size < w61.heap.size := by omega
              have lA_w61 : wr.heap.size < w61.heap.size := by omega
              clear K_w61
              go_wp2_with fail
              with_reducible refine (strikes21_0c P b2 b.s0 _ HB.out HH.out.ok.n1 M2.out).mono ?_
              rintro e w62 ⟨rfl, hb_w62⟩
              have K_w62 : Kept w.heap.size w (wr.heap.size + 1) [(w.heap.size, 0, .int .i64 n), (w.heap.size, 1, .int .u64 g), (w2.heap.size, 0, .int .i64 e0), (w2.heap.size, 1, .int .i64 e1), (wr.heap.size, 0, .int .i64 what), (wr.heap.size, 1, .int .i64 1), (wr.heap.size, 2, .int .u64 ta)] w62 := (KH_w61.out.step (by omega) (by go_grown)).step (by omega) hb_w62
              replace HB := Lib.hid (HB.out.below hb_w62)
              clear hb_w62
              have KH_w62 := Lib.hid K_w62
              have hw_w62 := K_w62.below
              have hz_w62 := K_w62.size
              have lC_w62 : w.heap.size < w62.heap.size := by omega
              have lK_w62 : w2.heap.size < w62.heap.size := by omega
              have lA_w62 : wr.heap.size < w62.heap.size := by omega
              clear lC_w61 lK_w61 lA_w61
              clear K_w62
              go_wp2_with fail
              with_reducible refine (here18_0c P b2 b.h0 _ HB.out HH.out.ok.n1 M3.out).mono ?_
              rintro e w63 ⟨rfl, hb_w63⟩
              have K_w63 : Kept w.heap.size w (wr.heap.size + 1) [(w.heap.size, 0, .int .i64 n), (w.heap.size, 1, .int .u64 g), (w2.heap.size, 0, .int .i64 e0), (w2.heap.size, 1, .int .i64 e1), (wr.heap.size, 0, .int .i64 what), (wr.heap.size, 1, .int .i64 1), (wr.heap.size, 2, .int .u64 ta)] w63 := (KH_w62.out.step (by omega) (by go_grown)).step (by omega) hb_w63
              replace HB := Lib.hid (HB.out.below hb_w63)
              clear hb_w63
              have KH_w63 := Lib.hid K_w63
              have hw_w63 := K_w63.below
              have hz_w63 := K_w63.size
              have lC_w63 : w.heap.size < w63.heap.size := by omega
              have lK_w63 : w2.heap.size < w63.heap.size := by omega
              have lA_w63 : wr.heap.size < w63.heap.size := by omega
              clear lC_w62 lK_w62 lA_w62
              clear K_w63
              go_wp2_with fail
              with_reducible refine (due19_0c P b2 b.d0 _ HB.out HH.out.ok.n1 HH.out.ok.t0 (ug HH.out.ok) M4.out).mono ?_
              rintro e w64 ⟨rfl, hb_w64⟩
              have K_w64 : Kept w.heap.size w (wr.heap.size + 1) [(w.heap.size, 0, .int .i64 n), (w.heap.size, 1, .int .u64 g), (w2.heap.size, 0, .int .i64 e0), (w2.heap.size, 1, .int .i64 e1), (wr.heap.size, 0, .int .i64 what), (wr.heap.size, 1, .int .i64 1), (wr.heap.size, 2, .int .u64 ta)] w64 := (KH_w63.out.step (by omega) (by go_grown)).step (by omega) hb_w64
              replace HB := Lib.hid (HB.out.below hb_w64)
              clear hb_w64
              have KH_w64 := Lib.hid K_w64
              have hw_w64 := K_w64.below
              have hz_w64 := K_w64.size
              have lC_w64 : w.heap.size < w64.heap.size := by omega
              have lK_w64 : w2.heap.size < w64.heap.size := by omega
              have lA_w64 : wr.heap.size < w64.heap.size := by omega
              clear lC_w63 lK_w63 lA_w63
              clear K_w64
              go_wp2_with fail
              refine wp_loop_rounds 3 ?_
              rw [rounds_succ]
              have cA0_w64 := KH_w64.out.at (b := wr.heap.size) (o := 0) (v := .int .i64 what) (by simp)
              have fA0_w64 := KH_w64.out.free (b := wr.heap.size) (o := 0) (v := .int .i64 what) (by simp)
              have cA1_w64 := KH_w64.out.at (b := wr.heap.size) (o := 1) (v := .int .i64 1) (by simp)
              have fA1_w64 := KH_w64.out.free (b := wr.heap.size) (o := 1) (v := .int .i64 1) (by simp)
              have cA2_w64 := KH_w64.out.at (b := wr.heap.size) (o := 2) (v := .int .u64 ta) (by simp)
              have fA2_w64 := KH_w64.out.free (b := wr.heap.size) (o := 2) (v := .int .u64 ta) (by simp)
              go_wp2_with fail
              with_reducible refine (lost15c P b2 ta (-1) _ HB.out HH.out.ok HL.out).mono ?_
              rintro e w65 ⟨rfl, hb_w65⟩
              have K_w65 : Kept w.heap.size w (wr.heap.size + 1) [(w.heap.size, 0, .int .i64 n), (w.heap.size, 1, .int .u64 g), (w2.heap.size, 0, .int .i64 e0), (w2.heap.size, 1, .int .i64 e1), (wr.heap.size, 0, .int .i64 what), (wr.heap.size, 1, .int .i64 1), (wr.heap.size, 2, .int .u64 ta)] w65 := (KH_w64.out.step (by omega) (by go_grown)).step (by omega) hb_w65
              replace HB := Lib.hid (HB.out.below hb_w65)
              clear hb_w65
              have KH_w65 := Lib.hid K_w65
              have hw_w65 := K_w65.below
              have hz_w65 := K_w65.size
              have lC_w65 : w.heap.size < w65.heap.size := by omega
              have lK_w65 : w2.heap.size < w65.heap.size := by omega
              have lA_w65 : wr.heap.size < w65.heap.size := by omega
              clear lC_w64 lK_w64 lA_w64 cA0_w64 fA0_w64 cA1_w64 fA1_w64 cA2_w64 fA2_w64
              clear K_w65
              go_wp2_with fail
              refine rg5_38 (w0 := w) (B := w.heap.size) (n := wr.heap.size + 1) (L := [(w.heap.size, 0, .int .i64 n), (w.heap.size, 1, .int .u64 g), (w2.heap.size, 0, .int .i64 e0), (w2.heap.size, 1, .int .i64 e1), (wr.heap.size, 0, .int .i64 what), (wr.heap.size, 1, .int .i64 1), (wr.heap.size, 2, .int .u64 ta)]) (E := fun _ => True) (F := fun W => BookAt W P b2) (by kernel_rfl) (by kernel_rfl) (KH_w65.out.step (by omega) (by go_grown)) trivial (fun _ _ _ _ => trivial) (HB.out.below (by go_grown)) (fun _ _ h hb => h.below hb) (fun w66 K_w66 E_w66 F_w66 => ?_)
              have _ne : Nonempty (KX (w.heap.size) w (wr.heap.size + 1) [(w.heap.size, 0, .int .i64 n), (w.heap.size, 1, .int .u64 g), (w2.heap.size, 0, .int .i64 e0), (w2.heap.size, 1, .int .i64 e1), (wr.heap.size, 0, .int .i64 what), (wr.heap.size, 1, .int .i64 1), (wr.heap.size, 2, .int .u64 ta)] (fun _ => True)) := ⟨⟨_, K_w66, E_w66⟩⟩
              repeat (go_big_quiet_step (fail))
              refine wpQuiet_nil ?_
              have rC0 := rcx _ne w.heap.size 0 (.int .i64 n) (by simp)
              have rC1 := rcx _ne w.heap.size 1 (.int .u64 g) (by simp)
              have rK0 := rcx _ne w2.heap.size 0 (.int .i64 e0) (by simp)
              have rK1 := rcx _ne w2.heap.size 1 (.int .i64 e1) (by simp)
              have rA0 := rcx _ne wr.heap.size 0 (.int .i64 what) (by simp)
              have rA1 := rcx _ne wr.heap.size 1 (.int .i64 1) (by simp)
              have rA2 := rcx _ne wr.heap.size 2 (.int .u64 ta) (by simp)
              repeat (go_big_quiet_step (fail))
              refine wpQuiet_nil ?_
              clear rC0 rC1 rK0 rK1 rA0 rA1 rA2
              repeat (go_big_quiet_step (fail))
              refine wpQuiet_nil ?_
              have KH_w66 := Lib.hid K_w66
              have hw_w66 := K_w66.below
              have hz_w66 := K_w66.size
              have lC_w66 : w.heap.size < w66.heap.size := by omega
              have lK_w66 : w2.heap.size < w66.heap.size := by omega
              have lA_w66 : wr.heap.size < w66.heap.size := by omega
              clear lC_w65 lK_w65 lA_w65
              clear K_w66
              have HB := Lib.hid (F_w66)
              clear E_w66 F_w66
              refine ⟨fun K hK0 => ?_, trivial⟩
              have hK := Lib.hid hK0
              clear hK0
              go_wp2_with fail
              with_reducible refine (auto20_0c P b2 (decide (n ≤ e0)) _ HB.out HH.out.ok.n1 HH.out.a0).mono ?_
              rintro e w67 ⟨rfl, hb_w67⟩
              have K_w67 : Kept w.heap.size w (wr.heap.size + 1) [(w.heap.size, 0, .int .i64 n), (w.heap.size, 1, .int .u64 g), (w2.heap.size, 0, .int .i64 e0), (w2.heap.size, 1, .int .i64 e1), (wr.heap.size, 0, .int .i64 what), (wr.heap.size, 1, .int .i64 1), (wr.heap.size, 2, .int .u64 ta)] w67 := (KH_w66.out.step (by omega) (by go_grown)).step (by omega) hb_w67
              replace HB := Lib.hid (HB.out.below hb_w67)
              clear hb_w67
              have KH_w67 := Lib.hid K_w67
              have hw_w67 := K_w67.below
              have hz_w67 := K_w67.size
              have lC_w67 : w.heap.size < w67.heap.size := by omega
              have lK_w67 : w2.heap.size < w67.heap.size := by omega
              have lA_w67 : wr.heap.size < w67.heap.size := by omega
              clear lC_w66 lK_w66 lA_w66
              clear K_w67
              go_wp2_with fail
              first | (refine ⟨rfl, ⟨⟨_, KH_w67.out, trivial⟩, rfl⟩, hK.out _ _ ?_⟩; clear hK K) | (refine ⟨⟨⟨_, KH_w67.out, trivial⟩, rfl⟩, hK.out _ _ ?_⟩; clear hK K)
              repeat (go_big_quiet_step (fail))
              refine wpQuiet_nil ?_
              refine ⟨fun K hK0 => ?_, trivial⟩
              have hK := Lib.hid hK0
              clear hK0
              go_wp2_with fail
              first | (refine ⟨rfl, ⟨⟨_, KH_w67.out, trivial⟩, rfl⟩, hK.out _ _ ?_⟩; clear hK K) | (refine ⟨⟨⟨_, KH_w67.out, trivial⟩, rfl⟩, hK.out _ _ ?_⟩; clear hK K)
              repeat (go_big_quiet_step (fail))
              refine wpQuiet_nil ?_
              have rC0 := rcx _ne w.heap.size 0 (.int .i64 n) (by simp)
              have rC1 := rcx _ne w.heap.size 1 (.int .u64 g) (by simp)
              have rK0 := rcx _ne w2.heap.size 0 (.int .i64 e0) (by simp)
              have rK1 := rcx _ne w2.heap.size 1 (.int .i64 e1) (by simp)
              have rA0 := rcx _ne wr.heap.size 0 (.int .i64 what) (by simp)
              have rA1 := rcx _ne wr.heap.size 1 (.int .i64 1) (by simp)
              have rA2 := rcx _ne wr.heap.size 2 (.int .u64 ta) (by simp)
              repeat (go_big_quiet_step (fail))
              refine wpQuiet_nil ?_
              clear rC0 rC1 rK0 rK1 rA0 rA1 rA2
              refine ⟨fun K hK0 => ?_, trivial⟩
              have hK := Lib.hid hK0
              clear hK0
              go_wp2_with fail
              first | (refine ⟨rfl, ⟨⟨_, KH_w67.out, trivial⟩, rfl⟩, hK.out _ _ ?_⟩; clear hK K) | (refine ⟨⟨⟨_, KH_w67.out, trivial⟩, rfl⟩, hK.out _ _ ?_⟩; clear hK K)
              repeat (go_big_quiet_step (fail))
              refine wpQuiet_nil ?_
              clear _ne
              go_wp2_with fail
              rw [rounds_succ]
              have cA0_w67 := KH_w67.out.at (b := wr.heap.size) (o := 0) (v := .int .i64 what) (by simp)
              have fA0_w67 := KH_w67.out.free (b := wr.heap.size) (o := 0) (v := .int .i64 what) (by simp)
              have cA1_w67 := KH_w67.out.at (b := wr.heap.size) (o := 1) (v := .int .i64 1) (by simp)
              have fA1_w67 := KH_w67.out.free (b := wr.heap.size) (o := 1) (v := .int .i64 1) (by simp)
              have cA2_w67 := KH_w67.out.at (b := wr.heap.size) (o := 2) (v := .int .u64 ta) (by simp)
              have fA2_w67 := KH_w67.out.free (b := wr.heap.size) (o := 2) (v := .int .u64 ta) (by simp)
              go_wp2_with fail
              with_reducible refine (lost15c P b2 ta (-1) _ HB.out HH.out.ok HL.out).mono ?_
              rintro e w68 ⟨rfl, hb_w68⟩
              have K_w68 : Kept w.heap.size w (wr.heap.size + 1) [(w.heap.size, 0, .int .i64 n), (w.heap.size, 1, .int .u64 g), (w2.heap.size, 0, .int .i64 e0), (w2.heap.size, 1, .int .i64 e1), (wr.heap.size, 0, .int .i64 what), (wr.heap.size, 1, .int .i64 1), (wr.heap.size, 2, .int .u64 ta)] w68 := (KH_w67.out.step (by omega) (by go_grown)).step (by omega) hb_w68
              replace HB := Lib.hid (HB.out.below hb_w68)
              clear hb_w68
              have KH_w68 := Lib.hid K_w68
              have hw_w68 := K_w68.below
              have hz_w68 := K_w68.size
              have lC_w68 : w.heap.size < w68.heap.size := by omega
              have lK_w68 : w2.heap.size < w68.heap.size := by omega
              have lA_w68 : wr.heap.size < w68.heap.size := by omega
              clear lC_w67 lK_w67 lA_w67 cA0_w67 fA0_w67 cA1_w67 fA1_w67 cA2_w67 fA2_w67
              clear K_w68
              go_wp2_with fail
              refine rg5_38 (w0 := w) (B := w.heap.size) (n := wr.heap.size + 1) (L := [(w.heap.size, 0, .int .i64 n), (w.heap.size, 1, .int .u64 g), (w2.heap.size, 0, .int .i64 e0), (w2.heap.size, 1, .int .i64 e1), (wr.heap.size, 0, .int .i64 what), (wr.heap.size, 1, .int .i64 1), (wr.heap.size, 2, .int .u64 ta)]) (E := fun _ => True) (F := fun W => BookAt W P b2) (by kernel_rfl) (by kernel_rfl) (KH_w68.out.step (by omega) (by go_grown)) trivial (fun _ _ _ _ => trivial) (HB.out.below (by go_grown)) (fun _ _ h hb => h.below hb) (fun w69 K_w69 E_w69 F_w69 => ?_)
              have _ne : Nonempty (KX (w.heap.size) w (wr.heap.size + 1) [(w.heap.size, 0, .int .i64 n), (w.heap.size, 1, .int .u64 g), (w2.heap.size, 0, .int .i64 e0), (w2.heap.size, 1, .int .i64 e1), (wr.heap.size, 0, .int .i64 what), (wr.heap.size, 1, .int .i64 1), (wr.heap.size, 2, .int .u64 ta)] (fun _ => True)) := ⟨⟨_, K_w69, E_w69⟩⟩
              repeat (go_big_quiet_step (fail))
              refine wpQuiet_nil ?_
              have rC0 := rcx _ne w.heap.size 0 (.int .i64 n) (by simp)
              have rC1 := rcx _ne w.heap.size 1 (.int .u64 g) (by simp)
              have rK0 := rcx _ne w2.heap.size 0 (.int .i64 e0) (by simp)
              have rK1 := rcx _ne w2.heap.size 1 (.int .i64 e1) (by simp)
              have rA0 := rcx _ne wr.heap.size 0 (.int .i64 what) (by simp)
              have rA1 := rcx _ne wr.heap.size 1 (.int .i64 1) (by simp)
              have rA2 := rcx _ne wr.heap.size 2 (.int .u64 ta) (by simp)
              repeat (go_big_quiet_step (fail))
              refine wpQuiet_nil ?_
              clear rC0 rC1 rK0 rK1 rA0 rA1 rA2
              repeat (go_big_quiet_step (fail))
              refine wpQuiet_nil ?_
              have KH_w69 := Lib.hid K_w69
              have hw_w69 := K_w69.below
              have hz_w69 := K_w69.size
              have lC_w69 : w.heap.size < w69.heap.size := by omega
              have lK_w69 : w2.heap.size < w69.heap.size := by omega
              have lA_w69 : wr.heap.size < w69.heap.size := by omega
              clear lC_w68 lK_w68 lA_w68
              clear K_w69
              have HB := Lib.hid (F_w69)
              clear E_w69 F_w69
              refine ⟨fun K hK0 => ?_, trivial⟩
              have hK := Lib.hid hK0
              clear hK0
              go_wp2_with fail
              with_reducible refine (auto20_1c P b2 (decide (n ≤ e1)) _ HB.out HH.out.ok.n1 HH.out.a1).mono ?_
              rintro e w70 ⟨rfl, hb_w70⟩
              have K_w70 : Kept w.heap.size w (wr.heap.size + 1) [(w.heap.size, 0, .int .i64 n), (w.heap.size, 1, .int .u64 g), (w2.heap.size, 0, .int .i64 e0), (w2.heap.size, 1, .int .i64 e1), (wr.heap.size, 0, .int .i64 what), (wr.heap.size, 1, .int .i64 1), (wr.heap.size, 2, .int .u64 ta)] w70 := (KH_w69.out.step (by omega) (by go_grown)).step (by omega) hb_w70
              replace HB := Lib.hid (HB.out.below hb_w70)
              clear hb_w70
              have KH_w70 := Lib.hid K_w70
              have hw_w70 := K_w70.below
              have hz_w70 := K_w70.size
              have lC_w70 : w.heap.size < w70.heap.size := by omega
              have lK_w70 : w2.heap.size < w70.heap.size := by omega
              have lA_w70 : wr.heap.size < w70.heap.size := by omega
              clear lC_w69 lK_w69 lA_w69
              clear K_w70
              go_wp2_with fail
              first | (refine ⟨rfl, ⟨⟨_, KH_w70.out, trivial⟩, rfl⟩, hK.out _ _ ?_⟩; clear hK K) | (refine ⟨⟨⟨_, KH_w70.out, trivial⟩, rfl⟩, hK.out _ _ ?_⟩; clear hK K)
              repeat (go_big_quiet_step (fail))
              refine wpQuiet_nil ?_
              refine ⟨fun K hK0 => ?_, trivial⟩
              have hK := Lib.hid hK0
              clear hK0
              go_wp2_with fail
              first | (refine ⟨rfl, ⟨⟨_, KH_w70.out, trivial⟩, rfl⟩, hK.out _ _ ?_⟩; clear hK K) | (refine ⟨⟨⟨_, KH_w70.out, trivial⟩, rfl⟩, hK.out _ _ ?_⟩; clear hK K)
              repeat (go_big_quiet_step (fail))
              refine wpQuiet_nil ?_
              have rC0 := rcx _ne w.heap.size 0 (.int .i64 n) (by simp)
              have rC1 := rcx _ne w.heap.size 1 (.int .u64 g) (by simp)
              have rK0 := rcx _ne w2.heap.size 0 (.int .i64 e0) (by simp)
              have rK1 := rcx _ne w2.heap.size 1 (.int .i64 e1) (by simp)
              have rA0 := rcx _ne wr.heap.size 0 (.int .i64 what) (by simp)
              have rA1 := rcx _ne wr.heap.size 1 (.int .i64 1) (by simp)
              have rA2 := rcx _ne wr.heap.size 2 (.int .u64 ta) (by simp)
              repeat (go_big_quiet_step (fail))
              refine wpQuiet_nil ?_
              clear rC0 rC1 rK0 rK1 rA0 rA1 rA2
              refine ⟨fun K hK0 => ?_, trivial⟩
              have hK := Lib.hid hK0
              clear hK0
              go_wp2_with fail
              first | (refine ⟨rfl, ⟨⟨_, KH_w70.out, trivial⟩, rfl⟩, hK.out _ _ ?_⟩; clear hK K) | (refine ⟨⟨⟨_, KH_w70.out, trivial⟩, rfl⟩, hK.out _ _ ?_⟩; clear hK K)
              repeat (go_big_quiet_step (fail))
              refine wpQuiet_nil ?_
              clear _ne
              go_wp2_with fail
              rw [rounds_succ]
              go_wp2_with fail
              go_roundw
              case rel => exact ⟨k + 1, b2, e0, e1, by omega, by go_num, by omega, by omega, HB.out, HH.out, kept_less KH_w70.out (by omega) (by simp; omega)⟩
              case measure => simp [intOf]; omega
          · have HL := Lib.hid hL
            clear hL
            have V0 := Lib.hid (due_over v0)
            have z0 : decide (ta < b2.d0) = false := by have : b2.d0 ≤ ta := (due_over v0).2; simp; omega
            clear v0
            as_aux_lemma =>
              go_wp2_with fail
              with_reducible refine (auto20_0c P b2 b.a0 _ HB.out HH.out.ok.n1 M1.out).mono ?_
              rintro e w61 ⟨rfl, hb_w61⟩
              have K_w61 : Kept w.heap.size w (wr.heap.size + 1) [(w.heap.size, 0, .int .i64 n), (w.heap.size, 1, .int .u64 g), (w2.heap.size, 0, .int .i64 e0), (w2.heap.size, 1, .int .i64 e1), (wr.heap.size, 0, .int .i64 what), (wr.heap.size, 1, .int .i64 1), (wr.heap.size, 2, .int .u64 ta)] w61 := (KH_wc.out.step (by omega) (by go_grown)).step (by omega) hb_w61
              replace HB := Lib.hid (HB.out.below hb_w61)
              clear hb_w61
              have KH_w61 := Lib.hid K_w61
              have hw_w61 := K_w61.below
              have hz_w61 := K_w61.size
              have lC_w61 : w.heap.size < w61.heap.size := by omega
              have lK_w61 : w2.heap.size < w61.heap.size := by omega
              have lA_w61 : wr.heap.size < w61.heap.size := by omega
              clear K_w61
              go_wp2_with fail
              with_reducible refine (strikes21_0c P b2 b.s0 _ HB.out HH.out.ok.n1 M2.out).mono ?_
              rintro e w62 ⟨rfl, hb_w62⟩
              have K_w62 : Kept w.heap.size w (wr.heap.size + 1) [(w.heap.size, 0, .int .i64 n), (w.heap.size, 1, .int .u64 g), (w2.heap.size, 0, .int .i64 e0), (w2.heap.size, 1, .int .i64 e1), (wr.heap.size, 0, .int .i64 what), (wr.heap.size, 1, .int .i64 1), (wr.heap.size, 2, .int .u64 ta)] w62 := (KH_w61.out.step (by omega) (by go_grown)).step (by omega) hb_w62
              replace HB := Lib.hid (HB.out.below hb_w62)
              clear hb_w62
              have KH_w62 := Lib.hid K_w62
              have hw_w62 := K_w62.below
              have hz_w62 := K_w62.size
              have lC_w62 : w.heap.size < w62.heap.size := by omega
              have lK_w62 : w2.heap.size < w62.heap.size := by omega
              have lA_w62 : wr.heap.size < w62.heap.size := by omega
              clear lC_w61 lK_w61 lA_w61
              clear K_w62
              go_wp2_with fail
              with_reducible refine (here18_0c P b2 b.h0 _ HB.out HH.out.ok.n1 M3.out).mono ?_
              rintro e w63 ⟨rfl, hb_w63⟩
              have K_w63 : Kept w.heap.size w (wr.heap.size + 1) [(w.heap.size, 0, .int .i64 n), (w.heap.size, 1, .int .u64 g), (w2.heap.size, 0, .int .i64 e0), (w2.heap.size, 1, .int .i64 e1), (wr.heap.size, 0, .int .i64 what), (wr.heap.size, 1, .int .i64 1), (wr.heap.size, 2, .int .u64 ta)] w63 := (KH_w62.out.step (by omega) (by go_grown)).step (by omega) hb_w63
              replace HB := Lib.hid (HB.out.below hb_w63)
              clear hb_w63
              have KH_w63 := Lib.hid K_w63
              have hw_w63 := K_w63.below
              have hz_w63 := K_w63.size
              have lC_w63 : w.heap.size < w63.heap.size := by omega
              have lK_w63 : w2.heap.size < w63.heap.size := by omega
              have lA_w63 : wr.heap.size < w63.heap.size := by omega
              clear lC_w62 lK_w62 lA_w62
              clear K_w63
              go_wp2_with fail
              with_reducible refine (due19_0c P b2 b.d0 _ HB.out HH.out.ok.n1 HH.out.ok.t0 (ug HH.out.ok) M4.out).mono ?_
              rintro e w64 ⟨rfl, hb_w64⟩
              have K_w64 : Kept w.heap.size w (wr.heap.size + 1) [(w.heap.size, 0, .int .i64 n), (w.heap.size, 1, .int .u64 g), (w2.heap.size, 0, .int .i64 e0), (w2.heap.size, 1, .int .i64 e1), (wr.heap.size, 0, .int .i64 what), (wr.heap.size, 1, .int .i64 1), (wr.heap.size, 2, .int .u64 ta)] w64 := (KH_w63.out.step (by omega) (by go_grown)).step (by omega) hb_w64
              replace HB := Lib.hid (HB.out.below hb_w64)
              clear hb_w64
              have KH_w64 := Lib.hid K_w64
              have hw_w64 := K_w64.below
              have hz_w64 := K_w64.size
              have lC_w64 : w.heap.size < w64.heap.size := by omega
              have lK_w64 : w2.heap.size < w64.heap.size := by omega
              have lA_w64 : wr.heap.size < w64.heap.size := by omega
              clear lC_w63 lK_w63 lA_w63
              clear K_w64
              go_wp2_with fail
              refine wp_loop_rounds 3 ?_
              rw [rounds_succ]
              have cA0_w64 := KH_w64.out.at (b := wr.heap.size) (o := 0) (v := .int .i64 what) (by simp)
              have fA0_w64 := KH_w64.out.free (b := wr.heap.size) (o := 0) (v := .int .i64 what) (by simp)
              have cA1_w64 := KH_w64.out.at (b := wr.heap.size) (o := 1) (v := .int .i64 1) (by simp)
              have fA1_w64 := KH_w64.out.free (b := wr.heap.size) (o := 1) (v := .int .i64 1) (by simp)
              have cA2_w64 := KH_w64.out.at (b := wr.heap.size) (o := 2) (v := .int .u64 ta) (by simp)
              have fA2_w64 := KH_w64.out.free (b := wr.heap.size) (o := 2) (v := .int .u64 ta) (by simp)
              go_wp2_with fail
              with_reducible refine (lost15c P b2 ta (0) _ HB.out HH.out.ok HL.out).mono ?_
              rintro e w65 ⟨rfl, hb_w65⟩
              have K_w65 : Kept w.heap.size w (wr.heap.size + 1) [(w.heap.size, 0, .int .i64 n), (w.heap.size, 1, .int .u64 g), (w2.heap.size, 0, .int .i64 e0), (w2.heap.size, 1, .int .i64 e1), (wr.heap.size, 0, .int .i64 what), (wr.heap.size, 1, .int .i64 1), (wr.heap.size, 2, .int .u64 ta)] w65 := (KH_w64.out.step (by omega) (by go_grown)).step (by omega) hb_w65
              replace HB := Lib.hid (HB.out.below hb_w65)
              clear hb_w65
              have KH_w65 := Lib.hid K_w65
              have hw_w65 := K_w65.below
              have hz_w65 := K_w65.size
              have lC_w65 : w.heap.size < w65.heap.size := by omega
              have lK_w65 : w2.heap.size < w65.heap.size := by omega
              have lA_w65 : wr.heap.size < w65.heap.size := by omega
              clear lC_w64 lK_w64 lA_w64 cA0_w64 fA0_w64 cA1_w64 fA1_w64 cA2_w64 fA2_w64
              clear K_w65
              go_wp2_with fail
              refine rg5_38 (w0 := w) (B := w.heap.size) (n := wr.heap.size + 1) (L := [(w.heap.size, 0, .int .i64 n), (w.heap.size, 1, .int .u64 g), (w2.heap.size, 0, .int .i64 e0), (w2.heap.size, 1, .int .i64 e1), (wr.heap.size, 0, .int .i64 what), (wr.heap.size, 1, .int .i64 1), (wr.heap.size, 2, .int .u64 ta)]) (E := fun _ => True) (F := fun W => BookAt W P b2) (by kernel_rfl) (by kernel_rfl) (KH_w65.out.step (by omega) (by go_grown)) trivial (fun _ _ _ _ => trivial) (HB.out.below (by go_grown)) (fun _ _ h hb => h.below hb) (fun w66 K_w66 E_w66 F_w66 => ?_)
              have _ne : Nonempty (KX (w.heap.size) w (wr.heap.size + 1) [(w.heap.size, 0, .int .i64 n), (w.heap.size, 1, .int .u64 g), (w2.heap.size, 0, .int .i64 e0), (w2.heap.size, 1, .int .i64 e1), (wr.heap.size, 0, .int .i64 what), (wr.heap.size, 1, .int .i64 1), (wr.heap.size, 2, .int .u64 ta)] (fun _ => True)) := ⟨⟨_, K_w66, E_w66⟩⟩
              repeat (go_big_quiet_step (fail))
              refine wpQuiet_nil ?_
              have rC0 := rcx _ne w.heap.size 0 (.int .i64 n) (by simp)
              have rC1 := rcx _ne w.heap.size 1 (.int .u64 g) (by simp)
              have rK0 := rcx _ne w2.heap.size 0 (.int .i64 e0) (by simp)
              have rK1 := rcx _ne w2.heap.size 1 (.int .i64 e1) (by simp)
              have rA0 := rcx _ne wr.heap.size 0 (.int .i64 what) (by simp)
              have rA1 := rcx _ne wr.heap.size 1 (.int .i64 1) (by simp)
              have rA2 := rcx _ne wr.heap.size 2 (.int .u64 ta) (by simp)
              repeat (go_big_quiet_step (fail))
              refine wpQuiet_nil ?_
              clear rC0 rC1 rK0 rK1 rA0 rA1 rA2
              repeat (go_big_quiet_step (fail))
              refine wpQuiet_nil ?_
              have KH_w66 := Lib.hid K_w66
              have hw_w66 := K_w66.below
              have hz_w66 := K_w66.size
              have lC_w66 : w.heap.size < w66.heap.size := by omega
              have lK_w66 : w2.heap.size < w66.heap.size := by omega
              have lA_w66 : wr.heap.size < w66.heap.size := by omega
              clear lC_w65 lK_w65 lA_w65
              clear K_w66
              have HB := Lib.hid (F_w66)
              clear E_w66 F_w66
              refine ⟨fun K hK0 => ?_, trivial⟩
              have hK := Lib.hid hK0
              clear hK0
              go_wp2_with fail
              with_reducible refine (auto20_0c P b2 (decide (n ≤ e0)) _ HB.out HH.out.ok.n1 HH.out.a0).mono ?_
              rintro e w67 ⟨rfl, hb_w67⟩
              have K_w67 : Kept w.heap.size w (wr.heap.size + 1) [(w.heap.size, 0, .int .i64 n), (w.heap.size, 1, .int .u64 g), (w2.heap.size, 0, .int .i64 e0), (w2.heap.size, 1, .int .i64 e1), (wr.heap.size, 0, .int .i64 what), (wr.heap.size, 1, .int .i64 1), (wr.heap.size, 2, .int .u64 ta)] w67 := (KH_w66.out.step (by omega) (by go_grown)).step (by omega) hb_w67
              replace HB := Lib.hid (HB.out.below hb_w67)
              clear hb_w67
              have KH_w67 := Lib.hid K_w67
              have hw_w67 := K_w67.below
              have hz_w67 := K_w67.size
              have lC_w67 : w.heap.size < w67.heap.size := by omega
              have lK_w67 : w2.heap.size < w67.heap.size := by omega
              have lA_w67 : wr.heap.size < w67.heap.size := by omega
              clear lC_w66 lK_w66 lA_w66
              clear K_w67
              go_wp2_with fail
              first | (refine ⟨rfl, ⟨⟨_, KH_w67.out, trivial⟩, rfl⟩, hK.out _ _ ?_⟩; clear hK K) | (refine ⟨⟨⟨_, KH_w67.out, trivial⟩, rfl⟩, hK.out _ _ ?_⟩; clear hK K)
              repeat (go_big_quiet_step (fail))
              refine wpQuiet_nil ?_
              refine ⟨fun K hK0 => ?_, trivial⟩
              have hK := Lib.hid hK0
              clear hK0
              go_wp2_with fail
              with_reducible refine (here18_0c P b2 false _ HB.out HH.out.ok.n1 V0.out.1).mono ?_
              rintro e w68 ⟨rfl, hb_w68⟩
              have K_w68 : Kept w.heap.size w (wr.heap.size + 1) [(w.heap.size, 0, .int .i64 n), (w.heap.size, 1, .int .u64 g), (w2.heap.size, 0, .int .i64 e0), (w2.heap.size, 1, .int .i64 e1), (wr.heap.size, 0, .int .i64 what), (wr.heap.size, 1, .int .i64 1), (wr.heap.size, 2, .int .u64 ta)] w68 := (KH_w67.out.step (by omega) (by go_grown)).step (by omega) hb_w68
              replace HB := Lib.hid (HB.out.below hb_w68)
              clear hb_w68
              have KH_w68 := Lib.hid K_w68
              have hw_w68 := K_w68.below
              have hz_w68 := K_w68.size
              have lC_w68 : w.heap.size < w68.heap.size := by omega
              have lK_w68 : w2.heap.size < w68.heap.size := by omega
              have lA_w68 : wr.heap.size < w68.heap.size := by omega
              clear lC_w67 lK_w67 lA_w67
              clear K_w68
              go_wp2_with fail
              first | (refine ⟨rfl, ⟨⟨_, KH_w68.out, trivial⟩, rfl⟩, hK.out _ _ ?_⟩; clear hK K) | (refine ⟨⟨⟨_, KH_w68.out, trivial⟩, rfl⟩, hK.out _ _ ?_⟩; clear hK K)
              repeat (go_big_quiet_step (fail))
              refine wpQuiet_nil ?_
              have rC0 := rcx _ne w.heap.size 0 (.int .i64 n) (by simp)
              have rC1 := rcx _ne w.heap.size 1 (.int .u64 g) (by simp)
              have rK0 := rcx _ne w2.heap.size 0 (.int .i64 e0) (by simp)
              have rK1 := rcx _ne w2.heap.size 1 (.int .i64 e1) (by simp)
              have rA0 := rcx _ne wr.heap.size 0 (.int .i64 what) (by simp)
              have rA1 := rcx _ne wr.heap.size 1 (.int .i64 1) (by simp)
              have rA2 := rcx _ne wr.heap.size 2 (.int .u64 ta) (by simp)
              repeat (go_big_quiet_step (fail))
              refine wpQuiet_nil ?_
              clear rC0 rC1 rK0 rK1 rA0 rA1 rA2
              refine ⟨fun K hK0 => ?_, trivial⟩
              have hK := Lib.hid hK0
              clear hK0
              go_wp2_with fail
              with_reducible refine (due19_0 P b2 _ HB.out HH.out.ok.n1 HH.out.ok.t0 (ug HH.out.ok)).mono ?_
              rintro e w69 ⟨rfl, hb_w69⟩
              have K_w69 : Kept w.heap.size w (wr.heap.size + 1) [(w.heap.size, 0, .int .i64 n), (w.heap.size, 1, .int .u64 g), (w2.heap.size, 0, .int .i64 e0), (w2.heap.size, 1, .int .i64 e1), (wr.heap.size, 0, .int .i64 what), (wr.heap.size, 1, .int .i64 1), (wr.heap.size, 2, .int .u64 ta)] w69 := (KH_w68.out.step (by omega) (by go_grown)).step (by omega) hb_w69
              replace HB := Lib.hid (HB.out.below hb_w69)
              clear hb_w69
              have KH_w69 := Lib.hid K_w69
              have hw_w69 := K_w69.below
              have hz_w69 := K_w69.size
              have lC_w69 : w.heap.size < w69.heap.size := by omega
              have lK_w69 : w2.heap.size < w69.heap.size := by omega
              have lA_w69 : wr.heap.size < w69.heap.size := by omega
              clear lC_w68 lK_w68 lA_w68
              clear K_w69
              go_wp2_with fail
              first | (refine ⟨rfl, ⟨⟨_, KH_w69.out, trivial⟩, rfl⟩, hK.out _ _ ?_⟩; clear hK K) | (refine ⟨⟨⟨_, KH_w69.out, trivial⟩, rfl⟩, hK.out _ _ ?_⟩; clear hK K)
              repeat (go_big_quiet_step (fail))
              refine wpQuiet_nil ?_
              clear _ne
              go_wp2_with fail
              rw [rounds_succ]
              have cA0_w69 := KH_w69.out.at (b := wr.heap.size) (o := 0) (v := .int .i64 what) (by simp)
              have fA0_w69 := KH_w69.out.free (b := wr.heap.size) (o := 0) (v := .int .i64 what) (by simp)
              have cA1_w69 := KH_w69.out.at (b := wr.heap.size) (o := 1) (v := .int .i64 1) (by simp)
              have fA1_w69 := KH_w69.out.free (b := wr.heap.size) (o := 1) (v := .int .i64 1) (by simp)
              have cA2_w69 := KH_w69.out.at (b := wr.heap.size) (o := 2) (v := .int .u64 ta) (by simp)
              have fA2_w69 := KH_w69.out.free (b := wr.heap.size) (o := 2) (v := .int .u64 ta) (by simp)
              go_wp2_with fail
              with_reducible refine (lost15c P b2 ta (0) _ HB.out HH.out.ok HL.out).mono ?_
              rintro e w70 ⟨rfl, hb_w70⟩
              have K_w70 : Kept w.heap.size w (wr.heap.size + 1) [(w.heap.size, 0, .int .i64 n), (w.heap.size, 1, .int .u64 g), (w2.heap.size, 0, .int .i64 e0), (w2.heap.size, 1, .int .i64 e1), (wr.heap.size, 0, .int .i64 what), (wr.heap.size, 1, .int .i64 1), (wr.heap.size, 2, .int .u64 ta)] w70 := (KH_w69.out.step (by omega) (by go_grown)).step (by omega) hb_w70
              replace HB := Lib.hid (HB.out.below hb_w70)
              clear hb_w70
              have KH_w70 := Lib.hid K_w70
              have hw_w70 := K_w70.below
              have hz_w70 := K_w70.size
              have lC_w70 : w.heap.size < w70.heap.size := by omega
              have lK_w70 : w2.heap.size < w70.heap.size := by omega
              have lA_w70 : wr.heap.size < w70.heap.size := by omega
              clear lC_w69 lK_w69 lA_w69 cA0_w69 fA0_w69 cA1_w69 fA1_w69 cA2_w69 fA2_w69
              clear K_w70
              go_wp2_with fail
              refine rg5_38 (w0 := w) (B := w.heap.size) (n := wr.heap.size + 1) (L := [(w.heap.size, 0, .int .i64 n), (w.heap.size, 1, .int .u64 g), (w2.heap.size, 0, .int .i64 e0), (w2.heap.size, 1, .int .i64 e1), (wr.heap.size, 0, .int .i64 what), (wr.heap.size, 1, .int .i64 1), (wr.heap.size, 2, .int .u64 ta)]) (E := fun _ => True) (F := fun W => BookAt W P b2) (by kernel_rfl) (by kernel_rfl) (KH_w70.out.step (by omega) (by go_grown)) trivial (fun _ _ _ _ => trivial) (HB.out.below (by go_grown)) (fun _ _ h hb => h.below hb) (fun w71 K_w71 E_w71 F_w71 => ?_)
              have _ne : Nonempty (KX (w.heap.size) w (wr.heap.size + 1) [(w.heap.size, 0, .int .i64 n), (w.heap.size, 1, .int .u64 g), (w2.heap.size, 0, .int .i64 e0), (w2.heap.size, 1, .int .i64 e1), (wr.heap.size, 0, .int .i64 what), (wr.heap.size, 1, .int .i64 1), (wr.heap.size, 2, .int .u64 ta)] (fun _ => True)) := ⟨⟨_, K_w71, E_w71⟩⟩
              repeat (go_big_quiet_step (fail))
              refine wpQuiet_nil ?_
              have rC0 := rcx _ne w.heap.size 0 (.int .i64 n) (by simp)
              have rC1 := rcx _ne w.heap.size 1 (.int .u64 g) (by simp)
              have rK0 := rcx _ne w2.heap.size 0 (.int .i64 e0) (by simp)
              have rK1 := rcx _ne w2.heap.size 1 (.int .i64 e1) (by simp)
              have rA0 := rcx _ne wr.heap.size 0 (.int .i64 what) (by simp)
              have rA1 := rcx _ne wr.heap.size 1 (.int .i64 1) (by simp)
              have rA2 := rcx _ne wr.heap.size 2 (.int .u64 ta) (by simp)
              repeat (go_big_quiet_step (fail))
              refine wpQuiet_nil ?_
              clear rC0 rC1 rK0 rK1 rA0 rA1 rA2
              repeat (go_big_quiet_step (fail))
              refine wpQuiet_nil ?_
              have KH_w71 := Lib.hid K_w71
              have hw_w71 := K_w71.below
              have hz_w71 := K_w71.size
              have lC_w71 : w.heap.size < w71.heap.size := by omega
              have lK_w71 : w2.heap.size < w71.heap.size := by omega
              have lA_w71 : wr.heap.size < w71.heap.size := by omega
              clear lC_w70 lK_w70 lA_w70
              clear K_w71
              have HB := Lib.hid (F_w71)
              clear E_w71 F_w71
              refine ⟨fun K hK0 => ?_, trivial⟩
              have hK := Lib.hid hK0
              clear hK0
              go_wp2_with fail
              with_reducible refine (auto20_1c P b2 (decide (n ≤ e1)) _ HB.out HH.out.ok.n1 HH.out.a1).mono ?_
              rintro e w72 ⟨rfl, hb_w72⟩
              have K_w72 : Kept w.heap.size w (wr.heap.size + 1) [(w.heap.size, 0, .int .i64 n), (w.heap.size, 1, .int .u64 g), (w2.heap.size, 0, .int .i64 e0), (w2.heap.size, 1, .int .i64 e1), (wr.heap.size, 0, .int .i64 what), (wr.heap.size, 1, .int .i64 1), (wr.heap.size, 2, .int .u64 ta)] w72 := (KH_w71.out.step (by omega) (by go_grown)).step (by omega) hb_w72
              replace HB := Lib.hid (HB.out.below hb_w72)
              clear hb_w72
              have KH_w72 := Lib.hid K_w72
              have hw_w72 := K_w72.below
              have hz_w72 := K_w72.size
              have lC_w72 : w.heap.size < w72.heap.size := by omega
              have lK_w72 : w2.heap.size < w72.heap.size := by omega
              have lA_w72 : wr.heap.size < w72.heap.size := by omega
              clear lC_w71 lK_w71 lA_w71
              clear K_w72
              go_wp2_with fail
              first | (refine ⟨rfl, ⟨⟨_, KH_w72.out, trivial⟩, rfl⟩, hK.out _ _ ?_⟩; clear hK K) | (refine ⟨⟨⟨_, KH_w72.out, trivial⟩, rfl⟩, hK.out _ _ ?_⟩; clear hK K)
              repeat (go_big_quiet_step (fail))
              refine wpQuiet_nil ?_
              refine ⟨fun K hK0 => ?_, trivial⟩
              have hK := Lib.hid hK0
              clear hK0
              go_wp2_with fail
              first | (refine ⟨rfl, ⟨⟨_, KH_w72.out, trivial⟩, rfl⟩, hK.out _ _ ?_⟩; clear hK K) | (refine ⟨⟨⟨_, KH_w72.out, trivial⟩, rfl⟩, hK.out _ _ ?_⟩; clear hK K)
              repeat (go_big_quiet_step (fail))
              refine wpQuiet_nil ?_
              have rC0 := rcx _ne w.heap.size 0 (.int .i64 n) (by simp)
              have rC1 := rcx _ne w.heap.size 1 (.int .u64 g) (by simp)
              have rK0 := rcx _ne w2.heap.size 0 (.int .i64 e0) (by simp)
              have rK1 := rcx _ne w2.heap.size 1 (.int .i64 e1) (by simp)
              have rA0 := rcx _ne wr.heap.size 0 (.int .i64 what) (by simp)
              have rA1 := rcx _ne wr.heap.size 1 (.int .i64 1) (by simp)
              have rA2 := rcx _ne wr.heap.size 2 (.int .u64 ta) (by simp)
              repeat (go_big_quiet_step (fail))
              refine wpQuiet_nil ?_
              clear rC0 rC1 rK0 rK1 rA0 rA1 rA2
              refine ⟨fun K hK0 => ?_, trivial⟩
              have hK := Lib.hid hK0
              clear hK0
              go_wp2_with fail
              first | (refine ⟨rfl, ⟨⟨_, KH_w72.out, trivial⟩, rfl⟩, hK.out _ _ ?_⟩; clear hK K) | (refine ⟨⟨⟨_, KH_w72.out, trivial⟩, rfl⟩, hK.out _ _ ?_⟩; clear hK K)
              repeat (go_big_quiet_step (fail))
              refine wpQuiet_nil ?_
              clear _ne
              go_wp2_with fail
              rw [rounds_succ]
              go_wp2_with fail
              go_roundw
              case rel => exact ⟨k + 1, b2, e0, e1, by omega, by go_num, by omega, by omega, HB.out, HH.out, kept_less KH_w72.out (by omega) (by simp; omega)⟩
              case measure => simp [intOf]; omega
          · have HL := Lib.hid hL
            clear hL
            have V1 := Lib.hid (due_over v1)
            have z1 : decide (ta < b2.d1) = false := by have : b2.d1 ≤ ta := (due_over v1).2; simp; omega
            clear v1
            as_aux_lemma =>
              go_wp2_with fail
              with_reducible refine (auto20_0c P b2 b.a0 _ HB.out HH.out.ok.n1 M1.out).mono ?_
              rintro e w61 ⟨rfl, hb_w61⟩
              have K_w61 : Kept w.heap.size w (wr.heap.size + 1) [(w.heap.size, 0, .int .i64 n), (w.heap.size, 1, .int .u64 g), (w2.heap.size, 0, .int .i64 e0), (w2.heap.size, 1, .int .i64 e1), (wr.heap.size, 0, .int .i64 what), (wr.heap.size, 1, .int .i64 1), (wr.heap.size, 2, .int .u64 ta)] w61 := (KH_wc.out.step (by omega) (by go_grown)).step (by omega) hb_w61
              replace HB := Lib.hid (HB.out.below hb_w61)
              clear hb_w61
              have KH_w61 := Lib.hid K_w61
              have hw_w61 := K_w61.below
              have hz_w61 := K_w61.size
              have lC_w61 : w.heap.size < w61.heap.size := by omega
              have lK_w61 : w2.heap.size < w61.heap.size := by omega
              have lA_w61 : wr.heap.size < w61.heap.size := by omega
              clear K_w61
              go_wp2_with fail
              with_reducible refine (strikes21_0c P b2 b.s0 _ HB.out HH.out.ok.n1 M2.out).mono ?_
              rintro e w62 ⟨rfl, hb_w62⟩
              have K_w62 : Kept w.heap.size w (wr.heap.size + 1) [(w.heap.size, 0, .int .i64 n), (w.heap.size, 1, .int .u64 g), (w2.heap.size, 0, .int .i64 e0), (w2.heap.size, 1, .int .i64 e1), (wr.heap.size, 0, .int .i64 what), (wr.heap.size, 1, .int .i64 1), (wr.heap.size, 2, .int .u64 ta)] w62 := (KH_w61.out.step (by omega) (by go_grown)).step (by omega) hb_w62
              replace HB := Lib.hid (HB.out.below hb_w62)
              clear hb_w62
              have KH_w62 := Lib.hid K_w62
              have hw_w62 := K_w62.below
              have hz_w62 := K_w62.size
              have lC_w62 : w.heap.size < w62.heap.size := by omega
              have lK_w62 : w2.heap.size < w62.heap.size := by omega
              have lA_w62 : wr.heap.size < w62.heap.size := by omega
              clear lC_w61 lK_w61 lA_w61
              clear K_w62
              go_wp2_with fail
              with_reducible refine (here18_0c P b2 b.h0 _ HB.out HH.out.ok.n1 M3.out).mono ?_
              rintro e w63 ⟨rfl, hb_w63⟩
              have K_w63 : Kept w.heap.size w (wr.heap.size + 1) [(w.heap.size, 0, .int .i64 n), (w.heap.size, 1, .int .u64 g), (w2.heap.size, 0, .int .i64 e0), (w2.heap.size, 1, .int .i64 e1), (wr.heap.size, 0, .int .i64 what), (wr.heap.size, 1, .int .i64 1), (wr.heap.size, 2, .int .u64 ta)] w63 := (KH_w62.out.step (by omega) (by go_grown)).step (by omega) hb_w63
              replace HB := Lib.hid (HB.out.below hb_w63)
              clear hb_w63
              have KH_w63 := Lib.hid K_w63
              have hw_w63 := K_w63.below
              have hz_w63 := K_w63.size
              have lC_w63 : w.heap.size < w63.heap.size := by omega
              have lK_w63 : w2.heap.size < w63.heap.size := by omega
              have lA_w63 : wr.heap.size < w63.heap.size := by omega
              clear lC_w62 lK_w62 lA_w62
              clear K_w63
              go_wp2_with fail
              with_reducible refine (due19_0c P b2 b.d0 _ HB.out HH.out.ok.n1 HH.out.ok.t0 (ug HH.out.ok) M4.out).mono ?_
              rintro e w64 ⟨rfl, hb_w64⟩
              have K_w64 : Kept w.heap.size w (wr.heap.size + 1) [(w.heap.size, 0, .int .i64 n), (w.heap.size, 1, .int .u64 g), (w2.heap.size, 0, .int .i64 e0), (w2.heap.size, 1, .int .i64 e1), (wr.heap.size, 0, .int .i64 what), (wr.heap.size, 1, .int .i64 1), (wr.heap.size, 2, .int .u64 ta)] w64 := (KH_w63.out.step (by omega) (by go_grown)).step (by omega) hb_w64
              replace HB := Lib.hid (HB.out.below hb_w64)
              clear hb_w64
              have KH_w64 := Lib.hid K_w64
              have hw_w64 := K_w64.below
              have hz_w64 := K_w64.size
              have lC_w64 : w.heap.size < w64.heap.size := by omega
              have lK_w64 : w2.heap.size < w64.heap.size := by omega
              have lA_w64 : wr.heap.size < w64.heap.size := by omega
              clear lC_w63 lK_w63 lA_w63
              clear K_w64
              go_wp2_with fail
              refine wp_loop_rounds 3 ?_
              rw [rounds_succ]
              have cA0_w64 := KH_w64.out.at (b := wr.heap.size) (o := 0) (v := .int .i64 what) (by simp)
              have fA0_w64 := KH_w64.out.free (b := wr.heap.size) (o := 0) (v := .int .i64 what) (by simp)
              have cA1_w64 := KH_w64.out.at (b := wr.heap.size) (o := 1) (v := .int .i64 1) (by simp)
              have fA1_w64 := KH_w64.out.free (b := wr.heap.size) (o := 1) (v := .int .i64 1) (by simp)
              have cA2_w64 := KH_w64.out.at (b := wr.heap.size) (o := 2) (v := .int .u64 ta) (by simp)
              have fA2_w64 := KH_w64.out.free (b := wr.heap.size) (o := 2) (v := .int .u64 ta) (by simp)
              go_wp2_with fail
              with_reducible refine (lost15c P b2 ta (1) _ HB.out HH.out.ok HL.out).mono ?_
              rintro e w65 ⟨rfl, hb_w65⟩
              have K_w65 : Kept w.heap.size w (wr.heap.size + 1) [(w.heap.size, 0, .int .i64 n), (w.heap.size, 1, .int .u64 g), (w2.heap.size, 0, .int .i64 e0), (w2.heap.size, 1, .int .i64 e1), (wr.heap.size, 0, .int .i64 what), (wr.heap.size, 1, .int .i64 1), (wr.heap.size, 2, .int .u64 ta)] w65 := (KH_w64.out.step (by omega) (by go_grown)).step (by omega) hb_w65
              replace HB := Lib.hid (HB.out.below hb_w65)
              clear hb_w65
              have KH_w65 := Lib.hid K_w65
              have hw_w65 := K_w65.below
              have hz_w65 := K_w65.size
              have lC_w65 : w.heap.size < w65.heap.size := by omega
              have lK_w65 : w2.heap.size < w65.heap.size := by omega
              have lA_w65 : wr.heap.size < w65.heap.size := by omega
              clear lC_w64 lK_w64 lA_w64 cA0_w64 fA0_w64 cA1_w64 fA1_w64 cA2_w64 fA2_w64
              clear K_w65
              go_wp2_with fail
              refine rg5_38 (w0 := w) (B := w.heap.size) (n := wr.heap.size + 1) (L := [(w.heap.size, 0, .int .i64 n), (w.heap.size, 1, .int .u64 g), (w2.heap.size, 0, .int .i64 e0), (w2.heap.size, 1, .int .i64 e1), (wr.heap.size, 0, .int .i64 what), (wr.heap.size, 1, .int .i64 1), (wr.heap.size, 2, .int .u64 ta)]) (E := fun _ => True) (F := fun W => BookAt W P b2) (by kernel_rfl) (by kernel_rfl) (KH_w65.out.step (by omega) (by go_grown)) trivial (fun _ _ _ _ => trivial) (HB.out.below (by go_grown)) (fun _ _ h hb => h.below hb) (fun w66 K_w66 E_w66 F_w66 => ?_)
              have _ne : Nonempty (KX (w.heap.size) w (wr.heap.size + 1) [(w.heap.size, 0, .int .i64 n), (w.heap.size, 1, .int .u64 g), (w2.heap.size, 0, .int .i64 e0), (w2.heap.size, 1, .int .i64 e1), (wr.heap.size, 0, .int .i64 what), (wr.heap.size, 1, .int .i64 1), (wr.heap.size, 2, .int .u64 ta)] (fun _ => True)) := ⟨⟨_, K_w66, E_w66⟩⟩
              repeat (go_big_quiet_step (fail))
              refine wpQuiet_nil ?_
              have rC0 := rcx _ne w.heap.size 0 (.int .i64 n) (by simp)
              have rC1 := rcx _ne w.heap.size 1 (.int .u64 g) (by simp)
              have rK0 := rcx _ne w2.heap.size 0 (.int .i64 e0) (by simp)
              have rK1 := rcx _ne w2.heap.size 1 (.int .i64 e1) (by simp)
              have rA0 := rcx _ne wr.heap.size 0 (.int .i64 what) (by simp)
              have rA1 := rcx _ne wr.heap.size 1 (.int .i64 1) (by simp)
              have rA2 := rcx _ne wr.heap.size 2 (.int .u64 ta) (by simp)
              repeat (go_big_quiet_step (fail))
              refine wpQuiet_nil ?_
              clear rC0 rC1 rK0 rK1 rA0 rA1 rA2
              repeat (go_big_quiet_step (fail))
              refine wpQuiet_nil ?_
              have KH_w66 := Lib.hid K_w66
              have hw_w66 := K_w66.below
              have hz_w66 := K_w66.size
              have lC_w66 : w.heap.size < w66.heap.size := by omega
              have lK_w66 : w2.heap.size < w66.heap.size := by omega
              have lA_w66 : wr.heap.size < w66.heap.size := by omega
              clear lC_w65 lK_w65 lA_w65
              clear K_w66
              have HB := Lib.hid (F_w66)
              clear E_w66 F_w66
              refine ⟨fun K hK0 => ?_, trivial⟩
              have hK := Lib.hid hK0
              clear hK0
              go_wp2_with fail
              with_reducible refine (auto20_0c P b2 (decide (n ≤ e0)) _ HB.out HH.out.ok.n1 HH.out.a0).mono ?_
              rintro e w67 ⟨rfl, hb_w67⟩
              have K_w67 : Kept w.heap.size w (wr.heap.size + 1) [(w.heap.size, 0, .int .i64 n), (w.heap.size, 1, .int .u64 g), (w2.heap.size, 0, .int .i64 e0), (w2.heap.size, 1, .int .i64 e1), (wr.heap.size, 0, .int .i64 what), (wr.heap.size, 1, .int .i64 1), (wr.heap.size, 2, .int .u64 ta)] w67 := (KH_w66.out.step (by omega) (by go_grown)).step (by omega) hb_w67
              replace HB := Lib.hid (HB.out.below hb_w67)
              clear hb_w67
              have KH_w67 := Lib.hid K_w67
              have hw_w67 := K_w67.below
              have hz_w67 := K_w67.size
              have lC_w67 : w.heap.size < w67.heap.size := by omega
              have lK_w67 : w2.heap.size < w67.heap.size := by omega
              have lA_w67 : wr.heap.size < w67.heap.size := by omega
              clear lC_w66 lK_w66 lA_w66
              clear K_w67
              go_wp2_with fail
              first | (refine ⟨rfl, ⟨⟨_, KH_w67.out, trivial⟩, rfl⟩, hK.out _ _ ?_⟩; clear hK K) | (refine ⟨⟨⟨_, KH_w67.out, trivial⟩, rfl⟩, hK.out _ _ ?_⟩; clear hK K)
              repeat (go_big_quiet_step (fail))
              refine wpQuiet_nil ?_
              refine ⟨fun K hK0 => ?_, trivial⟩
              have hK := Lib.hid hK0
              clear hK0
              go_wp2_with fail
              first | (refine ⟨rfl, ⟨⟨_, KH_w67.out, trivial⟩, rfl⟩, hK.out _ _ ?_⟩; clear hK K) | (refine ⟨⟨⟨_, KH_w67.out, trivial⟩, rfl⟩, hK.out _ _ ?_⟩; clear hK K)
              repeat (go_big_quiet_step (fail))
              refine wpQuiet_nil ?_
              have rC0 := rcx _ne w.heap.size 0 (.int .i64 n) (by simp)
              have rC1 := rcx _ne w.heap.size 1 (.int .u64 g) (by simp)
              have rK0 := rcx _ne w2.heap.size 0 (.int .i64 e0) (by simp)
              have rK1 := rcx _ne w2.heap.size 1 (.int .i64 e1) (by simp)
              have rA0 := rcx _ne wr.heap.size 0 (.int .i64 what) (by simp)
              have rA1 := rcx _ne wr.heap.size 1 (.int .i64 1) (by simp)
              have rA2 := rcx _ne wr.heap.size 2 (.int .u64 ta) (by simp)
              repeat (go_big_quiet_step (fail))
              refine wpQuiet_nil ?_
              clear rC0 rC1 rK0 rK1 rA0 rA1 rA2
              refine ⟨fun K hK0 => ?_, trivial⟩
              have hK := Lib.hid hK0
              clear hK0
              go_wp2_with fail
              first | (refine ⟨rfl, ⟨⟨_, KH_w67.out, trivial⟩, rfl⟩, hK.out _ _ ?_⟩; clear hK K) | (refine ⟨⟨⟨_, KH_w67.out, trivial⟩, rfl⟩, hK.out _ _ ?_⟩; clear hK K)
              repeat (go_big_quiet_step (fail))
              refine wpQuiet_nil ?_
              clear _ne
              go_wp2_with fail
              rw [rounds_succ]
              have cA0_w67 := KH_w67.out.at (b := wr.heap.size) (o := 0) (v := .int .i64 what) (by simp)
              have fA0_w67 := KH_w67.out.free (b := wr.heap.size) (o := 0) (v := .int .i64 what) (by simp)
              have cA1_w67 := KH_w67.out.at (b := wr.heap.size) (o := 1) (v := .int .i64 1) (by simp)
              have fA1_w67 := KH_w67.out.free (b := wr.heap.size) (o := 1) (v := .int .i64 1) (by simp)
              have cA2_w67 := KH_w67.out.at (b := wr.heap.size) (o := 2) (v := .int .u64 ta) (by simp)
              have fA2_w67 := KH_w67.out.free (b := wr.heap.size) (o := 2) (v := .int .u64 ta) (by simp)
              go_wp2_with fail
              with_reducible refine (lost15c P b2 ta (1) _ HB.out HH.out.ok HL.out).mono ?_
              rintro e w68 ⟨rfl, hb_w68⟩
              have K_w68 : Kept w.heap.size w (wr.heap.size + 1) [(w.heap.size, 0, .int .i64 n), (w.heap.size, 1, .int .u64 g), (w2.heap.size, 0, .int .i64 e0), (w2.heap.size, 1, .int .i64 e1), (wr.heap.size, 0, .int .i64 what), (wr.heap.size, 1, .int .i64 1), (wr.heap.size, 2, .int .u64 ta)] w68 := (KH_w67.out.step (by omega) (by go_grown)).step (by omega) hb_w68
              replace HB := Lib.hid (HB.out.below hb_w68)
              clear hb_w68
              have KH_w68 := Lib.hid K_w68
              have hw_w68 := K_w68.below
              have hz_w68 := K_w68.size
              have lC_w68 : w.heap.size < w68.heap.size := by omega
              have lK_w68 : w2.heap.size < w68.heap.size := by omega
              have lA_w68 : wr.heap.size < w68.heap.size := by omega
              clear lC_w67 lK_w67 lA_w67 cA0_w67 fA0_w67 cA1_w67 fA1_w67 cA2_w67 fA2_w67
              clear K_w68
              go_wp2_with fail
              refine rg5_38 (w0 := w) (B := w.heap.size) (n := wr.heap.size + 1) (L := [(w.heap.size, 0, .int .i64 n), (w.heap.size, 1, .int .u64 g), (w2.heap.size, 0, .int .i64 e0), (w2.heap.size, 1, .int .i64 e1), (wr.heap.size, 0, .int .i64 what), (wr.heap.size, 1, .int .i64 1), (wr.heap.size, 2, .int .u64 ta)]) (E := fun _ => True) (F := fun W => BookAt W P b2) (by kernel_rfl) (by kernel_rfl) (KH_w68.out.step (by omega) (by go_grown)) trivial (fun _ _ _ _ => trivial) (HB.out.below (by go_grown)) (fun _ _ h hb => h.below hb) (fun w69 K_w69 E_w69 F_w69 => ?_)
              have _ne : Nonempty (KX (w.heap.size) w (wr.heap.size + 1) [(w.heap.size, 0, .int .i64 n), (w.heap.size, 1, .int .u64 g), (w2.heap.size, 0, .int .i64 e0), (w2.heap.size, 1, .int .i64 e1), (wr.heap.size, 0, .int .i64 what), (wr.heap.size, 1, .int .i64 1), (wr.heap.size, 2, .int .u64 ta)] (fun _ => True)) := ⟨⟨_, K_w69, E_w69⟩⟩
              repeat (go_big_quiet_step (fail))
              refine wpQuiet_nil ?_
              have rC0 := rcx _ne w.heap.size 0 (.int .i64 n) (by simp)
              have rC1 := rcx _ne w.heap.size 1 (.int .u64 g) (by simp)
              have rK0 := rcx _ne w2.heap.size 0 (.int .i64 e0) (by simp)
              have rK1 := rcx _ne w2.heap.size 1 (.int .i64 e1) (by simp)
              have rA0 := rcx _ne wr.heap.size 0 (.int .i64 what) (by simp)
              have rA1 := rcx _ne wr.heap.size 1 (.int .i64 1) (by simp)
              have rA2 := rcx _ne wr.heap.size 2 (.int .u64 ta) (by simp)
              repeat (go_big_quiet_step (fail))
              refine wpQuiet_nil ?_
              clear rC0 rC1 rK0 rK1 rA0 rA1 rA2
              repeat (go_big_quiet_step (fail))
              refine wpQuiet_nil ?_
              have KH_w69 := Lib.hid K_w69
              have hw_w69 := K_w69.below
              have hz_w69 := K_w69.size
              have lC_w69 : w.heap.size < w69.heap.size := by omega
              have lK_w69 : w2.heap.size < w69.heap.size := by omega
              have lA_w69 : wr.heap.size < w69.heap.size := by omega
              clear lC_w68 lK_w68 lA_w68
              clear K_w69
              have HB := Lib.hid (F_w69)
              clear E_w69 F_w69
              refine ⟨fun K hK0 => ?_, trivial⟩
              have hK := Lib.hid hK0
              clear hK0
              go_wp2_with fail
              with_reducible refine (auto20_1c P b2 (decide (n ≤ e1)) _ HB.out HH.out.ok.n1 HH.out.a1).mono ?_
              rintro e w70 ⟨rfl, hb_w70⟩
              have K_w70 : Kept w.heap.size w (wr.heap.size + 1) [(w.heap.size, 0, .int .i64 n), (w.heap.size, 1, .int .u64 g), (w2.heap.size, 0, .int .i64 e0), (w2.heap.size, 1, .int .i64 e1), (wr.heap.size, 0, .int .i64 what), (wr.heap.size, 1, .int .i64 1), (wr.heap.size, 2, .int .u64 ta)] w70 := (KH_w69.out.step (by omega) (by go_grown)).step (by omega) hb_w70
              replace HB := Lib.hid (HB.out.below hb_w70)
              clear hb_w70
              have KH_w70 := Lib.hid K_w70
              have hw_w70 := K_w70.below
              have hz_w70 := K_w70.size
              have lC_w70 : w.heap.size < w70.heap.size := by omega
              have lK_w70 : w2.heap.size < w70.heap.size := by omega
              have lA_w70 : wr.heap.size < w70.heap.size := by omega
              clear lC_w69 lK_w69 lA_w69
              clear K_w70
              go_wp2_with fail
              first | (refine ⟨rfl, ⟨⟨_, KH_w70.out, trivial⟩, rfl⟩, hK.out _ _ ?_⟩; clear hK K) | (refine ⟨⟨⟨_, KH_w70.out, trivial⟩, rfl⟩, hK.out _ _ ?_⟩; clear hK K)
              repeat (go_big_quiet_step (fail))
              refine wpQuiet_nil ?_
              refine ⟨fun K hK0 => ?_, trivial⟩
              have hK := Lib.hid hK0
              clear hK0
              go_wp2_with fail
              with_reducible refine (here18_1c P b2 false _ HB.out HH.out.ok.n1 V1.out.1).mono ?_
              rintro e w71 ⟨rfl, hb_w71⟩
              have K_w71 : Kept w.heap.size w (wr.heap.size + 1) [(w.heap.size, 0, .int .i64 n), (w.heap.size, 1, .int .u64 g), (w2.heap.size, 0, .int .i64 e0), (w2.heap.size, 1, .int .i64 e1), (wr.heap.size, 0, .int .i64 what), (wr.heap.size, 1, .int .i64 1), (wr.heap.size, 2, .int .u64 ta)] w71 := (KH_w70.out.step (by omega) (by go_grown)).step (by omega) hb_w71
              replace HB := Lib.hid (HB.out.below hb_w71)
              clear hb_w71
              have KH_w71 := Lib.hid K_w71
              have hw_w71 := K_w71.below
              have hz_w71 := K_w71.size
              have lC_w71 : w.heap.size < w71.heap.size := by omega
              have lK_w71 : w2.heap.size < w71.heap.size := by omega
              have lA_w71 : wr.heap.size < w71.heap.size := by omega
              clear lC_w70 lK_w70 lA_w70
              clear K_w71
              go_wp2_with fail
              first | (refine ⟨rfl, ⟨⟨_, KH_w71.out, trivial⟩, rfl⟩, hK.out _ _ ?_⟩; clear hK K) | (refine ⟨⟨⟨_, KH_w71.out, trivial⟩, rfl⟩, hK.out _ _ ?_⟩; clear hK K)
              repeat (go_big_quiet_step (fail))
              refine wpQuiet_nil ?_
              have rC0 := rcx _ne w.heap.size 0 (.int .i64 n) (by simp)
              have rC1 := rcx _ne w.heap.size 1 (.int .u64 g) (by simp)
              have rK0 := rcx _ne w2.heap.size 0 (.int .i64 e0) (by simp)
              have rK1 := rcx _ne w2.heap.size 1 (.int .i64 e1) (by simp)
              have rA0 := rcx _ne wr.heap.size 0 (.int .i64 what) (by simp)
              have rA1 := rcx _ne wr.heap.size 1 (.int .i64 1) (by simp)
              have rA2 := rcx _ne wr.heap.size 2 (.int .u64 ta) (by simp)
              repeat (go_big_quiet_step (fail))
              refine wpQuiet_nil ?_
              clear rC0 rC1 rK0 rK1 rA0 rA1 rA2
              refine ⟨fun K hK0 => ?_, trivial⟩
              have hK := Lib.hid hK0
              clear hK0
              go_wp2_with fail
              with_reducible refine (due19_1 P b2 _ HB.out HH.out.ok.n1 HH.out.ok.t1 (ug HH.out.ok)).mono ?_
              rintro e w72 ⟨rfl, hb_w72⟩
              have K_w72 : Kept w.heap.size w (wr.heap.size + 1) [(w.heap.size, 0, .int .i64 n), (w.heap.size, 1, .int .u64 g), (w2.heap.size, 0, .int .i64 e0), (w2.heap.size, 1, .int .i64 e1), (wr.heap.size, 0, .int .i64 what), (wr.heap.size, 1, .int .i64 1), (wr.heap.size, 2, .int .u64 ta)] w72 := (KH_w71.out.step (by omega) (by go_grown)).step (by omega) hb_w72
              replace HB := Lib.hid (HB.out.below hb_w72)
              clear hb_w72
              have KH_w72 := Lib.hid K_w72
              have hw_w72 := K_w72.below
              have hz_w72 := K_w72.size
              have lC_w72 : w.heap.size < w72.heap.size := by omega
              have lK_w72 : w2.heap.size < w72.heap.size := by omega
              have lA_w72 : wr.heap.size < w72.heap.size := by omega
              clear lC_w71 lK_w71 lA_w71
              clear K_w72
              go_wp2_with fail
              first | (refine ⟨rfl, ⟨⟨_, KH_w72.out, trivial⟩, rfl⟩, hK.out _ _ ?_⟩; clear hK K) | (refine ⟨⟨⟨_, KH_w72.out, trivial⟩, rfl⟩, hK.out _ _ ?_⟩; clear hK K)
              repeat (go_big_quiet_step (fail))
              refine wpQuiet_nil ?_
              clear _ne
              go_wp2_with fail
              rw [rounds_succ]
              go_wp2_with fail
              go_roundw
              case rel => exact ⟨k + 1, b2, e0, e1, by omega, by go_num, by omega, by omega, HB.out, HH.out, kept_less KH_w72.out (by omega) (by simp; omega)⟩
              case measure => simp [intOf]; omega
          · have HL := Lib.hid hL
            clear hL
            have V0 := Lib.hid (due_over v0)
            have z0 : decide (ta < b2.d0) = false := by have : b2.d0 ≤ ta := (due_over v0).2; simp; omega
            clear v0
            have V1 := Lib.hid (due_over v1)
            have z1 : decide (ta < b2.d1) = false := by have : b2.d1 ≤ ta := (due_over v1).2; simp; omega
            clear v1
            as_aux_lemma =>
              go_wp2_with fail
              with_reducible refine (auto20_0c P b2 b.a0 _ HB.out HH.out.ok.n1 M1.out).mono ?_
              rintro e w61 ⟨rfl, hb_w61⟩
              have K_w61 : Kept w.heap.size w (wr.heap.size + 1) [(w.heap.size, 0, .int .i64 n), (w.heap.size, 1, .int .u64 g), (w2.heap.size, 0, .int .i64 e0), (w2.heap.size, 1, .int .i64 e1), (wr.heap.size, 0, .int .i64 what), (wr.heap.size, 1, .int .i64 1), (wr.heap.size, 2, .int .u64 ta)] w61 := (KH_wc.out.step (by omega) (by go_grown)).step (by omega) hb_w61
              replace HB := Lib.hid (HB.out.below hb_w61)
              clear hb_w61
              have KH_w61 := Lib.hid K_w61
              have hw_w61 := K_w61.below
              have hz_w61 := K_w61.size
              have lC_w61 : w.heap.size < w61.heap.size := by omega
              have lK_w61 : w2.heap.size < w61.heap.size := by omega
              have lA_w61 : wr.heap.size < w61.heap.size := by omega
              clear K_w61
              go_wp2_with fail
              with_reducible refine (strikes21_0c P b2 b.s0 _ HB.out HH.out.ok.n1 M2.out).mono ?_
              rintro e w62 ⟨rfl, hb_w62⟩
              have K_w62 : Kept w.heap.size w (wr.heap.size + 1) [(w.heap.size, 0, .int .i64 n), (w.heap.size, 1, .int .u64 g), (w2.heap.size, 0, .int .i64 e0), (w2.heap.size, 1, .int .i64 e1), (wr.heap.size, 0, .int .i64 what), (wr.heap.size, 1, .int .i64 1), (wr.heap.size, 2, .int .u64 ta)] w62 := (KH_w61.out.step (by omega) (by go_grown)).step (by omega) hb_w62
              replace HB := Lib.hid (HB.out.below hb_w62)
              clear hb_w62
              have KH_w62 := Lib.hid K_w62
              have hw_w62 := K_w62.below
              have hz_w62 := K_w62.size
              have lC_w62 : w.heap.size < w62.heap.size := by omega
              have lK_w62 : w2.heap.size < w62.heap.size := by omega
              have lA_w62 : wr.heap.size < w62.heap.size := by omega
              clear lC_w61 lK_w61 lA_w61
              clear K_w62
              go_wp2_with fail
              with_reducible refine (here18_0c P b2 b.h0 _ HB.out HH.out.ok.n1 M3.out).mono ?_
              rintro e w63 ⟨rfl, hb_w63⟩
              have K_w63 : Kept w.heap.size w (wr.heap.size + 1) [(w.heap.size, 0, .int .i64 n), (w.heap.size, 1, .int .u64 g), (w2.heap.size, 0, .int .i64 e0), (w2.heap.size, 1, .int .i64 e1), (wr.heap.size, 0, .int .i64 what), (wr.heap.size, 1, .int .i64 1), (wr.heap.size, 2, .int .u64 ta)] w63 := (KH_w62.out.step (by omega) (by go_grown)).step (by omega) hb_w63
              replace HB := Lib.hid (HB.out.below hb_w63)
              clear hb_w63
              have KH_w63 := Lib.hid K_w63
              have hw_w63 := K_w63.below
              have hz_w63 := K_w63.size
              have lC_w63 : w.heap.size < w63.heap.size := by omega
              have lK_w63 : w2.heap.size < w63.heap.size := by omega
              have lA_w63 : wr.heap.size < w63.heap.size := by omega
              clear lC_w62 lK_w62 lA_w62
              clear K_w63
              go_wp2_with fail
              with_reducible refine (due19_0c P b2 b.d0 _ HB.out HH.out.ok.n1 HH.out.ok.t0 (ug HH.out.ok) M4.out).mono ?_
              rintro e w64 ⟨rfl, hb_w64⟩
              have K_w64 : Kept w.heap.size w (wr.heap.size + 1) [(w.heap.size, 0, .int .i64 n), (w.heap.size, 1, .int .u64 g), (w2.heap.size, 0, .int .i64 e0), (w2.heap.size, 1, .int .i64 e1), (wr.heap.size, 0, .int .i64 what), (wr.heap.size, 1, .int .i64 1), (wr.heap.size, 2, .int .u64 ta)] w64 := (KH_w63.out.step (by omega) (by go_grown)).step (by omega) hb_w64
              replace HB := Lib.hid (HB.out.below hb_w64)
              clear hb_w64
              have KH_w64 := Lib.hid K_w64
              have hw_w64 := K_w64.below
              have hz_w64 := K_w64.size
              have lC_w64 : w.heap.size < w64.heap.size := by omega
              have lK_w64 : w2.heap.size < w64.heap.size := by omega
              have lA_w64 : wr.heap.size < w64.heap.size := by omega
              clear lC_w63 lK_w63 lA_w63
              clear K_w64
              go_wp2_with fail
              refine wp_loop_rounds 3 ?_
              rw [rounds_succ]
              have cA0_w64 := KH_w64.out.at (b := wr.heap.size) (o := 0) (v := .int .i64 what) (by simp)
              have fA0_w64 := KH_w64.out.free (b := wr.heap.size) (o := 0) (v := .int .i64 what) (by simp)
              have cA1_w64 := KH_w64.out.at (b := wr.heap.size) (o := 1) (v := .int .i64 1) (by simp)
              have fA1_w64 := KH_w64.out.free (b := wr.heap.size) (o := 1) (v := .int .i64 1) (by simp)
              have cA2_w64 := KH_w64.out.at (b := wr.heap.size) (o := 2) (v := .int .u64 ta) (by simp)
              have fA2_w64 := KH_w64.out.free (b := wr.heap.size) (o := 2) (v := .int .u64 ta) (by simp)
              go_wp2_with fail
              with_reducible refine (lost15c P b2 ta (2) _ HB.out HH.out.ok HL.out).mono ?_
              rintro e w65 ⟨rfl, hb_w65⟩
              have K_w65 : Kept w.heap.size w (wr.heap.size + 1) [(w.heap.size, 0, .int .i64 n), (w.heap.size, 1, .int .u64 g), (w2.heap.size, 0, .int .i64 e0), (w2.heap.size, 1, .int .i64 e1), (wr.heap.size, 0, .int .i64 what), (wr.heap.size, 1, .int .i64 1), (wr.heap.size, 2, .int .u64 ta)] w65 := (KH_w64.out.step (by omega) (by go_grown)).step (by omega) hb_w65
              replace HB := Lib.hid (HB.out.below hb_w65)
              clear hb_w65
              have KH_w65 := Lib.hid K_w65
              have hw_w65 := K_w65.below
              have hz_w65 := K_w65.size
              have lC_w65 : w.heap.size < w65.heap.size := by omega
              have lK_w65 : w2.heap.size < w65.heap.size := by omega
              have lA_w65 : wr.heap.size < w65.heap.size := by omega
              clear lC_w64 lK_w64 lA_w64 cA0_w64 fA0_w64 cA1_w64 fA1_w64 cA2_w64 fA2_w64
              clear K_w65
              go_wp2_with fail
              refine rg5_38 (w0 := w) (B := w.heap.size) (n := wr.heap.size + 1) (L := [(w.heap.size, 0, .int .i64 n), (w.heap.size, 1, .int .u64 g), (w2.heap.size, 0, .int .i64 e0), (w2.heap.size, 1, .int .i64 e1), (wr.heap.size, 0, .int .i64 what), (wr.heap.size, 1, .int .i64 1), (wr.heap.size, 2, .int .u64 ta)]) (E := fun _ => True) (F := fun W => BookAt W P b2) (by kernel_rfl) (by kernel_rfl) (KH_w65.out.step (by omega) (by go_grown)) trivial (fun _ _ _ _ => trivial) (HB.out.below (by go_grown)) (fun _ _ h hb => h.below hb) (fun w66 K_w66 E_w66 F_w66 => ?_)
              have _ne : Nonempty (KX (w.heap.size) w (wr.heap.size + 1) [(w.heap.size, 0, .int .i64 n), (w.heap.size, 1, .int .u64 g), (w2.heap.size, 0, .int .i64 e0), (w2.heap.size, 1, .int .i64 e1), (wr.heap.size, 0, .int .i64 what), (wr.heap.size, 1, .int .i64 1), (wr.heap.size, 2, .int .u64 ta)] (fun _ => True)) := ⟨⟨_, K_w66, E_w66⟩⟩
              repeat (go_big_quiet_step (fail))
              refine wpQuiet_nil ?_
              have rC0 := rcx _ne w.heap.size 0 (.int .i64 n) (by simp)
              have rC1 := rcx _ne w.heap.size 1 (.int .u64 g) (by simp)
              have rK0 := rcx _ne w2.heap.size 0 (.int .i64 e0) (by simp)
              have rK1 := rcx _ne w2.heap.size 1 (.int .i64 e1) (by simp)
              have rA0 := rcx _ne wr.heap.size 0 (.int .i64 what) (by simp)
              have rA1 := rcx _ne wr.heap.size 1 (.int .i64 1) (by simp)
              have rA2 := rcx _ne wr.heap.size 2 (.int .u64 ta) (by simp)
              repeat (go_big_quiet_step (fail))
              refine wpQuiet_nil ?_
              clear rC0 rC1 rK0 rK1 rA0 rA1 rA2
              repeat (go_big_quiet_step (fail))
              refine wpQuiet_nil ?_
              have KH_w66 := Lib.hid K_w66
              have hw_w66 := K_w66.below
              have hz_w66 := K_w66.size
              have lC_w66 : w.heap.size < w66.heap.size := by omega
              have lK_w66 : w2.heap.size < w66.heap.size := by omega
              have lA_w66 : wr.heap.size < w66.heap.size := by omega
              clear lC_w65 lK_w65 lA_w65
              clear K_w66
              have HB := Lib.hid (F_w66)
              clear E_w66 F_w66
              refine ⟨fun K hK0 => ?_, trivial⟩
              have hK := Lib.hid hK0
              clear hK0
              go_wp2_with fail
              with_reducible refine (auto20_0c P b2 (decide (n ≤ e0)) _ HB.out HH.out.ok.n1 HH.out.a0).mono ?_
              rintro e w67 ⟨rfl, hb_w67⟩
              have K_w67 : Kept w.heap.size w (wr.heap.size + 1) [(w.heap.size, 0, .int .i64 n), (w.heap.size, 1, .int .u64 g), (w2.heap.size, 0, .int .i64 e0), (w2.heap.size, 1, .int .i64 e1), (wr.heap.size, 0, .int .i64 what), (wr.heap.size, 1, .int .i64 1), (wr.heap.size, 2, .int .u64 ta)] w67 := (KH_w66.out.step (by omega) (by go_grown)).step (by omega) hb_w67
              replace HB := Lib.hid (HB.out.below hb_w67)
              clear hb_w67
              have KH_w67 := Lib.hid K_w67
              have hw_w67 := K_w67.below
              have hz_w67 := K_w67.size
              have lC_w67 : w.heap.size < w67.heap.size := by omega
              have lK_w67 : w2.heap.size < w67.heap.size := by omega
              have lA_w67 : wr.heap.size < w67.heap.size := by omega
              clear lC_w66 lK_w66 lA_w66
              clear K_w67
              go_wp2_with fail
              first | (refine ⟨rfl, ⟨⟨_, KH_w67.out, trivial⟩, rfl⟩, hK.out _ _ ?_⟩; clear hK K) | (refine ⟨⟨⟨_, KH_w67.out, trivial⟩, rfl⟩, hK.out _ _ ?_⟩; clear hK K)
              repeat (go_big_quiet_step (fail))
              refine wpQuiet_nil ?_
              refine ⟨fun K hK0 => ?_, trivial⟩
              have hK := Lib.hid hK0
              clear hK0
              go_wp2_with fail
              with_reducible refine (here18_0c P b2 false _ HB.out HH.out.ok.n1 V0.out.1).mono ?_
              rintro e w68 ⟨rfl, hb_w68⟩
              have K_w68 : Kept w.heap.size w (wr.heap.size + 1) [(w.heap.size, 0, .int .i64 n), (w.heap.size, 1, .int .u64 g), (w2.heap.size, 0, .int .i64 e0), (w2.heap.size, 1, .int .i64 e1), (wr.heap.size, 0, .int .i64 what), (wr.heap.size, 1, .int .i64 1), (wr.heap.size, 2, .int .u64 ta)] w68 := (KH_w67.out.step (by omega) (by go_grown)).step (by omega) hb_w68
              replace HB := Lib.hid (HB.out.below hb_w68)
              clear hb_w68
              have KH_w68 := Lib.hid K_w68
              have hw_w68 := K_w68.below
              have hz_w68 := K_w68.size
              have lC_w68 : w.heap.size < w68.heap.size := by omega
              have lK_w68 : w2.heap.size < w68.heap.size := by omega
              have lA_w68 : wr.heap.size < w68.heap.size := by omega
              clear lC_w67 lK_w67 lA_w67
              clear K_w68
              go_wp2_with fail
              first | (refine ⟨rfl, ⟨⟨_, KH_w68.out, trivial⟩, rfl⟩, hK.out _ _ ?_⟩; clear hK K) | (refine ⟨⟨⟨_, KH_w68.out, trivial⟩, rfl⟩, hK.out _ _ ?_⟩; clear hK K)
              repeat (go_big_quiet_step (fail))
              refine wpQuiet_nil ?_
              have rC0 := rcx _ne w.heap.size 0 (.int .i64 n) (by simp)
              have rC1 := rcx _ne w.heap.size 1 (.int .u64 g) (by simp)
              have rK0 := rcx _ne w2.heap.size 0 (.int .i64 e0) (by simp)
              have rK1 := rcx _ne w2.heap.size 1 (.int .i64 e1) (by simp)
              have rA0 := rcx _ne wr.heap.size 0 (.int .i64 what) (by simp)
              have rA1 := rcx _ne wr.heap.size 1 (.int .i64 1) (by simp)
              have rA2 := rcx _ne wr.heap.size 2 (.int .u64 ta) (by simp)
              repeat (go_big_quiet_step (fail))
              refine wpQuiet_nil ?_
              clear rC0 rC1 rK0 rK1 rA0 rA1 rA2
              refine ⟨fun K hK0 => ?_, trivial⟩
              have hK := Lib.hid hK0
              clear hK0
              go_wp2_with fail
              with_reducible refine (due19_0 P b2 _ HB.out HH.out.ok.n1 HH.out.ok.t0 (ug HH.out.ok)).mono ?_
              rintro e w69 ⟨rfl, hb_w69⟩
              have K_w69 : Kept w.heap.size w (wr.heap.size + 1) [(w.heap.size, 0, .int .i64 n), (w.heap.size, 1, .int .u64 g), (w2.heap.size, 0, .int .i64 e0), (w2.heap.size, 1, .int .i64 e1), (wr.heap.size, 0, .int .i64 what), (wr.heap.size, 1, .int .i64 1), (wr.heap.size, 2, .int .u64 ta)] w69 := (KH_w68.out.step (by omega) (by go_grown)).step (by omega) hb_w69
              replace HB := Lib.hid (HB.out.below hb_w69)
              clear hb_w69
              have KH_w69 := Lib.hid K_w69
              have hw_w69 := K_w69.below
              have hz_w69 := K_w69.size
              have lC_w69 : w.heap.size < w69.heap.size := by omega
              have lK_w69 : w2.heap.size < w69.heap.size := by omega
              have lA_w69 : wr.heap.size < w69.heap.size := by omega
              clear lC_w68 lK_w68 lA_w68
              clear K_w69
              go_wp2_with fail
              first | (refine ⟨rfl, ⟨⟨_, KH_w69.out, trivial⟩, rfl⟩, hK.out _ _ ?_⟩; clear hK K) | (refine ⟨⟨⟨_, KH_w69.out, trivial⟩, rfl⟩, hK.out _ _ ?_⟩; clear hK K)
              repeat (go_big_quiet_step (fail))
              refine wpQuiet_nil ?_
              clear _ne
              go_wp2_with fail
              rw [rounds_succ]
              have cA0_w69 := KH_w69.out.at (b := wr.heap.size) (o := 0) (v := .int .i64 what) (by simp)
              have fA0_w69 := KH_w69.out.free (b := wr.heap.size) (o := 0) (v := .int .i64 what) (by simp)
              have cA1_w69 := KH_w69.out.at (b := wr.heap.size) (o := 1) (v := .int .i64 1) (by simp)
              have fA1_w69 := KH_w69.out.free (b := wr.heap.size) (o := 1) (v := .int .i64 1) (by simp)
              have cA2_w69 := KH_w69.out.at (b := wr.heap.size) (o := 2) (v := .int .u64 ta) (by simp)
              have fA2_w69 := KH_w69.out.free (b := wr.heap.size) (o := 2) (v := .int .u64 ta) (by simp)
              go_wp2_with fail
              with_reducible refine (lost15c P b2 ta (2) _ HB.out HH.out.ok HL.out).mono ?_
              rintro e w70 ⟨rfl, hb_w70⟩
              have K_w70 : Kept w.heap.size w (wr.heap.size + 1) [(w.heap.size, 0, .int .i64 n), (w.heap.size, 1, .int .u64 g), (w2.heap.size, 0, .int .i64 e0), (w2.heap.size, 1, .int .i64 e1), (wr.heap.size, 0, .int .i64 what), (wr.heap.size, 1, .int .i64 1), (wr.heap.size, 2, .int .u64 ta)] w70 := (KH_w69.out.step (by omega) (by go_grown)).step (by omega) hb_w70
              replace HB := Lib.hid (HB.out.below hb_w70)
              clear hb_w70
              have KH_w70 := Lib.hid K_w70
              have hw_w70 := K_w70.below
              have hz_w70 := K_w70.size
              have lC_w70 : w.heap.size < w70.heap.size := by omega
              have lK_w70 : w2.heap.size < w70.heap.size := by omega
              have lA_w70 : wr.heap.size < w70.heap.size := by omega
              clear lC_w69 lK_w69 lA_w69 cA0_w69 fA0_w69 cA1_w69 fA1_w69 cA2_w69 fA2_w69
              clear K_w70
              go_wp2_with fail
              refine rg5_38 (w0 := w) (B := w.heap.size) (n := wr.heap.size + 1) (L := [(w.heap.size, 0, .int .i64 n), (w.heap.size, 1, .int .u64 g), (w2.heap.size, 0, .int .i64 e0), (w2.heap.size, 1, .int .i64 e1), (wr.heap.size, 0, .int .i64 what), (wr.heap.size, 1, .int .i64 1), (wr.heap.size, 2, .int .u64 ta)]) (E := fun _ => True) (F := fun W => BookAt W P b2) (by kernel_rfl) (by kernel_rfl) (KH_w70.out.step (by omega) (by go_grown)) trivial (fun _ _ _ _ => trivial) (HB.out.below (by go_grown)) (fun _ _ h hb => h.below hb) (fun w71 K_w71 E_w71 F_w71 => ?_)
              have _ne : Nonempty (KX (w.heap.size) w (wr.heap.size + 1) [(w.heap.size, 0, .int .i64 n), (w.heap.size, 1, .int .u64 g), (w2.heap.size, 0, .int .i64 e0), (w2.heap.size, 1, .int .i64 e1), (wr.heap.size, 0, .int .i64 what), (wr.heap.size, 1, .int .i64 1), (wr.heap.size, 2, .int .u64 ta)] (fun _ => True)) := ⟨⟨_, K_w71, E_w71⟩⟩
              repeat (go_big_quiet_step (fail))
              refine wpQuiet_nil ?_
              have rC0 := rcx _ne w.heap.size 0 (.int .i64 n) (by simp)
              have rC1 := rcx _ne w.heap.size 1 (.int .u64 g) (by simp)
              have rK0 := rcx _ne w2.heap.size 0 (.int .i64 e0) (by simp)
              have rK1 := rcx _ne w2.heap.size 1 (.int .i64 e1) (by simp)
              have rA0 := rcx _ne wr.heap.size 0 (.int .i64 what) (by simp)
              have rA1 := rcx _ne wr.heap.size 1 (.int .i64 1) (by simp)
              have rA2 := rcx _ne wr.heap.size 2 (.int .u64 ta) (by simp)
              repeat (go_big_quiet_step (fail))
              refine wpQuiet_nil ?_
              clear rC0 rC1 rK0 rK1 rA0 rA1 rA2
              repeat (go_big_quiet_step (fail))
              refine wpQuiet_nil ?_
              have KH_w71 := Lib.hid K_w71
              have hw_w71 := K_w71.below
              have hz_w71 := K_w71.size
              have lC_w71 : w.heap.size < w71.heap.size := by omega
              have lK_w71 : w2.heap.size < w71.heap.size := by omega
              have lA_w71 : wr.heap.size < w71.heap.size := by omega
              clear lC_w70 lK_w70 lA_w70
              clear K_w71
              have HB := Lib.hid (F_w71)
              clear E_w71 F_w71
              refine ⟨fun K hK0 => ?_, trivial⟩
              have hK := Lib.hid hK0
              clear hK0
              go_wp2_with fail
              with_reducible refine (auto20_1c P b2 (decide (n ≤ e1)) _ HB.out HH.out.ok.n1 HH.out.a1).mono ?_
              rintro e w72 ⟨rfl, hb_w72⟩
              have K_w72 : Kept w.heap.size w (wr.heap.size + 1) [(w.heap.size, 0, .int .i64 n), (w.heap.size, 1, .int .u64 g), (w2.heap.size, 0, .int .i64 e0), (w2.heap.size, 1, .int .i64 e1), (wr.heap.size, 0, .int .i64 what), (wr.heap.size, 1, .int .i64 1), (wr.heap.size, 2, .int .u64 ta)] w72 := (KH_w71.out.step (by omega) (by go_grown)).step (by omega) hb_w72
              replace HB := Lib.hid (HB.out.below hb_w72)
              clear hb_w72
              have KH_w72 := Lib.hid K_w72
              have hw_w72 := K_w72.below
              have hz_w72 := K_w72.size
              have lC_w72 : w.heap.size < w72.heap.size := by omega
              have lK_w72 : w2.heap.size < w72.heap.size := by omega
              have lA_w72 : wr.heap.size < w72.heap.size := by omega
              clear lC_w71 lK_w71 lA_w71
              clear K_w72
              go_wp2_with fail
              first | (refine ⟨rfl, ⟨⟨_, KH_w72.out, trivial⟩, rfl⟩, hK.out _ _ ?_⟩; clear hK K) | (refine ⟨⟨⟨_, KH_w72.out, trivial⟩, rfl⟩, hK.out _ _ ?_⟩; clear hK K)
              repeat (go_big_quiet_step (fail))
              refine wpQuiet_nil ?_
              refine ⟨fun K hK0 => ?_, trivial⟩
              have hK := Lib.hid hK0
              clear hK0
              go_wp2_with fail
              with_reducible refine (here18_1c P b2 false _ HB.out HH.out.ok.n1 V1.out.1).mono ?_
              rintro e w73 ⟨rfl, hb_w73⟩
              have K_w73 : Kept w.heap.size w (wr.heap.size + 1) [(w.heap.size, 0, .int .i64 n), (w.heap.size, 1, .int .u64 g), (w2.heap.size, 0, .int .i64 e0), (w2.heap.size, 1, .int .i64 e1), (wr.heap.size, 0, .int .i64 what), (wr.heap.size, 1, .int .i64 1), (wr.heap.size, 2, .int .u64 ta)] w73 := (KH_w72.out.step (by omega) (by go_grown)).step (by omega) hb_w73
              replace HB := Lib.hid (HB.out.below hb_w73)
              clear hb_w73
              have KH_w73 := Lib.hid K_w73
              have hw_w73 := K_w73.below
              have hz_w73 := K_w73.size
              have lC_w73 : w.heap.size < w73.heap.size := by omega
              have lK_w73 : w2.heap.size < w73.heap.size := by omega
              have lA_w73 : wr.heap.size < w73.heap.size := by omega
              clear lC_w72 lK_w72 lA_w72
              clear K_w73
              go_wp2_with fail
              first | (refine ⟨rfl, ⟨⟨_, KH_w73.out, trivial⟩, rfl⟩, hK.out _ _ ?_⟩; clear hK K) | (refine ⟨⟨⟨_, KH_w73.out, trivial⟩, rfl⟩, hK.out _ _ ?_⟩; clear hK K)
              repeat (go_big_quiet_step (fail))
              refine wpQuiet_nil ?_
              have rC0 := rcx _ne w.heap.size 0 (.int .i64 n) (by simp)
              have rC1 := rcx _ne w.heap.size 1 (.int .u64 g) (by simp)
              have rK0 := rcx _ne w2.heap.size 0 (.int .i64 e0) (by simp)
              have rK1 := rcx _ne w2.heap.size 1 (.int .i64 e1) (by simp)
              have rA0 := rcx _ne wr.heap.size 0 (.int .i64 what) (by simp)
              have rA1 := rcx _ne wr.heap.size 1 (.int .i64 1) (by simp)
              have rA2 := rcx _ne wr.heap.size 2 (.int .u64 ta) (by simp)
              repeat (go_big_quiet_step (fail))
              refine wpQuiet_nil ?_
              clear rC0 rC1 rK0 rK1 rA0 rA1 rA2
              refine ⟨fun K hK0 => ?_, trivial⟩
              have hK := Lib.hid hK0
              clear hK0
              go_wp2_with fail
              with_reducible refine (due19_1 P b2 _ HB.out HH.out.ok.n1 HH.out.ok.t1 (ug HH.out.ok)).mono ?_
              rintro e w74 ⟨rfl, hb_w74⟩
              have K_w74 : Kept w.heap.size w (wr.heap.size + 1) [(w.heap.size, 0, .int .i64 n), (w.heap.size, 1, .int .u64 g), (w2.heap.size, 0, .int .i64 e0), (w2.heap.size, 1, .int .i64 e1), (wr.heap.size, 0, .int .i64 what), (wr.heap.size, 1, .int .i64 1), (wr.heap.size, 2, .int .u64 ta)] w74 := (KH_w73.out.step (by omega) (by go_grown)).step (by omega) hb_w74
              replace HB := Lib.hid (HB.out.below hb_w74)
              clear hb_w74
              have KH_w74 := Lib.hid K_w74
              have hw_w74 := K_w74.below
              have hz_w74 := K_w74.size
              have lC_w74 : w.heap.size < w74.heap.size := by omega
              have lK_w74 : w2.heap.size < w74.heap.size := by omega
              have lA_w74 : wr.heap.size < w74.heap.size := by omega
              clear lC_w73 lK_w73 lA_w73
              clear K_w74
              go_wp2_with fail
              first | (refine ⟨rfl, ⟨⟨_, KH_w74.out, trivial⟩, rfl⟩, hK.out _ _ ?_⟩; clear hK K) | (refine ⟨⟨⟨_, KH_w74.out, trivial⟩, rfl⟩, hK.out _ _ ?_⟩; clear hK K)
              repeat (go_big_quiet_step (fail))
              refine wpQuiet_nil ?_
              clear _ne
              go_wp2_with fail
              rw [rounds_succ]
              go_wp2_with fail
              go_roundw
              case rel => exact ⟨k + 1, b2, e0, e1, by omega, by go_num, by omega, by omega, HB.out, HH.out, kept_less KH_w74.out (by omega) (by simp; omega)⟩
              case measure => simp [intOf]; omega
      · have r0 : (p != 0) = true := by simpa using p0
        have r1 : (p != 1) = true := by simpa using p1
        go_wp2_with fail
        go_roundw
        case rel => exact ⟨k + 1, b, c0, c1, by omega, by go_num, by omega, by omega, HB.out.below (by go_grown), HH.out, KH_wr.out.step (by omega) (by go_grown)⟩
        case measure => simp [intOf]; omega
    · have ek : ¬ k < rows.length := hk2
      go_wp2_with fail
      with_reducible refine (known11 _).mono ?_
      rintro e w91 ⟨rfl, hb_w91⟩
      have K_w91 : Kept w.heap.size w (w2.heap.size + 1) [(w.heap.size, 0, .int .i64 n), (w.heap.size, 1, .int .u64 g), (w2.heap.size, 0, .int .i64 c0), (w2.heap.size, 1, .int .i64 c1)] w91 := (KH_wr.out.step (by omega) (by go_grown)).step (by omega) hb_w91
      clear hb_w91
      have KH_w91 := Lib.hid K_w91
      have hw_w91 := K_w91.below
      have hz_w91 := K_w91.size
      have lC_w91 : w.heap.size < w91.heap.size := by omega
      have lK_w91 : w2.heap.size < w91.heap.size := by omega
      clear K_w91
      go_wp2_with fail
      go_returns
      exact ⟨rfl, by go_grown⟩

end Go.Proofs.Ytobkgdhniibopaa
