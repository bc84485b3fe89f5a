/- LobbyPlays: the walk. -/
import Derived.Test.YtonaidjdkejoeaaSp
import Derived.Test.YtonaidjdkejoeaaSRow
import Derived.LoopTactic
namespace Go.Proofs.Ytonaidjdkejoeaa
open Go.RowKit Plain Go.Deep
set_option linter.unusedVariables false
set_option linter.unusedSimpArgs false

set_option maxRecDepth 100000 in
set_option maxHeartbeats 2000000 in
theorem plays6_bad (ba st to' : Int) (v1 : Value) (w : World) (HV : Hid (vC ba st to' = false)) : Calls Try.prog 6 #[.agg #[.int .i64 ba, .int .i64 st, .int .u64 to'], v1] w fun e w' => e = .returned (.bool true) ∧ Below w.heap.size w w' := by
  go_enter Try.func6, Try.ntmps6
  go_wp2_with fail
  with_reducible refine (allowed13c ba st to' false _ HV.out).mono ?_
  rintro e w1 ⟨rfl, hb_w1⟩
  have K_w1 : Kept w.heap.size w (w.heap.size + 1) [(w.heap.size, 0, .int .i64 ba), (w.heap.size, 1, .int .i64 st), (w.heap.size, 2, .int .u64 to')] w1 := Kept.of hb_w1 (by go_grown) (by go_size) (by omega) (by simp [go_sem] <;> omega)
  clear hb_w1
  have KH_w1 := Lib.hid K_w1
  have hw_w1 := K_w1.below
  have hz_w1 := K_w1.size
  have lC_w1 : w.heap.size < w1.heap.size := by omega
  clear K_w1
  go_wp2_with fail
  with_reducible refine (known _).mono ?_
  rintro e w2 ⟨rfl, hb_w2⟩
  have K_w2 := (KH_w1.out.step (by omega) (by go_grown)).step (by omega) hb_w2
  clear hb_w2
  have KH_w2 := Lib.hid K_w2
  have hw_w2 := K_w2.below
  have hz_w2 := K_w2.size
  have lC_w2 : w.heap.size < w2.heap.size := by omega
  clear lC_w1
  clear K_w2
  go_wp2_with fail
  go_returns
  exact ⟨rfl, by go_grown⟩

set_option maxRecDepth 100000 in
set_option maxHeartbeats 2000000 in
theorem plays6_long (ba st to' : Int) (a1 : Option Addr) (len1 c1 : Nat) (w : World) (HV : Hid (vC ba st to' = true)) (hl : 60 < len1) : Calls Try.prog 6 #[.agg #[.int .i64 ba, .int .i64 st, .int .u64 to'], .slice a1 len1 c1] w fun e w' => e = .returned (.bool true) ∧ Below w.heap.size w w' := by
  have q : decide ((60 : Int) < (len1 : Int)) = true := by simp; omega
  go_enter Try.func6, Try.ntmps6
  go_wp2_with fail
  with_reducible refine (allowed13c ba st to' true _ HV.out).mono ?_
  rintro e w1 ⟨rfl, hb_w1⟩
  have K_w1 : Kept w.heap.size w (w.heap.size + 1) [(w.heap.size, 0, .int .i64 ba), (w.heap.size, 1, .int .i64 st), (w.heap.size, 2, .int .u64 to')] w1 := Kept.of hb_w1 (by go_grown) (by go_size) (by omega) (by simp [go_sem] <;> omega)
  clear hb_w1
  have KH_w1 := Lib.hid K_w1
  have hw_w1 := K_w1.below
  have hz_w1 := K_w1.size
  have lC_w1 : w.heap.size < w1.heap.size := by omega
  clear K_w1
  go_wp2_with fail
  with_reducible refine (known _).mono ?_
  rintro e w2 ⟨rfl, hb_w2⟩
  have K_w2 := (KH_w1.out.step (by omega) (by go_grown)).step (by omega) hb_w2
  clear hb_w2
  have KH_w2 := Lib.hid K_w2
  have hw_w2 := K_w2.below
  have hz_w2 := K_w2.size
  have lC_w2 : w.heap.size < w2.heap.size := by omega
  clear lC_w1
  clear K_w2
  go_wp2_with fail
  go_returns
  exact ⟨rfl, by go_grown⟩

def PyRel (w : World) (M n : Nat) (s t : Value) (wr : World) : Prop := ∃ (k P : Nat) (x : Lb) (v lv : Value), k ≤ n ∧ t = .int .i64 k ∧ s = .pointer (some ⟨P, 0, none⟩) ∧ LobAt wr P x v ∧ ModAt wr M x lv ∧ x.Ok ∧ x.Nd ∧ w.heap.size ≤ P ∧ (∀ b, v.ownBlock = some b → w.heap.size ≤ b) ∧ Below w.heap.size w wr
theorem nd_nil2 (ba st to' now : Int) : (⟨ba, st, to', now, []⟩ : Lb).Nd := fun i k p q h => by simp at h
theorem vC_ok2 {ba st to' : Int} (h : vC ba st to' = true) : (⟨ba, st, to', 0, []⟩ : Lb).Ok := by
  unfold vC at h
  have h := of_decide_eq_true h
  exact ⟨h.1, h.2.1, h.2.2.1, h.2.2.2.1, h.2.2.2.2.1, h.2.2.2.2.2, (by unfold U; simp), (fun p hp => by cases hp), (by simp)⟩
set_option maxRecDepth 100000 in
set_option maxHeartbeats 4000000 in
theorem plays6 (ba st to' : Int) (a1 : Option Addr) (c1 : Nat) (rows : List (List Int)) (w : World) (HV : Hid (vC ba st to' = true)) (h60 : rows.length ≤ 60) (hs : SRow [.i64, .i64, .i64, .u64] w (.slice a1 rows.length c1) rows) : Calls Try.prog 6 #[.agg #[.int .i64 ba, .int .i64 st, .int .u64 to'], .slice a1 rows.length c1] w fun e w' => e = .returned (.bool true) ∧ Below w.heap.size w w' := by
  have q : decide ((60 : Int) < (rows.length : Int)) = false := by simp; omega
  have HS := Lib.hid hs
  clear hs
  go_enter Try.func6, Try.ntmps6
  go_wp2_with fail
  with_reducible refine (allowed13c ba st to' true _ HV.out).mono ?_
  rintro e w1 ⟨rfl, hb_w1⟩
  have K_w1 : Kept w.heap.size w (w.heap.size + 1) [(w.heap.size, 0, .int .i64 ba), (w.heap.size, 1, .int .i64 st), (w.heap.size, 2, .int .u64 to')] w1 := Kept.of hb_w1 (by go_grown) (by go_size) (by omega) (by simp [go_sem] <;> omega)
  clear hb_w1
  have KH_w1 := Lib.hid K_w1
  have hw_w1 := K_w1.below
  have hz_w1 := K_w1.size
  have lC_w1 : w.heap.size < w1.heap.size := by omega
  clear K_w1
  have cC0_w1 := KH_w1.out.at (b := w.heap.size) (o := 0) (v := .int .i64 ba) (by simp)
  have fC0_w1 := KH_w1.out.free (b := w.heap.size) (o := 0) (v := .int .i64 ba) (by simp)
  have cC1_w1 := KH_w1.out.at (b := w.heap.size) (o := 1) (v := .int .i64 st) (by simp)
  have fC1_w1 := KH_w1.out.free (b := w.heap.size) (o := 1) (v := .int .i64 st) (by simp)
  have cC2_w1 := KH_w1.out.at (b := w.heap.size) (o := 2) (v := .int .u64 to') (by simp)
  have fC2_w1 := KH_w1.out.free (b := w.heap.size) (o := 2) (v := .int .u64 to') (by simp)
  go_wp2_with fail
  with_reducible refine (new9 ba st to' _ HV.out).mono ?_
  rintro e w2 ⟨P, rfl, hP, hlob, hb_w2⟩
  have K_w2 := (KH_w1.out.step (by omega) (by go_grown)).step (by omega) hb_w2
  clear hb_w2
  have KH_w2 := Lib.hid K_w2
  have hw_w2 := K_w2.below
  have hz_w2 := K_w2.size
  have lC_w2 : w.heap.size < w2.heap.size := by omega
  clear lC_w1 cC0_w1 fC0_w1 cC1_w1 fC1_w1 cC2_w1 fC2_w1
  clear K_w2
  have HL := Lib.hid hlob
  clear hlob
  have cC0_w2 := KH_w2.out.at (b := w.heap.size) (o := 0) (v := .int .i64 ba) (by simp)
  have fC0_w2 := KH_w2.out.free (b := w.heap.size) (o := 0) (v := .int .i64 ba) (by simp)
  have cC1_w2 := KH_w2.out.at (b := w.heap.size) (o := 1) (v := .int .i64 st) (by simp)
  have fC1_w2 := KH_w2.out.free (b := w.heap.size) (o := 1) (v := .int .i64 st) (by simp)
  have cC2_w2 := KH_w2.out.at (b := w.heap.size) (o := 2) (v := .int .u64 to') (by simp)
  have fC2_w2 := KH_w2.out.free (b := w.heap.size) (o := 2) (v := .int .u64 to') (by simp)
  go_wp2_with fail
  have hL2 := Lib.hid (HL.out.below ((Below.refl _ _).alloc (Nat.le_refl _) (.cells #[.int .i64 ba, .int .i64 st, .int .u64 to', .int .u64 0, .slice none 0 0] 43)))
  have hM2 : Hid (ModAt (w2.alloc (.cells #[.int .i64 ba, .int .i64 st, .int .u64 to', .int .u64 0, .slice none 0 0] 43)) w2.heap.size ⟨ba, st, to', 0, []⟩ (.slice none 0 0)) := Lib.hid ⟨heap_alloc_new _ _, Ow.nil _ _ _⟩
  go_loopw [5, 8] (fun s t wr => PyRel w w2.heap.size rows.length s t wr) (fun _ t _ => rows.length - (intOf t).toNat)
  case atStart => exact ⟨0, P, ⟨ba, st, to', 0, []⟩, _, _, Nat.zero_le _, rfl, rfl, hL2.out, hM2.out, vC_ok2 HV.out, nd_nil2 _ _ _ _, by have := hP; omega, fun b hb => by simp [Value.ownBlock] at hb, hw_w2.alloc hw_w2.size _⟩
  case round =>
    obtain ⟨k, P, x, v, lv, hk, rfl, rfl, hl, hm, ok, nd, hPw, hvw, hb⟩ := hrel
    clear hL2 hM2 HL hP
    have HL := Lib.hid hl
    have HM := Lib.hid hm
    have HVW := Lib.hid hvw
    have hzz := hb.size
    clear hl hm hvw
    by_cases hkl : k < rows.length
    · obtain ⟨_, bq, off, cap', hvv, hba, hcells⟩ := HS.out.some (by intro e; rw [e] at hkl; simp at hkl)
      obtain ⟨r, hr⟩ : ∃ r, rows[k]? = Option.some r := ⟨rows[k], List.getElem?_eq_getElem hkl⟩
      obtain ⟨hrl, hcl⟩ := hcells k r hr
      obtain ⟨wh, id, ra, t, rfl⟩ : ∃ a b c d, r = [a, b, c, d] := by
        match r, hrl with
        | [a, b, c, d], _ => exact ⟨a, b, c, d, rfl⟩
      have cA0 : wr.cell? ⟨bq, off + k * 4, none⟩ = Option.some (.int .i64 wh) := (hb.cell (p := ⟨bq, off + k * 4, none⟩) hba).trans (hcl 0 _ _ rfl rfl).1
      have cA1 : wr.cell? ⟨bq, off + k * 4 + 1, none⟩ = Option.some (.int .i64 id) := (hb.cell (p := ⟨bq, off + k * 4 + 1, none⟩) hba).trans (hcl 1 _ _ rfl rfl).1
      have cA2 : wr.cell? ⟨bq, off + k * 4 + 2, none⟩ = Option.some (.int .i64 ra) := (hb.cell (p := ⟨bq, off + k * 4 + 2, none⟩) hba).trans (hcl 2 _ _ rfl rfl).1
      have cA3 : wr.cell? ⟨bq, off + k * 4 + 3, none⟩ = Option.some (.int .u64 t) := (hb.cell (p := ⟨bq, off + k * 4 + 3, none⟩) hba).trans (hcl 3 _ _ rfl rfl).1
      have hta : U t := by simpa [U, Lit.wf, IntKind.min, IntKind.max, IntKind.signed, IntKind.bits] using (hcl 3 _ _ rfl rfl).2
      simp only [Value.slice.injEq] at hvv
      obtain ⟨rfl, hvl, rfl⟩ := hvv
      clear hcells hr hrl hcl hvl
      have i1 : (0 : Int) ≤ (k : Int) := by omega
      have i2 : (k : Int) < (rows.length : Int) := by omega
      go_wp2_with fail
      with_reducible refine (step17 P w2.heap.size x v lv wh id ra t _ HL.out HM.out ok nd hta).mono ?_
      rintro e w3 ⟨P', x', v', lv', rfl, hl3, hm3, ok3, nd3, hP3, hv3, ho3⟩
      have HL3 := Lib.hid hl3
      have HM3 := Lib.hid hm3
      have hb3 : Below w.heap.size w w3 := ((Onl.of hb : Onl (w2.heap.size :: foot P v) w wr).trans (⟨ho3.os, ho3.tape, ho3.output, ho3.size, ho3.block⟩ : Onl (w2.heap.size :: foot P v) wr w3)).below (fun q hq => by
        simp only [List.mem_cons] at hq
        rcases hq with rfl | hq
        · exact hw_w2.size
        · rcases mem_foot.1 hq with rfl | h2
          · exact hPw
          · exact HVW.out q h2)
      have HP3 : Hid (w.heap.size ≤ P') := Lib.hid (by rcases hP3 with rfl | h; exact hPw; omega)
      have HV3 : Hid (∀ b, v'.ownBlock = Option.some b → w.heap.size ≤ b) := Lib.hid (fun b hbb => by rcases hv3 b hbb with h | h; exact HVW.out b h; omega)
      clear hl3 hm3 hP3 hv3 ho3
      go_wp2_with fail
      with_reducible refine (alike14 P' w2.heap.size x' v' lv' _ HL3.out HM3.out ok3 nd3).mono ?_
      rintro e w4 ⟨rfl, hb4⟩
      go_wp2_with fail
      go_roundw
      case rel => exact ⟨k + 1, P', x', v', lv', by omega, by go_num, rfl, HL3.out.below hb4, HM3.out.below hb4, ok3, nd3, HP3.out, HV3.out, below_via hb3 hb4⟩
      case measure => simp [intOf]; omega
    · obtain rfl : k = rows.length := by omega
      go_wp2_with fail
      with_reducible refine (known _).mono ?_
      rintro e w4 ⟨rfl, hb4⟩
      go_wp2_with fail
      go_returns
      exact ⟨rfl, below_via hb hb4⟩

end Go.Proofs.Ytonaidjdkejoeaa
