/- ObjectHolds: the walk. -/
import Derived.Test.YtjedflfgafhlkaaCrow
import Derived.Test.YtjedflfgafhlkaaHoM
import Derived.Test.YtjedflfgafhlkaaKnown
import Derived.Test.YtjedflfgafhlkaaHoR
import Derived.Deep.DeepCutAuto
import Derived.Deep.LoopGhost
import Derived.Deep.CutBlock
namespace Go.Proofs.Ytjedflfgafhlkaa
open Go.RowKit Plain
set_option linter.unusedVariables false
set_option linter.unusedSimpArgs false

def idxL (C : Nat) : Nat → List Value → List (Nat × Nat × Value)
  | _, [] => []
  | i, v :: vs => (C, i, v) :: idxL C (i + 1) vs
theorem idxL_block {C : Nat} : ∀ (vs : List Value) (i : Nat), ∀ x ∈ idxL C i vs, x.1 = C ∧ i ≤ x.2.1
  | [], _, x, h => by simp [idxL] at h
  | v :: vs, i, x, h => by
    simp only [idxL, List.mem_cons] at h
    rcases h with rfl | h
    · exact ⟨rfl, Nat.le_refl _⟩
    · have := idxL_block vs (i + 1) x h
      exact ⟨this.1, by omega⟩
theorem Kept.put {B n : Nat} {w W : World} {L L' : List (Nat × Nat × Value)} (h : Kept B w n L W) (C o : Nat) (u v : Value) (hB : B ≤ C) (hu : (C, o, u) ∈ L) (hL : ∀ x ∈ L', x = (C, o, v) ∨ (x ∈ L ∧ (x.1 ≠ C ∨ x.2.1 ≠ o))) : Kept B w n L' (W.setCell ⟨C, o, none⟩ v) :=
  ⟨h.below.setCell hB _, by simpa [World.setCell] using h.size, fun x hx => by
    rcases hL x hx with rfl | ⟨h1, h2⟩
    · obtain ⟨a1, a2, a3⟩ := h.cells _ hu
      exact ⟨a1, by simp [go_sem, a2], by simp [go_sem, a3]⟩
    · obtain ⟨a1, a2, a3⟩ := h.cells _ h1
      obtain ⟨b, o', u'⟩ := x
      have hne : ¬(b = C ∧ o' = o) := by rintro ⟨rfl, rfl⟩; simp at h2
      refine ⟨a1, ?_, by simpa [go_sem] using a3⟩
      rw [← a2]
      exact World.cell?_setCell_other _ _ _ _ (by intro e; simp only [Addr.mk.injEq, and_true] at e; exact hne ⟨e.1.symm, e.2.symm⟩)⟩
theorem Kept.setAll {B n : Nat} {w : World} {C : Nat} : ∀ {L0 : List (Nat × Nat × Value)} {W : World} (us vs : List Value), Kept B w n (L0 ++ idxL C 0 us) W → vs.length = us.length → B ≤ C → (∀ x ∈ L0, x.1 ≠ C) → Kept B w n (L0 ++ idxL C 0 vs) (W.setCells C 0 vs) := by
  have go : ∀ (us vs : List Value) (i : Nat) (L0 : List (Nat × Nat × Value)) (W : World), Kept B w n (L0 ++ idxL C i us) W → vs.length = us.length → B ≤ C → (∀ x ∈ L0, x.1 ≠ C ∨ x.2.1 < i) → Kept B w n (L0 ++ idxL C i vs) (W.setCells C i vs) := by
    intro us
    induction us with
    | nil =>
      intro vs i L0 W h hl hB hL
      obtain rfl : vs = [] := List.eq_nil_of_length_eq_zero hl
      exact h
    | cons u us ih =>
      intro vs i L0 W h hl hB hL
      match vs, hl with
      | v :: vs, hl =>
        have h1 : Kept B w n ((L0 ++ [(C, i, v)]) ++ idxL C (i + 1) us) (W.setCell ⟨C, i, none⟩ v) := h.put C i u v hB (by simp [idxL]) (fun x hx => by
          simp only [List.append_assoc, List.mem_append, List.mem_singleton] at hx
          rcases hx with hx | hx | hx
          · exact .inr ⟨by simp [hx], (hL x hx).imp id (fun h => by omega)⟩
          · exact .inl hx
          · have h2 := idxL_block us (i + 1) x hx
            exact .inr ⟨by simp [idxL, hx], .inr (by omega)⟩)
        have h2 := ih vs (i + 1) (L0 ++ [(C, i, v)]) _ h1 (by simpa using hl) hB (fun x hx => by
          simp only [List.mem_append, List.mem_singleton] at hx
          rcases hx with hx | rfl
          · exact (hL x hx).imp id (fun h => by omega)
          · exact .inr (by simp))
        rw [List.append_assoc] at h2
        exact h2
  intro L0 W us vs h hl hB hL
  exact go us vs 0 L0 W h hl hB (fun x hx => .inl (hL x hx))
theorem Kept.left {B n n' : Nat} {w W : World} {L D : List (Nat × Nat × Value)} (h : Kept B w n (L ++ D) W) (hn : n' ≤ n) (hL : ∀ x ∈ L, x.1 < n') : Kept B w n' L W :=
  ⟨h.below, Nat.le_trans hn h.size, fun x hx => ⟨hL x hx, (h.cells x (List.mem_append_left _ hx)).2⟩⟩
theorem otokenv (a b c d : Int) (w : World) (hc : 0 ≤ c ∧ c ≤ 99) (hd : 0 ≤ d ∧ d ≤ 99) : Calls Try.prog 8 #[.int .i64 a, .int .i64 b, .int .i64 c, .int .i64 d] w fun e w' => e = .returned (.agg #[.int .i64 a, .int .i64 (-1), .int .i64 b, .int .i64 c, .int .i64 d, .int .i64 0, .int .i64 0, .int .i64 0, .int .i64 0, .bool false, .bool false, .bool false]) ∧ Below w.heap.size w w' := by
  have h := otoken a b c d w (by unfold I; omega) (by unfold I; omega)
  have e1 : ad 0 c = c := by unfold ad cl; omega
  have e2 : ad 0 d = d := by unfold ad cl; omega
  rw [e1, e2] at h
  exact h
def HoRel (w : World) (A : Nat) (o : Ob) (m : Nat) (g : Nat) (i : Value) (wr : World) : Prop := ∃ (t : Nat) (x : Ob), g = m - t ∧ t ≤ m ∧ i = .int .i64 t ∧ Came o x ∧ Kept w.heap.size w (A + 1) [(w.heap.size, 0, .int .i64 o.id), (w.heap.size, 1, .int .i64 o.cd), (w.heap.size, 2, .int .i64 o.ow), (w.heap.size, 3, .int .i64 o.po), (w.heap.size, 4, .int .i64 o.tg), (w.heap.size, 5, .int .i64 o.da), (w.heap.size, 6, .int .i64 o.co), (w.heap.size, 7, .int .i64 o.pp), (w.heap.size, 8, .int .i64 o.pt), (w.heap.size, 9, .bool o.ta), (w.heap.size, 10, .bool o.si), (w.heap.size, 11, .bool o.dm), (A, 0, .int .i64 x.id), (A, 1, .int .i64 x.cd), (A, 2, .int .i64 x.ow), (A, 3, .int .i64 x.po), (A, 4, .int .i64 x.tg), (A, 5, .int .i64 x.da), (A, 6, .int .i64 x.co), (A, 7, .int .i64 x.pp), (A, 8, .int .i64 x.pt), (A, 9, .bool x.ta), (A, 10, .bool x.si), (A, 11, .bool x.dm)] wr
set_option maxRecDepth 100000 in
set_option maxHeartbeats 80000000 in
theorem hold5 (a0 : Option Addr) (c0 : Nat) (cs : List Cd) (o : Ob) (a2 : Option Addr) (c2 : Nat) (zs : List Int) (w : World) (hs : CRow w (.slice a0 cs.length c0) cs) (hc0 : CI cs) (hv : vO o = true) (hl : Seg w .i64 (.slice a2 zs.length c2) zs) (hz : ∀ z ∈ zs, I z) (h10 : cs.length ≤ 10) (h20 : zs.length ≤ 20) : Calls Try.prog 5 #[.slice a0 cs.length c0, .agg #[.int .i64 o.id, .int .i64 o.cd, .int .i64 o.ow, .int .i64 o.po, .int .i64 o.tg, .int .i64 o.da, .int .i64 o.co, .int .i64 o.pp, .int .i64 o.pt, .bool o.ta, .bool o.si, .bool o.dm], .slice a2 zs.length c2] w fun e w' => e = .returned (.bool true) ∧ Below w.heap.size w w' := by
  have HV := Lib.hid hv
  have HCR := Lib.hid hs
  obtain ⟨_, a2x, c2x, e2x, f1⟩ := seg_form hl
  cases e2x
  have F1 := Lib.hid f1
  clear f1
  have HZ := Lib.hid hz
  have hc1 := Lib.hid hc0
  have hc := hc1.out
  have q1 : decide ((10 : Int) < (cs.length : Int)) = false := by simp; omega
  have q2 : decide ((20 : Int) < (zs.length : Int)) = false := by simp; omega
  clear hs hl hz hv hc0
  go_enter Try.func5, Try.ntmps5
  go_wp2_with fail
  with_reducible refine (rvalidc o true _ HV.out).mono ?_
  rintro e w1 ⟨rfl, hb_w1⟩
  have K_w1 : Kept w.heap.size w (w.heap.size + 1) [(w.heap.size, 0, .int .i64 o.id), (w.heap.size, 1, .int .i64 o.cd), (w.heap.size, 2, .int .i64 o.ow), (w.heap.size, 3, .int .i64 o.po), (w.heap.size, 4, .int .i64 o.tg), (w.heap.size, 5, .int .i64 o.da), (w.heap.size, 6, .int .i64 o.co), (w.heap.size, 7, .int .i64 o.pp), (w.heap.size, 8, .int .i64 o.pt), (w.heap.size, 9, .bool o.ta), (w.heap.size, 10, .bool o.si), (w.heap.size, 11, .bool o.dm)] w1 := Kept.of hb_w1 (by go_grown) (by go_size) (by omega) (by simp [go_sem] <;> omega)
  clear hb_w1
  have KH_w1 := Lib.hid K_w1
  have hw_w1 := K_w1.below
  have hz_w1 := K_w1.size
  have lB_w1 : w.heap.size < w1.heap.size := by omega
  clear K_w1
  have cB0_w1 := KH_w1.out.nth 0 rfl
  have fB0_w1 := KH_w1.out.nthF 0 rfl
  have cB1_w1 := KH_w1.out.nth 1 rfl
  have fB1_w1 := KH_w1.out.nthF 1 rfl
  have cB2_w1 := KH_w1.out.nth 2 rfl
  have fB2_w1 := KH_w1.out.nthF 2 rfl
  have cB3_w1 := KH_w1.out.nth 3 rfl
  have fB3_w1 := KH_w1.out.nthF 3 rfl
  have cB4_w1 := KH_w1.out.nth 4 rfl
  have fB4_w1 := KH_w1.out.nthF 4 rfl
  have cB5_w1 := KH_w1.out.nth 5 rfl
  have fB5_w1 := KH_w1.out.nthF 5 rfl
  have cB6_w1 := KH_w1.out.nth 6 rfl
  have fB6_w1 := KH_w1.out.nthF 6 rfl
  have cB7_w1 := KH_w1.out.nth 7 rfl
  have fB7_w1 := KH_w1.out.nthF 7 rfl
  have cB8_w1 := KH_w1.out.nth 8 rfl
  have fB8_w1 := KH_w1.out.nthF 8 rfl
  have cB9_w1 := KH_w1.out.nth 9 rfl
  have fB9_w1 := KH_w1.out.nthF 9 rfl
  have cB10_w1 := KH_w1.out.nth 10 rfl
  have fB10_w1 := KH_w1.out.nthF 10 rfl
  have cB11_w1 := KH_w1.out.nth 11 rfl
  have fB11_w1 := KH_w1.out.nthF 11 rfl
  go_wp2_with fail
  go_loopg [8] zs.length (fun g s8 wr => HoRel w w1.heap.size o zs.length g s8 wr)
  case atStart => exact ⟨0, o, rfl, Nat.zero_le _, rfl, Came.refl HV.out, ⟨by go_grown, by go_size, (by simp [go_sem, lB_w1, cB0_w1, fB0_w1, cB1_w1, fB1_w1, cB2_w1, fB2_w1, cB3_w1, fB3_w1, cB4_w1, fB4_w1, cB5_w1, fB5_w1, cB6_w1, fB6_w1, cB7_w1, fB7_w1, cB8_w1, fB8_w1, cB9_w1, fB9_w1, cB10_w1, fB10_w1, cB11_w1, fB11_w1] <;> omega)⟩⟩
  case round =>
    obtain ⟨t, x, rfl, ht, rfl, hC0, hK⟩ := hrel
    have hC := Lib.hid hC0
    have KH_wr := Lib.hid hK
    have hw_wr := hK.below
    have hz_wr := hK.size
    clear hC0 hK
    by_cases hlt : t < zs.length
    · go_upto_region 7 with fail
      go_cut [9, 10] (fun s9 s10 wx => ∃ D, s9 = .pointer (some ⟨D, 0, none⟩) ∧ s10 = .bool (deB cs x) ∧ w1.heap.size + 1 ≤ D ∧ Kept w.heap.size w (D + 1) [(w.heap.size, 0, .int .i64 o.id), (w.heap.size, 1, .int .i64 o.cd), (w.heap.size, 2, .int .i64 o.ow), (w.heap.size, 3, .int .i64 o.po), (w.heap.size, 4, .int .i64 o.tg), (w.heap.size, 5, .int .i64 o.da), (w.heap.size, 6, .int .i64 o.co), (w.heap.size, 7, .int .i64 o.pp), (w.heap.size, 8, .int .i64 o.pt), (w.heap.size, 9, .bool o.ta), (w.heap.size, 10, .bool o.si), (w.heap.size, 11, .bool o.dm), (w1.heap.size, 0, .int .i64 x.id), (w1.heap.size, 1, .int .i64 x.cd), (w1.heap.size, 2, .int .i64 x.ow), (w1.heap.size, 3, .int .i64 x.po), (w1.heap.size, 4, .int .i64 x.tg), (w1.heap.size, 5, .int .i64 x.da), (w1.heap.size, 6, .int .i64 x.co), (w1.heap.size, 7, .int .i64 x.pp), (w1.heap.size, 8, .int .i64 x.pt), (w1.heap.size, 9, .bool x.ta), (w1.heap.size, 10, .bool x.si), (w1.heap.size, 11, .bool x.dm), (D, 0, .int .i64 x.id), (D, 1, .int .i64 x.cd), (D, 2, .int .i64 x.ow), (D, 3, .int .i64 x.po), (D, 4, .int .i64 x.tg), (D, 5, .int .i64 x.da), (D, 6, .int .i64 x.co), (D, 7, .int .i64 x.pp), (D, 8, .int .i64 x.pt), (D, 9, .bool x.ta), (D, 10, .bool x.si), (D, 11, .bool x.dm)] wx)
      case first =>
        refine rg5_7 (w0 := w) (B := w.heap.size) (n := w1.heap.size + 1) (L := [(w.heap.size, 0, .int .i64 o.id), (w.heap.size, 1, .int .i64 o.cd), (w.heap.size, 2, .int .i64 o.ow), (w.heap.size, 3, .int .i64 o.po), (w.heap.size, 4, .int .i64 o.tg), (w.heap.size, 5, .int .i64 o.da), (w.heap.size, 6, .int .i64 o.co), (w.heap.size, 7, .int .i64 o.pp), (w.heap.size, 8, .int .i64 o.pt), (w.heap.size, 9, .bool o.ta), (w.heap.size, 10, .bool o.si), (w.heap.size, 11, .bool o.dm), (w1.heap.size, 0, .int .i64 x.id), (w1.heap.size, 1, .int .i64 x.cd), (w1.heap.size, 2, .int .i64 x.ow), (w1.heap.size, 3, .int .i64 x.po), (w1.heap.size, 4, .int .i64 x.tg), (w1.heap.size, 5, .int .i64 x.da), (w1.heap.size, 6, .int .i64 x.co), (w1.heap.size, 7, .int .i64 x.pp), (w1.heap.size, 8, .int .i64 x.pt), (w1.heap.size, 9, .bool x.ta), (w1.heap.size, 10, .bool x.si), (w1.heap.size, 11, .bool x.dm)]) (E := fun _ => True) (F := fun _ => True) (by kernel_rfl) (by kernel_rfl) (KH_wr.out.step (by omega) (by go_grown)) trivial (fun _ _ _ _ => trivial) trivial (fun _ _ _ _ => trivial) (fun w11 K_w11 E_w11 F_w11 => ?_)
        have _ne : Nonempty (KX (w.heap.size) w (w1.heap.size + 1) [(w.heap.size, 0, .int .i64 o.id), (w.heap.size, 1, .int .i64 o.cd), (w.heap.size, 2, .int .i64 o.ow), (w.heap.size, 3, .int .i64 o.po), (w.heap.size, 4, .int .i64 o.tg), (w.heap.size, 5, .int .i64 o.da), (w.heap.size, 6, .int .i64 o.co), (w.heap.size, 7, .int .i64 o.pp), (w.heap.size, 8, .int .i64 o.pt), (w.heap.size, 9, .bool o.ta), (w.heap.size, 10, .bool o.si), (w.heap.size, 11, .bool o.dm), (w1.heap.size, 0, .int .i64 x.id), (w1.heap.size, 1, .int .i64 x.cd), (w1.heap.size, 2, .int .i64 x.ow), (w1.heap.size, 3, .int .i64 x.po), (w1.heap.size, 4, .int .i64 x.tg), (w1.heap.size, 5, .int .i64 x.da), (w1.heap.size, 6, .int .i64 x.co), (w1.heap.size, 7, .int .i64 x.pp), (w1.heap.size, 8, .int .i64 x.pt), (w1.heap.size, 9, .bool x.ta), (w1.heap.size, 10, .bool x.si), (w1.heap.size, 11, .bool x.dm)] (fun _ => True)) := ⟨⟨_, K_w11, E_w11⟩⟩
        repeat (go_big_quiet_step (fail))
        refine wpQuiet_nil ?_
        have rB0 := rcx _ne 0 rfl
        have rB1 := rcx _ne 1 rfl
        have rB2 := rcx _ne 2 rfl
        have rB3 := rcx _ne 3 rfl
        have rB4 := rcx _ne 4 rfl
        have rB5 := rcx _ne 5 rfl
        have rB6 := rcx _ne 6 rfl
        have rB7 := rcx _ne 7 rfl
        have rB8 := rcx _ne 8 rfl
        have rB9 := rcx _ne 9 rfl
        have rB10 := rcx _ne 10 rfl
        have rB11 := rcx _ne 11 rfl
        have rX0 := rcx _ne 12 rfl
        have rX1 := rcx _ne 13 rfl
        have rX2 := rcx _ne 14 rfl
        have rX3 := rcx _ne 15 rfl
        have rX4 := rcx _ne 16 rfl
        have rX5 := rcx _ne 17 rfl
        have rX6 := rcx _ne 18 rfl
        have rX7 := rcx _ne 19 rfl
        have rX8 := rcx _ne 20 rfl
        have rX9 := rcx _ne 21 rfl
        have rX10 := rcx _ne 22 rfl
        have rX11 := rcx _ne 23 rfl
        repeat (go_big_quiet_step (fail))
        refine wpQuiet_nil ?_
        clear rB0 rB1 rB2 rB3 rB4 rB5 rB6 rB7 rB8 rB9 rB10 rB11 rX0 rX1 rX2 rX3 rX4 rX5 rX6 rX7 rX8 rX9 rX10 rX11
        have KH_w11 := Lib.hid K_w11
        have hw_w11 := K_w11.below
        have hz_w11 := K_w11.size
        have lB_w11 : w.heap.size < w11.heap.size := by omega
        have lX_w11 : w1.heap.size < w11.heap.size := by omega
        clear K_w11
        clear E_w11 F_w11
        refine ⟨fun K hK0 => ?_, fun K hK0 => ?_, trivial⟩
        · skip
          have hK := Lib.hid hK0
          clear hK0
          go_wp2_with fail
          with_reducible refine (odead (.slice a0 cs.length c0) cs x _ (HCR.out.below (by go_grown)) hc (vO_I hC.out.v)).mono ?_
          rintro e w12 ⟨rfl, hb_w12⟩
          have K_w12 := (KH_w11.out.step (by omega) (by go_grown)).step (by omega) hb_w12
          clear hb_w12
          have KH_w12 := Lib.hid K_w12
          have hw_w12 := K_w12.below
          have hz_w12 := K_w12.size
          have lB_w12 : w.heap.size < w12.heap.size := by omega
          have lX_w12 : w1.heap.size < w12.heap.size := by omega
          clear lB_w11 lX_w11
          clear K_w12
          go_wp2_with fail
          have cB0_w12 := KH_w12.out.nth 0 rfl
          have fB0_w12 := KH_w12.out.nthF 0 rfl
          have cB1_w12 := KH_w12.out.nth 1 rfl
          have fB1_w12 := KH_w12.out.nthF 1 rfl
          have cB2_w12 := KH_w12.out.nth 2 rfl
          have fB2_w12 := KH_w12.out.nthF 2 rfl
          have cB3_w12 := KH_w12.out.nth 3 rfl
          have fB3_w12 := KH_w12.out.nthF 3 rfl
          have cB4_w12 := KH_w12.out.nth 4 rfl
          have fB4_w12 := KH_w12.out.nthF 4 rfl
          have cB5_w12 := KH_w12.out.nth 5 rfl
          have fB5_w12 := KH_w12.out.nthF 5 rfl
          have cB6_w12 := KH_w12.out.nth 6 rfl
          have fB6_w12 := KH_w12.out.nthF 6 rfl
          have cB7_w12 := KH_w12.out.nth 7 rfl
          have fB7_w12 := KH_w12.out.nthF 7 rfl
          have cB8_w12 := KH_w12.out.nth 8 rfl
          have fB8_w12 := KH_w12.out.nthF 8 rfl
          have cB9_w12 := KH_w12.out.nth 9 rfl
          have fB9_w12 := KH_w12.out.nthF 9 rfl
          have cB10_w12 := KH_w12.out.nth 10 rfl
          have fB10_w12 := KH_w12.out.nthF 10 rfl
          have cB11_w12 := KH_w12.out.nth 11 rfl
          have fB11_w12 := KH_w12.out.nthF 11 rfl
          have cX0_w12 := KH_w12.out.nth 12 rfl
          have fX0_w12 := KH_w12.out.nthF 12 rfl
          have cX1_w12 := KH_w12.out.nth 13 rfl
          have fX1_w12 := KH_w12.out.nthF 13 rfl
          have cX2_w12 := KH_w12.out.nth 14 rfl
          have fX2_w12 := KH_w12.out.nthF 14 rfl
          have cX3_w12 := KH_w12.out.nth 15 rfl
          have fX3_w12 := KH_w12.out.nthF 15 rfl
          have cX4_w12 := KH_w12.out.nth 16 rfl
          have fX4_w12 := KH_w12.out.nthF 16 rfl
          have cX5_w12 := KH_w12.out.nth 17 rfl
          have fX5_w12 := KH_w12.out.nthF 17 rfl
          have cX6_w12 := KH_w12.out.nth 18 rfl
          have fX6_w12 := KH_w12.out.nthF 18 rfl
          have cX7_w12 := KH_w12.out.nth 19 rfl
          have fX7_w12 := KH_w12.out.nthF 19 rfl
          have cX8_w12 := KH_w12.out.nth 20 rfl
          have fX8_w12 := KH_w12.out.nthF 20 rfl
          have cX9_w12 := KH_w12.out.nth 21 rfl
          have fX9_w12 := KH_w12.out.nthF 21 rfl
          have cX10_w12 := KH_w12.out.nth 22 rfl
          have fX10_w12 := KH_w12.out.nthF 22 rfl
          have cX11_w12 := KH_w12.out.nth 23 rfl
          have fX11_w12 := KH_w12.out.nthF 23 rfl
          first | (refine ⟨rfl, ⟨⟨_, KH_w12.out, trivial⟩, rfl⟩, hK.out _ _ ?_⟩; clear hK K) | (refine ⟨⟨⟨_, KH_w12.out, trivial⟩, rfl⟩, hK.out _ _ ?_⟩; clear hK K)
          refine ⟨fun K hK0 => ?_, trivial⟩
          have hK := Lib.hid hK0
          clear hK0
          go_wp2_with fail
          first | (refine ⟨rfl, ⟨⟨_, KH_w12.out.step (by omega) ((Below.refl _ _).alloc (Nat.le_refl _) _), trivial⟩, rfl⟩, hK.out _ _ ?_⟩; clear hK K) | (refine ⟨⟨⟨_, KH_w12.out.step (by omega) ((Below.refl _ _).alloc (Nat.le_refl _) _), trivial⟩, rfl⟩, hK.out _ _ ?_⟩; clear hK K)
          refine ⟨fun K hK0 => ?_, trivial⟩
          have hK := Lib.hid hK0
          clear hK0
          go_wp2_with fail
          first | (refine ⟨rfl, hK.out _ _ ?_⟩; clear hK K) | (refine hK.out _ _ ?_; clear hK K)
          repeat (go_big_quiet_step (fail))
          refine wpQuiet_nil ?_
          clear _ne
          go_wp2_with fail
          go_meet
          case rel => exact ⟨w12.heap.size, rfl, rfl, by omega, ⟨by go_grown, by go_size, (by simp [go_sem, lB_w12, lX_w12, cB0_w12, fB0_w12, cB1_w12, fB1_w12, cB2_w12, fB2_w12, cB3_w12, fB3_w12, cB4_w12, fB4_w12, cB5_w12, fB5_w12, cB6_w12, fB6_w12, cB7_w12, fB7_w12, cB8_w12, fB8_w12, cB9_w12, fB9_w12, cB10_w12, fB10_w12, cB11_w12, fB11_w12, cX0_w12, fX0_w12, cX1_w12, fX1_w12, cX2_w12, fX2_w12, cX3_w12, fX3_w12, cX4_w12, fX4_w12, cX5_w12, fX5_w12, cX6_w12, fX6_w12, cX7_w12, fX7_w12, cX8_w12, fX8_w12, cX9_w12, fX9_w12, cX10_w12, fX10_w12, cX11_w12, fX11_w12] <;> omega)⟩⟩
        · skip
          have hK := Lib.hid hK0
          clear hK0
          have cB0_w11 := KH_w11.out.nth 0 rfl
          have fB0_w11 := KH_w11.out.nthF 0 rfl
          have cB1_w11 := KH_w11.out.nth 1 rfl
          have fB1_w11 := KH_w11.out.nthF 1 rfl
          have cB2_w11 := KH_w11.out.nth 2 rfl
          have fB2_w11 := KH_w11.out.nthF 2 rfl
          have cB3_w11 := KH_w11.out.nth 3 rfl
          have fB3_w11 := KH_w11.out.nthF 3 rfl
          have cB4_w11 := KH_w11.out.nth 4 rfl
          have fB4_w11 := KH_w11.out.nthF 4 rfl
          have cB5_w11 := KH_w11.out.nth 5 rfl
          have fB5_w11 := KH_w11.out.nthF 5 rfl
          have cB6_w11 := KH_w11.out.nth 6 rfl
          have fB6_w11 := KH_w11.out.nthF 6 rfl
          have cB7_w11 := KH_w11.out.nth 7 rfl
          have fB7_w11 := KH_w11.out.nthF 7 rfl
          have cB8_w11 := KH_w11.out.nth 8 rfl
          have fB8_w11 := KH_w11.out.nthF 8 rfl
          have cB9_w11 := KH_w11.out.nth 9 rfl
          have fB9_w11 := KH_w11.out.nthF 9 rfl
          have cB10_w11 := KH_w11.out.nth 10 rfl
          have fB10_w11 := KH_w11.out.nthF 10 rfl
          have cB11_w11 := KH_w11.out.nth 11 rfl
          have fB11_w11 := KH_w11.out.nthF 11 rfl
          have cX0_w11 := KH_w11.out.nth 12 rfl
          have fX0_w11 := KH_w11.out.nthF 12 rfl
          have cX1_w11 := KH_w11.out.nth 13 rfl
          have fX1_w11 := KH_w11.out.nthF 13 rfl
          have cX2_w11 := KH_w11.out.nth 14 rfl
          have fX2_w11 := KH_w11.out.nthF 14 rfl
          have cX3_w11 := KH_w11.out.nth 15 rfl
          have fX3_w11 := KH_w11.out.nthF 15 rfl
          have cX4_w11 := KH_w11.out.nth 16 rfl
          have fX4_w11 := KH_w11.out.nthF 16 rfl
          have cX5_w11 := KH_w11.out.nth 17 rfl
          have fX5_w11 := KH_w11.out.nthF 17 rfl
          have cX6_w11 := KH_w11.out.nth 18 rfl
          have fX6_w11 := KH_w11.out.nthF 18 rfl
          have cX7_w11 := KH_w11.out.nth 19 rfl
          have fX7_w11 := KH_w11.out.nthF 19 rfl
          have cX8_w11 := KH_w11.out.nth 20 rfl
          have fX8_w11 := KH_w11.out.nthF 20 rfl
          have cX9_w11 := KH_w11.out.nth 21 rfl
          have fX9_w11 := KH_w11.out.nthF 21 rfl
          have cX10_w11 := KH_w11.out.nth 22 rfl
          have fX10_w11 := KH_w11.out.nthF 22 rfl
          have cX11_w11 := KH_w11.out.nth 23 rfl
          have fX11_w11 := KH_w11.out.nthF 23 rfl
          go_wp2_with fail
          first | (refine ⟨rfl, ⟨⟨_, KH_w11.out.step (by omega) ((Below.refl _ _).alloc (Nat.le_refl _) _), trivial⟩, rfl⟩, hK.out _ _ ?_⟩; clear hK K) | (refine ⟨⟨⟨_, KH_w11.out.step (by omega) ((Below.refl _ _).alloc (Nat.le_refl _) _), trivial⟩, rfl⟩, hK.out _ _ ?_⟩; clear hK K)
          refine ⟨fun K hK0 => ?_, trivial⟩
          have hK := Lib.hid hK0
          clear hK0
          go_wp2_with fail
          with_reducible refine (odead (.slice a0 cs.length c0) cs x _ (HCR.out.below (by go_grown)) hc (vO_I hC.out.v)).mono ?_
          rintro e w12 ⟨rfl, hb_w12⟩
          have K_w12 : Kept w.heap.size w (w11.heap.size + 1) [(w.heap.size, 0, .int .i64 o.id), (w.heap.size, 1, .int .i64 o.cd), (w.heap.size, 2, .int .i64 o.ow), (w.heap.size, 3, .int .i64 o.po), (w.heap.size, 4, .int .i64 o.tg), (w.heap.size, 5, .int .i64 o.da), (w.heap.size, 6, .int .i64 o.co), (w.heap.size, 7, .int .i64 o.pp), (w.heap.size, 8, .int .i64 o.pt), (w.heap.size, 9, .bool o.ta), (w.heap.size, 10, .bool o.si), (w.heap.size, 11, .bool o.dm), (w1.heap.size, 0, .int .i64 x.id), (w1.heap.size, 1, .int .i64 x.cd), (w1.heap.size, 2, .int .i64 x.ow), (w1.heap.size, 3, .int .i64 x.po), (w1.heap.size, 4, .int .i64 x.tg), (w1.heap.size, 5, .int .i64 x.da), (w1.heap.size, 6, .int .i64 x.co), (w1.heap.size, 7, .int .i64 x.pp), (w1.heap.size, 8, .int .i64 x.pt), (w1.heap.size, 9, .bool x.ta), (w1.heap.size, 10, .bool x.si), (w1.heap.size, 11, .bool x.dm), (w11.heap.size, 0, .int .i64 0), (w11.heap.size, 1, .int .i64 0), (w11.heap.size, 2, .int .i64 0), (w11.heap.size, 3, .int .i64 0), (w11.heap.size, 4, .int .i64 0), (w11.heap.size, 5, .int .i64 0), (w11.heap.size, 6, .int .i64 0), (w11.heap.size, 7, .int .i64 0), (w11.heap.size, 8, .int .i64 0), (w11.heap.size, 9, .bool false), (w11.heap.size, 10, .bool false), (w11.heap.size, 11, .bool false)] w12 := Kept.of hb_w12 (by go_grown) (by go_size) (by omega) (by simp [go_sem, lB_w11, lX_w11, cB0_w11, fB0_w11, cB1_w11, fB1_w11, cB2_w11, fB2_w11, cB3_w11, fB3_w11, cB4_w11, fB4_w11, cB5_w11, fB5_w11, cB6_w11, fB6_w11, cB7_w11, fB7_w11, cB8_w11, fB8_w11, cB9_w11, fB9_w11, cB10_w11, fB10_w11, cB11_w11, fB11_w11, cX0_w11, fX0_w11, cX1_w11, fX1_w11, cX2_w11, fX2_w11, cX3_w11, fX3_w11, cX4_w11, fX4_w11, cX5_w11, fX5_w11, cX6_w11, fX6_w11, cX7_w11, fX7_w11, cX8_w11, fX8_w11, cX9_w11, fX9_w11, cX10_w11, fX10_w11, cX11_w11, fX11_w11] <;> omega)
          clear hb_w12
          have KH_w12 := Lib.hid K_w12
          have hw_w12 := K_w12.below
          have hz_w12 := K_w12.size
          have lB_w12 : w.heap.size < w12.heap.size := by omega
          have lX_w12 : w1.heap.size < w12.heap.size := by omega
          have lD_w12 : w11.heap.size < w12.heap.size := by omega
          clear lB_w11 lX_w11 cB0_w11 fB0_w11 cB1_w11 fB1_w11 cB2_w11 fB2_w11 cB3_w11 fB3_w11 cB4_w11 fB4_w11 cB5_w11 fB5_w11 cB6_w11 fB6_w11 cB7_w11 fB7_w11 cB8_w11 fB8_w11 cB9_w11 fB9_w11 cB10_w11 fB10_w11 cB11_w11 fB11_w11 cX0_w11 fX0_w11 cX1_w11 fX1_w11 cX2_w11 fX2_w11 cX3_w11 fX3_w11 cX4_w11 fX4_w11 cX5_w11 fX5_w11 cX6_w11 fX6_w11 cX7_w11 fX7_w11 cX8_w11 fX8_w11 cX9_w11 fX9_w11 cX10_w11 fX10_w11 cX11_w11 fX11_w11
          clear K_w12
          go_wp2_with fail
          have cB0_w12 := KH_w12.out.nth 0 rfl
          have fB0_w12 := KH_w12.out.nthF 0 rfl
          have cB1_w12 := KH_w12.out.nth 1 rfl
          have fB1_w12 := KH_w12.out.nthF 1 rfl
          have cB2_w12 := KH_w12.out.nth 2 rfl
          have fB2_w12 := KH_w12.out.nthF 2 rfl
          have cB3_w12 := KH_w12.out.nth 3 rfl
          have fB3_w12 := KH_w12.out.nthF 3 rfl
          have cB4_w12 := KH_w12.out.nth 4 rfl
          have fB4_w12 := KH_w12.out.nthF 4 rfl
          have cB5_w12 := KH_w12.out.nth 5 rfl
          have fB5_w12 := KH_w12.out.nthF 5 rfl
          have cB6_w12 := KH_w12.out.nth 6 rfl
          have fB6_w12 := KH_w12.out.nthF 6 rfl
          have cB7_w12 := KH_w12.out.nth 7 rfl
          have fB7_w12 := KH_w12.out.nthF 7 rfl
          have cB8_w12 := KH_w12.out.nth 8 rfl
          have fB8_w12 := KH_w12.out.nthF 8 rfl
          have cB9_w12 := KH_w12.out.nth 9 rfl
          have fB9_w12 := KH_w12.out.nthF 9 rfl
          have cB10_w12 := KH_w12.out.nth 10 rfl
          have fB10_w12 := KH_w12.out.nthF 10 rfl
          have cB11_w12 := KH_w12.out.nth 11 rfl
          have fB11_w12 := KH_w12.out.nthF 11 rfl
          have cX0_w12 := KH_w12.out.nth 12 rfl
          have fX0_w12 := KH_w12.out.nthF 12 rfl
          have cX1_w12 := KH_w12.out.nth 13 rfl
          have fX1_w12 := KH_w12.out.nthF 13 rfl
          have cX2_w12 := KH_w12.out.nth 14 rfl
          have fX2_w12 := KH_w12.out.nthF 14 rfl
          have cX3_w12 := KH_w12.out.nth 15 rfl
          have fX3_w12 := KH_w12.out.nthF 15 rfl
          have cX4_w12 := KH_w12.out.nth 16 rfl
          have fX4_w12 := KH_w12.out.nthF 16 rfl
          have cX5_w12 := KH_w12.out.nth 17 rfl
          have fX5_w12 := KH_w12.out.nthF 17 rfl
          have cX6_w12 := KH_w12.out.nth 18 rfl
          have fX6_w12 := KH_w12.out.nthF 18 rfl
          have cX7_w12 := KH_w12.out.nth 19 rfl
          have fX7_w12 := KH_w12.out.nthF 19 rfl
          have cX8_w12 := KH_w12.out.nth 20 rfl
          have fX8_w12 := KH_w12.out.nthF 20 rfl
          have cX9_w12 := KH_w12.out.nth 21 rfl
          have fX9_w12 := KH_w12.out.nthF 21 rfl
          have cX10_w12 := KH_w12.out.nth 22 rfl
          have fX10_w12 := KH_w12.out.nthF 22 rfl
          have cX11_w12 := KH_w12.out.nth 23 rfl
          have fX11_w12 := KH_w12.out.nthF 23 rfl
          have cD0_w12 := KH_w12.out.nth 24 rfl
          have fD0_w12 := KH_w12.out.nthF 24 rfl
          have cD1_w12 := KH_w12.out.nth 25 rfl
          have fD1_w12 := KH_w12.out.nthF 25 rfl
          have cD2_w12 := KH_w12.out.nth 26 rfl
          have fD2_w12 := KH_w12.out.nthF 26 rfl
          have cD3_w12 := KH_w12.out.nth 27 rfl
          have fD3_w12 := KH_w12.out.nthF 27 rfl
          have cD4_w12 := KH_w12.out.nth 28 rfl
          have fD4_w12 := KH_w12.out.nthF 28 rfl
          have cD5_w12 := KH_w12.out.nth 29 rfl
          have fD5_w12 := KH_w12.out.nthF 29 rfl
          have cD6_w12 := KH_w12.out.nth 30 rfl
          have fD6_w12 := KH_w12.out.nthF 30 rfl
          have cD7_w12 := KH_w12.out.nth 31 rfl
          have fD7_w12 := KH_w12.out.nthF 31 rfl
          have cD8_w12 := KH_w12.out.nth 32 rfl
          have fD8_w12 := KH_w12.out.nthF 32 rfl
          have cD9_w12 := KH_w12.out.nth 33 rfl
          have fD9_w12 := KH_w12.out.nthF 33 rfl
          have cD10_w12 := KH_w12.out.nth 34 rfl
          have fD10_w12 := KH_w12.out.nthF 34 rfl
          have cD11_w12 := KH_w12.out.nth 35 rfl
          have fD11_w12 := KH_w12.out.nthF 35 rfl
          first | (refine ⟨rfl, ⟨⟨_, Kept.left (n' := w1.heap.size + 1) (L := [(w.heap.size, 0, .int .i64 o.id), (w.heap.size, 1, .int .i64 o.cd), (w.heap.size, 2, .int .i64 o.ow), (w.heap.size, 3, .int .i64 o.po), (w.heap.size, 4, .int .i64 o.tg), (w.heap.size, 5, .int .i64 o.da), (w.heap.size, 6, .int .i64 o.co), (w.heap.size, 7, .int .i64 o.pp), (w.heap.size, 8, .int .i64 o.pt), (w.heap.size, 9, .bool o.ta), (w.heap.size, 10, .bool o.si), (w.heap.size, 11, .bool o.dm), (w1.heap.size, 0, .int .i64 x.id), (w1.heap.size, 1, .int .i64 x.cd), (w1.heap.size, 2, .int .i64 x.ow), (w1.heap.size, 3, .int .i64 x.po), (w1.heap.size, 4, .int .i64 x.tg), (w1.heap.size, 5, .int .i64 x.da), (w1.heap.size, 6, .int .i64 x.co), (w1.heap.size, 7, .int .i64 x.pp), (w1.heap.size, 8, .int .i64 x.pt), (w1.heap.size, 9, .bool x.ta), (w1.heap.size, 10, .bool x.si), (w1.heap.size, 11, .bool x.dm)]) (D := [(w11.heap.size, 0, .int .i64 0), (w11.heap.size, 1, .int .i64 0), (w11.heap.size, 2, .int .i64 0), (w11.heap.size, 3, .int .i64 0), (w11.heap.size, 4, .int .i64 0), (w11.heap.size, 5, .int .i64 0), (w11.heap.size, 6, .int .i64 0), (w11.heap.size, 7, .int .i64 0), (w11.heap.size, 8, .int .i64 0), (w11.heap.size, 9, .bool false), (w11.heap.size, 10, .bool false), (w11.heap.size, 11, .bool false)]) KH_w12.out (by omega) (fun x hx => (KH_w11.out.cells x hx).1), trivial⟩, rfl⟩, hK.out _ _ ?_⟩; clear hK K) | (refine ⟨⟨⟨_, Kept.left (n' := w1.heap.size + 1) (L := [(w.heap.size, 0, .int .i64 o.id), (w.heap.size, 1, .int .i64 o.cd), (w.heap.size, 2, .int .i64 o.ow), (w.heap.size, 3, .int .i64 o.po), (w.heap.size, 4, .int .i64 o.tg), (w.heap.size, 5, .int .i64 o.da), (w.heap.size, 6, .int .i64 o.co), (w.heap.size, 7, .int .i64 o.pp), (w.heap.size, 8, .int .i64 o.pt), (w.heap.size, 9, .bool o.ta), (w.heap.size, 10, .bool o.si), (w.heap.size, 11, .bool o.dm), (w1.heap.size, 0, .int .i64 x.id), (w1.heap.size, 1, .int .i64 x.cd), (w1.heap.size, 2, .int .i64 x.ow), (w1.heap.size, 3, .int .i64 x.po), (w1.heap.size, 4, .int .i64 x.tg), (w1.heap.size, 5, .int .i64 x.da), (w1.heap.size, 6, .int .i64 x.co), (w1.heap.size, 7, .int .i64 x.pp), (w1.heap.size, 8, .int .i64 x.pt), (w1.heap.size, 9, .bool x.ta), (w1.heap.size, 10, .bool x.si), (w1.heap.size, 11, .bool x.dm)]) (D := [(w11.heap.size, 0, .int .i64 0), (w11.heap.size, 1, .int .i64 0), (w11.heap.size, 2, .int .i64 0), (w11.heap.size, 3, .int .i64 0), (w11.heap.size, 4, .int .i64 0), (w11.heap.size, 5, .int .i64 0), (w11.heap.size, 6, .int .i64 0), (w11.heap.size, 7, .int .i64 0), (w11.heap.size, 8, .int .i64 0), (w11.heap.size, 9, .bool false), (w11.heap.size, 10, .bool false), (w11.heap.size, 11, .bool false)]) KH_w12.out (by omega) (fun x hx => (KH_w11.out.cells x hx).1), trivial⟩, rfl⟩, hK.out _ _ ?_⟩; clear hK K)
          refine ⟨fun K hK0 => ?_, trivial⟩
          have hK := Lib.hid hK0
          clear hK0
          go_wp2_with fail
          first | (refine ⟨rfl, hK.out _ _ ?_⟩; clear hK K) | (refine hK.out _ _ ?_; clear hK K)
          repeat (go_big_quiet_step (fail))
          refine wpQuiet_nil ?_
          clear _ne
          go_wp2_with fail
          go_meet
          case rel => exact ⟨w11.heap.size, rfl, rfl, by omega, ⟨by go_grown, by go_size, (by simp [go_sem, lB_w12, lX_w12, lD_w12, cB0_w12, fB0_w12, cB1_w12, fB1_w12, cB2_w12, fB2_w12, cB3_w12, fB3_w12, cB4_w12, fB4_w12, cB5_w12, fB5_w12, cB6_w12, fB6_w12, cB7_w12, fB7_w12, cB8_w12, fB8_w12, cB9_w12, fB9_w12, cB10_w12, fB10_w12, cB11_w12, fB11_w12, cX0_w12, fX0_w12, cX1_w12, fX1_w12, cX2_w12, fX2_w12, cX3_w12, fX3_w12, cX4_w12, fX4_w12, cX5_w12, fX5_w12, cX6_w12, fX6_w12, cX7_w12, fX7_w12, cX8_w12, fX8_w12, cX9_w12, fX9_w12, cX10_w12, fX10_w12, cX11_w12, fX11_w12, cD0_w12, fD0_w12, cD1_w12, fD1_w12, cD2_w12, fD2_w12, cD3_w12, fD3_w12, cD4_w12, fD4_w12, cD5_w12, fD5_w12, cD6_w12, fD6_w12, cD7_w12, fD7_w12, cD8_w12, fD8_w12, cD9_w12, fD9_w12, cD10_w12, fD10_w12, cD11_w12, fD11_w12] <;> omega)⟩⟩
      case rest =>
        obtain ⟨D, rfl, rfl, hD, hK⟩ := hcut
        have KH_wd := Lib.hid hK
        have hw_wd := hK.below
        have hz_wd := hK.size
        clear hK KH_wr hw_wr hz_wr
        obtain ⟨z, hzt⟩ : ∃ z, zs[t]? = Option.some z := ⟨_, List.getElem?_eq_getElem hlt⟩
        have hzi : I z := HZ.out z (List.mem_of_getElem? hzt)
        obtain ⟨b2, o2, rfl, hb2, hcell⟩ := F1.out (by omega)
        have hx0 := hcell t z hzt
        clear hcell hzt
        obtain ⟨wd, rfl⟩ : ∃ W, W = wc := ⟨_, rfl⟩
        have hCy0 := hC.out.st t z
        have hN0 := NoLess.st cs hC.out.v t z
        have hD0 : deB cs x = true → deB cs { x with da := ad x.da z } = true := deB_hit hC.out.v z
        have HDD := Lib.hid hD0
        clear hD0
        go_upto_block 2 with fail
        go_cut [10, 41] (fun s10 s41 wx => Kept w.heap.size w (D + 1) [(w.heap.size, 0, .int .i64 o.id), (w.heap.size, 1, .int .i64 o.cd), (w.heap.size, 2, .int .i64 o.ow), (w.heap.size, 3, .int .i64 o.po), (w.heap.size, 4, .int .i64 o.tg), (w.heap.size, 5, .int .i64 o.da), (w.heap.size, 6, .int .i64 o.co), (w.heap.size, 7, .int .i64 o.pp), (w.heap.size, 8, .int .i64 o.pt), (w.heap.size, 9, .bool o.ta), (w.heap.size, 10, .bool o.si), (w.heap.size, 11, .bool o.dm), (w1.heap.size, 0, .int .i64 (stO x t z).id), (w1.heap.size, 1, .int .i64 (stO x t z).cd), (w1.heap.size, 2, .int .i64 (stO x t z).ow), (w1.heap.size, 3, .int .i64 (stO x t z).po), (w1.heap.size, 4, .int .i64 (stO x t z).tg), (w1.heap.size, 5, .int .i64 (stO x t z).da), (w1.heap.size, 6, .int .i64 (stO x t z).co), (w1.heap.size, 7, .int .i64 (stO x t z).pp), (w1.heap.size, 8, .int .i64 (stO x t z).pt), (w1.heap.size, 9, .bool (stO x t z).ta), (w1.heap.size, 10, .bool (stO x t z).si), (w1.heap.size, 11, .bool (stO x t z).dm), (D, 0, .int .i64 x.id), (D, 1, .int .i64 x.cd), (D, 2, .int .i64 x.ow), (D, 3, .int .i64 x.po), (D, 4, .int .i64 x.tg), (D, 5, .int .i64 x.da), (D, 6, .int .i64 x.co), (D, 7, .int .i64 x.pp), (D, 8, .int .i64 x.pt), (D, 9, .bool x.ta), (D, 10, .bool x.si), (D, 11, .bool x.dm)] wx)
        case first =>
          clear hCy0 hN0
          have h3 : t % 3 = 0 ∨ t % 3 = 1 ∨ t % 3 = 2 := by omega
          rcases h3 with h3 | h3 | h3
          · have hm := Lib.hid h3
            have e3 : (t : Int) % 3 = 0 := by omega
            clear h3
            cases hd : deB cs x with
            | true =>
              have hdd := Lib.hid hd
              clear hd
              go_wp2_with fail
              refine rg5_11 (w0 := w) (B := w.heap.size) (n := D + 1) (L := [(w.heap.size, 0, .int .i64 o.id), (w.heap.size, 1, .int .i64 o.cd), (w.heap.size, 2, .int .i64 o.ow), (w.heap.size, 3, .int .i64 o.po), (w.heap.size, 4, .int .i64 o.tg), (w.heap.size, 5, .int .i64 o.da), (w.heap.size, 6, .int .i64 o.co), (w.heap.size, 7, .int .i64 o.pp), (w.heap.size, 8, .int .i64 o.pt), (w.heap.size, 9, .bool o.ta), (w.heap.size, 10, .bool o.si), (w.heap.size, 11, .bool o.dm), (w1.heap.size, 0, .int .i64 x.id), (w1.heap.size, 1, .int .i64 x.cd), (w1.heap.size, 2, .int .i64 x.ow), (w1.heap.size, 3, .int .i64 x.po), (w1.heap.size, 4, .int .i64 x.tg), (w1.heap.size, 5, .int .i64 x.da), (w1.heap.size, 6, .int .i64 x.co), (w1.heap.size, 7, .int .i64 x.pp), (w1.heap.size, 8, .int .i64 x.pt), (w1.heap.size, 9, .bool x.ta), (w1.heap.size, 10, .bool x.si), (w1.heap.size, 11, .bool x.dm), (D, 0, .int .i64 x.id), (D, 1, .int .i64 x.cd), (D, 2, .int .i64 x.ow), (D, 3, .int .i64 x.po), (D, 4, .int .i64 x.tg), (D, 5, .int .i64 x.da), (D, 6, .int .i64 x.co), (D, 7, .int .i64 x.pp), (D, 8, .int .i64 x.pt), (D, 9, .bool x.ta), (D, 10, .bool x.si), (D, 11, .bool x.dm)]) (E := fun _ => True) (F := fun _ => True) (by kernel_rfl) (by kernel_rfl) (KH_wd.out.step (by omega) (by go_grown)) trivial (fun _ _ _ _ => trivial) trivial (fun _ _ _ _ => trivial) (fun w21 K_w21 E_w21 F_w21 => ?_)
              have _ne : Nonempty (KX (w.heap.size) w (D + 1) [(w.heap.size, 0, .int .i64 o.id), (w.heap.size, 1, .int .i64 o.cd), (w.heap.size, 2, .int .i64 o.ow), (w.heap.size, 3, .int .i64 o.po), (w.heap.size, 4, .int .i64 o.tg), (w.heap.size, 5, .int .i64 o.da), (w.heap.size, 6, .int .i64 o.co), (w.heap.size, 7, .int .i64 o.pp), (w.heap.size, 8, .int .i64 o.pt), (w.heap.size, 9, .bool o.ta), (w.heap.size, 10, .bool o.si), (w.heap.size, 11, .bool o.dm), (w1.heap.size, 0, .int .i64 x.id), (w1.heap.size, 1, .int .i64 x.cd), (w1.heap.size, 2, .int .i64 x.ow), (w1.heap.size, 3, .int .i64 x.po), (w1.heap.size, 4, .int .i64 x.tg), (w1.heap.size, 5, .int .i64 x.da), (w1.heap.size, 6, .int .i64 x.co), (w1.heap.size, 7, .int .i64 x.pp), (w1.heap.size, 8, .int .i64 x.pt), (w1.heap.size, 9, .bool x.ta), (w1.heap.size, 10, .bool x.si), (w1.heap.size, 11, .bool x.dm), (D, 0, .int .i64 x.id), (D, 1, .int .i64 x.cd), (D, 2, .int .i64 x.ow), (D, 3, .int .i64 x.po), (D, 4, .int .i64 x.tg), (D, 5, .int .i64 x.da), (D, 6, .int .i64 x.co), (D, 7, .int .i64 x.pp), (D, 8, .int .i64 x.pt), (D, 9, .bool x.ta), (D, 10, .bool x.si), (D, 11, .bool x.dm)] (fun _ => True)) := ⟨⟨_, K_w21, E_w21⟩⟩
              repeat (go_big_quiet_step (fail))
              refine wpQuiet_nil ?_
              have rB0 := rcx _ne 0 rfl
              have rB1 := rcx _ne 1 rfl
              have rB2 := rcx _ne 2 rfl
              have rB3 := rcx _ne 3 rfl
              have rB4 := rcx _ne 4 rfl
              have rB5 := rcx _ne 5 rfl
              have rB6 := rcx _ne 6 rfl
              have rB7 := rcx _ne 7 rfl
              have rB8 := rcx _ne 8 rfl
              have rB9 := rcx _ne 9 rfl
              have rB10 := rcx _ne 10 rfl
              have rB11 := rcx _ne 11 rfl
              have rX0 := rcx _ne 12 rfl
              have rX1 := rcx _ne 13 rfl
              have rX2 := rcx _ne 14 rfl
              have rX3 := rcx _ne 15 rfl
              have rX4 := rcx _ne 16 rfl
              have rX5 := rcx _ne 17 rfl
              have rX6 := rcx _ne 18 rfl
              have rX7 := rcx _ne 19 rfl
              have rX8 := rcx _ne 20 rfl
              have rX9 := rcx _ne 21 rfl
              have rX10 := rcx _ne 22 rfl
              have rX11 := rcx _ne 23 rfl
              have rD0 := rcx _ne 24 rfl
              have rD1 := rcx _ne 25 rfl
              have rD2 := rcx _ne 26 rfl
              have rD3 := rcx _ne 27 rfl
              have rD4 := rcx _ne 28 rfl
              have rD5 := rcx _ne 29 rfl
              have rD6 := rcx _ne 30 rfl
              have rD7 := rcx _ne 31 rfl
              have rD8 := rcx _ne 32 rfl
              have rD9 := rcx _ne 33 rfl
              have rD10 := rcx _ne 34 rfl
              have rD11 := rcx _ne 35 rfl
              have rz : ∀ s : KX (w.heap.size) w (D + 1) [(w.heap.size, 0, .int .i64 o.id), (w.heap.size, 1, .int .i64 o.cd), (w.heap.size, 2, .int .i64 o.ow), (w.heap.size, 3, .int .i64 o.po), (w.heap.size, 4, .int .i64 o.tg), (w.heap.size, 5, .int .i64 o.da), (w.heap.size, 6, .int .i64 o.co), (w.heap.size, 7, .int .i64 o.pp), (w.heap.size, 8, .int .i64 o.pt), (w.heap.size, 9, .bool o.ta), (w.heap.size, 10, .bool o.si), (w.heap.size, 11, .bool o.dm), (w1.heap.size, 0, .int .i64 x.id), (w1.heap.size, 1, .int .i64 x.cd), (w1.heap.size, 2, .int .i64 x.ow), (w1.heap.size, 3, .int .i64 x.po), (w1.heap.size, 4, .int .i64 x.tg), (w1.heap.size, 5, .int .i64 x.da), (w1.heap.size, 6, .int .i64 x.co), (w1.heap.size, 7, .int .i64 x.pp), (w1.heap.size, 8, .int .i64 x.pt), (w1.heap.size, 9, .bool x.ta), (w1.heap.size, 10, .bool x.si), (w1.heap.size, 11, .bool x.dm), (D, 0, .int .i64 x.id), (D, 1, .int .i64 x.cd), (D, 2, .int .i64 x.ow), (D, 3, .int .i64 x.po), (D, 4, .int .i64 x.tg), (D, 5, .int .i64 x.da), (D, 6, .int .i64 x.co), (D, 7, .int .i64 x.pp), (D, 8, .int .i64 x.pt), (D, 9, .bool x.ta), (D, 10, .bool x.si), (D, 11, .bool x.dm)] (fun _ => True), s.val.cell? ⟨b2, o2 + t, none⟩ = some (.int .i64 z) := fun s => (s.kept.below.cell (p := ⟨b2, o2 + t, none⟩) hb2).trans hx0
              repeat (go_big_quiet_step (fail))
              refine wpQuiet_nil ?_
              clear rB0 rB1 rB2 rB3 rB4 rB5 rB6 rB7 rB8 rB9 rB10 rB11 rX0 rX1 rX2 rX3 rX4 rX5 rX6 rX7 rX8 rX9 rX10 rX11 rD0 rD1 rD2 rD3 rD4 rD5 rD6 rD7 rD8 rD9 rD10 rD11 rz
              have KH_w21 := Lib.hid K_w21
              have hw_w21 := K_w21.below
              have hz_w21 := K_w21.size
              have lB_w21 : w.heap.size < w21.heap.size := by omega
              have lX_w21 : w1.heap.size < w21.heap.size := by omega
              have lD_w21 : D < w21.heap.size := by omega
              clear K_w21
              clear E_w21 F_w21
              refine ⟨fun K hK0 => ?_, trivial⟩
              have hK := Lib.hid hK0
              clear hK0
              go_wp2_with fail
              with_reducible refine (ohit x z _ (vO_I hC.out.v).da hzi).mono ?_
              rintro e w22 ⟨rfl, hb_w22⟩
              have K_w22 := (KH_w21.out.step (by omega) (by go_grown)).step (by omega) hb_w22
              clear hb_w22
              have KH_w22 := Lib.hid K_w22
              have hw_w22 := K_w22.below
              have hz_w22 := K_w22.size
              have lB_w22 : w.heap.size < w22.heap.size := by omega
              have lX_w22 : w1.heap.size < w22.heap.size := by omega
              have lD_w22 : D < w22.heap.size := by omega
              clear lB_w21 lX_w21 lD_w21
              clear K_w22
              have cB0_w22 := KH_w22.out.nth 0 rfl
              have fB0_w22 := KH_w22.out.nthF 0 rfl
              have cB1_w22 := KH_w22.out.nth 1 rfl
              have fB1_w22 := KH_w22.out.nthF 1 rfl
              have cB2_w22 := KH_w22.out.nth 2 rfl
              have fB2_w22 := KH_w22.out.nthF 2 rfl
              have cB3_w22 := KH_w22.out.nth 3 rfl
              have fB3_w22 := KH_w22.out.nthF 3 rfl
              have cB4_w22 := KH_w22.out.nth 4 rfl
              have fB4_w22 := KH_w22.out.nthF 4 rfl
              have cB5_w22 := KH_w22.out.nth 5 rfl
              have fB5_w22 := KH_w22.out.nthF 5 rfl
              have cB6_w22 := KH_w22.out.nth 6 rfl
              have fB6_w22 := KH_w22.out.nthF 6 rfl
              have cB7_w22 := KH_w22.out.nth 7 rfl
              have fB7_w22 := KH_w22.out.nthF 7 rfl
              have cB8_w22 := KH_w22.out.nth 8 rfl
              have fB8_w22 := KH_w22.out.nthF 8 rfl
              have cB9_w22 := KH_w22.out.nth 9 rfl
              have fB9_w22 := KH_w22.out.nthF 9 rfl
              have cB10_w22 := KH_w22.out.nth 10 rfl
              have fB10_w22 := KH_w22.out.nthF 10 rfl
              have cB11_w22 := KH_w22.out.nth 11 rfl
              have fB11_w22 := KH_w22.out.nthF 11 rfl
              have cX0_w22 := KH_w22.out.nth 12 rfl
              have fX0_w22 := KH_w22.out.nthF 12 rfl
              have cX1_w22 := KH_w22.out.nth 13 rfl
              have fX1_w22 := KH_w22.out.nthF 13 rfl
              have cX2_w22 := KH_w22.out.nth 14 rfl
              have fX2_w22 := KH_w22.out.nthF 14 rfl
              have cX3_w22 := KH_w22.out.nth 15 rfl
              have fX3_w22 := KH_w22.out.nthF 15 rfl
              have cX4_w22 := KH_w22.out.nth 16 rfl
              have fX4_w22 := KH_w22.out.nthF 16 rfl
              have cX5_w22 := KH_w22.out.nth 17 rfl
              have fX5_w22 := KH_w22.out.nthF 17 rfl
              have cX6_w22 := KH_w22.out.nth 18 rfl
              have fX6_w22 := KH_w22.out.nthF 18 rfl
              have cX7_w22 := KH_w22.out.nth 19 rfl
              have fX7_w22 := KH_w22.out.nthF 19 rfl
              have cX8_w22 := KH_w22.out.nth 20 rfl
              have fX8_w22 := KH_w22.out.nthF 20 rfl
              have cX9_w22 := KH_w22.out.nth 21 rfl
              have fX9_w22 := KH_w22.out.nthF 21 rfl
              have cX10_w22 := KH_w22.out.nth 22 rfl
              have fX10_w22 := KH_w22.out.nthF 22 rfl
              have cX11_w22 := KH_w22.out.nth 23 rfl
              have fX11_w22 := KH_w22.out.nthF 23 rfl
              have cD0_w22 := KH_w22.out.nth 24 rfl
              have fD0_w22 := KH_w22.out.nthF 24 rfl
              have cD1_w22 := KH_w22.out.nth 25 rfl
              have fD1_w22 := KH_w22.out.nthF 25 rfl
              have cD2_w22 := KH_w22.out.nth 26 rfl
              have fD2_w22 := KH_w22.out.nthF 26 rfl
              have cD3_w22 := KH_w22.out.nth 27 rfl
              have fD3_w22 := KH_w22.out.nthF 27 rfl
              have cD4_w22 := KH_w22.out.nth 28 rfl
              have fD4_w22 := KH_w22.out.nthF 28 rfl
              have cD5_w22 := KH_w22.out.nth 29 rfl
              have fD5_w22 := KH_w22.out.nthF 29 rfl
              have cD6_w22 := KH_w22.out.nth 30 rfl
              have fD6_w22 := KH_w22.out.nthF 30 rfl
              have cD7_w22 := KH_w22.out.nth 31 rfl
              have fD7_w22 := KH_w22.out.nthF 31 rfl
              have cD8_w22 := KH_w22.out.nth 32 rfl
              have fD8_w22 := KH_w22.out.nthF 32 rfl
              have cD9_w22 := KH_w22.out.nth 33 rfl
              have fD9_w22 := KH_w22.out.nthF 33 rfl
              have cD10_w22 := KH_w22.out.nth 34 rfl
              have fD10_w22 := KH_w22.out.nthF 34 rfl
              have cD11_w22 := KH_w22.out.nth 35 rfl
              have fD11_w22 := KH_w22.out.nthF 35 rfl
              go_wp2_with fail
              first | (refine ⟨rfl, hK.out _ _ ?_⟩; clear hK K) | (refine hK.out _ _ ?_; clear hK K)
              refine ⟨fun K hK0 => ?_, trivial⟩
              have hK := Lib.hid hK0
              clear hK0
              go_wp2_with fail
              first | (refine ⟨rfl, hK.out _ _ ?_⟩; clear hK K) | (refine hK.out _ _ ?_; clear hK K)
              clear _ne
              go_wp2_with fail
              with_reducible refine (odeadc (.slice a0 cs.length c0) cs { x with da := ad x.da z } _ (HCR.out.below (by go_grown)) hc (vO_I (vO_hit hC.out.v z)) true (HDD.out hdd.out)).mono ?_
              rintro e w23 ⟨rfl, hb_w23⟩
              have K_w23 : Kept w.heap.size w (D + 1) [(w.heap.size, 0, .int .i64 o.id), (w.heap.size, 1, .int .i64 o.cd), (w.heap.size, 2, .int .i64 o.ow), (w.heap.size, 3, .int .i64 o.po), (w.heap.size, 4, .int .i64 o.tg), (w.heap.size, 5, .int .i64 o.da), (w.heap.size, 6, .int .i64 o.co), (w.heap.size, 7, .int .i64 o.pp), (w.heap.size, 8, .int .i64 o.pt), (w.heap.size, 9, .bool o.ta), (w.heap.size, 10, .bool o.si), (w.heap.size, 11, .bool o.dm), (w1.heap.size, 0, .int .i64 x.id), (w1.heap.size, 1, .int .i64 x.cd), (w1.heap.size, 2, .int .i64 x.ow), (w1.heap.size, 3, .int .i64 x.po), (w1.heap.size, 4, .int .i64 x.tg), (w1.heap.size, 5, .int .i64 (ad x.da z)), (w1.heap.size, 6, .int .i64 x.co), (w1.heap.size, 7, .int .i64 x.pp), (w1.heap.size, 8, .int .i64 x.pt), (w1.heap.size, 9, .bool x.ta), (w1.heap.size, 10, .bool x.si), (w1.heap.size, 11, .bool x.dm), (D, 0, .int .i64 x.id), (D, 1, .int .i64 x.cd), (D, 2, .int .i64 x.ow), (D, 3, .int .i64 x.po), (D, 4, .int .i64 x.tg), (D, 5, .int .i64 x.da), (D, 6, .int .i64 x.co), (D, 7, .int .i64 x.pp), (D, 8, .int .i64 x.pt), (D, 9, .bool x.ta), (D, 10, .bool x.si), (D, 11, .bool x.dm)] w23 := Kept.of hb_w23 (by go_grown) (by go_size) (by omega) (by simp [go_sem, lB_w22, lX_w22, lD_w22, cB0_w22, fB0_w22, cB1_w22, fB1_w22, cB2_w22, fB2_w22, cB3_w22, fB3_w22, cB4_w22, fB4_w22, cB5_w22, fB5_w22, cB6_w22, fB6_w22, cB7_w22, fB7_w22, cB8_w22, fB8_w22, cB9_w22, fB9_w22, cB10_w22, fB10_w22, cB11_w22, fB11_w22, cX0_w22, fX0_w22, cX1_w22, fX1_w22, cX2_w22, fX2_w22, cX3_w22, fX3_w22, cX4_w22, fX4_w22, cX5_w22, fX5_w22, cX6_w22, fX6_w22, cX7_w22, fX7_w22, cX8_w22, fX8_w22, cX9_w22, fX9_w22, cX10_w22, fX10_w22, cX11_w22, fX11_w22, cD0_w22, fD0_w22, cD1_w22, fD1_w22, cD2_w22, fD2_w22, cD3_w22, fD3_w22, cD4_w22, fD4_w22, cD5_w22, fD5_w22, cD6_w22, fD6_w22, cD7_w22, fD7_w22, cD8_w22, fD8_w22, cD9_w22, fD9_w22, cD10_w22, fD10_w22, cD11_w22, fD11_w22] <;> omega)
              clear hb_w23
              have KH_w23 := Lib.hid K_w23
              have hw_w23 := K_w23.below
              have hz_w23 := K_w23.size
              have lB_w23 : w.heap.size < w23.heap.size := by omega
              have lX_w23 : w1.heap.size < w23.heap.size := by omega
              have lD_w23 : D < w23.heap.size := by omega
              clear lB_w22 lX_w22 lD_w22 cB0_w22 fB0_w22 cB1_w22 fB1_w22 cB2_w22 fB2_w22 cB3_w22 fB3_w22 cB4_w22 fB4_w22 cB5_w22 fB5_w22 cB6_w22 fB6_w22 cB7_w22 fB7_w22 cB8_w22 fB8_w22 cB9_w22 fB9_w22 cB10_w22 fB10_w22 cB11_w22 fB11_w22 cX0_w22 fX0_w22 cX1_w22 fX1_w22 cX2_w22 fX2_w22 cX3_w22 fX3_w22 cX4_w22 fX4_w22 cX5_w22 fX5_w22 cX6_w22 fX6_w22 cX7_w22 fX7_w22 cX8_w22 fX8_w22 cX9_w22 fX9_w22 cX10_w22 fX10_w22 cX11_w22 fX11_w22 cD0_w22 fD0_w22 cD1_w22 fD1_w22 cD2_w22 fD2_w22 cD3_w22 fD3_w22 cD4_w22 fD4_w22 cD5_w22 fD5_w22 cD6_w22 fD6_w22 cD7_w22 fD7_w22 cD8_w22 fD8_w22 cD9_w22 fD9_w22 cD10_w22 fD10_w22 cD11_w22 fD11_w22
              clear K_w23
              have cB0_w23 := KH_w23.out.nth 0 rfl
              have fB0_w23 := KH_w23.out.nthF 0 rfl
              have cB1_w23 := KH_w23.out.nth 1 rfl
              have fB1_w23 := KH_w23.out.nthF 1 rfl
              have cB2_w23 := KH_w23.out.nth 2 rfl
              have fB2_w23 := KH_w23.out.nthF 2 rfl
              have cB3_w23 := KH_w23.out.nth 3 rfl
              have fB3_w23 := KH_w23.out.nthF 3 rfl
              have cB4_w23 := KH_w23.out.nth 4 rfl
              have fB4_w23 := KH_w23.out.nthF 4 rfl
              have cB5_w23 := KH_w23.out.nth 5 rfl
              have fB5_w23 := KH_w23.out.nthF 5 rfl
              have cB6_w23 := KH_w23.out.nth 6 rfl
              have fB6_w23 := KH_w23.out.nthF 6 rfl
              have cB7_w23 := KH_w23.out.nth 7 rfl
              have fB7_w23 := KH_w23.out.nthF 7 rfl
              have cB8_w23 := KH_w23.out.nth 8 rfl
              have fB8_w23 := KH_w23.out.nthF 8 rfl
              have cB9_w23 := KH_w23.out.nth 9 rfl
              have fB9_w23 := KH_w23.out.nthF 9 rfl
              have cB10_w23 := KH_w23.out.nth 10 rfl
              have fB10_w23 := KH_w23.out.nthF 10 rfl
              have cB11_w23 := KH_w23.out.nth 11 rfl
              have fB11_w23 := KH_w23.out.nthF 11 rfl
              have cX0_w23 := KH_w23.out.nth 12 rfl
              have fX0_w23 := KH_w23.out.nthF 12 rfl
              have cX1_w23 := KH_w23.out.nth 13 rfl
              have fX1_w23 := KH_w23.out.nthF 13 rfl
              have cX2_w23 := KH_w23.out.nth 14 rfl
              have fX2_w23 := KH_w23.out.nthF 14 rfl
              have cX3_w23 := KH_w23.out.nth 15 rfl
              have fX3_w23 := KH_w23.out.nthF 15 rfl
              have cX4_w23 := KH_w23.out.nth 16 rfl
              have fX4_w23 := KH_w23.out.nthF 16 rfl
              have cX5_w23 := KH_w23.out.nth 17 rfl
              have fX5_w23 := KH_w23.out.nthF 17 rfl
              have cX6_w23 := KH_w23.out.nth 18 rfl
              have fX6_w23 := KH_w23.out.nthF 18 rfl
              have cX7_w23 := KH_w23.out.nth 19 rfl
              have fX7_w23 := KH_w23.out.nthF 19 rfl
              have cX8_w23 := KH_w23.out.nth 20 rfl
              have fX8_w23 := KH_w23.out.nthF 20 rfl
              have cX9_w23 := KH_w23.out.nth 21 rfl
              have fX9_w23 := KH_w23.out.nthF 21 rfl
              have cX10_w23 := KH_w23.out.nth 22 rfl
              have fX10_w23 := KH_w23.out.nthF 22 rfl
              have cX11_w23 := KH_w23.out.nth 23 rfl
              have fX11_w23 := KH_w23.out.nthF 23 rfl
              have cD0_w23 := KH_w23.out.nth 24 rfl
              have fD0_w23 := KH_w23.out.nthF 24 rfl
              have cD1_w23 := KH_w23.out.nth 25 rfl
              have fD1_w23 := KH_w23.out.nthF 25 rfl
              have cD2_w23 := KH_w23.out.nth 26 rfl
              have fD2_w23 := KH_w23.out.nthF 26 rfl
              have cD3_w23 := KH_w23.out.nth 27 rfl
              have fD3_w23 := KH_w23.out.nthF 27 rfl
              have cD4_w23 := KH_w23.out.nth 28 rfl
              have fD4_w23 := KH_w23.out.nthF 28 rfl
              have cD5_w23 := KH_w23.out.nth 29 rfl
              have fD5_w23 := KH_w23.out.nthF 29 rfl
              have cD6_w23 := KH_w23.out.nth 30 rfl
              have fD6_w23 := KH_w23.out.nthF 30 rfl
              have cD7_w23 := KH_w23.out.nth 31 rfl
              have fD7_w23 := KH_w23.out.nthF 31 rfl
              have cD8_w23 := KH_w23.out.nth 32 rfl
              have fD8_w23 := KH_w23.out.nthF 32 rfl
              have cD9_w23 := KH_w23.out.nth 33 rfl
              have fD9_w23 := KH_w23.out.nthF 33 rfl
              have cD10_w23 := KH_w23.out.nth 34 rfl
              have fD10_w23 := KH_w23.out.nthF 34 rfl
              have cD11_w23 := KH_w23.out.nth 35 rfl
              have fD11_w23 := KH_w23.out.nthF 35 rfl
              go_wp2_with fail
              go_meet
              case rel => rw [stO_0 hm.out]; exact ⟨by go_grown, by go_size, (by simp [go_sem, lB_w23, lX_w23, lD_w23, cB0_w23, fB0_w23, cB1_w23, fB1_w23, cB2_w23, fB2_w23, cB3_w23, fB3_w23, cB4_w23, fB4_w23, cB5_w23, fB5_w23, cB6_w23, fB6_w23, cB7_w23, fB7_w23, cB8_w23, fB8_w23, cB9_w23, fB9_w23, cB10_w23, fB10_w23, cB11_w23, fB11_w23, cX0_w23, fX0_w23, cX1_w23, fX1_w23, cX2_w23, fX2_w23, cX3_w23, fX3_w23, cX4_w23, fX4_w23, cX5_w23, fX5_w23, cX6_w23, fX6_w23, cX7_w23, fX7_w23, cX8_w23, fX8_w23, cX9_w23, fX9_w23, cX10_w23, fX10_w23, cX11_w23, fX11_w23, cD0_w23, fD0_w23, cD1_w23, fD1_w23, cD2_w23, fD2_w23, cD3_w23, fD3_w23, cD4_w23, fD4_w23, cD5_w23, fD5_w23, cD6_w23, fD6_w23, cD7_w23, fD7_w23, cD8_w23, fD8_w23, cD9_w23, fD9_w23, cD10_w23, fD10_w23, cD11_w23, fD11_w23] <;> omega)⟩
            | false =>
              have hdd := Lib.hid hd
              clear hd
              go_wp2_with fail
              refine rg5_11 (w0 := w) (B := w.heap.size) (n := D + 1) (L := [(w.heap.size, 0, .int .i64 o.id), (w.heap.size, 1, .int .i64 o.cd), (w.heap.size, 2, .int .i64 o.ow), (w.heap.size, 3, .int .i64 o.po), (w.heap.size, 4, .int .i64 o.tg), (w.heap.size, 5, .int .i64 o.da), (w.heap.size, 6, .int .i64 o.co), (w.heap.size, 7, .int .i64 o.pp), (w.heap.size, 8, .int .i64 o.pt), (w.heap.size, 9, .bool o.ta), (w.heap.size, 10, .bool o.si), (w.heap.size, 11, .bool o.dm), (w1.heap.size, 0, .int .i64 x.id), (w1.heap.size, 1, .int .i64 x.cd), (w1.heap.size, 2, .int .i64 x.ow), (w1.heap.size, 3, .int .i64 x.po), (w1.heap.size, 4, .int .i64 x.tg), (w1.heap.size, 5, .int .i64 x.da), (w1.heap.size, 6, .int .i64 x.co), (w1.heap.size, 7, .int .i64 x.pp), (w1.heap.size, 8, .int .i64 x.pt), (w1.heap.size, 9, .bool x.ta), (w1.heap.size, 10, .bool x.si), (w1.heap.size, 11, .bool x.dm), (D, 0, .int .i64 x.id), (D, 1, .int .i64 x.cd), (D, 2, .int .i64 x.ow), (D, 3, .int .i64 x.po), (D, 4, .int .i64 x.tg), (D, 5, .int .i64 x.da), (D, 6, .int .i64 x.co), (D, 7, .int .i64 x.pp), (D, 8, .int .i64 x.pt), (D, 9, .bool x.ta), (D, 10, .bool x.si), (D, 11, .bool x.dm)]) (E := fun _ => True) (F := fun _ => True) (by kernel_rfl) (by kernel_rfl) (KH_wd.out.step (by omega) (by go_grown)) trivial (fun _ _ _ _ => trivial) trivial (fun _ _ _ _ => trivial) (fun w21 K_w21 E_w21 F_w21 => ?_)
              have _ne : Nonempty (KX (w.heap.size) w (D + 1) [(w.heap.size, 0, .int .i64 o.id), (w.heap.size, 1, .int .i64 o.cd), (w.heap.size, 2, .int .i64 o.ow), (w.heap.size, 3, .int .i64 o.po), (w.heap.size, 4, .int .i64 o.tg), (w.heap.size, 5, .int .i64 o.da), (w.heap.size, 6, .int .i64 o.co), (w.heap.size, 7, .int .i64 o.pp), (w.heap.size, 8, .int .i64 o.pt), (w.heap.size, 9, .bool o.ta), (w.heap.size, 10, .bool o.si), (w.heap.size, 11, .bool o.dm), (w1.heap.size, 0, .int .i64 x.id), (w1.heap.size, 1, .int .i64 x.cd), (w1.heap.size, 2, .int .i64 x.ow), (w1.heap.size, 3, .int .i64 x.po), (w1.heap.size, 4, .int .i64 x.tg), (w1.heap.size, 5, .int .i64 x.da), (w1.heap.size, 6, .int .i64 x.co), (w1.heap.size, 7, .int .i64 x.pp), (w1.heap.size, 8, .int .i64 x.pt), (w1.heap.size, 9, .bool x.ta), (w1.heap.size, 10, .bool x.si), (w1.heap.size, 11, .bool x.dm), (D, 0, .int .i64 x.id), (D, 1, .int .i64 x.cd), (D, 2, .int .i64 x.ow), (D, 3, .int .i64 x.po), (D, 4, .int .i64 x.tg), (D, 5, .int .i64 x.da), (D, 6, .int .i64 x.co), (D, 7, .int .i64 x.pp), (D, 8, .int .i64 x.pt), (D, 9, .bool x.ta), (D, 10, .bool x.si), (D, 11, .bool x.dm)] (fun _ => True)) := ⟨⟨_, K_w21, E_w21⟩⟩
              repeat (go_big_quiet_step (fail))
              refine wpQuiet_nil ?_
              have rB0 := rcx _ne 0 rfl
              have rB1 := rcx _ne 1 rfl
              have rB2 := rcx _ne 2 rfl
              have rB3 := rcx _ne 3 rfl
              have rB4 := rcx _ne 4 rfl
              have rB5 := rcx _ne 5 rfl
              have rB6 := rcx _ne 6 rfl
              have rB7 := rcx _ne 7 rfl
              have rB8 := rcx _ne 8 rfl
              have rB9 := rcx _ne 9 rfl
              have rB10 := rcx _ne 10 rfl
              have rB11 := rcx _ne 11 rfl
              have rX0 := rcx _ne 12 rfl
              have rX1 := rcx _ne 13 rfl
              have rX2 := rcx _ne 14 rfl
              have rX3 := rcx _ne 15 rfl
              have rX4 := rcx _ne 16 rfl
              have rX5 := rcx _ne 17 rfl
              have rX6 := rcx _ne 18 rfl
              have rX7 := rcx _ne 19 rfl
              have rX8 := rcx _ne 20 rfl
              have rX9 := rcx _ne 21 rfl
              have rX10 := rcx _ne 22 rfl
              have rX11 := rcx _ne 23 rfl
              have rD0 := rcx _ne 24 rfl
              have rD1 := rcx _ne 25 rfl
              have rD2 := rcx _ne 26 rfl
              have rD3 := rcx _ne 27 rfl
              have rD4 := rcx _ne 28 rfl
              have rD5 := rcx _ne 29 rfl
              have rD6 := rcx _ne 30 rfl
              have rD7 := rcx _ne 31 rfl
              have rD8 := rcx _ne 32 rfl
              have rD9 := rcx _ne 33 rfl
              have rD10 := rcx _ne 34 rfl
              have rD11 := rcx _ne 35 rfl
              have rz : ∀ s : KX (w.heap.size) w (D + 1) [(w.heap.size, 0, .int .i64 o.id), (w.heap.size, 1, .int .i64 o.cd), (w.heap.size, 2, .int .i64 o.ow), (w.heap.size, 3, .int .i64 o.po), (w.heap.size, 4, .int .i64 o.tg), (w.heap.size, 5, .int .i64 o.da), (w.heap.size, 6, .int .i64 o.co), (w.heap.size, 7, .int .i64 o.pp), (w.heap.size, 8, .int .i64 o.pt), (w.heap.size, 9, .bool o.ta), (w.heap.size, 10, .bool o.si), (w.heap.size, 11, .bool o.dm), (w1.heap.size, 0, .int .i64 x.id), (w1.heap.size, 1, .int .i64 x.cd), (w1.heap.size, 2, .int .i64 x.ow), (w1.heap.size, 3, .int .i64 x.po), (w1.heap.size, 4, .int .i64 x.tg), (w1.heap.size, 5, .int .i64 x.da), (w1.heap.size, 6, .int .i64 x.co), (w1.heap.size, 7, .int .i64 x.pp), (w1.heap.size, 8, .int .i64 x.pt), (w1.heap.size, 9, .bool x.ta), (w1.heap.size, 10, .bool x.si), (w1.heap.size, 11, .bool x.dm), (D, 0, .int .i64 x.id), (D, 1, .int .i64 x.cd), (D, 2, .int .i64 x.ow), (D, 3, .int .i64 x.po), (D, 4, .int .i64 x.tg), (D, 5, .int .i64 x.da), (D, 6, .int .i64 x.co), (D, 7, .int .i64 x.pp), (D, 8, .int .i64 x.pt), (D, 9, .bool x.ta), (D, 10, .bool x.si), (D, 11, .bool x.dm)] (fun _ => True), s.val.cell? ⟨b2, o2 + t, none⟩ = some (.int .i64 z) := fun s => (s.kept.below.cell (p := ⟨b2, o2 + t, none⟩) hb2).trans hx0
              repeat (go_big_quiet_step (fail))
              refine wpQuiet_nil ?_
              clear rB0 rB1 rB2 rB3 rB4 rB5 rB6 rB7 rB8 rB9 rB10 rB11 rX0 rX1 rX2 rX3 rX4 rX5 rX6 rX7 rX8 rX9 rX10 rX11 rD0 rD1 rD2 rD3 rD4 rD5 rD6 rD7 rD8 rD9 rD10 rD11 rz
              have KH_w21 := Lib.hid K_w21
              have hw_w21 := K_w21.below
              have hz_w21 := K_w21.size
              have lB_w21 : w.heap.size < w21.heap.size := by omega
              have lX_w21 : w1.heap.size < w21.heap.size := by omega
              have lD_w21 : D < w21.heap.size := by omega
              clear K_w21
              clear E_w21 F_w21
              refine ⟨fun K hK0 => ?_, trivial⟩
              have hK := Lib.hid hK0
              clear hK0
              go_wp2_with fail
              with_reducible refine (ohit x z _ (vO_I hC.out.v).da hzi).mono ?_
              rintro e w22 ⟨rfl, hb_w22⟩
              have K_w22 := (KH_w21.out.step (by omega) (by go_grown)).step (by omega) hb_w22
              clear hb_w22
              have KH_w22 := Lib.hid K_w22
              have hw_w22 := K_w22.below
              have hz_w22 := K_w22.size
              have lB_w22 : w.heap.size < w22.heap.size := by omega
              have lX_w22 : w1.heap.size < w22.heap.size := by omega
              have lD_w22 : D < w22.heap.size := by omega
              clear lB_w21 lX_w21 lD_w21
              clear K_w22
              have cB0_w22 := KH_w22.out.nth 0 rfl
              have fB0_w22 := KH_w22.out.nthF 0 rfl
              have cB1_w22 := KH_w22.out.nth 1 rfl
              have fB1_w22 := KH_w22.out.nthF 1 rfl
              have cB2_w22 := KH_w22.out.nth 2 rfl
              have fB2_w22 := KH_w22.out.nthF 2 rfl
              have cB3_w22 := KH_w22.out.nth 3 rfl
              have fB3_w22 := KH_w22.out.nthF 3 rfl
              have cB4_w22 := KH_w22.out.nth 4 rfl
              have fB4_w22 := KH_w22.out.nthF 4 rfl
              have cB5_w22 := KH_w22.out.nth 5 rfl
              have fB5_w22 := KH_w22.out.nthF 5 rfl
              have cB6_w22 := KH_w22.out.nth 6 rfl
              have fB6_w22 := KH_w22.out.nthF 6 rfl
              have cB7_w22 := KH_w22.out.nth 7 rfl
              have fB7_w22 := KH_w22.out.nthF 7 rfl
              have cB8_w22 := KH_w22.out.nth 8 rfl
              have fB8_w22 := KH_w22.out.nthF 8 rfl
              have cB9_w22 := KH_w22.out.nth 9 rfl
              have fB9_w22 := KH_w22.out.nthF 9 rfl
              have cB10_w22 := KH_w22.out.nth 10 rfl
              have fB10_w22 := KH_w22.out.nthF 10 rfl
              have cB11_w22 := KH_w22.out.nth 11 rfl
              have fB11_w22 := KH_w22.out.nthF 11 rfl
              have cX0_w22 := KH_w22.out.nth 12 rfl
              have fX0_w22 := KH_w22.out.nthF 12 rfl
              have cX1_w22 := KH_w22.out.nth 13 rfl
              have fX1_w22 := KH_w22.out.nthF 13 rfl
              have cX2_w22 := KH_w22.out.nth 14 rfl
              have fX2_w22 := KH_w22.out.nthF 14 rfl
              have cX3_w22 := KH_w22.out.nth 15 rfl
              have fX3_w22 := KH_w22.out.nthF 15 rfl
              have cX4_w22 := KH_w22.out.nth 16 rfl
              have fX4_w22 := KH_w22.out.nthF 16 rfl
              have cX5_w22 := KH_w22.out.nth 17 rfl
              have fX5_w22 := KH_w22.out.nthF 17 rfl
              have cX6_w22 := KH_w22.out.nth 18 rfl
              have fX6_w22 := KH_w22.out.nthF 18 rfl
              have cX7_w22 := KH_w22.out.nth 19 rfl
              have fX7_w22 := KH_w22.out.nthF 19 rfl
              have cX8_w22 := KH_w22.out.nth 20 rfl
              have fX8_w22 := KH_w22.out.nthF 20 rfl
              have cX9_w22 := KH_w22.out.nth 21 rfl
              have fX9_w22 := KH_w22.out.nthF 21 rfl
              have cX10_w22 := KH_w22.out.nth 22 rfl
              have fX10_w22 := KH_w22.out.nthF 22 rfl
              have cX11_w22 := KH_w22.out.nth 23 rfl
              have fX11_w22 := KH_w22.out.nthF 23 rfl
              have cD0_w22 := KH_w22.out.nth 24 rfl
              have fD0_w22 := KH_w22.out.nthF 24 rfl
              have cD1_w22 := KH_w22.out.nth 25 rfl
              have fD1_w22 := KH_w22.out.nthF 25 rfl
              have cD2_w22 := KH_w22.out.nth 26 rfl
              have fD2_w22 := KH_w22.out.nthF 26 rfl
              have cD3_w22 := KH_w22.out.nth 27 rfl
              have fD3_w22 := KH_w22.out.nthF 27 rfl
              have cD4_w22 := KH_w22.out.nth 28 rfl
              have fD4_w22 := KH_w22.out.nthF 28 rfl
              have cD5_w22 := KH_w22.out.nth 29 rfl
              have fD5_w22 := KH_w22.out.nthF 29 rfl
              have cD6_w22 := KH_w22.out.nth 30 rfl
              have fD6_w22 := KH_w22.out.nthF 30 rfl
              have cD7_w22 := KH_w22.out.nth 31 rfl
              have fD7_w22 := KH_w22.out.nthF 31 rfl
              have cD8_w22 := KH_w22.out.nth 32 rfl
              have fD8_w22 := KH_w22.out.nthF 32 rfl
              have cD9_w22 := KH_w22.out.nth 33 rfl
              have fD9_w22 := KH_w22.out.nthF 33 rfl
              have cD10_w22 := KH_w22.out.nth 34 rfl
              have fD10_w22 := KH_w22.out.nthF 34 rfl
              have cD11_w22 := KH_w22.out.nth 35 rfl
              have fD11_w22 := KH_w22.out.nthF 35 rfl
              go_wp2_with fail
              first | (refine ⟨rfl, hK.out _ _ ?_⟩; clear hK K) | (refine hK.out _ _ ?_; clear hK K)
              refine ⟨fun K hK0 => ?_, trivial⟩
              have hK := Lib.hid hK0
              clear hK0
              go_wp2_with fail
              first | (refine ⟨rfl, hK.out _ _ ?_⟩; clear hK K) | (refine hK.out _ _ ?_; clear hK K)
              clear _ne
              go_wp2_with fail
              go_meet
              case rel => rw [stO_0 hm.out]; exact ⟨by go_grown, by go_size, (by simp [go_sem, lB_w22, lX_w22, lD_w22, cB0_w22, fB0_w22, cB1_w22, fB1_w22, cB2_w22, fB2_w22, cB3_w22, fB3_w22, cB4_w22, fB4_w22, cB5_w22, fB5_w22, cB6_w22, fB6_w22, cB7_w22, fB7_w22, cB8_w22, fB8_w22, cB9_w22, fB9_w22, cB10_w22, fB10_w22, cB11_w22, fB11_w22, cX0_w22, fX0_w22, cX1_w22, fX1_w22, cX2_w22, fX2_w22, cX3_w22, fX3_w22, cX4_w22, fX4_w22, cX5_w22, fX5_w22, cX6_w22, fX6_w22, cX7_w22, fX7_w22, cX8_w22, fX8_w22, cX9_w22, fX9_w22, cX10_w22, fX10_w22, cX11_w22, fX11_w22, cD0_w22, fD0_w22, cD1_w22, fD1_w22, cD2_w22, fD2_w22, cD3_w22, fD3_w22, cD4_w22, fD4_w22, cD5_w22, fD5_w22, cD6_w22, fD6_w22, cD7_w22, fD7_w22, cD8_w22, fD8_w22, cD9_w22, fD9_w22, cD10_w22, fD10_w22, cD11_w22, fD11_w22] <;> omega)⟩
          · have hm := Lib.hid h3
            have e3 : (t : Int) % 3 = 1 := by omega
            clear h3
            go_wp2_with fail
            refine rg5_15 (w0 := w) (B := w.heap.size) (n := D + 1) (L := [(w.heap.size, 0, .int .i64 o.id), (w.heap.size, 1, .int .i64 o.cd), (w.heap.size, 2, .int .i64 o.ow), (w.heap.size, 3, .int .i64 o.po), (w.heap.size, 4, .int .i64 o.tg), (w.heap.size, 5, .int .i64 o.da), (w.heap.size, 6, .int .i64 o.co), (w.heap.size, 7, .int .i64 o.pp), (w.heap.size, 8, .int .i64 o.pt), (w.heap.size, 9, .bool o.ta), (w.heap.size, 10, .bool o.si), (w.heap.size, 11, .bool o.dm), (w1.heap.size, 0, .int .i64 x.id), (w1.heap.size, 1, .int .i64 x.cd), (w1.heap.size, 2, .int .i64 x.ow), (w1.heap.size, 3, .int .i64 x.po), (w1.heap.size, 4, .int .i64 x.tg), (w1.heap.size, 5, .int .i64 x.da), (w1.heap.size, 6, .int .i64 x.co), (w1.heap.size, 7, .int .i64 x.pp), (w1.heap.size, 8, .int .i64 x.pt), (w1.heap.size, 9, .bool x.ta), (w1.heap.size, 10, .bool x.si), (w1.heap.size, 11, .bool x.dm), (D, 0, .int .i64 x.id), (D, 1, .int .i64 x.cd), (D, 2, .int .i64 x.ow), (D, 3, .int .i64 x.po), (D, 4, .int .i64 x.tg), (D, 5, .int .i64 x.da), (D, 6, .int .i64 x.co), (D, 7, .int .i64 x.pp), (D, 8, .int .i64 x.pt), (D, 9, .bool x.ta), (D, 10, .bool x.si), (D, 11, .bool x.dm)]) (E := fun _ => True) (F := fun _ => True) (by kernel_rfl) (by kernel_rfl) (KH_wd.out.step (by omega) (by go_grown)) trivial (fun _ _ _ _ => trivial) trivial (fun _ _ _ _ => trivial) (fun w21 K_w21 E_w21 F_w21 => ?_)
            have _ne : Nonempty (KX (w.heap.size) w (D + 1) [(w.heap.size, 0, .int .i64 o.id), (w.heap.size, 1, .int .i64 o.cd), (w.heap.size, 2, .int .i64 o.ow), (w.heap.size, 3, .int .i64 o.po), (w.heap.size, 4, .int .i64 o.tg), (w.heap.size, 5, .int .i64 o.da), (w.heap.size, 6, .int .i64 o.co), (w.heap.size, 7, .int .i64 o.pp), (w.heap.size, 8, .int .i64 o.pt), (w.heap.size, 9, .bool o.ta), (w.heap.size, 10, .bool o.si), (w.heap.size, 11, .bool o.dm), (w1.heap.size, 0, .int .i64 x.id), (w1.heap.size, 1, .int .i64 x.cd), (w1.heap.size, 2, .int .i64 x.ow), (w1.heap.size, 3, .int .i64 x.po), (w1.heap.size, 4, .int .i64 x.tg), (w1.heap.size, 5, .int .i64 x.da), (w1.heap.size, 6, .int .i64 x.co), (w1.heap.size, 7, .int .i64 x.pp), (w1.heap.size, 8, .int .i64 x.pt), (w1.heap.size, 9, .bool x.ta), (w1.heap.size, 10, .bool x.si), (w1.heap.size, 11, .bool x.dm), (D, 0, .int .i64 x.id), (D, 1, .int .i64 x.cd), (D, 2, .int .i64 x.ow), (D, 3, .int .i64 x.po), (D, 4, .int .i64 x.tg), (D, 5, .int .i64 x.da), (D, 6, .int .i64 x.co), (D, 7, .int .i64 x.pp), (D, 8, .int .i64 x.pt), (D, 9, .bool x.ta), (D, 10, .bool x.si), (D, 11, .bool x.dm)] (fun _ => True)) := ⟨⟨_, K_w21, E_w21⟩⟩
            repeat (go_big_quiet_step (fail))
            refine wpQuiet_nil ?_
            have rB0 := rcx _ne 0 rfl
            have rB1 := rcx _ne 1 rfl
            have rB2 := rcx _ne 2 rfl
            have rB3 := rcx _ne 3 rfl
            have rB4 := rcx _ne 4 rfl
            have rB5 := rcx _ne 5 rfl
            have rB6 := rcx _ne 6 rfl
            have rB7 := rcx _ne 7 rfl
            have rB8 := rcx _ne 8 rfl
            have rB9 := rcx _ne 9 rfl
            have rB10 := rcx _ne 10 rfl
            have rB11 := rcx _ne 11 rfl
            have rX0 := rcx _ne 12 rfl
            have rX1 := rcx _ne 13 rfl
            have rX2 := rcx _ne 14 rfl
            have rX3 := rcx _ne 15 rfl
            have rX4 := rcx _ne 16 rfl
            have rX5 := rcx _ne 17 rfl
            have rX6 := rcx _ne 18 rfl
            have rX7 := rcx _ne 19 rfl
            have rX8 := rcx _ne 20 rfl
            have rX9 := rcx _ne 21 rfl
            have rX10 := rcx _ne 22 rfl
            have rX11 := rcx _ne 23 rfl
            have rD0 := rcx _ne 24 rfl
            have rD1 := rcx _ne 25 rfl
            have rD2 := rcx _ne 26 rfl
            have rD3 := rcx _ne 27 rfl
            have rD4 := rcx _ne 28 rfl
            have rD5 := rcx _ne 29 rfl
            have rD6 := rcx _ne 30 rfl
            have rD7 := rcx _ne 31 rfl
            have rD8 := rcx _ne 32 rfl
            have rD9 := rcx _ne 33 rfl
            have rD10 := rcx _ne 34 rfl
            have rD11 := rcx _ne 35 rfl
            have rz : ∀ s : KX (w.heap.size) w (D + 1) [(w.heap.size, 0, .int .i64 o.id), (w.heap.size, 1, .int .i64 o.cd), (w.heap.size, 2, .int .i64 o.ow), (w.heap.size, 3, .int .i64 o.po), (w.heap.size, 4, .int .i64 o.tg), (w.heap.size, 5, .int .i64 o.da), (w.heap.size, 6, .int .i64 o.co), (w.heap.size, 7, .int .i64 o.pp), (w.heap.size, 8, .int .i64 o.pt), (w.heap.size, 9, .bool o.ta), (w.heap.size, 10, .bool o.si), (w.heap.size, 11, .bool o.dm), (w1.heap.size, 0, .int .i64 x.id), (w1.heap.size, 1, .int .i64 x.cd), (w1.heap.size, 2, .int .i64 x.ow), (w1.heap.size, 3, .int .i64 x.po), (w1.heap.size, 4, .int .i64 x.tg), (w1.heap.size, 5, .int .i64 x.da), (w1.heap.size, 6, .int .i64 x.co), (w1.heap.size, 7, .int .i64 x.pp), (w1.heap.size, 8, .int .i64 x.pt), (w1.heap.size, 9, .bool x.ta), (w1.heap.size, 10, .bool x.si), (w1.heap.size, 11, .bool x.dm), (D, 0, .int .i64 x.id), (D, 1, .int .i64 x.cd), (D, 2, .int .i64 x.ow), (D, 3, .int .i64 x.po), (D, 4, .int .i64 x.tg), (D, 5, .int .i64 x.da), (D, 6, .int .i64 x.co), (D, 7, .int .i64 x.pp), (D, 8, .int .i64 x.pt), (D, 9, .bool x.ta), (D, 10, .bool x.si), (D, 11, .bool x.dm)] (fun _ => True), s.val.cell? ⟨b2, o2 + t, none⟩ = some (.int .i64 z) := fun s => (s.kept.below.cell (p := ⟨b2, o2 + t, none⟩) hb2).trans hx0
            repeat (go_big_quiet_step (fail))
            refine wpQuiet_nil ?_
            clear rB0 rB1 rB2 rB3 rB4 rB5 rB6 rB7 rB8 rB9 rB10 rB11 rX0 rX1 rX2 rX3 rX4 rX5 rX6 rX7 rX8 rX9 rX10 rX11 rD0 rD1 rD2 rD3 rD4 rD5 rD6 rD7 rD8 rD9 rD10 rD11 rz
            have KH_w21 := Lib.hid K_w21
            have hw_w21 := K_w21.below
            have hz_w21 := K_w21.size
            have lB_w21 : w.heap.size < w21.heap.size := by omega
            have lX_w21 : w1.heap.size < w21.heap.size := by omega
            have lD_w21 : D < w21.heap.size := by omega
            clear K_w21
            clear E_w21 F_w21
            refine ⟨fun K hK0 => ?_, trivial⟩
            have hK := Lib.hid hK0
            clear hK0
            go_wp2_with fail
            with_reducible refine (ocount x z _ (vO_I hC.out.v).co hzi).mono ?_
            rintro e w22 ⟨rfl, hb_w22⟩
            have K_w22 := (KH_w21.out.step (by omega) (by go_grown)).step (by omega) hb_w22
            clear hb_w22
            have KH_w22 := Lib.hid K_w22
            have hw_w22 := K_w22.below
            have hz_w22 := K_w22.size
            have lB_w22 : w.heap.size < w22.heap.size := by omega
            have lX_w22 : w1.heap.size < w22.heap.size := by omega
            have lD_w22 : D < w22.heap.size := by omega
            clear lB_w21 lX_w21 lD_w21
            clear K_w22
            have cB0_w22 := KH_w22.out.nth 0 rfl
            have fB0_w22 := KH_w22.out.nthF 0 rfl
            have cB1_w22 := KH_w22.out.nth 1 rfl
            have fB1_w22 := KH_w22.out.nthF 1 rfl
            have cB2_w22 := KH_w22.out.nth 2 rfl
            have fB2_w22 := KH_w22.out.nthF 2 rfl
            have cB3_w22 := KH_w22.out.nth 3 rfl
            have fB3_w22 := KH_w22.out.nthF 3 rfl
            have cB4_w22 := KH_w22.out.nth 4 rfl
            have fB4_w22 := KH_w22.out.nthF 4 rfl
            have cB5_w22 := KH_w22.out.nth 5 rfl
            have fB5_w22 := KH_w22.out.nthF 5 rfl
            have cB6_w22 := KH_w22.out.nth 6 rfl
            have fB6_w22 := KH_w22.out.nthF 6 rfl
            have cB7_w22 := KH_w22.out.nth 7 rfl
            have fB7_w22 := KH_w22.out.nthF 7 rfl
            have cB8_w22 := KH_w22.out.nth 8 rfl
            have fB8_w22 := KH_w22.out.nthF 8 rfl
            have cB9_w22 := KH_w22.out.nth 9 rfl
            have fB9_w22 := KH_w22.out.nthF 9 rfl
            have cB10_w22 := KH_w22.out.nth 10 rfl
            have fB10_w22 := KH_w22.out.nthF 10 rfl
            have cB11_w22 := KH_w22.out.nth 11 rfl
            have fB11_w22 := KH_w22.out.nthF 11 rfl
            have cX0_w22 := KH_w22.out.nth 12 rfl
            have fX0_w22 := KH_w22.out.nthF 12 rfl
            have cX1_w22 := KH_w22.out.nth 13 rfl
            have fX1_w22 := KH_w22.out.nthF 13 rfl
            have cX2_w22 := KH_w22.out.nth 14 rfl
            have fX2_w22 := KH_w22.out.nthF 14 rfl
            have cX3_w22 := KH_w22.out.nth 15 rfl
            have fX3_w22 := KH_w22.out.nthF 15 rfl
            have cX4_w22 := KH_w22.out.nth 16 rfl
            have fX4_w22 := KH_w22.out.nthF 16 rfl
            have cX5_w22 := KH_w22.out.nth 17 rfl
            have fX5_w22 := KH_w22.out.nthF 17 rfl
            have cX6_w22 := KH_w22.out.nth 18 rfl
            have fX6_w22 := KH_w22.out.nthF 18 rfl
            have cX7_w22 := KH_w22.out.nth 19 rfl
            have fX7_w22 := KH_w22.out.nthF 19 rfl
            have cX8_w22 := KH_w22.out.nth 20 rfl
            have fX8_w22 := KH_w22.out.nthF 20 rfl
            have cX9_w22 := KH_w22.out.nth 21 rfl
            have fX9_w22 := KH_w22.out.nthF 21 rfl
            have cX10_w22 := KH_w22.out.nth 22 rfl
            have fX10_w22 := KH_w22.out.nthF 22 rfl
            have cX11_w22 := KH_w22.out.nth 23 rfl
            have fX11_w22 := KH_w22.out.nthF 23 rfl
            have cD0_w22 := KH_w22.out.nth 24 rfl
            have fD0_w22 := KH_w22.out.nthF 24 rfl
            have cD1_w22 := KH_w22.out.nth 25 rfl
            have fD1_w22 := KH_w22.out.nthF 25 rfl
            have cD2_w22 := KH_w22.out.nth 26 rfl
            have fD2_w22 := KH_w22.out.nthF 26 rfl
            have cD3_w22 := KH_w22.out.nth 27 rfl
            have fD3_w22 := KH_w22.out.nthF 27 rfl
            have cD4_w22 := KH_w22.out.nth 28 rfl
            have fD4_w22 := KH_w22.out.nthF 28 rfl
            have cD5_w22 := KH_w22.out.nth 29 rfl
            have fD5_w22 := KH_w22.out.nthF 29 rfl
            have cD6_w22 := KH_w22.out.nth 30 rfl
            have fD6_w22 := KH_w22.out.nthF 30 rfl
            have cD7_w22 := KH_w22.out.nth 31 rfl
            have fD7_w22 := KH_w22.out.nthF 31 rfl
            have cD8_w22 := KH_w22.out.nth 32 rfl
            have fD8_w22 := KH_w22.out.nthF 32 rfl
            have cD9_w22 := KH_w22.out.nth 33 rfl
            have fD9_w22 := KH_w22.out.nthF 33 rfl
            have cD10_w22 := KH_w22.out.nth 34 rfl
            have fD10_w22 := KH_w22.out.nthF 34 rfl
            have cD11_w22 := KH_w22.out.nth 35 rfl
            have fD11_w22 := KH_w22.out.nthF 35 rfl
            go_wp2_with fail
            first | (refine ⟨rfl, hK.out _ _ ?_⟩; clear hK K) | (refine hK.out _ _ ?_; clear hK K)
            refine ⟨fun K hK0 => ?_, trivial⟩
            have hK := Lib.hid hK0
            clear hK0
            go_wp2_with fail
            first | (refine ⟨rfl, hK.out _ _ ?_⟩; clear hK K) | (refine hK.out _ _ ?_; clear hK K)
            clear _ne
            go_wp2_with fail
            go_meet
            case rel => rw [stO_1 hm.out]; exact ⟨by go_grown, by go_size, (by simp [go_sem, lB_w22, lX_w22, lD_w22, cB0_w22, fB0_w22, cB1_w22, fB1_w22, cB2_w22, fB2_w22, cB3_w22, fB3_w22, cB4_w22, fB4_w22, cB5_w22, fB5_w22, cB6_w22, fB6_w22, cB7_w22, fB7_w22, cB8_w22, fB8_w22, cB9_w22, fB9_w22, cB10_w22, fB10_w22, cB11_w22, fB11_w22, cX0_w22, fX0_w22, cX1_w22, fX1_w22, cX2_w22, fX2_w22, cX3_w22, fX3_w22, cX4_w22, fX4_w22, cX5_w22, fX5_w22, cX6_w22, fX6_w22, cX7_w22, fX7_w22, cX8_w22, fX8_w22, cX9_w22, fX9_w22, cX10_w22, fX10_w22, cX11_w22, fX11_w22, cD0_w22, fD0_w22, cD1_w22, fD1_w22, cD2_w22, fD2_w22, cD3_w22, fD3_w22, cD4_w22, fD4_w22, cD5_w22, fD5_w22, cD6_w22, fD6_w22, cD7_w22, fD7_w22, cD8_w22, fD8_w22, cD9_w22, fD9_w22, cD10_w22, fD10_w22, cD11_w22, fD11_w22] <;> omega)⟩
          · have hm := Lib.hid h3
            have e3 : (t : Int) % 3 = 2 := by omega
            clear h3
            go_wp2_with fail
            refine rg5_9 (w0 := w) (B := w.heap.size) (n := D + 1) (L := [(w.heap.size, 0, .int .i64 o.id), (w.heap.size, 1, .int .i64 o.cd), (w.heap.size, 2, .int .i64 o.ow), (w.heap.size, 3, .int .i64 o.po), (w.heap.size, 4, .int .i64 o.tg), (w.heap.size, 5, .int .i64 o.da), (w.heap.size, 6, .int .i64 o.co), (w.heap.size, 7, .int .i64 o.pp), (w.heap.size, 8, .int .i64 o.pt), (w.heap.size, 9, .bool o.ta), (w.heap.size, 10, .bool o.si), (w.heap.size, 11, .bool o.dm), (w1.heap.size, 0, .int .i64 x.id), (w1.heap.size, 1, .int .i64 x.cd), (w1.heap.size, 2, .int .i64 x.ow), (w1.heap.size, 3, .int .i64 x.po), (w1.heap.size, 4, .int .i64 x.tg), (w1.heap.size, 5, .int .i64 x.da), (w1.heap.size, 6, .int .i64 x.co), (w1.heap.size, 7, .int .i64 x.pp), (w1.heap.size, 8, .int .i64 x.pt), (w1.heap.size, 9, .bool x.ta), (w1.heap.size, 10, .bool x.si), (w1.heap.size, 11, .bool x.dm), (D, 0, .int .i64 x.id), (D, 1, .int .i64 x.cd), (D, 2, .int .i64 x.ow), (D, 3, .int .i64 x.po), (D, 4, .int .i64 x.tg), (D, 5, .int .i64 x.da), (D, 6, .int .i64 x.co), (D, 7, .int .i64 x.pp), (D, 8, .int .i64 x.pt), (D, 9, .bool x.ta), (D, 10, .bool x.si), (D, 11, .bool x.dm)]) (E := fun _ => True) (F := fun _ => True) (by kernel_rfl) (by kernel_rfl) (KH_wd.out.step (by omega) (by go_grown)) trivial (fun _ _ _ _ => trivial) trivial (fun _ _ _ _ => trivial) (fun w21 K_w21 E_w21 F_w21 => ?_)
            have _ne : Nonempty (KX (w.heap.size) w (D + 1) [(w.heap.size, 0, .int .i64 o.id), (w.heap.size, 1, .int .i64 o.cd), (w.heap.size, 2, .int .i64 o.ow), (w.heap.size, 3, .int .i64 o.po), (w.heap.size, 4, .int .i64 o.tg), (w.heap.size, 5, .int .i64 o.da), (w.heap.size, 6, .int .i64 o.co), (w.heap.size, 7, .int .i64 o.pp), (w.heap.size, 8, .int .i64 o.pt), (w.heap.size, 9, .bool o.ta), (w.heap.size, 10, .bool o.si), (w.heap.size, 11, .bool o.dm), (w1.heap.size, 0, .int .i64 x.id), (w1.heap.size, 1, .int .i64 x.cd), (w1.heap.size, 2, .int .i64 x.ow), (w1.heap.size, 3, .int .i64 x.po), (w1.heap.size, 4, .int .i64 x.tg), (w1.heap.size, 5, .int .i64 x.da), (w1.heap.size, 6, .int .i64 x.co), (w1.heap.size, 7, .int .i64 x.pp), (w1.heap.size, 8, .int .i64 x.pt), (w1.heap.size, 9, .bool x.ta), (w1.heap.size, 10, .bool x.si), (w1.heap.size, 11, .bool x.dm), (D, 0, .int .i64 x.id), (D, 1, .int .i64 x.cd), (D, 2, .int .i64 x.ow), (D, 3, .int .i64 x.po), (D, 4, .int .i64 x.tg), (D, 5, .int .i64 x.da), (D, 6, .int .i64 x.co), (D, 7, .int .i64 x.pp), (D, 8, .int .i64 x.pt), (D, 9, .bool x.ta), (D, 10, .bool x.si), (D, 11, .bool x.dm)] (fun _ => True)) := ⟨⟨_, K_w21, E_w21⟩⟩
            repeat (go_big_quiet_step (fail))
            refine wpQuiet_nil ?_
            have rB0 := rcx _ne 0 rfl
            have rB1 := rcx _ne 1 rfl
            have rB2 := rcx _ne 2 rfl
            have rB3 := rcx _ne 3 rfl
            have rB4 := rcx _ne 4 rfl
            have rB5 := rcx _ne 5 rfl
            have rB6 := rcx _ne 6 rfl
            have rB7 := rcx _ne 7 rfl
            have rB8 := rcx _ne 8 rfl
            have rB9 := rcx _ne 9 rfl
            have rB10 := rcx _ne 10 rfl
            have rB11 := rcx _ne 11 rfl
            have rX0 := rcx _ne 12 rfl
            have rX1 := rcx _ne 13 rfl
            have rX2 := rcx _ne 14 rfl
            have rX3 := rcx _ne 15 rfl
            have rX4 := rcx _ne 16 rfl
            have rX5 := rcx _ne 17 rfl
            have rX6 := rcx _ne 18 rfl
            have rX7 := rcx _ne 19 rfl
            have rX8 := rcx _ne 20 rfl
            have rX9 := rcx _ne 21 rfl
            have rX10 := rcx _ne 22 rfl
            have rX11 := rcx _ne 23 rfl
            have rD0 := rcx _ne 24 rfl
            have rD1 := rcx _ne 25 rfl
            have rD2 := rcx _ne 26 rfl
            have rD3 := rcx _ne 27 rfl
            have rD4 := rcx _ne 28 rfl
            have rD5 := rcx _ne 29 rfl
            have rD6 := rcx _ne 30 rfl
            have rD7 := rcx _ne 31 rfl
            have rD8 := rcx _ne 32 rfl
            have rD9 := rcx _ne 33 rfl
            have rD10 := rcx _ne 34 rfl
            have rD11 := rcx _ne 35 rfl
            have rz : ∀ s : KX (w.heap.size) w (D + 1) [(w.heap.size, 0, .int .i64 o.id), (w.heap.size, 1, .int .i64 o.cd), (w.heap.size, 2, .int .i64 o.ow), (w.heap.size, 3, .int .i64 o.po), (w.heap.size, 4, .int .i64 o.tg), (w.heap.size, 5, .int .i64 o.da), (w.heap.size, 6, .int .i64 o.co), (w.heap.size, 7, .int .i64 o.pp), (w.heap.size, 8, .int .i64 o.pt), (w.heap.size, 9, .bool o.ta), (w.heap.size, 10, .bool o.si), (w.heap.size, 11, .bool o.dm), (w1.heap.size, 0, .int .i64 x.id), (w1.heap.size, 1, .int .i64 x.cd), (w1.heap.size, 2, .int .i64 x.ow), (w1.heap.size, 3, .int .i64 x.po), (w1.heap.size, 4, .int .i64 x.tg), (w1.heap.size, 5, .int .i64 x.da), (w1.heap.size, 6, .int .i64 x.co), (w1.heap.size, 7, .int .i64 x.pp), (w1.heap.size, 8, .int .i64 x.pt), (w1.heap.size, 9, .bool x.ta), (w1.heap.size, 10, .bool x.si), (w1.heap.size, 11, .bool x.dm), (D, 0, .int .i64 x.id), (D, 1, .int .i64 x.cd), (D, 2, .int .i64 x.ow), (D, 3, .int .i64 x.po), (D, 4, .int .i64 x.tg), (D, 5, .int .i64 x.da), (D, 6, .int .i64 x.co), (D, 7, .int .i64 x.pp), (D, 8, .int .i64 x.pt), (D, 9, .bool x.ta), (D, 10, .bool x.si), (D, 11, .bool x.dm)] (fun _ => True), s.val.cell? ⟨b2, o2 + t, none⟩ = some (.int .i64 z) := fun s => (s.kept.below.cell (p := ⟨b2, o2 + t, none⟩) hb2).trans hx0
            repeat (go_big_quiet_step (fail))
            refine wpQuiet_nil ?_
            clear rB0 rB1 rB2 rB3 rB4 rB5 rB6 rB7 rB8 rB9 rB10 rB11 rX0 rX1 rX2 rX3 rX4 rX5 rX6 rX7 rX8 rX9 rX10 rX11 rD0 rD1 rD2 rD3 rD4 rD5 rD6 rD7 rD8 rD9 rD10 rD11 rz
            have KH_w21 := Lib.hid K_w21
            have hw_w21 := K_w21.below
            have hz_w21 := K_w21.size
            have lB_w21 : w.heap.size < w21.heap.size := by omega
            have lX_w21 : w1.heap.size < w21.heap.size := by omega
            have lD_w21 : D < w21.heap.size := by omega
            clear K_w21
            clear E_w21 F_w21
            refine ⟨fun K hK0 => ?_, trivial⟩
            have hK := Lib.hid hK0
            clear hK0
            go_wp2_with fail
            with_reducible refine (opump x z z _ (vO_I hC.out.v).pp hzi (vO_I hC.out.v).pt hzi).mono ?_
            rintro e w22 ⟨rfl, hb_w22⟩
            have K_w22 := (KH_w21.out.step (by omega) (by go_grown)).step (by omega) hb_w22
            clear hb_w22
            have KH_w22 := Lib.hid K_w22
            have hw_w22 := K_w22.below
            have hz_w22 := K_w22.size
            have lB_w22 : w.heap.size < w22.heap.size := by omega
            have lX_w22 : w1.heap.size < w22.heap.size := by omega
            have lD_w22 : D < w22.heap.size := by omega
            clear lB_w21 lX_w21 lD_w21
            clear K_w22
            have cB0_w22 := KH_w22.out.nth 0 rfl
            have fB0_w22 := KH_w22.out.nthF 0 rfl
            have cB1_w22 := KH_w22.out.nth 1 rfl
            have fB1_w22 := KH_w22.out.nthF 1 rfl
            have cB2_w22 := KH_w22.out.nth 2 rfl
            have fB2_w22 := KH_w22.out.nthF 2 rfl
            have cB3_w22 := KH_w22.out.nth 3 rfl
            have fB3_w22 := KH_w22.out.nthF 3 rfl
            have cB4_w22 := KH_w22.out.nth 4 rfl
            have fB4_w22 := KH_w22.out.nthF 4 rfl
            have cB5_w22 := KH_w22.out.nth 5 rfl
            have fB5_w22 := KH_w22.out.nthF 5 rfl
            have cB6_w22 := KH_w22.out.nth 6 rfl
            have fB6_w22 := KH_w22.out.nthF 6 rfl
            have cB7_w22 := KH_w22.out.nth 7 rfl
            have fB7_w22 := KH_w22.out.nthF 7 rfl
            have cB8_w22 := KH_w22.out.nth 8 rfl
            have fB8_w22 := KH_w22.out.nthF 8 rfl
            have cB9_w22 := KH_w22.out.nth 9 rfl
            have fB9_w22 := KH_w22.out.nthF 9 rfl
            have cB10_w22 := KH_w22.out.nth 10 rfl
            have fB10_w22 := KH_w22.out.nthF 10 rfl
            have cB11_w22 := KH_w22.out.nth 11 rfl
            have fB11_w22 := KH_w22.out.nthF 11 rfl
            have cX0_w22 := KH_w22.out.nth 12 rfl
            have fX0_w22 := KH_w22.out.nthF 12 rfl
            have cX1_w22 := KH_w22.out.nth 13 rfl
            have fX1_w22 := KH_w22.out.nthF 13 rfl
            have cX2_w22 := KH_w22.out.nth 14 rfl
            have fX2_w22 := KH_w22.out.nthF 14 rfl
            have cX3_w22 := KH_w22.out.nth 15 rfl
            have fX3_w22 := KH_w22.out.nthF 15 rfl
            have cX4_w22 := KH_w22.out.nth 16 rfl
            have fX4_w22 := KH_w22.out.nthF 16 rfl
            have cX5_w22 := KH_w22.out.nth 17 rfl
            have fX5_w22 := KH_w22.out.nthF 17 rfl
            have cX6_w22 := KH_w22.out.nth 18 rfl
            have fX6_w22 := KH_w22.out.nthF 18 rfl
            have cX7_w22 := KH_w22.out.nth 19 rfl
            have fX7_w22 := KH_w22.out.nthF 19 rfl
            have cX8_w22 := KH_w22.out.nth 20 rfl
            have fX8_w22 := KH_w22.out.nthF 20 rfl
            have cX9_w22 := KH_w22.out.nth 21 rfl
            have fX9_w22 := KH_w22.out.nthF 21 rfl
            have cX10_w22 := KH_w22.out.nth 22 rfl
            have fX10_w22 := KH_w22.out.nthF 22 rfl
            have cX11_w22 := KH_w22.out.nth 23 rfl
            have fX11_w22 := KH_w22.out.nthF 23 rfl
            have cD0_w22 := KH_w22.out.nth 24 rfl
            have fD0_w22 := KH_w22.out.nthF 24 rfl
            have cD1_w22 := KH_w22.out.nth 25 rfl
            have fD1_w22 := KH_w22.out.nthF 25 rfl
            have cD2_w22 := KH_w22.out.nth 26 rfl
            have fD2_w22 := KH_w22.out.nthF 26 rfl
            have cD3_w22 := KH_w22.out.nth 27 rfl
            have fD3_w22 := KH_w22.out.nthF 27 rfl
            have cD4_w22 := KH_w22.out.nth 28 rfl
            have fD4_w22 := KH_w22.out.nthF 28 rfl
            have cD5_w22 := KH_w22.out.nth 29 rfl
            have fD5_w22 := KH_w22.out.nthF 29 rfl
            have cD6_w22 := KH_w22.out.nth 30 rfl
            have fD6_w22 := KH_w22.out.nthF 30 rfl
            have cD7_w22 := KH_w22.out.nth 31 rfl
            have fD7_w22 := KH_w22.out.nthF 31 rfl
            have cD8_w22 := KH_w22.out.nth 32 rfl
            have fD8_w22 := KH_w22.out.nthF 32 rfl
            have cD9_w22 := KH_w22.out.nth 33 rfl
            have fD9_w22 := KH_w22.out.nthF 33 rfl
            have cD10_w22 := KH_w22.out.nth 34 rfl
            have fD10_w22 := KH_w22.out.nthF 34 rfl
            have cD11_w22 := KH_w22.out.nth 35 rfl
            have fD11_w22 := KH_w22.out.nthF 35 rfl
            go_wp2_with fail
            first | (refine ⟨rfl, hK.out _ _ ?_⟩; clear hK K) | (refine hK.out _ _ ?_; clear hK K)
            refine ⟨fun K hK0 => ?_, trivial⟩
            have hK := Lib.hid hK0
            clear hK0
            go_wp2_with fail
            first | (refine ⟨rfl, hK.out _ _ ?_⟩; clear hK K) | (refine hK.out _ _ ?_; clear hK K)
            clear _ne
            go_wp2_with fail
            go_meet
            case rel => rw [stO_2 hm.out]; exact ⟨by go_grown, by go_size, (by simp [go_sem, lB_w22, lX_w22, lD_w22, cB0_w22, fB0_w22, cB1_w22, fB1_w22, cB2_w22, fB2_w22, cB3_w22, fB3_w22, cB4_w22, fB4_w22, cB5_w22, fB5_w22, cB6_w22, fB6_w22, cB7_w22, fB7_w22, cB8_w22, fB8_w22, cB9_w22, fB9_w22, cB10_w22, fB10_w22, cB11_w22, fB11_w22, cX0_w22, fX0_w22, cX1_w22, fX1_w22, cX2_w22, fX2_w22, cX3_w22, fX3_w22, cX4_w22, fX4_w22, cX5_w22, fX5_w22, cX6_w22, fX6_w22, cX7_w22, fX7_w22, cX8_w22, fX8_w22, cX9_w22, fX9_w22, cX10_w22, fX10_w22, cX11_w22, fX11_w22, cD0_w22, fD0_w22, cD1_w22, fD1_w22, cD2_w22, fD2_w22, cD3_w22, fD3_w22, cD4_w22, fD4_w22, cD5_w22, fD5_w22, cD6_w22, fD6_w22, cD7_w22, fD7_w22, cD8_w22, fD8_w22, cD9_w22, fD9_w22, cD10_w22, fD10_w22, cD11_w22, fD11_w22] <;> omega)⟩
        case rest =>
          obtain ⟨we, rfl⟩ : ∃ W, W = wc := ⟨_, rfl⟩
          obtain ⟨y, hy⟩ : ∃ y, stO x t z = y := ⟨_, rfl⟩
          rw [hy] at hcut hCy0 hN0
          clear hy HDD hx0
          have KH_we := Lib.hid hcut
          have hw_we := hcut.below
          have hz_we := hcut.size
          have hCy := Lib.hid hCy0
          have HY := Lib.hid hCy0.v
          have p1 : decide (y.da < x.da) = false := decide_eq_false (by have := hN0.da; omega)
          have p2 : decide (y.co < x.co) = false := decide_eq_false (by have := hN0.co; omega)
          have p3 : decide (y.pp < x.pp) = false := decide_eq_false (by have := hN0.pp; omega)
          have p4 : decide (y.pt < x.pt) = false := decide_eq_false (by have := hN0.pt; omega)
          have p5 : decide (poB cs y < poB cs x) = false := decide_eq_false (by have := hN0.po; omega)
          have p6 : decide (toB cs y < toB cs x) = false := decide_eq_false (by have := hN0.tn; omega)
          have q9 : IntKind.i64.wrap ((t : Int) + 1) = (t : Int) + 1 := by simp [IntKind.wrap, IntKind.signed, IntKind.bits]; omega
          clear hcut hCy0 hN0 KH_wd hw_wd hz_wd
          obtain ⟨LL, hLL⟩ : ∃ L : List (Nat × Nat × Value), L = [(w.heap.size, 0, .int .i64 o.id), (w.heap.size, 1, .int .i64 o.cd), (w.heap.size, 2, .int .i64 o.ow), (w.heap.size, 3, .int .i64 o.po), (w.heap.size, 4, .int .i64 o.tg), (w.heap.size, 5, .int .i64 o.da), (w.heap.size, 6, .int .i64 o.co), (w.heap.size, 7, .int .i64 o.pp), (w.heap.size, 8, .int .i64 o.pt), (w.heap.size, 9, .bool o.ta), (w.heap.size, 10, .bool o.si), (w.heap.size, 11, .bool o.dm), (w1.heap.size, 0, .int .i64 y.id), (w1.heap.size, 1, .int .i64 y.cd), (w1.heap.size, 2, .int .i64 y.ow), (w1.heap.size, 3, .int .i64 y.po), (w1.heap.size, 4, .int .i64 y.tg), (w1.heap.size, 5, .int .i64 y.da), (w1.heap.size, 6, .int .i64 y.co), (w1.heap.size, 7, .int .i64 y.pp), (w1.heap.size, 8, .int .i64 y.pt), (w1.heap.size, 9, .bool y.ta), (w1.heap.size, 10, .bool y.si), (w1.heap.size, 11, .bool y.dm), (D, 0, .int .i64 x.id), (D, 1, .int .i64 x.cd), (D, 2, .int .i64 x.ow), (D, 3, .int .i64 x.po), (D, 4, .int .i64 x.tg), (D, 5, .int .i64 x.da), (D, 6, .int .i64 x.co), (D, 7, .int .i64 x.pp), (D, 8, .int .i64 x.pt), (D, 9, .bool x.ta), (D, 10, .bool x.si), (D, 11, .bool x.dm)] := ⟨_, rfl⟩
          have KLL : Kept w.heap.size w (D + 1) LL we := by
            rw [hLL]
            exact KH_we.out
          clear KH_we
          have KH_we := Lib.hid KLL
          clear KLL
          have gB0 : Hid (LL[0]? = Option.some (w.heap.size, 0, .int .i64 o.id)) := Lib.hid (by rw [hLL]; rfl)
          have gB1 : Hid (LL[1]? = Option.some (w.heap.size, 1, .int .i64 o.cd)) := Lib.hid (by rw [hLL]; rfl)
          have gB2 : Hid (LL[2]? = Option.some (w.heap.size, 2, .int .i64 o.ow)) := Lib.hid (by rw [hLL]; rfl)
          have gB3 : Hid (LL[3]? = Option.some (w.heap.size, 3, .int .i64 o.po)) := Lib.hid (by rw [hLL]; rfl)
          have gB4 : Hid (LL[4]? = Option.some (w.heap.size, 4, .int .i64 o.tg)) := Lib.hid (by rw [hLL]; rfl)
          have gB5 : Hid (LL[5]? = Option.some (w.heap.size, 5, .int .i64 o.da)) := Lib.hid (by rw [hLL]; rfl)
          have gB6 : Hid (LL[6]? = Option.some (w.heap.size, 6, .int .i64 o.co)) := Lib.hid (by rw [hLL]; rfl)
          have gB7 : Hid (LL[7]? = Option.some (w.heap.size, 7, .int .i64 o.pp)) := Lib.hid (by rw [hLL]; rfl)
          have gB8 : Hid (LL[8]? = Option.some (w.heap.size, 8, .int .i64 o.pt)) := Lib.hid (by rw [hLL]; rfl)
          have gB9 : Hid (LL[9]? = Option.some (w.heap.size, 9, .bool o.ta)) := Lib.hid (by rw [hLL]; rfl)
          have gB10 : Hid (LL[10]? = Option.some (w.heap.size, 10, .bool o.si)) := Lib.hid (by rw [hLL]; rfl)
          have gB11 : Hid (LL[11]? = Option.some (w.heap.size, 11, .bool o.dm)) := Lib.hid (by rw [hLL]; rfl)
          have gX0 : Hid (LL[12]? = Option.some (w1.heap.size, 0, .int .i64 y.id)) := Lib.hid (by rw [hLL]; rfl)
          have gX1 : Hid (LL[13]? = Option.some (w1.heap.size, 1, .int .i64 y.cd)) := Lib.hid (by rw [hLL]; rfl)
          have gX2 : Hid (LL[14]? = Option.some (w1.heap.size, 2, .int .i64 y.ow)) := Lib.hid (by rw [hLL]; rfl)
          have gX3 : Hid (LL[15]? = Option.some (w1.heap.size, 3, .int .i64 y.po)) := Lib.hid (by rw [hLL]; rfl)
          have gX4 : Hid (LL[16]? = Option.some (w1.heap.size, 4, .int .i64 y.tg)) := Lib.hid (by rw [hLL]; rfl)
          have gX5 : Hid (LL[17]? = Option.some (w1.heap.size, 5, .int .i64 y.da)) := Lib.hid (by rw [hLL]; rfl)
          have gX6 : Hid (LL[18]? = Option.some (w1.heap.size, 6, .int .i64 y.co)) := Lib.hid (by rw [hLL]; rfl)
          have gX7 : Hid (LL[19]? = Option.some (w1.heap.size, 7, .int .i64 y.pp)) := Lib.hid (by rw [hLL]; rfl)
          have gX8 : Hid (LL[20]? = Option.some (w1.heap.size, 8, .int .i64 y.pt)) := Lib.hid (by rw [hLL]; rfl)
          have gX9 : Hid (LL[21]? = Option.some (w1.heap.size, 9, .bool y.ta)) := Lib.hid (by rw [hLL]; rfl)
          have gX10 : Hid (LL[22]? = Option.some (w1.heap.size, 10, .bool y.si)) := Lib.hid (by rw [hLL]; rfl)
          have gX11 : Hid (LL[23]? = Option.some (w1.heap.size, 11, .bool y.dm)) := Lib.hid (by rw [hLL]; rfl)
          have gD0 : Hid (LL[24]? = Option.some (D, 0, .int .i64 x.id)) := Lib.hid (by rw [hLL]; rfl)
          have gD1 : Hid (LL[25]? = Option.some (D, 1, .int .i64 x.cd)) := Lib.hid (by rw [hLL]; rfl)
          have gD2 : Hid (LL[26]? = Option.some (D, 2, .int .i64 x.ow)) := Lib.hid (by rw [hLL]; rfl)
          have gD3 : Hid (LL[27]? = Option.some (D, 3, .int .i64 x.po)) := Lib.hid (by rw [hLL]; rfl)
          have gD4 : Hid (LL[28]? = Option.some (D, 4, .int .i64 x.tg)) := Lib.hid (by rw [hLL]; rfl)
          have gD5 : Hid (LL[29]? = Option.some (D, 5, .int .i64 x.da)) := Lib.hid (by rw [hLL]; rfl)
          have gD6 : Hid (LL[30]? = Option.some (D, 6, .int .i64 x.co)) := Lib.hid (by rw [hLL]; rfl)
          have gD7 : Hid (LL[31]? = Option.some (D, 7, .int .i64 x.pp)) := Lib.hid (by rw [hLL]; rfl)
          have gD8 : Hid (LL[32]? = Option.some (D, 8, .int .i64 x.pt)) := Lib.hid (by rw [hLL]; rfl)
          have gD9 : Hid (LL[33]? = Option.some (D, 9, .bool x.ta)) := Lib.hid (by rw [hLL]; rfl)
          have gD10 : Hid (LL[34]? = Option.some (D, 10, .bool x.si)) := Lib.hid (by rw [hLL]; rfl)
          have gD11 : Hid (LL[35]? = Option.some (D, 11, .bool x.dm)) := Lib.hid (by rw [hLL]; rfl)
          clear hLL
          go_upto_region 16 with fail
          refine rg5_16 (w0 := w) (B := w.heap.size) (n := D + 1) (L := LL) (E := fun _ => True) (F := fun _ => True) (by kernel_rfl) (by kernel_rfl) (KH_we.out.step (by omega) (by go_grown)) trivial (fun _ _ _ _ => trivial) trivial (fun _ _ _ _ => trivial) (fun w31 K_w31 E_w31 F_w31 => ?_)
          have _ne : Nonempty (KX (w.heap.size) w (D + 1) LL (fun _ => True)) := ⟨⟨_, K_w31, E_w31⟩⟩
          have rB0 := rcx _ne 0 gB0.out
          have rB1 := rcx _ne 1 gB1.out
          have rB2 := rcx _ne 2 gB2.out
          have rB3 := rcx _ne 3 gB3.out
          have rB4 := rcx _ne 4 gB4.out
          have rB5 := rcx _ne 5 gB5.out
          have rB6 := rcx _ne 6 gB6.out
          have rB7 := rcx _ne 7 gB7.out
          have rB8 := rcx _ne 8 gB8.out
          have rB9 := rcx _ne 9 gB9.out
          have rB10 := rcx _ne 10 gB10.out
          have rB11 := rcx _ne 11 gB11.out
          have rX0 := rcx _ne 12 gX0.out
          have rX1 := rcx _ne 13 gX1.out
          have rX2 := rcx _ne 14 gX2.out
          have rX3 := rcx _ne 15 gX3.out
          have rX4 := rcx _ne 16 gX4.out
          have rX5 := rcx _ne 17 gX5.out
          have rX6 := rcx _ne 18 gX6.out
          have rX7 := rcx _ne 19 gX7.out
          have rX8 := rcx _ne 20 gX8.out
          have rX9 := rcx _ne 21 gX9.out
          have rX10 := rcx _ne 22 gX10.out
          have rX11 := rcx _ne 23 gX11.out
          have rD0 := rcx _ne 24 gD0.out
          have rD1 := rcx _ne 25 gD1.out
          have rD2 := rcx _ne 26 gD2.out
          have rD3 := rcx _ne 27 gD3.out
          have rD4 := rcx _ne 28 gD4.out
          have rD5 := rcx _ne 29 gD5.out
          have rD6 := rcx _ne 30 gD6.out
          have rD7 := rcx _ne 31 gD7.out
          have rD8 := rcx _ne 32 gD8.out
          have rD9 := rcx _ne 33 gD9.out
          have rD10 := rcx _ne 34 gD10.out
          have rD11 := rcx _ne 35 gD11.out
          repeat (go_big_quiet_step (fail))
          refine wpQuiet_nil ?_
          clear rB0 rB1 rB2 rB3 rB4 rB5 rB6 rB7 rB8 rB9 rB10 rB11 rX0 rX1 rX2 rX3 rX4 rX5 rX6 rX7 rX8 rX9 rX10 rX11 rD0 rD1 rD2 rD3 rD4 rD5 rD6 rD7 rD8 rD9 rD10 rD11
          have KH_w31 := Lib.hid K_w31
          have hw_w31 := K_w31.below
          have hz_w31 := K_w31.size
          have lB_w31 : w.heap.size < w31.heap.size := by omega
          have lX_w31 : w1.heap.size < w31.heap.size := by omega
          have lD_w31 : D < w31.heap.size := by omega
          clear K_w31
          clear E_w31 F_w31
          refine ⟨fun K hK0 => ?_, trivial⟩
          have hK := Lib.hid hK0
          clear hK0
          go_wp2_with fail
          with_reducible refine (ovalidc y true _ HY.out).mono ?_
          rintro e w32 ⟨rfl, hb_w32⟩
          have K_w32 := (KH_w31.out.step (by omega) (by go_grown)).step (by omega) hb_w32
          clear hb_w32
          have KH_w32 := Lib.hid K_w32
          have hw_w32 := K_w32.below
          have hz_w32 := K_w32.size
          have lB_w32 : w.heap.size < w32.heap.size := by omega
          have lX_w32 : w1.heap.size < w32.heap.size := by omega
          have lD_w32 : D < w32.heap.size := by omega
          clear lB_w31 lX_w31 lD_w31
          clear K_w32
          go_wp2_with fail
          first | (refine ⟨rfl, ⟨⟨_, KH_w32.out, trivial⟩, rfl⟩, hK.out _ _ ?_⟩; clear hK K) | (refine ⟨⟨⟨_, KH_w32.out, trivial⟩, rfl⟩, hK.out _ _ ?_⟩; clear hK K)
          repeat (go_big_quiet_step (fail))
          refine wpQuiet_nil ?_
          have rB0 := rcx _ne 0 gB0.out
          have rB1 := rcx _ne 1 gB1.out
          have rB2 := rcx _ne 2 gB2.out
          have rB3 := rcx _ne 3 gB3.out
          have rB4 := rcx _ne 4 gB4.out
          have rB5 := rcx _ne 5 gB5.out
          have rB6 := rcx _ne 6 gB6.out
          have rB7 := rcx _ne 7 gB7.out
          have rB8 := rcx _ne 8 gB8.out
          have rB9 := rcx _ne 9 gB9.out
          have rB10 := rcx _ne 10 gB10.out
          have rB11 := rcx _ne 11 gB11.out
          have rX0 := rcx _ne 12 gX0.out
          have rX1 := rcx _ne 13 gX1.out
          have rX2 := rcx _ne 14 gX2.out
          have rX3 := rcx _ne 15 gX3.out
          have rX4 := rcx _ne 16 gX4.out
          have rX5 := rcx _ne 17 gX5.out
          have rX6 := rcx _ne 18 gX6.out
          have rX7 := rcx _ne 19 gX7.out
          have rX8 := rcx _ne 20 gX8.out
          have rX9 := rcx _ne 21 gX9.out
          have rX10 := rcx _ne 22 gX10.out
          have rX11 := rcx _ne 23 gX11.out
          have rD0 := rcx _ne 24 gD0.out
          have rD1 := rcx _ne 25 gD1.out
          have rD2 := rcx _ne 26 gD2.out
          have rD3 := rcx _ne 27 gD3.out
          have rD4 := rcx _ne 28 gD4.out
          have rD5 := rcx _ne 29 gD5.out
          have rD6 := rcx _ne 30 gD6.out
          have rD7 := rcx _ne 31 gD7.out
          have rD8 := rcx _ne 32 gD8.out
          have rD9 := rcx _ne 33 gD9.out
          have rD10 := rcx _ne 34 gD10.out
          have rD11 := rcx _ne 35 gD11.out
          repeat (go_big_quiet_step (fail))
          refine wpQuiet_nil ?_
          clear rB0 rB1 rB2 rB3 rB4 rB5 rB6 rB7 rB8 rB9 rB10 rB11 rX0 rX1 rX2 rX3 rX4 rX5 rX6 rX7 rX8 rX9 rX10 rX11 rD0 rD1 rD2 rD3 rD4 rD5 rD6 rD7 rD8 rD9 rD10 rD11
          repeat (go_big_quiet_step (fail))
          refine wpQuiet_nil ?_
          have rB0 := rcx _ne 0 gB0.out
          have rB1 := rcx _ne 1 gB1.out
          have rB2 := rcx _ne 2 gB2.out
          have rB3 := rcx _ne 3 gB3.out
          have rB4 := rcx _ne 4 gB4.out
          have rB5 := rcx _ne 5 gB5.out
          have rB6 := rcx _ne 6 gB6.out
          have rB7 := rcx _ne 7 gB7.out
          have rB8 := rcx _ne 8 gB8.out
          have rB9 := rcx _ne 9 gB9.out
          have rB10 := rcx _ne 10 gB10.out
          have rB11 := rcx _ne 11 gB11.out
          have rX0 := rcx _ne 12 gX0.out
          have rX1 := rcx _ne 13 gX1.out
          have rX2 := rcx _ne 14 gX2.out
          have rX3 := rcx _ne 15 gX3.out
          have rX4 := rcx _ne 16 gX4.out
          have rX5 := rcx _ne 17 gX5.out
          have rX6 := rcx _ne 18 gX6.out
          have rX7 := rcx _ne 19 gX7.out
          have rX8 := rcx _ne 20 gX8.out
          have rX9 := rcx _ne 21 gX9.out
          have rX10 := rcx _ne 22 gX10.out
          have rX11 := rcx _ne 23 gX11.out
          have rD0 := rcx _ne 24 gD0.out
          have rD1 := rcx _ne 25 gD1.out
          have rD2 := rcx _ne 26 gD2.out
          have rD3 := rcx _ne 27 gD3.out
          have rD4 := rcx _ne 28 gD4.out
          have rD5 := rcx _ne 29 gD5.out
          have rD6 := rcx _ne 30 gD6.out
          have rD7 := rcx _ne 31 gD7.out
          have rD8 := rcx _ne 32 gD8.out
          have rD9 := rcx _ne 33 gD9.out
          have rD10 := rcx _ne 34 gD10.out
          have rD11 := rcx _ne 35 gD11.out
          repeat (go_big_quiet_step (fail))
          refine wpQuiet_nil ?_
          clear rB0 rB1 rB2 rB3 rB4 rB5 rB6 rB7 rB8 rB9 rB10 rB11 rX0 rX1 rX2 rX3 rX4 rX5 rX6 rX7 rX8 rX9 rX10 rX11 rD0 rD1 rD2 rD3 rD4 rD5 rD6 rD7 rD8 rD9 rD10 rD11
          repeat (go_big_quiet_step (fail))
          refine wpQuiet_nil ?_
          have rB0 := rcx _ne 0 gB0.out
          have rB1 := rcx _ne 1 gB1.out
          have rB2 := rcx _ne 2 gB2.out
          have rB3 := rcx _ne 3 gB3.out
          have rB4 := rcx _ne 4 gB4.out
          have rB5 := rcx _ne 5 gB5.out
          have rB6 := rcx _ne 6 gB6.out
          have rB7 := rcx _ne 7 gB7.out
          have rB8 := rcx _ne 8 gB8.out
          have rB9 := rcx _ne 9 gB9.out
          have rB10 := rcx _ne 10 gB10.out
          have rB11 := rcx _ne 11 gB11.out
          have rX0 := rcx _ne 12 gX0.out
          have rX1 := rcx _ne 13 gX1.out
          have rX2 := rcx _ne 14 gX2.out
          have rX3 := rcx _ne 15 gX3.out
          have rX4 := rcx _ne 16 gX4.out
          have rX5 := rcx _ne 17 gX5.out
          have rX6 := rcx _ne 18 gX6.out
          have rX7 := rcx _ne 19 gX7.out
          have rX8 := rcx _ne 20 gX8.out
          have rX9 := rcx _ne 21 gX9.out
          have rX10 := rcx _ne 22 gX10.out
          have rX11 := rcx _ne 23 gX11.out
          have rD0 := rcx _ne 24 gD0.out
          have rD1 := rcx _ne 25 gD1.out
          have rD2 := rcx _ne 26 gD2.out
          have rD3 := rcx _ne 27 gD3.out
          have rD4 := rcx _ne 28 gD4.out
          have rD5 := rcx _ne 29 gD5.out
          have rD6 := rcx _ne 30 gD6.out
          have rD7 := rcx _ne 31 gD7.out
          have rD8 := rcx _ne 32 gD8.out
          have rD9 := rcx _ne 33 gD9.out
          have rD10 := rcx _ne 34 gD10.out
          have rD11 := rcx _ne 35 gD11.out
          repeat (go_big_quiet_step (fail))
          refine wpQuiet_nil ?_
          clear rB0 rB1 rB2 rB3 rB4 rB5 rB6 rB7 rB8 rB9 rB10 rB11 rX0 rX1 rX2 rX3 rX4 rX5 rX6 rX7 rX8 rX9 rX10 rX11 rD0 rD1 rD2 rD3 rD4 rD5 rD6 rD7 rD8 rD9 rD10 rD11
          repeat (go_big_quiet_step (fail))
          refine wpQuiet_nil ?_
          have rB0 := rcx _ne 0 gB0.out
          have rB1 := rcx _ne 1 gB1.out
          have rB2 := rcx _ne 2 gB2.out
          have rB3 := rcx _ne 3 gB3.out
          have rB4 := rcx _ne 4 gB4.out
          have rB5 := rcx _ne 5 gB5.out
          have rB6 := rcx _ne 6 gB6.out
          have rB7 := rcx _ne 7 gB7.out
          have rB8 := rcx _ne 8 gB8.out
          have rB9 := rcx _ne 9 gB9.out
          have rB10 := rcx _ne 10 gB10.out
          have rB11 := rcx _ne 11 gB11.out
          have rX0 := rcx _ne 12 gX0.out
          have rX1 := rcx _ne 13 gX1.out
          have rX2 := rcx _ne 14 gX2.out
          have rX3 := rcx _ne 15 gX3.out
          have rX4 := rcx _ne 16 gX4.out
          have rX5 := rcx _ne 17 gX5.out
          have rX6 := rcx _ne 18 gX6.out
          have rX7 := rcx _ne 19 gX7.out
          have rX8 := rcx _ne 20 gX8.out
          have rX9 := rcx _ne 21 gX9.out
          have rX10 := rcx _ne 22 gX10.out
          have rX11 := rcx _ne 23 gX11.out
          have rD0 := rcx _ne 24 gD0.out
          have rD1 := rcx _ne 25 gD1.out
          have rD2 := rcx _ne 26 gD2.out
          have rD3 := rcx _ne 27 gD3.out
          have rD4 := rcx _ne 28 gD4.out
          have rD5 := rcx _ne 29 gD5.out
          have rD6 := rcx _ne 30 gD6.out
          have rD7 := rcx _ne 31 gD7.out
          have rD8 := rcx _ne 32 gD8.out
          have rD9 := rcx _ne 33 gD9.out
          have rD10 := rcx _ne 34 gD10.out
          have rD11 := rcx _ne 35 gD11.out
          repeat (go_big_quiet_step (fail))
          refine wpQuiet_nil ?_
          clear rB0 rB1 rB2 rB3 rB4 rB5 rB6 rB7 rB8 rB9 rB10 rB11 rX0 rX1 rX2 rX3 rX4 rX5 rX6 rX7 rX8 rX9 rX10 rX11 rD0 rD1 rD2 rD3 rD4 rD5 rD6 rD7 rD8 rD9 rD10 rD11
          repeat (go_big_quiet_step (fail))
          refine wpQuiet_nil ?_
          have rB0 := rcx _ne 0 gB0.out
          have rB1 := rcx _ne 1 gB1.out
          have rB2 := rcx _ne 2 gB2.out
          have rB3 := rcx _ne 3 gB3.out
          have rB4 := rcx _ne 4 gB4.out
          have rB5 := rcx _ne 5 gB5.out
          have rB6 := rcx _ne 6 gB6.out
          have rB7 := rcx _ne 7 gB7.out
          have rB8 := rcx _ne 8 gB8.out
          have rB9 := rcx _ne 9 gB9.out
          have rB10 := rcx _ne 10 gB10.out
          have rB11 := rcx _ne 11 gB11.out
          have rX0 := rcx _ne 12 gX0.out
          have rX1 := rcx _ne 13 gX1.out
          have rX2 := rcx _ne 14 gX2.out
          have rX3 := rcx _ne 15 gX3.out
          have rX4 := rcx _ne 16 gX4.out
          have rX5 := rcx _ne 17 gX5.out
          have rX6 := rcx _ne 18 gX6.out
          have rX7 := rcx _ne 19 gX7.out
          have rX8 := rcx _ne 20 gX8.out
          have rX9 := rcx _ne 21 gX9.out
          have rX10 := rcx _ne 22 gX10.out
          have rX11 := rcx _ne 23 gX11.out
          have rD0 := rcx _ne 24 gD0.out
          have rD1 := rcx _ne 25 gD1.out
          have rD2 := rcx _ne 26 gD2.out
          have rD3 := rcx _ne 27 gD3.out
          have rD4 := rcx _ne 28 gD4.out
          have rD5 := rcx _ne 29 gD5.out
          have rD6 := rcx _ne 30 gD6.out
          have rD7 := rcx _ne 31 gD7.out
          have rD8 := rcx _ne 32 gD8.out
          have rD9 := rcx _ne 33 gD9.out
          have rD10 := rcx _ne 34 gD10.out
          have rD11 := rcx _ne 35 gD11.out
          repeat (go_big_quiet_step (fail))
          refine wpQuiet_nil ?_
          clear rB0 rB1 rB2 rB3 rB4 rB5 rB6 rB7 rB8 rB9 rB10 rB11 rX0 rX1 rX2 rX3 rX4 rX5 rX6 rX7 rX8 rX9 rX10 rX11 rD0 rD1 rD2 rD3 rD4 rD5 rD6 rD7 rD8 rD9 rD10 rD11
          refine ⟨fun K hK0 => ?_, trivial⟩
          have hK := Lib.hid hK0
          clear hK0
          go_wp2_with fail
          with_reducible refine (opower (.slice a0 cs.length c0) cs y _ (HCR.out.below (by go_grown)) hc (vO_I HY.out)).mono ?_
          rintro e w33 ⟨rfl, hb_w33⟩
          have K_w33 := (KH_w32.out.step (by omega) (by go_grown)).step (by omega) hb_w33
          clear hb_w33
          have KH_w33 := Lib.hid K_w33
          have hw_w33 := K_w33.below
          have hz_w33 := K_w33.size
          have lB_w33 : w.heap.size < w33.heap.size := by omega
          have lX_w33 : w1.heap.size < w33.heap.size := by omega
          have lD_w33 : D < w33.heap.size := by omega
          clear lB_w32 lX_w32 lD_w32
          clear K_w33
          go_wp2_with fail
          first | (refine ⟨rfl, ⟨⟨_, KH_w33.out, trivial⟩, rfl⟩, hK.out _ _ ?_⟩; clear hK K) | (refine ⟨⟨⟨_, KH_w33.out, trivial⟩, rfl⟩, hK.out _ _ ?_⟩; clear hK K)
          refine ⟨fun K hK0 => ?_, trivial⟩
          have hK := Lib.hid hK0
          clear hK0
          go_wp2_with fail
          with_reducible refine (opower (.slice a0 cs.length c0) cs x _ (HCR.out.below (by go_grown)) hc (vO_I hC.out.v)).mono ?_
          rintro e w34 ⟨rfl, hb_w34⟩
          have K_w34 := (KH_w33.out.step (by omega) (by go_grown)).step (by omega) hb_w34
          clear hb_w34
          have KH_w34 := Lib.hid K_w34
          have hw_w34 := K_w34.below
          have hz_w34 := K_w34.size
          have lB_w34 : w.heap.size < w34.heap.size := by omega
          have lX_w34 : w1.heap.size < w34.heap.size := by omega
          have lD_w34 : D < w34.heap.size := by omega
          clear lB_w33 lX_w33 lD_w33
          clear K_w34
          go_wp2_with fail
          first | (refine ⟨rfl, ⟨⟨_, KH_w34.out, trivial⟩, rfl⟩, hK.out _ _ ?_⟩; clear hK K) | (refine ⟨⟨⟨_, KH_w34.out, trivial⟩, rfl⟩, hK.out _ _ ?_⟩; clear hK K)
          repeat (go_big_quiet_step (fail))
          refine wpQuiet_nil ?_
          have rB0 := rcx _ne 0 gB0.out
          have rB1 := rcx _ne 1 gB1.out
          have rB2 := rcx _ne 2 gB2.out
          have rB3 := rcx _ne 3 gB3.out
          have rB4 := rcx _ne 4 gB4.out
          have rB5 := rcx _ne 5 gB5.out
          have rB6 := rcx _ne 6 gB6.out
          have rB7 := rcx _ne 7 gB7.out
          have rB8 := rcx _ne 8 gB8.out
          have rB9 := rcx _ne 9 gB9.out
          have rB10 := rcx _ne 10 gB10.out
          have rB11 := rcx _ne 11 gB11.out
          have rX0 := rcx _ne 12 gX0.out
          have rX1 := rcx _ne 13 gX1.out
          have rX2 := rcx _ne 14 gX2.out
          have rX3 := rcx _ne 15 gX3.out
          have rX4 := rcx _ne 16 gX4.out
          have rX5 := rcx _ne 17 gX5.out
          have rX6 := rcx _ne 18 gX6.out
          have rX7 := rcx _ne 19 gX7.out
          have rX8 := rcx _ne 20 gX8.out
          have rX9 := rcx _ne 21 gX9.out
          have rX10 := rcx _ne 22 gX10.out
          have rX11 := rcx _ne 23 gX11.out
          have rD0 := rcx _ne 24 gD0.out
          have rD1 := rcx _ne 25 gD1.out
          have rD2 := rcx _ne 26 gD2.out
          have rD3 := rcx _ne 27 gD3.out
          have rD4 := rcx _ne 28 gD4.out
          have rD5 := rcx _ne 29 gD5.out
          have rD6 := rcx _ne 30 gD6.out
          have rD7 := rcx _ne 31 gD7.out
          have rD8 := rcx _ne 32 gD8.out
          have rD9 := rcx _ne 33 gD9.out
          have rD10 := rcx _ne 34 gD10.out
          have rD11 := rcx _ne 35 gD11.out
          repeat (go_big_quiet_step (fail))
          refine wpQuiet_nil ?_
          clear rB0 rB1 rB2 rB3 rB4 rB5 rB6 rB7 rB8 rB9 rB10 rB11 rX0 rX1 rX2 rX3 rX4 rX5 rX6 rX7 rX8 rX9 rX10 rX11 rD0 rD1 rD2 rD3 rD4 rD5 rD6 rD7 rD8 rD9 rD10 rD11
          refine ⟨fun K hK0 => ?_, trivial⟩
          have hK := Lib.hid hK0
          clear hK0
          go_wp2_with fail
          with_reducible refine (otough (.slice a0 cs.length c0) cs y _ (HCR.out.below (by go_grown)) hc (vO_I HY.out)).mono ?_
          rintro e w35 ⟨rfl, hb_w35⟩
          have K_w35 := (KH_w34.out.step (by omega) (by go_grown)).step (by omega) hb_w35
          clear hb_w35
          have KH_w35 := Lib.hid K_w35
          have hw_w35 := K_w35.below
          have hz_w35 := K_w35.size
          have lB_w35 : w.heap.size < w35.heap.size := by omega
          have lX_w35 : w1.heap.size < w35.heap.size := by omega
          have lD_w35 : D < w35.heap.size := by omega
          clear lB_w34 lX_w34 lD_w34
          clear K_w35
          go_wp2_with fail
          first | (refine ⟨rfl, ⟨⟨_, KH_w35.out, trivial⟩, rfl⟩, hK.out _ _ ?_⟩; clear hK K) | (refine ⟨⟨⟨_, KH_w35.out, trivial⟩, rfl⟩, hK.out _ _ ?_⟩; clear hK K)
          refine ⟨fun K hK0 => ?_, trivial⟩
          have hK := Lib.hid hK0
          clear hK0
          go_wp2_with fail
          with_reducible refine (otough (.slice a0 cs.length c0) cs x _ (HCR.out.below (by go_grown)) hc (vO_I hC.out.v)).mono ?_
          rintro e w36 ⟨rfl, hb_w36⟩
          have K_w36 := (KH_w35.out.step (by omega) (by go_grown)).step (by omega) hb_w36
          clear hb_w36
          have KH_w36 := Lib.hid K_w36
          have hw_w36 := K_w36.below
          have hz_w36 := K_w36.size
          have lB_w36 : w.heap.size < w36.heap.size := by omega
          have lX_w36 : w1.heap.size < w36.heap.size := by omega
          have lD_w36 : D < w36.heap.size := by omega
          clear lB_w35 lX_w35 lD_w35
          clear K_w36
          have cB0_w36 := KH_w36.out.nth 0 gB0.out
          have fB0_w36 := KH_w36.out.nthF 0 gB0.out
          have cB1_w36 := KH_w36.out.nth 1 gB1.out
          have fB1_w36 := KH_w36.out.nthF 1 gB1.out
          have cB2_w36 := KH_w36.out.nth 2 gB2.out
          have fB2_w36 := KH_w36.out.nthF 2 gB2.out
          have cB3_w36 := KH_w36.out.nth 3 gB3.out
          have fB3_w36 := KH_w36.out.nthF 3 gB3.out
          have cB4_w36 := KH_w36.out.nth 4 gB4.out
          have fB4_w36 := KH_w36.out.nthF 4 gB4.out
          have cB5_w36 := KH_w36.out.nth 5 gB5.out
          have fB5_w36 := KH_w36.out.nthF 5 gB5.out
          have cB6_w36 := KH_w36.out.nth 6 gB6.out
          have fB6_w36 := KH_w36.out.nthF 6 gB6.out
          have cB7_w36 := KH_w36.out.nth 7 gB7.out
          have fB7_w36 := KH_w36.out.nthF 7 gB7.out
          have cB8_w36 := KH_w36.out.nth 8 gB8.out
          have fB8_w36 := KH_w36.out.nthF 8 gB8.out
          have cB9_w36 := KH_w36.out.nth 9 gB9.out
          have fB9_w36 := KH_w36.out.nthF 9 gB9.out
          have cB10_w36 := KH_w36.out.nth 10 gB10.out
          have fB10_w36 := KH_w36.out.nthF 10 gB10.out
          have cB11_w36 := KH_w36.out.nth 11 gB11.out
          have fB11_w36 := KH_w36.out.nthF 11 gB11.out
          have cX0_w36 := KH_w36.out.nth 12 gX0.out
          have fX0_w36 := KH_w36.out.nthF 12 gX0.out
          have cX1_w36 := KH_w36.out.nth 13 gX1.out
          have fX1_w36 := KH_w36.out.nthF 13 gX1.out
          have cX2_w36 := KH_w36.out.nth 14 gX2.out
          have fX2_w36 := KH_w36.out.nthF 14 gX2.out
          have cX3_w36 := KH_w36.out.nth 15 gX3.out
          have fX3_w36 := KH_w36.out.nthF 15 gX3.out
          have cX4_w36 := KH_w36.out.nth 16 gX4.out
          have fX4_w36 := KH_w36.out.nthF 16 gX4.out
          have cX5_w36 := KH_w36.out.nth 17 gX5.out
          have fX5_w36 := KH_w36.out.nthF 17 gX5.out
          have cX6_w36 := KH_w36.out.nth 18 gX6.out
          have fX6_w36 := KH_w36.out.nthF 18 gX6.out
          have cX7_w36 := KH_w36.out.nth 19 gX7.out
          have fX7_w36 := KH_w36.out.nthF 19 gX7.out
          have cX8_w36 := KH_w36.out.nth 20 gX8.out
          have fX8_w36 := KH_w36.out.nthF 20 gX8.out
          have cX9_w36 := KH_w36.out.nth 21 gX9.out
          have fX9_w36 := KH_w36.out.nthF 21 gX9.out
          have cX10_w36 := KH_w36.out.nth 22 gX10.out
          have fX10_w36 := KH_w36.out.nthF 22 gX10.out
          have cX11_w36 := KH_w36.out.nth 23 gX11.out
          have fX11_w36 := KH_w36.out.nthF 23 gX11.out
          go_wp2_with fail
          first | (refine ⟨rfl, ⟨⟨_, KH_w36.out, trivial⟩, rfl⟩, hK.out _ _ ?_⟩; clear hK K) | (refine ⟨⟨⟨_, KH_w36.out, trivial⟩, rfl⟩, hK.out _ _ ?_⟩; clear hK K)
          repeat (go_big_quiet_step (fail))
          refine wpQuiet_nil ?_
          clear _ne
          go_wp2_with fail
          with_reducible refine (oencode y _ HY).mono ?_
          rintro e w37 ⟨v5, rfl, hs5, hb_w37⟩
          have K_w37 := (KH_w36.out.step (by omega) (by go_grown)).step (by omega) hb_w37
          clear hb_w37
          have KH_w37 := Lib.hid K_w37
          have hw_w37 := K_w37.below
          have hz_w37 := K_w37.size
          have lB_w37 : w.heap.size < w37.heap.size := by omega
          have lX_w37 : w1.heap.size < w37.heap.size := by omega
          have lD_w37 : D < w37.heap.size := by omega
          clear lB_w36 lX_w36 lD_w36 cB0_w36 fB0_w36 cB1_w36 fB1_w36 cB2_w36 fB2_w36 cB3_w36 fB3_w36 cB4_w36 fB4_w36 cB5_w36 fB5_w36 cB6_w36 fB6_w36 cB7_w36 fB7_w36 cB8_w36 fB8_w36 cB9_w36 fB9_w36 cB10_w36 fB10_w36 cB11_w36 fB11_w36 cX0_w36 fX0_w36 cX1_w36 fX1_w36 cX2_w36 fX2_w36 cX3_w36 fX3_w36 cX4_w36 fX4_w36 cX5_w36 fX5_w36 cX6_w36 fX6_w36 cX7_w36 fX7_w36 cX8_w36 fX8_w36 cX9_w36 fX9_w36 cX10_w36 fX10_w36 cX11_w36 fX11_w36
          clear K_w37
          obtain ⟨_, a5, c5, rfl, _⟩ := seg_form hs5
          have HS5 := Lib.hid hs5
          clear hs5
          have cX0_w37 := KH_w37.out.nth 12 gX0.out
          have fX0_w37 := KH_w37.out.nthF 12 gX0.out
          have cX1_w37 := KH_w37.out.nth 13 gX1.out
          have fX1_w37 := KH_w37.out.nthF 13 gX1.out
          have cX2_w37 := KH_w37.out.nth 14 gX2.out
          have fX2_w37 := KH_w37.out.nthF 14 gX2.out
          have cX3_w37 := KH_w37.out.nth 15 gX3.out
          have fX3_w37 := KH_w37.out.nthF 15 gX3.out
          have cX4_w37 := KH_w37.out.nth 16 gX4.out
          have fX4_w37 := KH_w37.out.nthF 16 gX4.out
          have cX5_w37 := KH_w37.out.nth 17 gX5.out
          have fX5_w37 := KH_w37.out.nthF 17 gX5.out
          have cX6_w37 := KH_w37.out.nth 18 gX6.out
          have fX6_w37 := KH_w37.out.nthF 18 gX6.out
          have cX7_w37 := KH_w37.out.nth 19 gX7.out
          have fX7_w37 := KH_w37.out.nthF 19 gX7.out
          have cX8_w37 := KH_w37.out.nth 20 gX8.out
          have fX8_w37 := KH_w37.out.nthF 20 gX8.out
          have cX9_w37 := KH_w37.out.nth 21 gX9.out
          have fX9_w37 := KH_w37.out.nthF 21 gX9.out
          have cX10_w37 := KH_w37.out.nth 22 gX10.out
          have fX10_w37 := KH_w37.out.nthF 22 gX10.out
          have cX11_w37 := KH_w37.out.nth 23 gX11.out
          have fX11_w37 := KH_w37.out.nthF 23 gX11.out
          go_wp2_with fail
          with_reducible refine (oreads _ (byO y) y 0 _ (HS5.out.below (by go_grown)) (byO_bd HY.out) (Lib.hid (rd_by HY.out).1) (Lib.hid (rd_by HY.out).2)).mono ?_
          rintro e w38 ⟨rfl, hb_w38⟩
          have K_w38 := (KH_w37.out.step (by omega) (by go_grown)).step (by omega) hb_w38
          clear hb_w38
          have KH_w38 := Lib.hid K_w38
          have hw_w38 := K_w38.below
          have hz_w38 := K_w38.size
          have lB_w38 : w.heap.size < w38.heap.size := by omega
          have lX_w38 : w1.heap.size < w38.heap.size := by omega
          have lD_w38 : D < w38.heap.size := by omega
          clear lB_w37 lX_w37 lD_w37 cX0_w37 fX0_w37 cX1_w37 fX1_w37 cX2_w37 fX2_w37 cX3_w37 fX3_w37 cX4_w37 fX4_w37 cX5_w37 fX5_w37 cX6_w37 fX6_w37 cX7_w37 fX7_w37 cX8_w37 fX8_w37 cX9_w37 fX9_w37 cX10_w37 fX10_w37 cX11_w37 fX11_w37
          clear K_w38
          have cB0_w38 := KH_w38.out.nth 0 gB0.out
          have fB0_w38 := KH_w38.out.nthF 0 gB0.out
          have cB1_w38 := KH_w38.out.nth 1 gB1.out
          have fB1_w38 := KH_w38.out.nthF 1 gB1.out
          have cB2_w38 := KH_w38.out.nth 2 gB2.out
          have fB2_w38 := KH_w38.out.nthF 2 gB2.out
          have cB3_w38 := KH_w38.out.nth 3 gB3.out
          have fB3_w38 := KH_w38.out.nthF 3 gB3.out
          have cB4_w38 := KH_w38.out.nth 4 gB4.out
          have fB4_w38 := KH_w38.out.nthF 4 gB4.out
          have cB5_w38 := KH_w38.out.nth 5 gB5.out
          have fB5_w38 := KH_w38.out.nthF 5 gB5.out
          have cB6_w38 := KH_w38.out.nth 6 gB6.out
          have fB6_w38 := KH_w38.out.nthF 6 gB6.out
          have cB7_w38 := KH_w38.out.nth 7 gB7.out
          have fB7_w38 := KH_w38.out.nthF 7 gB7.out
          have cB8_w38 := KH_w38.out.nth 8 gB8.out
          have fB8_w38 := KH_w38.out.nthF 8 gB8.out
          have cB9_w38 := KH_w38.out.nth 9 gB9.out
          have fB9_w38 := KH_w38.out.nthF 9 gB9.out
          have cB10_w38 := KH_w38.out.nth 10 gB10.out
          have fB10_w38 := KH_w38.out.nthF 10 gB10.out
          have cB11_w38 := KH_w38.out.nth 11 gB11.out
          have fB11_w38 := KH_w38.out.nthF 11 gB11.out
          have cX0_w38 := KH_w38.out.nth 12 gX0.out
          have fX0_w38 := KH_w38.out.nthF 12 gX0.out
          have cX1_w38 := KH_w38.out.nth 13 gX1.out
          have fX1_w38 := KH_w38.out.nthF 13 gX1.out
          have cX2_w38 := KH_w38.out.nth 14 gX2.out
          have fX2_w38 := KH_w38.out.nthF 14 gX2.out
          have cX3_w38 := KH_w38.out.nth 15 gX3.out
          have fX3_w38 := KH_w38.out.nthF 15 gX3.out
          have cX4_w38 := KH_w38.out.nth 16 gX4.out
          have fX4_w38 := KH_w38.out.nthF 16 gX4.out
          have cX5_w38 := KH_w38.out.nth 17 gX5.out
          have fX5_w38 := KH_w38.out.nthF 17 gX5.out
          have cX6_w38 := KH_w38.out.nth 18 gX6.out
          have fX6_w38 := KH_w38.out.nthF 18 gX6.out
          have cX7_w38 := KH_w38.out.nth 19 gX7.out
          have fX7_w38 := KH_w38.out.nthF 19 gX7.out
          have cX8_w38 := KH_w38.out.nth 20 gX8.out
          have fX8_w38 := KH_w38.out.nthF 20 gX8.out
          have cX9_w38 := KH_w38.out.nth 21 gX9.out
          have fX9_w38 := KH_w38.out.nthF 21 gX9.out
          have cX10_w38 := KH_w38.out.nth 22 gX10.out
          have fX10_w38 := KH_w38.out.nthF 22 gX10.out
          have cX11_w38 := KH_w38.out.nth 23 gX11.out
          have fX11_w38 := KH_w38.out.nthF 23 gX11.out
          go_wp2_with fail
          go_roundg (zs.length - (t + 1))
          case rel => exact ⟨t + 1, y, rfl, by omega, by simp, hCy.out, ⟨by go_grown, by go_size, (by simp [go_sem, lB_w38, lX_w38, lD_w38, cB0_w38, fB0_w38, cB1_w38, fB1_w38, cB2_w38, fB2_w38, cB3_w38, fB3_w38, cB4_w38, fB4_w38, cB5_w38, fB5_w38, cB6_w38, fB6_w38, cB7_w38, fB7_w38, cB8_w38, fB8_w38, cB9_w38, fB9_w38, cB10_w38, fB10_w38, cB11_w38, fB11_w38, cX0_w38, fX0_w38, cX1_w38, fX1_w38, cX2_w38, fX2_w38, cX3_w38, fX3_w38, cX4_w38, fX4_w38, cX5_w38, fX5_w38, cX6_w38, fX6_w38, cX7_w38, fX7_w38, cX8_w38, fX8_w38, cX9_w38, fX9_w38, cX10_w38, fX10_w38, cX11_w38, fX11_w38] <;> omega)⟩⟩
          case measure => omega
    · obtain rfl : t = zs.length := by omega
      obtain ⟨we, rfl⟩ : ∃ W, W = wr := ⟨_, rfl⟩
      clear hlt
      obtain ⟨da, co, pp, pt, rfl⟩ : ∃ da co pp pt, x = ⟨o.id, o.cd, o.ow, o.po, o.tg, da, co, pp, pt, o.ta, o.si, o.dm⟩ := ⟨x.da, x.co, x.pp, x.pt, by
        have h := hC.out
        rw [← h.id, ← h.cd, ← h.ow, ← h.po, ← h.tg, ← h.ta, ← h.si, ← h.dm]⟩
      have K2 : Kept w.heap.size w (w1.heap.size + 1) [(w.heap.size, 0, .int .i64 o.id), (w.heap.size, 1, .int .i64 o.cd), (w.heap.size, 2, .int .i64 o.ow), (w.heap.size, 3, .int .i64 o.po), (w.heap.size, 4, .int .i64 o.tg), (w.heap.size, 5, .int .i64 o.da), (w.heap.size, 6, .int .i64 o.co), (w.heap.size, 7, .int .i64 o.pp), (w.heap.size, 8, .int .i64 o.pt), (w.heap.size, 9, .bool o.ta), (w.heap.size, 10, .bool o.si), (w.heap.size, 11, .bool o.dm), (w1.heap.size, 0, .int .i64 o.id), (w1.heap.size, 1, .int .i64 o.cd), (w1.heap.size, 2, .int .i64 o.ow), (w1.heap.size, 3, .int .i64 o.po), (w1.heap.size, 4, .int .i64 o.tg), (w1.heap.size, 5, .int .i64 da), (w1.heap.size, 6, .int .i64 co), (w1.heap.size, 7, .int .i64 pp), (w1.heap.size, 8, .int .i64 pt), (w1.heap.size, 9, .bool o.ta), (w1.heap.size, 10, .bool o.si), (w1.heap.size, 11, .bool o.dm)] we := KH_wr.out
      have hbd := vO_bd HV.out
      clear KH_wr hC
      by_cases hcd : o.cd = -1
      · have q5 : (o.cd == -1) = true := by simpa using hcd
        have HPO : Hid (0 ≤ o.po ∧ o.po ≤ 99) := Lib.hid (by omega)
        have HTG : Hid (0 ≤ o.tg ∧ o.tg ≤ 99) := Lib.hid (by omega)
        rw [hcd] at K2
        have KH_we := Lib.hid K2
        have hw_we := K2.below
        have hz_we := K2.size
        clear K2 hbd hcd q5
        have cX0_we := KH_we.out.nth 12 rfl
        have fX0_we := KH_we.out.nthF 12 rfl
        have cX1_we := KH_we.out.nth 13 rfl
        have fX1_we := KH_we.out.nthF 13 rfl
        have cX2_we := KH_we.out.nth 14 rfl
        have fX2_we := KH_we.out.nthF 14 rfl
        have cX3_we := KH_we.out.nth 15 rfl
        have fX3_we := KH_we.out.nthF 15 rfl
        have cX4_we := KH_we.out.nth 16 rfl
        have fX4_we := KH_we.out.nthF 16 rfl
        have cX5_we := KH_we.out.nth 17 rfl
        have fX5_we := KH_we.out.nthF 17 rfl
        have cX6_we := KH_we.out.nth 18 rfl
        have fX6_we := KH_we.out.nthF 18 rfl
        have cX7_we := KH_we.out.nth 19 rfl
        have fX7_we := KH_we.out.nthF 19 rfl
        have cX8_we := KH_we.out.nth 20 rfl
        have fX8_we := KH_we.out.nthF 20 rfl
        have cX9_we := KH_we.out.nth 21 rfl
        have fX9_we := KH_we.out.nthF 21 rfl
        have cX10_we := KH_we.out.nth 22 rfl
        have fX10_we := KH_we.out.nthF 22 rfl
        have cX11_we := KH_we.out.nth 23 rfl
        have fX11_we := KH_we.out.nthF 23 rfl
        go_wp2_with fail
        with_reducible refine (orest ⟨o.id, (-1), o.ow, o.po, o.tg, da, co, pp, pt, o.ta, o.si, o.dm⟩ _).mono ?_
        rintro e w51 ⟨rfl, hb_w51⟩
        have K_w51 := (KH_we.out.step (by omega) (by go_grown)).step (by omega) hb_w51
        clear hb_w51
        have KH_w51 := Lib.hid K_w51
        have hw_w51 := K_w51.below
        have hz_w51 := K_w51.size
        have lB_w51 : w.heap.size < w51.heap.size := by omega
        have lX_w51 : w1.heap.size < w51.heap.size := by omega
        clear cX0_we fX0_we cX1_we fX1_we cX2_we fX2_we cX3_we fX3_we cX4_we fX4_we cX5_we fX5_we cX6_we fX6_we cX7_we fX7_we cX8_we fX8_we cX9_we fX9_we cX10_we fX10_we cX11_we fX11_we
        clear K_w51
        go_wp2_with fail
        with_reducible refine (ountap ⟨o.id, (-1), o.ow, o.po, o.tg, 0, co, 0, 0, o.ta, o.si, o.dm⟩ _).mono ?_
        rintro e w52 ⟨rfl, hb_w52⟩
        have K_w52 := (KH_w51.out.step (by omega) (by go_grown)).step (by omega) hb_w52
        clear hb_w52
        have KH_w52 := Lib.hid K_w52
        have hw_w52 := K_w52.below
        have hz_w52 := K_w52.size
        have lB_w52 : w.heap.size < w52.heap.size := by omega
        have lX_w52 : w1.heap.size < w52.heap.size := by omega
        clear lB_w51 lX_w51
        clear K_w52
        have cB0_w52 := KH_w52.out.nth 0 rfl
        have fB0_w52 := KH_w52.out.nthF 0 rfl
        have cB1_w52 := KH_w52.out.nth 1 rfl
        have fB1_w52 := KH_w52.out.nthF 1 rfl
        have cB2_w52 := KH_w52.out.nth 2 rfl
        have fB2_w52 := KH_w52.out.nthF 2 rfl
        have cB3_w52 := KH_w52.out.nth 3 rfl
        have fB3_w52 := KH_w52.out.nthF 3 rfl
        have cB4_w52 := KH_w52.out.nth 4 rfl
        have fB4_w52 := KH_w52.out.nthF 4 rfl
        have cB5_w52 := KH_w52.out.nth 5 rfl
        have fB5_w52 := KH_w52.out.nthF 5 rfl
        have cB6_w52 := KH_w52.out.nth 6 rfl
        have fB6_w52 := KH_w52.out.nthF 6 rfl
        have cB7_w52 := KH_w52.out.nth 7 rfl
        have fB7_w52 := KH_w52.out.nthF 7 rfl
        have cB8_w52 := KH_w52.out.nth 8 rfl
        have fB8_w52 := KH_w52.out.nthF 8 rfl
        have cB9_w52 := KH_w52.out.nth 9 rfl
        have fB9_w52 := KH_w52.out.nthF 9 rfl
        have cB10_w52 := KH_w52.out.nth 10 rfl
        have fB10_w52 := KH_w52.out.nthF 10 rfl
        have cB11_w52 := KH_w52.out.nth 11 rfl
        have fB11_w52 := KH_w52.out.nthF 11 rfl
        have cX0_w52 := KH_w52.out.nth 12 rfl
        have fX0_w52 := KH_w52.out.nthF 12 rfl
        have cX1_w52 := KH_w52.out.nth 13 rfl
        have fX1_w52 := KH_w52.out.nthF 13 rfl
        have cX2_w52 := KH_w52.out.nth 14 rfl
        have fX2_w52 := KH_w52.out.nthF 14 rfl
        have cX3_w52 := KH_w52.out.nth 15 rfl
        have fX3_w52 := KH_w52.out.nthF 15 rfl
        have cX4_w52 := KH_w52.out.nth 16 rfl
        have fX4_w52 := KH_w52.out.nthF 16 rfl
        have cX5_w52 := KH_w52.out.nth 17 rfl
        have fX5_w52 := KH_w52.out.nthF 17 rfl
        have cX6_w52 := KH_w52.out.nth 18 rfl
        have fX6_w52 := KH_w52.out.nthF 18 rfl
        have cX7_w52 := KH_w52.out.nth 19 rfl
        have fX7_w52 := KH_w52.out.nthF 19 rfl
        have cX8_w52 := KH_w52.out.nth 20 rfl
        have fX8_w52 := KH_w52.out.nthF 20 rfl
        have cX9_w52 := KH_w52.out.nth 21 rfl
        have fX9_w52 := KH_w52.out.nthF 21 rfl
        have cX10_w52 := KH_w52.out.nth 22 rfl
        have fX10_w52 := KH_w52.out.nthF 22 rfl
        have cX11_w52 := KH_w52.out.nth 23 rfl
        have fX11_w52 := KH_w52.out.nthF 23 rfl
        go_wp2_with fail
        with_reducible refine (onew o.id (-1) o.ow _).mono ?_
        rintro e w53 ⟨rfl, hb_w53⟩
        have K_w53 : Kept w.heap.size w (w52.heap.size + 1) [(w.heap.size, 0, .int .i64 o.id), (w.heap.size, 1, .int .i64 (-1)), (w.heap.size, 2, .int .i64 o.ow), (w.heap.size, 3, .int .i64 o.po), (w.heap.size, 4, .int .i64 o.tg), (w.heap.size, 5, .int .i64 o.da), (w.heap.size, 6, .int .i64 o.co), (w.heap.size, 7, .int .i64 o.pp), (w.heap.size, 8, .int .i64 o.pt), (w.heap.size, 9, .bool o.ta), (w.heap.size, 10, .bool o.si), (w.heap.size, 11, .bool o.dm), (w1.heap.size, 0, .int .i64 o.id), (w1.heap.size, 1, .int .i64 (-1)), (w1.heap.size, 2, .int .i64 o.ow), (w1.heap.size, 3, .int .i64 o.po), (w1.heap.size, 4, .int .i64 o.tg), (w1.heap.size, 5, .int .i64 da), (w1.heap.size, 6, .int .i64 co), (w1.heap.size, 7, .int .i64 pp), (w1.heap.size, 8, .int .i64 pt), (w1.heap.size, 9, .bool o.ta), (w1.heap.size, 10, .bool o.si), (w1.heap.size, 11, .bool o.dm), (w52.heap.size, 0, .int .i64 o.id), (w52.heap.size, 1, .int .i64 (-1)), (w52.heap.size, 2, .int .i64 o.ow), (w52.heap.size, 3, .int .i64 o.po), (w52.heap.size, 4, .int .i64 o.tg), (w52.heap.size, 5, .int .i64 0), (w52.heap.size, 6, .int .i64 co), (w52.heap.size, 7, .int .i64 0), (w52.heap.size, 8, .int .i64 0), (w52.heap.size, 9, .bool false), (w52.heap.size, 10, .bool false), (w52.heap.size, 11, .bool o.dm)] w53 := Kept.of hb_w53 (by go_grown) (by go_size) (by omega) (by simp [go_sem, lB_w52, lX_w52, cB0_w52, fB0_w52, cB1_w52, fB1_w52, cB2_w52, fB2_w52, cB3_w52, fB3_w52, cB4_w52, fB4_w52, cB5_w52, fB5_w52, cB6_w52, fB6_w52, cB7_w52, fB7_w52, cB8_w52, fB8_w52, cB9_w52, fB9_w52, cB10_w52, fB10_w52, cB11_w52, fB11_w52, cX0_w52, fX0_w52, cX1_w52, fX1_w52, cX2_w52, fX2_w52, cX3_w52, fX3_w52, cX4_w52, fX4_w52, cX5_w52, fX5_w52, cX6_w52, fX6_w52, cX7_w52, fX7_w52, cX8_w52, fX8_w52, cX9_w52, fX9_w52, cX10_w52, fX10_w52, cX11_w52, fX11_w52] <;> omega)
        clear hb_w53
        have KH_w53 := Lib.hid K_w53
        have hw_w53 := K_w53.below
        have hz_w53 := K_w53.size
        have lB_w53 : w.heap.size < w53.heap.size := by omega
        have lX_w53 : w1.heap.size < w53.heap.size := by omega
        have lR_w53 : w52.heap.size < w53.heap.size := by omega
        clear lB_w52 lX_w52 cB0_w52 fB0_w52 cB1_w52 fB1_w52 cB2_w52 fB2_w52 cB3_w52 fB3_w52 cB4_w52 fB4_w52 cB5_w52 fB5_w52 cB6_w52 fB6_w52 cB7_w52 fB7_w52 cB8_w52 fB8_w52 cB9_w52 fB9_w52 cB10_w52 fB10_w52 cB11_w52 fB11_w52 cX0_w52 fX0_w52 cX1_w52 fX1_w52 cX2_w52 fX2_w52 cX3_w52 fX3_w52 cX4_w52 fX4_w52 cX5_w52 fX5_w52 cX6_w52 fX6_w52 cX7_w52 fX7_w52 cX8_w52 fX8_w52 cX9_w52 fX9_w52 cX10_w52 fX10_w52 cX11_w52 fX11_w52
        clear K_w53
        have cB0_w53 := KH_w53.out.nth 0 rfl
        have fB0_w53 := KH_w53.out.nthF 0 rfl
        have cB1_w53 := KH_w53.out.nth 1 rfl
        have fB1_w53 := KH_w53.out.nthF 1 rfl
        have cB2_w53 := KH_w53.out.nth 2 rfl
        have fB2_w53 := KH_w53.out.nthF 2 rfl
        have cB3_w53 := KH_w53.out.nth 3 rfl
        have fB3_w53 := KH_w53.out.nthF 3 rfl
        have cB4_w53 := KH_w53.out.nth 4 rfl
        have fB4_w53 := KH_w53.out.nthF 4 rfl
        have cB5_w53 := KH_w53.out.nth 5 rfl
        have fB5_w53 := KH_w53.out.nthF 5 rfl
        have cB6_w53 := KH_w53.out.nth 6 rfl
        have fB6_w53 := KH_w53.out.nthF 6 rfl
        have cB7_w53 := KH_w53.out.nth 7 rfl
        have fB7_w53 := KH_w53.out.nthF 7 rfl
        have cB8_w53 := KH_w53.out.nth 8 rfl
        have fB8_w53 := KH_w53.out.nthF 8 rfl
        have cB9_w53 := KH_w53.out.nth 9 rfl
        have fB9_w53 := KH_w53.out.nthF 9 rfl
        have cB10_w53 := KH_w53.out.nth 10 rfl
        have fB10_w53 := KH_w53.out.nthF 10 rfl
        have cB11_w53 := KH_w53.out.nth 11 rfl
        have fB11_w53 := KH_w53.out.nthF 11 rfl
        have cX0_w53 := KH_w53.out.nth 12 rfl
        have fX0_w53 := KH_w53.out.nthF 12 rfl
        have cX1_w53 := KH_w53.out.nth 13 rfl
        have fX1_w53 := KH_w53.out.nthF 13 rfl
        have cX2_w53 := KH_w53.out.nth 14 rfl
        have fX2_w53 := KH_w53.out.nthF 14 rfl
        have cX3_w53 := KH_w53.out.nth 15 rfl
        have fX3_w53 := KH_w53.out.nthF 15 rfl
        have cX4_w53 := KH_w53.out.nth 16 rfl
        have fX4_w53 := KH_w53.out.nthF 16 rfl
        have cX5_w53 := KH_w53.out.nth 17 rfl
        have fX5_w53 := KH_w53.out.nthF 17 rfl
        have cX6_w53 := KH_w53.out.nth 18 rfl
        have fX6_w53 := KH_w53.out.nthF 18 rfl
        have cX7_w53 := KH_w53.out.nth 19 rfl
        have fX7_w53 := KH_w53.out.nthF 19 rfl
        have cX8_w53 := KH_w53.out.nth 20 rfl
        have fX8_w53 := KH_w53.out.nthF 20 rfl
        have cX9_w53 := KH_w53.out.nth 21 rfl
        have fX9_w53 := KH_w53.out.nthF 21 rfl
        have cX10_w53 := KH_w53.out.nth 22 rfl
        have fX10_w53 := KH_w53.out.nthF 22 rfl
        have cX11_w53 := KH_w53.out.nth 23 rfl
        have fX11_w53 := KH_w53.out.nthF 23 rfl
        have cR0_w53 := KH_w53.out.nth 24 rfl
        have fR0_w53 := KH_w53.out.nthF 24 rfl
        have cR1_w53 := KH_w53.out.nth 25 rfl
        have fR1_w53 := KH_w53.out.nthF 25 rfl
        have cR2_w53 := KH_w53.out.nth 26 rfl
        have fR2_w53 := KH_w53.out.nthF 26 rfl
        have cR3_w53 := KH_w53.out.nth 27 rfl
        have fR3_w53 := KH_w53.out.nthF 27 rfl
        have cR4_w53 := KH_w53.out.nth 28 rfl
        have fR4_w53 := KH_w53.out.nthF 28 rfl
        have cR5_w53 := KH_w53.out.nth 29 rfl
        have fR5_w53 := KH_w53.out.nthF 29 rfl
        have cR6_w53 := KH_w53.out.nth 30 rfl
        have fR6_w53 := KH_w53.out.nthF 30 rfl
        have cR7_w53 := KH_w53.out.nth 31 rfl
        have fR7_w53 := KH_w53.out.nthF 31 rfl
        have cR8_w53 := KH_w53.out.nth 32 rfl
        have fR8_w53 := KH_w53.out.nthF 32 rfl
        have cR9_w53 := KH_w53.out.nth 33 rfl
        have fR9_w53 := KH_w53.out.nthF 33 rfl
        have cR10_w53 := KH_w53.out.nth 34 rfl
        have fR10_w53 := KH_w53.out.nthF 34 rfl
        have cR11_w53 := KH_w53.out.nth 35 rfl
        have fR11_w53 := KH_w53.out.nthF 35 rfl
        go_wp2_with fail
        with_reducible refine (otokenv o.id o.ow o.po o.tg _ HPO.out HTG.out).mono ?_
        rintro e w54 ⟨rfl, hb_w54⟩
        have K_w54 : Kept w.heap.size w (w53.heap.size + 1) [(w.heap.size, 0, .int .i64 o.id), (w.heap.size, 1, .int .i64 (-1)), (w.heap.size, 2, .int .i64 o.ow), (w.heap.size, 3, .int .i64 o.po), (w.heap.size, 4, .int .i64 o.tg), (w.heap.size, 5, .int .i64 o.da), (w.heap.size, 6, .int .i64 o.co), (w.heap.size, 7, .int .i64 o.pp), (w.heap.size, 8, .int .i64 o.pt), (w.heap.size, 9, .bool o.ta), (w.heap.size, 10, .bool o.si), (w.heap.size, 11, .bool o.dm), (w1.heap.size, 0, .int .i64 o.id), (w1.heap.size, 1, .int .i64 (-1)), (w1.heap.size, 2, .int .i64 o.ow), (w1.heap.size, 3, .int .i64 o.po), (w1.heap.size, 4, .int .i64 o.tg), (w1.heap.size, 5, .int .i64 da), (w1.heap.size, 6, .int .i64 co), (w1.heap.size, 7, .int .i64 pp), (w1.heap.size, 8, .int .i64 pt), (w1.heap.size, 9, .bool o.ta), (w1.heap.size, 10, .bool o.si), (w1.heap.size, 11, .bool o.dm), (w52.heap.size, 0, .int .i64 o.id), (w52.heap.size, 1, .int .i64 (-1)), (w52.heap.size, 2, .int .i64 o.ow), (w52.heap.size, 3, .int .i64 o.po), (w52.heap.size, 4, .int .i64 o.tg), (w52.heap.size, 5, .int .i64 0), (w52.heap.size, 6, .int .i64 co), (w52.heap.size, 7, .int .i64 0), (w52.heap.size, 8, .int .i64 0), (w52.heap.size, 9, .bool false), (w52.heap.size, 10, .bool false), (w52.heap.size, 11, .bool o.dm), (w53.heap.size, 0, .int .i64 o.id), (w53.heap.size, 1, .int .i64 (-1)), (w53.heap.size, 2, .int .i64 o.ow), (w53.heap.size, 3, .int .i64 0), (w53.heap.size, 4, .int .i64 0), (w53.heap.size, 5, .int .i64 0), (w53.heap.size, 6, .int .i64 0), (w53.heap.size, 7, .int .i64 0), (w53.heap.size, 8, .int .i64 0), (w53.heap.size, 9, .bool false), (w53.heap.size, 10, .bool false), (w53.heap.size, 11, .bool false)] w54 := Kept.of hb_w54 (by go_grown) (by go_size) (by omega) (by simp [go_sem, lB_w53, lX_w53, lR_w53, cB0_w53, fB0_w53, cB1_w53, fB1_w53, cB2_w53, fB2_w53, cB3_w53, fB3_w53, cB4_w53, fB4_w53, cB5_w53, fB5_w53, cB6_w53, fB6_w53, cB7_w53, fB7_w53, cB8_w53, fB8_w53, cB9_w53, fB9_w53, cB10_w53, fB10_w53, cB11_w53, fB11_w53, cX0_w53, fX0_w53, cX1_w53, fX1_w53, cX2_w53, fX2_w53, cX3_w53, fX3_w53, cX4_w53, fX4_w53, cX5_w53, fX5_w53, cX6_w53, fX6_w53, cX7_w53, fX7_w53, cX8_w53, fX8_w53, cX9_w53, fX9_w53, cX10_w53, fX10_w53, cX11_w53, fX11_w53, cR0_w53, fR0_w53, cR1_w53, fR1_w53, cR2_w53, fR2_w53, cR3_w53, fR3_w53, cR4_w53, fR4_w53, cR5_w53, fR5_w53, cR6_w53, fR6_w53, cR7_w53, fR7_w53, cR8_w53, fR8_w53, cR9_w53, fR9_w53, cR10_w53, fR10_w53, cR11_w53, fR11_w53] <;> omega)
        clear hb_w54
        have KH_w54 := Lib.hid K_w54
        have hw_w54 := K_w54.below
        have hz_w54 := K_w54.size
        have lB_w54 : w.heap.size < w54.heap.size := by omega
        have lX_w54 : w1.heap.size < w54.heap.size := by omega
        have lR_w54 : w52.heap.size < w54.heap.size := by omega
        have lC_w54 : w53.heap.size < w54.heap.size := by omega
        clear lB_w53 lX_w53 lR_w53 cB0_w53 fB0_w53 cB1_w53 fB1_w53 cB2_w53 fB2_w53 cB3_w53 fB3_w53 cB4_w53 fB4_w53 cB5_w53 fB5_w53 cB6_w53 fB6_w53 cB7_w53 fB7_w53 cB8_w53 fB8_w53 cB9_w53 fB9_w53 cB10_w53 fB10_w53 cB11_w53 fB11_w53 cX0_w53 fX0_w53 cX1_w53 fX1_w53 cX2_w53 fX2_w53 cX3_w53 fX3_w53 cX4_w53 fX4_w53 cX5_w53 fX5_w53 cX6_w53 fX6_w53 cX7_w53 fX7_w53 cX8_w53 fX8_w53 cX9_w53 fX9_w53 cX10_w53 fX10_w53 cX11_w53 fX11_w53 cR0_w53 fR0_w53 cR1_w53 fR1_w53 cR2_w53 fR2_w53 cR3_w53 fR3_w53 cR4_w53 fR4_w53 cR5_w53 fR5_w53 cR6_w53 fR6_w53 cR7_w53 fR7_w53 cR8_w53 fR8_w53 cR9_w53 fR9_w53 cR10_w53 fR10_w53 cR11_w53 fR11_w53
        clear K_w54
        have cC0_w54 := KH_w54.out.nth 36 rfl
        have fC0_w54 := KH_w54.out.nthF 36 rfl
        have cC1_w54 := KH_w54.out.nth 37 rfl
        have fC1_w54 := KH_w54.out.nthF 37 rfl
        have cC2_w54 := KH_w54.out.nth 38 rfl
        have fC2_w54 := KH_w54.out.nthF 38 rfl
        have cC3_w54 := KH_w54.out.nth 39 rfl
        have fC3_w54 := KH_w54.out.nthF 39 rfl
        have cC4_w54 := KH_w54.out.nth 40 rfl
        have fC4_w54 := KH_w54.out.nthF 40 rfl
        have cC5_w54 := KH_w54.out.nth 41 rfl
        have fC5_w54 := KH_w54.out.nthF 41 rfl
        have cC6_w54 := KH_w54.out.nth 42 rfl
        have fC6_w54 := KH_w54.out.nthF 42 rfl
        have cC7_w54 := KH_w54.out.nth 43 rfl
        have fC7_w54 := KH_w54.out.nthF 43 rfl
        have cC8_w54 := KH_w54.out.nth 44 rfl
        have fC8_w54 := KH_w54.out.nthF 44 rfl
        have cC9_w54 := KH_w54.out.nth 45 rfl
        have fC9_w54 := KH_w54.out.nthF 45 rfl
        have cC10_w54 := KH_w54.out.nth 46 rfl
        have fC10_w54 := KH_w54.out.nthF 46 rfl
        have cC11_w54 := KH_w54.out.nth 47 rfl
        have fC11_w54 := KH_w54.out.nthF 47 rfl
        go_upto_region 25 with fail
        obtain ⟨wz, hwz⟩ : ∃ W, W = ((((((((((((w54.setCell ⟨w53.heap.size, 0, none⟩ (.int .i64 o.id)).setCell ⟨w53.heap.size, 1, none⟩ (.int .i64 (-1))).setCell ⟨w53.heap.size, 2, none⟩ (.int .i64 o.ow)).setCell ⟨w53.heap.size, 3, none⟩ (.int .i64 o.po)).setCell ⟨w53.heap.size, 4, none⟩ (.int .i64 o.tg)).setCell ⟨w53.heap.size, 5, none⟩ (.int .i64 0)).setCell ⟨w53.heap.size, 6, none⟩ (.int .i64 0)).setCell ⟨w53.heap.size, 7, none⟩ (.int .i64 0)).setCell ⟨w53.heap.size, 8, none⟩ (.int .i64 0)).setCell ⟨w53.heap.size, 9, none⟩ (.bool false)).setCell ⟨w53.heap.size, 10, none⟩ (.bool false)).setCell ⟨w53.heap.size, 11, none⟩ (.bool false)) := ⟨_, rfl⟩
        rw [← hwz]
        have K_wz : Kept w.heap.size w (w53.heap.size + 1) [(w.heap.size, 0, .int .i64 o.id), (w.heap.size, 1, .int .i64 (-1)), (w.heap.size, 2, .int .i64 o.ow), (w.heap.size, 3, .int .i64 o.po), (w.heap.size, 4, .int .i64 o.tg), (w.heap.size, 5, .int .i64 o.da), (w.heap.size, 6, .int .i64 o.co), (w.heap.size, 7, .int .i64 o.pp), (w.heap.size, 8, .int .i64 o.pt), (w.heap.size, 9, .bool o.ta), (w.heap.size, 10, .bool o.si), (w.heap.size, 11, .bool o.dm), (w1.heap.size, 0, .int .i64 o.id), (w1.heap.size, 1, .int .i64 (-1)), (w1.heap.size, 2, .int .i64 o.ow), (w1.heap.size, 3, .int .i64 o.po), (w1.heap.size, 4, .int .i64 o.tg), (w1.heap.size, 5, .int .i64 da), (w1.heap.size, 6, .int .i64 co), (w1.heap.size, 7, .int .i64 pp), (w1.heap.size, 8, .int .i64 pt), (w1.heap.size, 9, .bool o.ta), (w1.heap.size, 10, .bool o.si), (w1.heap.size, 11, .bool o.dm), (w52.heap.size, 0, .int .i64 o.id), (w52.heap.size, 1, .int .i64 (-1)), (w52.heap.size, 2, .int .i64 o.ow), (w52.heap.size, 3, .int .i64 o.po), (w52.heap.size, 4, .int .i64 o.tg), (w52.heap.size, 5, .int .i64 0), (w52.heap.size, 6, .int .i64 co), (w52.heap.size, 7, .int .i64 0), (w52.heap.size, 8, .int .i64 0), (w52.heap.size, 9, .bool false), (w52.heap.size, 10, .bool false), (w52.heap.size, 11, .bool o.dm), (w53.heap.size, 0, .int .i64 o.id), (w53.heap.size, 1, .int .i64 (-1)), (w53.heap.size, 2, .int .i64 o.ow), (w53.heap.size, 3, .int .i64 o.po), (w53.heap.size, 4, .int .i64 o.tg), (w53.heap.size, 5, .int .i64 0), (w53.heap.size, 6, .int .i64 0), (w53.heap.size, 7, .int .i64 0), (w53.heap.size, 8, .int .i64 0), (w53.heap.size, 9, .bool false), (w53.heap.size, 10, .bool false), (w53.heap.size, 11, .bool false)] wz := by
          rw [hwz]
          exact Kept.setAll (L0 := [(w.heap.size, 0, .int .i64 o.id), (w.heap.size, 1, .int .i64 (-1)), (w.heap.size, 2, .int .i64 o.ow), (w.heap.size, 3, .int .i64 o.po), (w.heap.size, 4, .int .i64 o.tg), (w.heap.size, 5, .int .i64 o.da), (w.heap.size, 6, .int .i64 o.co), (w.heap.size, 7, .int .i64 o.pp), (w.heap.size, 8, .int .i64 o.pt), (w.heap.size, 9, .bool o.ta), (w.heap.size, 10, .bool o.si), (w.heap.size, 11, .bool o.dm), (w1.heap.size, 0, .int .i64 o.id), (w1.heap.size, 1, .int .i64 (-1)), (w1.heap.size, 2, .int .i64 o.ow), (w1.heap.size, 3, .int .i64 o.po), (w1.heap.size, 4, .int .i64 o.tg), (w1.heap.size, 5, .int .i64 da), (w1.heap.size, 6, .int .i64 co), (w1.heap.size, 7, .int .i64 pp), (w1.heap.size, 8, .int .i64 pt), (w1.heap.size, 9, .bool o.ta), (w1.heap.size, 10, .bool o.si), (w1.heap.size, 11, .bool o.dm), (w52.heap.size, 0, .int .i64 o.id), (w52.heap.size, 1, .int .i64 (-1)), (w52.heap.size, 2, .int .i64 o.ow), (w52.heap.size, 3, .int .i64 o.po), (w52.heap.size, 4, .int .i64 o.tg), (w52.heap.size, 5, .int .i64 0), (w52.heap.size, 6, .int .i64 co), (w52.heap.size, 7, .int .i64 0), (w52.heap.size, 8, .int .i64 0), (w52.heap.size, 9, .bool false), (w52.heap.size, 10, .bool false), (w52.heap.size, 11, .bool o.dm)]) (C := w53.heap.size) [.int .i64 o.id, .int .i64 (-1), .int .i64 o.ow, .int .i64 0, .int .i64 0, .int .i64 0, .int .i64 0, .int .i64 0, .int .i64 0, .bool false, .bool false, .bool false] [.int .i64 o.id, .int .i64 (-1), .int .i64 o.ow, .int .i64 o.po, .int .i64 o.tg, .int .i64 0, .int .i64 0, .int .i64 0, .int .i64 0, .bool false, .bool false, .bool false] KH_w54.out rfl (by omega) (by simp; omega)
        clear hwz lB_w54 lX_w54 lR_w54 lC_w54 cC0_w54 fC0_w54 cC1_w54 fC1_w54 cC2_w54 fC2_w54 cC3_w54 fC3_w54 cC4_w54 fC4_w54 cC5_w54 fC5_w54 cC6_w54 fC6_w54 cC7_w54 fC7_w54 cC8_w54 fC8_w54 cC9_w54 fC9_w54 cC10_w54 fC10_w54 cC11_w54 fC11_w54
        have KH_wz := Lib.hid K_wz
        have hw_wz := K_wz.below
        have hz_wz := K_wz.size
        have lB_wz : w.heap.size < wz.heap.size := by omega
        have lX_wz : w1.heap.size < wz.heap.size := by omega
        have lR_wz : w52.heap.size < wz.heap.size := by omega
        have lC_wz : w53.heap.size < wz.heap.size := by omega
        clear K_wz
        have cX0_wz := KH_wz.out.nth 12 rfl
        have fX0_wz := KH_wz.out.nthF 12 rfl
        have cX1_wz := KH_wz.out.nth 13 rfl
        have fX1_wz := KH_wz.out.nthF 13 rfl
        have cX2_wz := KH_wz.out.nth 14 rfl
        have fX2_wz := KH_wz.out.nthF 14 rfl
        have cX3_wz := KH_wz.out.nth 15 rfl
        have fX3_wz := KH_wz.out.nthF 15 rfl
        have cX4_wz := KH_wz.out.nth 16 rfl
        have fX4_wz := KH_wz.out.nthF 16 rfl
        have cX5_wz := KH_wz.out.nth 17 rfl
        have fX5_wz := KH_wz.out.nthF 17 rfl
        have cX6_wz := KH_wz.out.nth 18 rfl
        have fX6_wz := KH_wz.out.nthF 18 rfl
        have cX7_wz := KH_wz.out.nth 19 rfl
        have fX7_wz := KH_wz.out.nthF 19 rfl
        have cX8_wz := KH_wz.out.nth 20 rfl
        have fX8_wz := KH_wz.out.nthF 20 rfl
        have cX9_wz := KH_wz.out.nth 21 rfl
        have fX9_wz := KH_wz.out.nthF 21 rfl
        have cX10_wz := KH_wz.out.nth 22 rfl
        have fX10_wz := KH_wz.out.nthF 22 rfl
        have cX11_wz := KH_wz.out.nth 23 rfl
        have fX11_wz := KH_wz.out.nthF 23 rfl
        refine rg5_25 (w0 := w) (B := w.heap.size) (n := w53.heap.size + 1) (L := [(w1.heap.size, 0, .int .i64 o.id), (w1.heap.size, 1, .int .i64 (-1)), (w1.heap.size, 2, .int .i64 o.ow), (w1.heap.size, 3, .int .i64 o.po), (w1.heap.size, 4, .int .i64 o.tg), (w1.heap.size, 5, .int .i64 da), (w1.heap.size, 6, .int .i64 co), (w1.heap.size, 7, .int .i64 pp), (w1.heap.size, 8, .int .i64 pt), (w1.heap.size, 9, .bool o.ta), (w1.heap.size, 10, .bool o.si), (w1.heap.size, 11, .bool o.dm)]) (E := fun _ => True) (F := Kept w.heap.size w (w53.heap.size + 1) [(w.heap.size, 0, .int .i64 o.id), (w.heap.size, 1, .int .i64 (-1)), (w.heap.size, 2, .int .i64 o.ow), (w.heap.size, 3, .int .i64 o.po), (w.heap.size, 4, .int .i64 o.tg), (w.heap.size, 5, .int .i64 o.da), (w.heap.size, 6, .int .i64 o.co), (w.heap.size, 7, .int .i64 o.pp), (w.heap.size, 8, .int .i64 o.pt), (w.heap.size, 9, .bool o.ta), (w.heap.size, 10, .bool o.si), (w.heap.size, 11, .bool o.dm), (w1.heap.size, 0, .int .i64 o.id), (w1.heap.size, 1, .int .i64 (-1)), (w1.heap.size, 2, .int .i64 o.ow), (w1.heap.size, 3, .int .i64 o.po), (w1.heap.size, 4, .int .i64 o.tg), (w1.heap.size, 5, .int .i64 da), (w1.heap.size, 6, .int .i64 co), (w1.heap.size, 7, .int .i64 pp), (w1.heap.size, 8, .int .i64 pt), (w1.heap.size, 9, .bool o.ta), (w1.heap.size, 10, .bool o.si), (w1.heap.size, 11, .bool o.dm), (w52.heap.size, 0, .int .i64 o.id), (w52.heap.size, 1, .int .i64 (-1)), (w52.heap.size, 2, .int .i64 o.ow), (w52.heap.size, 3, .int .i64 o.po), (w52.heap.size, 4, .int .i64 o.tg), (w52.heap.size, 5, .int .i64 0), (w52.heap.size, 6, .int .i64 co), (w52.heap.size, 7, .int .i64 0), (w52.heap.size, 8, .int .i64 0), (w52.heap.size, 9, .bool false), (w52.heap.size, 10, .bool false), (w52.heap.size, 11, .bool o.dm), (w53.heap.size, 0, .int .i64 o.id), (w53.heap.size, 1, .int .i64 (-1)), (w53.heap.size, 2, .int .i64 o.ow), (w53.heap.size, 3, .int .i64 o.po), (w53.heap.size, 4, .int .i64 o.tg), (w53.heap.size, 5, .int .i64 0), (w53.heap.size, 6, .int .i64 0), (w53.heap.size, 7, .int .i64 0), (w53.heap.size, 8, .int .i64 0), (w53.heap.size, 9, .bool false), (w53.heap.size, 10, .bool false), (w53.heap.size, 11, .bool false)]) (by kernel_rfl) (by kernel_rfl) ⟨by go_grown, by go_size, (by simp [go_sem, lB_wz, lX_wz, lR_wz, lC_wz, cX0_wz, fX0_wz, cX1_wz, fX1_wz, cX2_wz, fX2_wz, cX3_wz, fX3_wz, cX4_wz, fX4_wz, cX5_wz, fX5_wz, cX6_wz, fX6_wz, cX7_wz, fX7_wz, cX8_wz, fX8_wz, cX9_wz, fX9_wz, cX10_wz, fX10_wz, cX11_wz, fX11_wz] <;> omega)⟩ trivial (fun _ _ _ _ => trivial) (KH_wz.out.step (by omega) (by go_grown)) (fun _ _ h hb => Kept.step h (by omega) hb) (fun w55 K_w55 E_w55 F_w55 => ?_)
        have _ne : Nonempty (KX (w.heap.size) w (w53.heap.size + 1) [(w1.heap.size, 0, .int .i64 o.id), (w1.heap.size, 1, .int .i64 (-1)), (w1.heap.size, 2, .int .i64 o.ow), (w1.heap.size, 3, .int .i64 o.po), (w1.heap.size, 4, .int .i64 o.tg), (w1.heap.size, 5, .int .i64 da), (w1.heap.size, 6, .int .i64 co), (w1.heap.size, 7, .int .i64 pp), (w1.heap.size, 8, .int .i64 pt), (w1.heap.size, 9, .bool o.ta), (w1.heap.size, 10, .bool o.si), (w1.heap.size, 11, .bool o.dm)] (fun _ => True)) := ⟨⟨_, K_w55, E_w55⟩⟩
        repeat (go_big_quiet_step (fail))
        refine wpQuiet_nil ?_
        have rX0 := rcx _ne 0 rfl
        have rX1 := rcx _ne 1 rfl
        have rX2 := rcx _ne 2 rfl
        have rX3 := rcx _ne 3 rfl
        have rX4 := rcx _ne 4 rfl
        have rX5 := rcx _ne 5 rfl
        have rX6 := rcx _ne 6 rfl
        have rX7 := rcx _ne 7 rfl
        have rX8 := rcx _ne 8 rfl
        have rX9 := rcx _ne 9 rfl
        have rX10 := rcx _ne 10 rfl
        have rX11 := rcx _ne 11 rfl
        repeat (go_big_quiet_step (fail))
        refine wpQuiet_nil ?_
        clear rX0 rX1 rX2 rX3 rX4 rX5 rX6 rX7 rX8 rX9 rX10 rX11
        repeat (go_big_quiet_step (fail))
        refine wpQuiet_nil ?_
        have rX0 := rcx _ne 0 rfl
        have rX1 := rcx _ne 1 rfl
        have rX2 := rcx _ne 2 rfl
        have rX3 := rcx _ne 3 rfl
        have rX4 := rcx _ne 4 rfl
        have rX5 := rcx _ne 5 rfl
        have rX6 := rcx _ne 6 rfl
        have rX7 := rcx _ne 7 rfl
        have rX8 := rcx _ne 8 rfl
        have rX9 := rcx _ne 9 rfl
        have rX10 := rcx _ne 10 rfl
        have rX11 := rcx _ne 11 rfl
        repeat (go_big_quiet_step (fail))
        refine wpQuiet_nil ?_
        clear rX0 rX1 rX2 rX3 rX4 rX5 rX6 rX7 rX8 rX9 rX10 rX11
        have KH_w55 := Lib.hid K_w55
        have hw_w55 := K_w55.below
        have hz_w55 := K_w55.size
        have lX_w55 : w1.heap.size < w55.heap.size := by omega
        clear lB_wz lX_wz lR_wz lC_wz cX0_wz fX0_wz cX1_wz fX1_wz cX2_wz fX2_wz cX3_wz fX3_wz cX4_wz fX4_wz cX5_wz fX5_wz cX6_wz fX6_wz cX7_wz fX7_wz cX8_wz fX8_wz cX9_wz fX9_wz cX10_wz fX10_wz cX11_wz fX11_wz
        clear K_w55
        have HF := Lib.hid (F_w55)
        clear E_w55 F_w55
        refine ⟨fun K hK0 => ?_, trivial⟩
        have hK := Lib.hid hK0
        clear hK0
        have lB_w55 : w.heap.size < w55.heap.size := by have := HF.out.size; omega
        have cB0_w55 := HF.out.nth 0 rfl
        have fB0_w55 := HF.out.nthF 0 rfl
        have cB1_w55 := HF.out.nth 1 rfl
        have fB1_w55 := HF.out.nthF 1 rfl
        have cB2_w55 := HF.out.nth 2 rfl
        have fB2_w55 := HF.out.nthF 2 rfl
        have cB3_w55 := HF.out.nth 3 rfl
        have fB3_w55 := HF.out.nthF 3 rfl
        have cB4_w55 := HF.out.nth 4 rfl
        have fB4_w55 := HF.out.nthF 4 rfl
        have cB5_w55 := HF.out.nth 5 rfl
        have fB5_w55 := HF.out.nthF 5 rfl
        have cB6_w55 := HF.out.nth 6 rfl
        have fB6_w55 := HF.out.nthF 6 rfl
        have cB7_w55 := HF.out.nth 7 rfl
        have fB7_w55 := HF.out.nthF 7 rfl
        have cB8_w55 := HF.out.nth 8 rfl
        have fB8_w55 := HF.out.nthF 8 rfl
        have cB9_w55 := HF.out.nth 9 rfl
        have fB9_w55 := HF.out.nthF 9 rfl
        have cB10_w55 := HF.out.nth 10 rfl
        have fB10_w55 := HF.out.nthF 10 rfl
        have cB11_w55 := HF.out.nth 11 rfl
        have fB11_w55 := HF.out.nthF 11 rfl
        have cX0_w55 := HF.out.nth 12 rfl
        have fX0_w55 := HF.out.nthF 12 rfl
        have cX1_w55 := HF.out.nth 13 rfl
        have fX1_w55 := HF.out.nthF 13 rfl
        have cX2_w55 := HF.out.nth 14 rfl
        have fX2_w55 := HF.out.nthF 14 rfl
        have cX3_w55 := HF.out.nth 15 rfl
        have fX3_w55 := HF.out.nthF 15 rfl
        have cX4_w55 := HF.out.nth 16 rfl
        have fX4_w55 := HF.out.nthF 16 rfl
        have cX5_w55 := HF.out.nth 17 rfl
        have fX5_w55 := HF.out.nthF 17 rfl
        have cX6_w55 := HF.out.nth 18 rfl
        have fX6_w55 := HF.out.nthF 18 rfl
        have cX7_w55 := HF.out.nth 19 rfl
        have fX7_w55 := HF.out.nthF 19 rfl
        have cX8_w55 := HF.out.nth 20 rfl
        have fX8_w55 := HF.out.nthF 20 rfl
        have cX9_w55 := HF.out.nth 21 rfl
        have fX9_w55 := HF.out.nthF 21 rfl
        have cX10_w55 := HF.out.nth 22 rfl
        have fX10_w55 := HF.out.nthF 22 rfl
        have cX11_w55 := HF.out.nth 23 rfl
        have fX11_w55 := HF.out.nthF 23 rfl
        have lR_w55 : w52.heap.size < w55.heap.size := by have := HF.out.size; omega
        have cR0_w55 := HF.out.nth 24 rfl
        have fR0_w55 := HF.out.nthF 24 rfl
        have cR1_w55 := HF.out.nth 25 rfl
        have fR1_w55 := HF.out.nthF 25 rfl
        have cR2_w55 := HF.out.nth 26 rfl
        have fR2_w55 := HF.out.nthF 26 rfl
        have cR3_w55 := HF.out.nth 27 rfl
        have fR3_w55 := HF.out.nthF 27 rfl
        have cR4_w55 := HF.out.nth 28 rfl
        have fR4_w55 := HF.out.nthF 28 rfl
        have cR5_w55 := HF.out.nth 29 rfl
        have fR5_w55 := HF.out.nthF 29 rfl
        have cR6_w55 := HF.out.nth 30 rfl
        have fR6_w55 := HF.out.nthF 30 rfl
        have cR7_w55 := HF.out.nth 31 rfl
        have fR7_w55 := HF.out.nthF 31 rfl
        have cR8_w55 := HF.out.nth 32 rfl
        have fR8_w55 := HF.out.nthF 32 rfl
        have cR9_w55 := HF.out.nth 33 rfl
        have fR9_w55 := HF.out.nthF 33 rfl
        have cR10_w55 := HF.out.nth 34 rfl
        have fR10_w55 := HF.out.nthF 34 rfl
        have cR11_w55 := HF.out.nth 35 rfl
        have fR11_w55 := HF.out.nthF 35 rfl
        have lC_w55 : w53.heap.size < w55.heap.size := by have := HF.out.size; omega
        have cC0_w55 := HF.out.nth 36 rfl
        have fC0_w55 := HF.out.nthF 36 rfl
        have cC1_w55 := HF.out.nth 37 rfl
        have fC1_w55 := HF.out.nthF 37 rfl
        have cC2_w55 := HF.out.nth 38 rfl
        have fC2_w55 := HF.out.nthF 38 rfl
        have cC3_w55 := HF.out.nth 39 rfl
        have fC3_w55 := HF.out.nthF 39 rfl
        have cC4_w55 := HF.out.nth 40 rfl
        have fC4_w55 := HF.out.nthF 40 rfl
        have cC5_w55 := HF.out.nth 41 rfl
        have fC5_w55 := HF.out.nthF 41 rfl
        have cC6_w55 := HF.out.nth 42 rfl
        have fC6_w55 := HF.out.nthF 42 rfl
        have cC7_w55 := HF.out.nth 43 rfl
        have fC7_w55 := HF.out.nthF 43 rfl
        have cC8_w55 := HF.out.nth 44 rfl
        have fC8_w55 := HF.out.nthF 44 rfl
        have cC9_w55 := HF.out.nth 45 rfl
        have fC9_w55 := HF.out.nthF 45 rfl
        have cC10_w55 := HF.out.nth 46 rfl
        have fC10_w55 := HF.out.nthF 46 rfl
        have cC11_w55 := HF.out.nth 47 rfl
        have fC11_w55 := HF.out.nthF 47 rfl
        go_wp2_with fail
        first | (refine ⟨rfl, ⟨⟨_, ⟨hw_w55.setCell (by show w.heap.size ≤ w53.heap.size; omega) _, by go_size, (by simp [go_sem, lX_w55, cX0_w55, fX0_w55, cX1_w55, fX1_w55, cX2_w55, fX2_w55, cX3_w55, fX3_w55, cX4_w55, fX4_w55, cX5_w55, fX5_w55, cX6_w55, fX6_w55, cX7_w55, fX7_w55, cX8_w55, fX8_w55, cX9_w55, fX9_w55, cX10_w55, fX10_w55, cX11_w55, fX11_w55] <;> omega)⟩, trivial⟩, rfl⟩, hK.out _ _ ?_⟩; clear hK K) | (refine ⟨⟨⟨_, ⟨hw_w55.setCell (by show w.heap.size ≤ w53.heap.size; omega) _, by go_size, (by simp [go_sem, lX_w55, cX0_w55, fX0_w55, cX1_w55, fX1_w55, cX2_w55, fX2_w55, cX3_w55, fX3_w55, cX4_w55, fX4_w55, cX5_w55, fX5_w55, cX6_w55, fX6_w55, cX7_w55, fX7_w55, cX8_w55, fX8_w55, cX9_w55, fX9_w55, cX10_w55, fX10_w55, cX11_w55, fX11_w55] <;> omega)⟩, trivial⟩, rfl⟩, hK.out _ _ ?_⟩; clear hK K)
        repeat (go_big_quiet_step (fail))
        refine wpQuiet_nil ?_
        refine ⟨fun K hK0 => ?_, trivial⟩
        have hK := Lib.hid hK0
        clear hK0
        go_wp2_with fail
        first | (refine ⟨rfl, hK.out _ _ ?_⟩; clear hK K) | (refine hK.out _ _ ?_; clear hK K)
        clear _ne
        go_wp2_with fail
        with_reducible refine (known _).mono ?_
        rintro e w56 ⟨rfl, hb_w56⟩
        have K_w56 : Kept w.heap.size w (w53.heap.size + 1) [(w.heap.size, 0, .int .i64 o.id), (w.heap.size, 1, .int .i64 (-1)), (w.heap.size, 2, .int .i64 o.ow), (w.heap.size, 3, .int .i64 o.po), (w.heap.size, 4, .int .i64 o.tg), (w.heap.size, 5, .int .i64 o.da), (w.heap.size, 6, .int .i64 o.co), (w.heap.size, 7, .int .i64 o.pp), (w.heap.size, 8, .int .i64 o.pt), (w.heap.size, 9, .bool o.ta), (w.heap.size, 10, .bool o.si), (w.heap.size, 11, .bool o.dm), (w1.heap.size, 0, .int .i64 o.id), (w1.heap.size, 1, .int .i64 (-1)), (w1.heap.size, 2, .int .i64 o.ow), (w1.heap.size, 3, .int .i64 o.po), (w1.heap.size, 4, .int .i64 o.tg), (w1.heap.size, 5, .int .i64 da), (w1.heap.size, 6, .int .i64 co), (w1.heap.size, 7, .int .i64 pp), (w1.heap.size, 8, .int .i64 pt), (w1.heap.size, 9, .bool o.ta), (w1.heap.size, 10, .bool o.si), (w1.heap.size, 11, .bool o.dm), (w52.heap.size, 0, .int .i64 o.id), (w52.heap.size, 1, .int .i64 (-1)), (w52.heap.size, 2, .int .i64 o.ow), (w52.heap.size, 3, .int .i64 o.po), (w52.heap.size, 4, .int .i64 o.tg), (w52.heap.size, 5, .int .i64 0), (w52.heap.size, 6, .int .i64 co), (w52.heap.size, 7, .int .i64 0), (w52.heap.size, 8, .int .i64 0), (w52.heap.size, 9, .bool false), (w52.heap.size, 10, .bool false), (w52.heap.size, 11, .bool o.dm), (w53.heap.size, 0, .int .i64 o.id), (w53.heap.size, 1, .int .i64 (-1)), (w53.heap.size, 2, .int .i64 o.ow), (w53.heap.size, 3, .int .i64 o.po), (w53.heap.size, 4, .int .i64 o.tg), (w53.heap.size, 5, .int .i64 0), (w53.heap.size, 6, .int .i64 co), (w53.heap.size, 7, .int .i64 0), (w53.heap.size, 8, .int .i64 0), (w53.heap.size, 9, .bool false), (w53.heap.size, 10, .bool false), (w53.heap.size, 11, .bool o.dm)] w56 := Kept.of hb_w56 (by go_grown) (by go_size) (by omega) (by simp [go_sem, lX_w55, lB_w55, cB0_w55, fB0_w55, cB1_w55, fB1_w55, cB2_w55, fB2_w55, cB3_w55, fB3_w55, cB4_w55, fB4_w55, cB5_w55, fB5_w55, cB6_w55, fB6_w55, cB7_w55, fB7_w55, cB8_w55, fB8_w55, cB9_w55, fB9_w55, cB10_w55, fB10_w55, cB11_w55, fB11_w55, cX0_w55, fX0_w55, cX1_w55, fX1_w55, cX2_w55, fX2_w55, cX3_w55, fX3_w55, cX4_w55, fX4_w55, cX5_w55, fX5_w55, cX6_w55, fX6_w55, cX7_w55, fX7_w55, cX8_w55, fX8_w55, cX9_w55, fX9_w55, cX10_w55, fX10_w55, cX11_w55, fX11_w55, lR_w55, cR0_w55, fR0_w55, cR1_w55, fR1_w55, cR2_w55, fR2_w55, cR3_w55, fR3_w55, cR4_w55, fR4_w55, cR5_w55, fR5_w55, cR6_w55, fR6_w55, cR7_w55, fR7_w55, cR8_w55, fR8_w55, cR9_w55, fR9_w55, cR10_w55, fR10_w55, cR11_w55, fR11_w55, lC_w55, cC0_w55, fC0_w55, cC1_w55, fC1_w55, cC2_w55, fC2_w55, cC3_w55, fC3_w55, cC4_w55, fC4_w55, cC5_w55, fC5_w55, cC6_w55, fC6_w55, cC7_w55, fC7_w55, cC8_w55, fC8_w55, cC9_w55, fC9_w55, cC10_w55, fC10_w55, cC11_w55, fC11_w55] <;> omega)
        clear hb_w56
        have KH_w56 := Lib.hid K_w56
        have hw_w56 := K_w56.below
        have hz_w56 := K_w56.size
        have lB_w56 : w.heap.size < w56.heap.size := by omega
        have lX_w56 : w1.heap.size < w56.heap.size := by omega
        have lR_w56 : w52.heap.size < w56.heap.size := by omega
        have lC_w56 : w53.heap.size < w56.heap.size := by omega
        clear lX_w55 lB_w55 cB0_w55 fB0_w55 cB1_w55 fB1_w55 cB2_w55 fB2_w55 cB3_w55 fB3_w55 cB4_w55 fB4_w55 cB5_w55 fB5_w55 cB6_w55 fB6_w55 cB7_w55 fB7_w55 cB8_w55 fB8_w55 cB9_w55 fB9_w55 cB10_w55 fB10_w55 cB11_w55 fB11_w55 cX0_w55 fX0_w55 cX1_w55 fX1_w55 cX2_w55 fX2_w55 cX3_w55 fX3_w55 cX4_w55 fX4_w55 cX5_w55 fX5_w55 cX6_w55 fX6_w55 cX7_w55 fX7_w55 cX8_w55 fX8_w55 cX9_w55 fX9_w55 cX10_w55 fX10_w55 cX11_w55 fX11_w55 lR_w55 cR0_w55 fR0_w55 cR1_w55 fR1_w55 cR2_w55 fR2_w55 cR3_w55 fR3_w55 cR4_w55 fR4_w55 cR5_w55 fR5_w55 cR6_w55 fR6_w55 cR7_w55 fR7_w55 cR8_w55 fR8_w55 cR9_w55 fR9_w55 cR10_w55 fR10_w55 cR11_w55 fR11_w55 lC_w55 cC0_w55 fC0_w55 cC1_w55 fC1_w55 cC2_w55 fC2_w55 cC3_w55 fC3_w55 cC4_w55 fC4_w55 cC5_w55 fC5_w55 cC6_w55 fC6_w55 cC7_w55 fC7_w55 cC8_w55 fC8_w55 cC9_w55 fC9_w55 cC10_w55 fC10_w55 cC11_w55 fC11_w55
        clear K_w56
        go_wp2_with fail
        go_returns
        exact ⟨rfl, by go_grown⟩
      · have q5 : (o.cd == -1) = false := by simpa using hcd
        have e1 : o.po = 0 := by omega
        have e2 : o.tg = 0 := by omega
        rw [e1, e2] at K2
        have KH_we := Lib.hid K2
        have hw_we := K2.below
        have hz_we := K2.size
        clear K2 hbd hcd e1 e2
        have cX0_we := KH_we.out.nth 12 rfl
        have fX0_we := KH_we.out.nthF 12 rfl
        have cX1_we := KH_we.out.nth 13 rfl
        have fX1_we := KH_we.out.nthF 13 rfl
        have cX2_we := KH_we.out.nth 14 rfl
        have fX2_we := KH_we.out.nthF 14 rfl
        have cX3_we := KH_we.out.nth 15 rfl
        have fX3_we := KH_we.out.nthF 15 rfl
        have cX4_we := KH_we.out.nth 16 rfl
        have fX4_we := KH_we.out.nthF 16 rfl
        have cX5_we := KH_we.out.nth 17 rfl
        have fX5_we := KH_we.out.nthF 17 rfl
        have cX6_we := KH_we.out.nth 18 rfl
        have fX6_we := KH_we.out.nthF 18 rfl
        have cX7_we := KH_we.out.nth 19 rfl
        have fX7_we := KH_we.out.nthF 19 rfl
        have cX8_we := KH_we.out.nth 20 rfl
        have fX8_we := KH_we.out.nthF 20 rfl
        have cX9_we := KH_we.out.nth 21 rfl
        have fX9_we := KH_we.out.nthF 21 rfl
        have cX10_we := KH_we.out.nth 22 rfl
        have fX10_we := KH_we.out.nthF 22 rfl
        have cX11_we := KH_we.out.nth 23 rfl
        have fX11_we := KH_we.out.nthF 23 rfl
        go_wp2_with fail
        with_reducible refine (orest ⟨o.id, o.cd, o.ow, 0, 0, da, co, pp, pt, o.ta, o.si, o.dm⟩ _).mono ?_
        rintro e w51 ⟨rfl, hb_w51⟩
        have K_w51 := (KH_we.out.step (by omega) (by go_grown)).step (by omega) hb_w51
        clear hb_w51
        have KH_w51 := Lib.hid K_w51
        have hw_w51 := K_w51.below
        have hz_w51 := K_w51.size
        have lB_w51 : w.heap.size < w51.heap.size := by omega
        have lX_w51 : w1.heap.size < w51.heap.size := by omega
        clear cX0_we fX0_we cX1_we fX1_we cX2_we fX2_we cX3_we fX3_we cX4_we fX4_we cX5_we fX5_we cX6_we fX6_we cX7_we fX7_we cX8_we fX8_we cX9_we fX9_we cX10_we fX10_we cX11_we fX11_we
        clear K_w51
        go_wp2_with fail
        with_reducible refine (ountap ⟨o.id, o.cd, o.ow, 0, 0, 0, co, 0, 0, o.ta, o.si, o.dm⟩ _).mono ?_
        rintro e w52 ⟨rfl, hb_w52⟩
        have K_w52 := (KH_w51.out.step (by omega) (by go_grown)).step (by omega) hb_w52
        clear hb_w52
        have KH_w52 := Lib.hid K_w52
        have hw_w52 := K_w52.below
        have hz_w52 := K_w52.size
        have lB_w52 : w.heap.size < w52.heap.size := by omega
        have lX_w52 : w1.heap.size < w52.heap.size := by omega
        clear lB_w51 lX_w51
        clear K_w52
        have cB0_w52 := KH_w52.out.nth 0 rfl
        have fB0_w52 := KH_w52.out.nthF 0 rfl
        have cB1_w52 := KH_w52.out.nth 1 rfl
        have fB1_w52 := KH_w52.out.nthF 1 rfl
        have cB2_w52 := KH_w52.out.nth 2 rfl
        have fB2_w52 := KH_w52.out.nthF 2 rfl
        have cB3_w52 := KH_w52.out.nth 3 rfl
        have fB3_w52 := KH_w52.out.nthF 3 rfl
        have cB4_w52 := KH_w52.out.nth 4 rfl
        have fB4_w52 := KH_w52.out.nthF 4 rfl
        have cB5_w52 := KH_w52.out.nth 5 rfl
        have fB5_w52 := KH_w52.out.nthF 5 rfl
        have cB6_w52 := KH_w52.out.nth 6 rfl
        have fB6_w52 := KH_w52.out.nthF 6 rfl
        have cB7_w52 := KH_w52.out.nth 7 rfl
        have fB7_w52 := KH_w52.out.nthF 7 rfl
        have cB8_w52 := KH_w52.out.nth 8 rfl
        have fB8_w52 := KH_w52.out.nthF 8 rfl
        have cB9_w52 := KH_w52.out.nth 9 rfl
        have fB9_w52 := KH_w52.out.nthF 9 rfl
        have cB10_w52 := KH_w52.out.nth 10 rfl
        have fB10_w52 := KH_w52.out.nthF 10 rfl
        have cB11_w52 := KH_w52.out.nth 11 rfl
        have fB11_w52 := KH_w52.out.nthF 11 rfl
        have cX0_w52 := KH_w52.out.nth 12 rfl
        have fX0_w52 := KH_w52.out.nthF 12 rfl
        have cX1_w52 := KH_w52.out.nth 13 rfl
        have fX1_w52 := KH_w52.out.nthF 13 rfl
        have cX2_w52 := KH_w52.out.nth 14 rfl
        have fX2_w52 := KH_w52.out.nthF 14 rfl
        have cX3_w52 := KH_w52.out.nth 15 rfl
        have fX3_w52 := KH_w52.out.nthF 15 rfl
        have cX4_w52 := KH_w52.out.nth 16 rfl
        have fX4_w52 := KH_w52.out.nthF 16 rfl
        have cX5_w52 := KH_w52.out.nth 17 rfl
        have fX5_w52 := KH_w52.out.nthF 17 rfl
        have cX6_w52 := KH_w52.out.nth 18 rfl
        have fX6_w52 := KH_w52.out.nthF 18 rfl
        have cX7_w52 := KH_w52.out.nth 19 rfl
        have fX7_w52 := KH_w52.out.nthF 19 rfl
        have cX8_w52 := KH_w52.out.nth 20 rfl
        have fX8_w52 := KH_w52.out.nthF 20 rfl
        have cX9_w52 := KH_w52.out.nth 21 rfl
        have fX9_w52 := KH_w52.out.nthF 21 rfl
        have cX10_w52 := KH_w52.out.nth 22 rfl
        have fX10_w52 := KH_w52.out.nthF 22 rfl
        have cX11_w52 := KH_w52.out.nth 23 rfl
        have fX11_w52 := KH_w52.out.nthF 23 rfl
        go_wp2_with fail
        with_reducible refine (onew o.id o.cd o.ow _).mono ?_
        rintro e w53 ⟨rfl, hb_w53⟩
        have K_w53 : Kept w.heap.size w (w52.heap.size + 1) [(w.heap.size, 0, .int .i64 o.id), (w.heap.size, 1, .int .i64 o.cd), (w.heap.size, 2, .int .i64 o.ow), (w.heap.size, 3, .int .i64 0), (w.heap.size, 4, .int .i64 0), (w.heap.size, 5, .int .i64 o.da), (w.heap.size, 6, .int .i64 o.co), (w.heap.size, 7, .int .i64 o.pp), (w.heap.size, 8, .int .i64 o.pt), (w.heap.size, 9, .bool o.ta), (w.heap.size, 10, .bool o.si), (w.heap.size, 11, .bool o.dm), (w1.heap.size, 0, .int .i64 o.id), (w1.heap.size, 1, .int .i64 o.cd), (w1.heap.size, 2, .int .i64 o.ow), (w1.heap.size, 3, .int .i64 0), (w1.heap.size, 4, .int .i64 0), (w1.heap.size, 5, .int .i64 da), (w1.heap.size, 6, .int .i64 co), (w1.heap.size, 7, .int .i64 pp), (w1.heap.size, 8, .int .i64 pt), (w1.heap.size, 9, .bool o.ta), (w1.heap.size, 10, .bool o.si), (w1.heap.size, 11, .bool o.dm), (w52.heap.size, 0, .int .i64 o.id), (w52.heap.size, 1, .int .i64 o.cd), (w52.heap.size, 2, .int .i64 o.ow), (w52.heap.size, 3, .int .i64 0), (w52.heap.size, 4, .int .i64 0), (w52.heap.size, 5, .int .i64 0), (w52.heap.size, 6, .int .i64 co), (w52.heap.size, 7, .int .i64 0), (w52.heap.size, 8, .int .i64 0), (w52.heap.size, 9, .bool false), (w52.heap.size, 10, .bool false), (w52.heap.size, 11, .bool o.dm)] w53 := Kept.of hb_w53 (by go_grown) (by go_size) (by omega) (by simp [go_sem, lB_w52, lX_w52, cB0_w52, fB0_w52, cB1_w52, fB1_w52, cB2_w52, fB2_w52, cB3_w52, fB3_w52, cB4_w52, fB4_w52, cB5_w52, fB5_w52, cB6_w52, fB6_w52, cB7_w52, fB7_w52, cB8_w52, fB8_w52, cB9_w52, fB9_w52, cB10_w52, fB10_w52, cB11_w52, fB11_w52, cX0_w52, fX0_w52, cX1_w52, fX1_w52, cX2_w52, fX2_w52, cX3_w52, fX3_w52, cX4_w52, fX4_w52, cX5_w52, fX5_w52, cX6_w52, fX6_w52, cX7_w52, fX7_w52, cX8_w52, fX8_w52, cX9_w52, fX9_w52, cX10_w52, fX10_w52, cX11_w52, fX11_w52] <;> omega)
        clear hb_w53
        have KH_w53 := Lib.hid K_w53
        have hw_w53 := K_w53.below
        have hz_w53 := K_w53.size
        have lB_w53 : w.heap.size < w53.heap.size := by omega
        have lX_w53 : w1.heap.size < w53.heap.size := by omega
        have lR_w53 : w52.heap.size < w53.heap.size := by omega
        clear lB_w52 lX_w52 cB0_w52 fB0_w52 cB1_w52 fB1_w52 cB2_w52 fB2_w52 cB3_w52 fB3_w52 cB4_w52 fB4_w52 cB5_w52 fB5_w52 cB6_w52 fB6_w52 cB7_w52 fB7_w52 cB8_w52 fB8_w52 cB9_w52 fB9_w52 cB10_w52 fB10_w52 cB11_w52 fB11_w52 cX0_w52 fX0_w52 cX1_w52 fX1_w52 cX2_w52 fX2_w52 cX3_w52 fX3_w52 cX4_w52 fX4_w52 cX5_w52 fX5_w52 cX6_w52 fX6_w52 cX7_w52 fX7_w52 cX8_w52 fX8_w52 cX9_w52 fX9_w52 cX10_w52 fX10_w52 cX11_w52 fX11_w52
        clear K_w53
        have cB0_w53 := KH_w53.out.nth 0 rfl
        have fB0_w53 := KH_w53.out.nthF 0 rfl
        have cB1_w53 := KH_w53.out.nth 1 rfl
        have fB1_w53 := KH_w53.out.nthF 1 rfl
        have cB2_w53 := KH_w53.out.nth 2 rfl
        have fB2_w53 := KH_w53.out.nthF 2 rfl
        have cB3_w53 := KH_w53.out.nth 3 rfl
        have fB3_w53 := KH_w53.out.nthF 3 rfl
        have cB4_w53 := KH_w53.out.nth 4 rfl
        have fB4_w53 := KH_w53.out.nthF 4 rfl
        have cB5_w53 := KH_w53.out.nth 5 rfl
        have fB5_w53 := KH_w53.out.nthF 5 rfl
        have cB6_w53 := KH_w53.out.nth 6 rfl
        have fB6_w53 := KH_w53.out.nthF 6 rfl
        have cB7_w53 := KH_w53.out.nth 7 rfl
        have fB7_w53 := KH_w53.out.nthF 7 rfl
        have cB8_w53 := KH_w53.out.nth 8 rfl
        have fB8_w53 := KH_w53.out.nthF 8 rfl
        have cB9_w53 := KH_w53.out.nth 9 rfl
        have fB9_w53 := KH_w53.out.nthF 9 rfl
        have cB10_w53 := KH_w53.out.nth 10 rfl
        have fB10_w53 := KH_w53.out.nthF 10 rfl
        have cB11_w53 := KH_w53.out.nth 11 rfl
        have fB11_w53 := KH_w53.out.nthF 11 rfl
        have cX0_w53 := KH_w53.out.nth 12 rfl
        have fX0_w53 := KH_w53.out.nthF 12 rfl
        have cX1_w53 := KH_w53.out.nth 13 rfl
        have fX1_w53 := KH_w53.out.nthF 13 rfl
        have cX2_w53 := KH_w53.out.nth 14 rfl
        have fX2_w53 := KH_w53.out.nthF 14 rfl
        have cX3_w53 := KH_w53.out.nth 15 rfl
        have fX3_w53 := KH_w53.out.nthF 15 rfl
        have cX4_w53 := KH_w53.out.nth 16 rfl
        have fX4_w53 := KH_w53.out.nthF 16 rfl
        have cX5_w53 := KH_w53.out.nth 17 rfl
        have fX5_w53 := KH_w53.out.nthF 17 rfl
        have cX6_w53 := KH_w53.out.nth 18 rfl
        have fX6_w53 := KH_w53.out.nthF 18 rfl
        have cX7_w53 := KH_w53.out.nth 19 rfl
        have fX7_w53 := KH_w53.out.nthF 19 rfl
        have cX8_w53 := KH_w53.out.nth 20 rfl
        have fX8_w53 := KH_w53.out.nthF 20 rfl
        have cX9_w53 := KH_w53.out.nth 21 rfl
        have fX9_w53 := KH_w53.out.nthF 21 rfl
        have cX10_w53 := KH_w53.out.nth 22 rfl
        have fX10_w53 := KH_w53.out.nthF 22 rfl
        have cX11_w53 := KH_w53.out.nth 23 rfl
        have fX11_w53 := KH_w53.out.nthF 23 rfl
        have cR0_w53 := KH_w53.out.nth 24 rfl
        have fR0_w53 := KH_w53.out.nthF 24 rfl
        have cR1_w53 := KH_w53.out.nth 25 rfl
        have fR1_w53 := KH_w53.out.nthF 25 rfl
        have cR2_w53 := KH_w53.out.nth 26 rfl
        have fR2_w53 := KH_w53.out.nthF 26 rfl
        have cR3_w53 := KH_w53.out.nth 27 rfl
        have fR3_w53 := KH_w53.out.nthF 27 rfl
        have cR4_w53 := KH_w53.out.nth 28 rfl
        have fR4_w53 := KH_w53.out.nthF 28 rfl
        have cR5_w53 := KH_w53.out.nth 29 rfl
        have fR5_w53 := KH_w53.out.nthF 29 rfl
        have cR6_w53 := KH_w53.out.nth 30 rfl
        have fR6_w53 := KH_w53.out.nthF 30 rfl
        have cR7_w53 := KH_w53.out.nth 31 rfl
        have fR7_w53 := KH_w53.out.nthF 31 rfl
        have cR8_w53 := KH_w53.out.nth 32 rfl
        have fR8_w53 := KH_w53.out.nthF 32 rfl
        have cR9_w53 := KH_w53.out.nth 33 rfl
        have fR9_w53 := KH_w53.out.nthF 33 rfl
        have cR10_w53 := KH_w53.out.nth 34 rfl
        have fR10_w53 := KH_w53.out.nthF 34 rfl
        have cR11_w53 := KH_w53.out.nth 35 rfl
        have fR11_w53 := KH_w53.out.nthF 35 rfl
        go_wp2_with fail
        go_upto_region 25 with fail
        refine rg5_25 (w0 := w) (B := w.heap.size) (n := w53.heap.size + 1) (L := [(w1.heap.size, 0, .int .i64 o.id), (w1.heap.size, 1, .int .i64 o.cd), (w1.heap.size, 2, .int .i64 o.ow), (w1.heap.size, 3, .int .i64 0), (w1.heap.size, 4, .int .i64 0), (w1.heap.size, 5, .int .i64 da), (w1.heap.size, 6, .int .i64 co), (w1.heap.size, 7, .int .i64 pp), (w1.heap.size, 8, .int .i64 pt), (w1.heap.size, 9, .bool o.ta), (w1.heap.size, 10, .bool o.si), (w1.heap.size, 11, .bool o.dm)]) (E := fun _ => True) (F := Kept w.heap.size w (w53.heap.size + 1) [(w.heap.size, 0, .int .i64 o.id), (w.heap.size, 1, .int .i64 o.cd), (w.heap.size, 2, .int .i64 o.ow), (w.heap.size, 3, .int .i64 0), (w.heap.size, 4, .int .i64 0), (w.heap.size, 5, .int .i64 o.da), (w.heap.size, 6, .int .i64 o.co), (w.heap.size, 7, .int .i64 o.pp), (w.heap.size, 8, .int .i64 o.pt), (w.heap.size, 9, .bool o.ta), (w.heap.size, 10, .bool o.si), (w.heap.size, 11, .bool o.dm), (w1.heap.size, 0, .int .i64 o.id), (w1.heap.size, 1, .int .i64 o.cd), (w1.heap.size, 2, .int .i64 o.ow), (w1.heap.size, 3, .int .i64 0), (w1.heap.size, 4, .int .i64 0), (w1.heap.size, 5, .int .i64 da), (w1.heap.size, 6, .int .i64 co), (w1.heap.size, 7, .int .i64 pp), (w1.heap.size, 8, .int .i64 pt), (w1.heap.size, 9, .bool o.ta), (w1.heap.size, 10, .bool o.si), (w1.heap.size, 11, .bool o.dm), (w52.heap.size, 0, .int .i64 o.id), (w52.heap.size, 1, .int .i64 o.cd), (w52.heap.size, 2, .int .i64 o.ow), (w52.heap.size, 3, .int .i64 0), (w52.heap.size, 4, .int .i64 0), (w52.heap.size, 5, .int .i64 0), (w52.heap.size, 6, .int .i64 co), (w52.heap.size, 7, .int .i64 0), (w52.heap.size, 8, .int .i64 0), (w52.heap.size, 9, .bool false), (w52.heap.size, 10, .bool false), (w52.heap.size, 11, .bool o.dm), (w53.heap.size, 0, .int .i64 o.id), (w53.heap.size, 1, .int .i64 o.cd), (w53.heap.size, 2, .int .i64 o.ow), (w53.heap.size, 3, .int .i64 0), (w53.heap.size, 4, .int .i64 0), (w53.heap.size, 5, .int .i64 0), (w53.heap.size, 6, .int .i64 0), (w53.heap.size, 7, .int .i64 0), (w53.heap.size, 8, .int .i64 0), (w53.heap.size, 9, .bool false), (w53.heap.size, 10, .bool false), (w53.heap.size, 11, .bool false)]) (by kernel_rfl) (by kernel_rfl) ⟨by go_grown, by go_size, (by simp [go_sem, lB_w53, lX_w53, lR_w53, cB0_w53, fB0_w53, cB1_w53, fB1_w53, cB2_w53, fB2_w53, cB3_w53, fB3_w53, cB4_w53, fB4_w53, cB5_w53, fB5_w53, cB6_w53, fB6_w53, cB7_w53, fB7_w53, cB8_w53, fB8_w53, cB9_w53, fB9_w53, cB10_w53, fB10_w53, cB11_w53, fB11_w53, cX0_w53, fX0_w53, cX1_w53, fX1_w53, cX2_w53, fX2_w53, cX3_w53, fX3_w53, cX4_w53, fX4_w53, cX5_w53, fX5_w53, cX6_w53, fX6_w53, cX7_w53, fX7_w53, cX8_w53, fX8_w53, cX9_w53, fX9_w53, cX10_w53, fX10_w53, cX11_w53, fX11_w53, cR0_w53, fR0_w53, cR1_w53, fR1_w53, cR2_w53, fR2_w53, cR3_w53, fR3_w53, cR4_w53, fR4_w53, cR5_w53, fR5_w53, cR6_w53, fR6_w53, cR7_w53, fR7_w53, cR8_w53, fR8_w53, cR9_w53, fR9_w53, cR10_w53, fR10_w53, cR11_w53, fR11_w53] <;> omega)⟩ trivial (fun _ _ _ _ => trivial) ⟨by go_grown, by go_size, (by simp [go_sem, lB_w53, lX_w53, lR_w53, cB0_w53, fB0_w53, cB1_w53, fB1_w53, cB2_w53, fB2_w53, cB3_w53, fB3_w53, cB4_w53, fB4_w53, cB5_w53, fB5_w53, cB6_w53, fB6_w53, cB7_w53, fB7_w53, cB8_w53, fB8_w53, cB9_w53, fB9_w53, cB10_w53, fB10_w53, cB11_w53, fB11_w53, cX0_w53, fX0_w53, cX1_w53, fX1_w53, cX2_w53, fX2_w53, cX3_w53, fX3_w53, cX4_w53, fX4_w53, cX5_w53, fX5_w53, cX6_w53, fX6_w53, cX7_w53, fX7_w53, cX8_w53, fX8_w53, cX9_w53, fX9_w53, cX10_w53, fX10_w53, cX11_w53, fX11_w53, cR0_w53, fR0_w53, cR1_w53, fR1_w53, cR2_w53, fR2_w53, cR3_w53, fR3_w53, cR4_w53, fR4_w53, cR5_w53, fR5_w53, cR6_w53, fR6_w53, cR7_w53, fR7_w53, cR8_w53, fR8_w53, cR9_w53, fR9_w53, cR10_w53, fR10_w53, cR11_w53, fR11_w53] <;> omega)⟩ (fun _ _ h hb => Kept.step h (by omega) hb) (fun w54 K_w54 E_w54 F_w54 => ?_)
        have _ne : Nonempty (KX (w.heap.size) w (w53.heap.size + 1) [(w1.heap.size, 0, .int .i64 o.id), (w1.heap.size, 1, .int .i64 o.cd), (w1.heap.size, 2, .int .i64 o.ow), (w1.heap.size, 3, .int .i64 0), (w1.heap.size, 4, .int .i64 0), (w1.heap.size, 5, .int .i64 da), (w1.heap.size, 6, .int .i64 co), (w1.heap.size, 7, .int .i64 pp), (w1.heap.size, 8, .int .i64 pt), (w1.heap.size, 9, .bool o.ta), (w1.heap.size, 10, .bool o.si), (w1.heap.size, 11, .bool o.dm)] (fun _ => True)) := ⟨⟨_, K_w54, E_w54⟩⟩
        repeat (go_big_quiet_step (fail))
        refine wpQuiet_nil ?_
        have rX0 := rcx _ne 0 rfl
        have rX1 := rcx _ne 1 rfl
        have rX2 := rcx _ne 2 rfl
        have rX3 := rcx _ne 3 rfl
        have rX4 := rcx _ne 4 rfl
        have rX5 := rcx _ne 5 rfl
        have rX6 := rcx _ne 6 rfl
        have rX7 := rcx _ne 7 rfl
        have rX8 := rcx _ne 8 rfl
        have rX9 := rcx _ne 9 rfl
        have rX10 := rcx _ne 10 rfl
        have rX11 := rcx _ne 11 rfl
        repeat (go_big_quiet_step (fail))
        refine wpQuiet_nil ?_
        clear rX0 rX1 rX2 rX3 rX4 rX5 rX6 rX7 rX8 rX9 rX10 rX11
        repeat (go_big_quiet_step (fail))
        refine wpQuiet_nil ?_
        have rX0 := rcx _ne 0 rfl
        have rX1 := rcx _ne 1 rfl
        have rX2 := rcx _ne 2 rfl
        have rX3 := rcx _ne 3 rfl
        have rX4 := rcx _ne 4 rfl
        have rX5 := rcx _ne 5 rfl
        have rX6 := rcx _ne 6 rfl
        have rX7 := rcx _ne 7 rfl
        have rX8 := rcx _ne 8 rfl
        have rX9 := rcx _ne 9 rfl
        have rX10 := rcx _ne 10 rfl
        have rX11 := rcx _ne 11 rfl
        repeat (go_big_quiet_step (fail))
        refine wpQuiet_nil ?_
        clear rX0 rX1 rX2 rX3 rX4 rX5 rX6 rX7 rX8 rX9 rX10 rX11
        have KH_w54 := Lib.hid K_w54
        have hw_w54 := K_w54.below
        have hz_w54 := K_w54.size
        have lX_w54 : w1.heap.size < w54.heap.size := by omega
        clear lB_w53 lX_w53 lR_w53 cB0_w53 fB0_w53 cB1_w53 fB1_w53 cB2_w53 fB2_w53 cB3_w53 fB3_w53 cB4_w53 fB4_w53 cB5_w53 fB5_w53 cB6_w53 fB6_w53 cB7_w53 fB7_w53 cB8_w53 fB8_w53 cB9_w53 fB9_w53 cB10_w53 fB10_w53 cB11_w53 fB11_w53 cX0_w53 fX0_w53 cX1_w53 fX1_w53 cX2_w53 fX2_w53 cX3_w53 fX3_w53 cX4_w53 fX4_w53 cX5_w53 fX5_w53 cX6_w53 fX6_w53 cX7_w53 fX7_w53 cX8_w53 fX8_w53 cX9_w53 fX9_w53 cX10_w53 fX10_w53 cX11_w53 fX11_w53 cR0_w53 fR0_w53 cR1_w53 fR1_w53 cR2_w53 fR2_w53 cR3_w53 fR3_w53 cR4_w53 fR4_w53 cR5_w53 fR5_w53 cR6_w53 fR6_w53 cR7_w53 fR7_w53 cR8_w53 fR8_w53 cR9_w53 fR9_w53 cR10_w53 fR10_w53 cR11_w53 fR11_w53
        clear K_w54
        have HF := Lib.hid (F_w54)
        clear E_w54 F_w54
        refine ⟨fun K hK0 => ?_, trivial⟩
        have hK := Lib.hid hK0
        clear hK0
        have lB_w54 : w.heap.size < w54.heap.size := by have := HF.out.size; omega
        have cB0_w54 := HF.out.nth 0 rfl
        have fB0_w54 := HF.out.nthF 0 rfl
        have cB1_w54 := HF.out.nth 1 rfl
        have fB1_w54 := HF.out.nthF 1 rfl
        have cB2_w54 := HF.out.nth 2 rfl
        have fB2_w54 := HF.out.nthF 2 rfl
        have cB3_w54 := HF.out.nth 3 rfl
        have fB3_w54 := HF.out.nthF 3 rfl
        have cB4_w54 := HF.out.nth 4 rfl
        have fB4_w54 := HF.out.nthF 4 rfl
        have cB5_w54 := HF.out.nth 5 rfl
        have fB5_w54 := HF.out.nthF 5 rfl
        have cB6_w54 := HF.out.nth 6 rfl
        have fB6_w54 := HF.out.nthF 6 rfl
        have cB7_w54 := HF.out.nth 7 rfl
        have fB7_w54 := HF.out.nthF 7 rfl
        have cB8_w54 := HF.out.nth 8 rfl
        have fB8_w54 := HF.out.nthF 8 rfl
        have cB9_w54 := HF.out.nth 9 rfl
        have fB9_w54 := HF.out.nthF 9 rfl
        have cB10_w54 := HF.out.nth 10 rfl
        have fB10_w54 := HF.out.nthF 10 rfl
        have cB11_w54 := HF.out.nth 11 rfl
        have fB11_w54 := HF.out.nthF 11 rfl
        have cX0_w54 := HF.out.nth 12 rfl
        have fX0_w54 := HF.out.nthF 12 rfl
        have cX1_w54 := HF.out.nth 13 rfl
        have fX1_w54 := HF.out.nthF 13 rfl
        have cX2_w54 := HF.out.nth 14 rfl
        have fX2_w54 := HF.out.nthF 14 rfl
        have cX3_w54 := HF.out.nth 15 rfl
        have fX3_w54 := HF.out.nthF 15 rfl
        have cX4_w54 := HF.out.nth 16 rfl
        have fX4_w54 := HF.out.nthF 16 rfl
        have cX5_w54 := HF.out.nth 17 rfl
        have fX5_w54 := HF.out.nthF 17 rfl
        have cX6_w54 := HF.out.nth 18 rfl
        have fX6_w54 := HF.out.nthF 18 rfl
        have cX7_w54 := HF.out.nth 19 rfl
        have fX7_w54 := HF.out.nthF 19 rfl
        have cX8_w54 := HF.out.nth 20 rfl
        have fX8_w54 := HF.out.nthF 20 rfl
        have cX9_w54 := HF.out.nth 21 rfl
        have fX9_w54 := HF.out.nthF 21 rfl
        have cX10_w54 := HF.out.nth 22 rfl
        have fX10_w54 := HF.out.nthF 22 rfl
        have cX11_w54 := HF.out.nth 23 rfl
        have fX11_w54 := HF.out.nthF 23 rfl
        have lR_w54 : w52.heap.size < w54.heap.size := by have := HF.out.size; omega
        have cR0_w54 := HF.out.nth 24 rfl
        have fR0_w54 := HF.out.nthF 24 rfl
        have cR1_w54 := HF.out.nth 25 rfl
        have fR1_w54 := HF.out.nthF 25 rfl
        have cR2_w54 := HF.out.nth 26 rfl
        have fR2_w54 := HF.out.nthF 26 rfl
        have cR3_w54 := HF.out.nth 27 rfl
        have fR3_w54 := HF.out.nthF 27 rfl
        have cR4_w54 := HF.out.nth 28 rfl
        have fR4_w54 := HF.out.nthF 28 rfl
        have cR5_w54 := HF.out.nth 29 rfl
        have fR5_w54 := HF.out.nthF 29 rfl
        have cR6_w54 := HF.out.nth 30 rfl
        have fR6_w54 := HF.out.nthF 30 rfl
        have cR7_w54 := HF.out.nth 31 rfl
        have fR7_w54 := HF.out.nthF 31 rfl
        have cR8_w54 := HF.out.nth 32 rfl
        have fR8_w54 := HF.out.nthF 32 rfl
        have cR9_w54 := HF.out.nth 33 rfl
        have fR9_w54 := HF.out.nthF 33 rfl
        have cR10_w54 := HF.out.nth 34 rfl
        have fR10_w54 := HF.out.nthF 34 rfl
        have cR11_w54 := HF.out.nth 35 rfl
        have fR11_w54 := HF.out.nthF 35 rfl
        have lC_w54 : w53.heap.size < w54.heap.size := by have := HF.out.size; omega
        have cC0_w54 := HF.out.nth 36 rfl
        have fC0_w54 := HF.out.nthF 36 rfl
        have cC1_w54 := HF.out.nth 37 rfl
        have fC1_w54 := HF.out.nthF 37 rfl
        have cC2_w54 := HF.out.nth 38 rfl
        have fC2_w54 := HF.out.nthF 38 rfl
        have cC3_w54 := HF.out.nth 39 rfl
        have fC3_w54 := HF.out.nthF 39 rfl
        have cC4_w54 := HF.out.nth 40 rfl
        have fC4_w54 := HF.out.nthF 40 rfl
        have cC5_w54 := HF.out.nth 41 rfl
        have fC5_w54 := HF.out.nthF 41 rfl
        have cC6_w54 := HF.out.nth 42 rfl
        have fC6_w54 := HF.out.nthF 42 rfl
        have cC7_w54 := HF.out.nth 43 rfl
        have fC7_w54 := HF.out.nthF 43 rfl
        have cC8_w54 := HF.out.nth 44 rfl
        have fC8_w54 := HF.out.nthF 44 rfl
        have cC9_w54 := HF.out.nth 45 rfl
        have fC9_w54 := HF.out.nthF 45 rfl
        have cC10_w54 := HF.out.nth 46 rfl
        have fC10_w54 := HF.out.nthF 46 rfl
        have cC11_w54 := HF.out.nth 47 rfl
        have fC11_w54 := HF.out.nthF 47 rfl
        go_wp2_with fail
        first | (refine ⟨rfl, ⟨⟨_, ⟨hw_w54.setCell (by show w.heap.size ≤ w53.heap.size; omega) _, by go_size, (by simp [go_sem, lX_w54, cX0_w54, fX0_w54, cX1_w54, fX1_w54, cX2_w54, fX2_w54, cX3_w54, fX3_w54, cX4_w54, fX4_w54, cX5_w54, fX5_w54, cX6_w54, fX6_w54, cX7_w54, fX7_w54, cX8_w54, fX8_w54, cX9_w54, fX9_w54, cX10_w54, fX10_w54, cX11_w54, fX11_w54] <;> omega)⟩, trivial⟩, rfl⟩, hK.out _ _ ?_⟩; clear hK K) | (refine ⟨⟨⟨_, ⟨hw_w54.setCell (by show w.heap.size ≤ w53.heap.size; omega) _, by go_size, (by simp [go_sem, lX_w54, cX0_w54, fX0_w54, cX1_w54, fX1_w54, cX2_w54, fX2_w54, cX3_w54, fX3_w54, cX4_w54, fX4_w54, cX5_w54, fX5_w54, cX6_w54, fX6_w54, cX7_w54, fX7_w54, cX8_w54, fX8_w54, cX9_w54, fX9_w54, cX10_w54, fX10_w54, cX11_w54, fX11_w54] <;> omega)⟩, trivial⟩, rfl⟩, hK.out _ _ ?_⟩; clear hK K)
        repeat (go_big_quiet_step (fail))
        refine wpQuiet_nil ?_
        refine ⟨fun K hK0 => ?_, trivial⟩
        have hK := Lib.hid hK0
        clear hK0
        go_wp2_with fail
        first | (refine ⟨rfl, hK.out _ _ ?_⟩; clear hK K) | (refine hK.out _ _ ?_; clear hK K)
        clear _ne
        go_wp2_with fail
        with_reducible refine (known _).mono ?_
        rintro e w55 ⟨rfl, hb_w55⟩
        have K_w55 : Kept w.heap.size w (w53.heap.size + 1) [(w.heap.size, 0, .int .i64 o.id), (w.heap.size, 1, .int .i64 o.cd), (w.heap.size, 2, .int .i64 o.ow), (w.heap.size, 3, .int .i64 0), (w.heap.size, 4, .int .i64 0), (w.heap.size, 5, .int .i64 o.da), (w.heap.size, 6, .int .i64 o.co), (w.heap.size, 7, .int .i64 o.pp), (w.heap.size, 8, .int .i64 o.pt), (w.heap.size, 9, .bool o.ta), (w.heap.size, 10, .bool o.si), (w.heap.size, 11, .bool o.dm), (w1.heap.size, 0, .int .i64 o.id), (w1.heap.size, 1, .int .i64 o.cd), (w1.heap.size, 2, .int .i64 o.ow), (w1.heap.size, 3, .int .i64 0), (w1.heap.size, 4, .int .i64 0), (w1.heap.size, 5, .int .i64 da), (w1.heap.size, 6, .int .i64 co), (w1.heap.size, 7, .int .i64 pp), (w1.heap.size, 8, .int .i64 pt), (w1.heap.size, 9, .bool o.ta), (w1.heap.size, 10, .bool o.si), (w1.heap.size, 11, .bool o.dm), (w52.heap.size, 0, .int .i64 o.id), (w52.heap.size, 1, .int .i64 o.cd), (w52.heap.size, 2, .int .i64 o.ow), (w52.heap.size, 3, .int .i64 0), (w52.heap.size, 4, .int .i64 0), (w52.heap.size, 5, .int .i64 0), (w52.heap.size, 6, .int .i64 co), (w52.heap.size, 7, .int .i64 0), (w52.heap.size, 8, .int .i64 0), (w52.heap.size, 9, .bool false), (w52.heap.size, 10, .bool false), (w52.heap.size, 11, .bool o.dm), (w53.heap.size, 0, .int .i64 o.id), (w53.heap.size, 1, .int .i64 o.cd), (w53.heap.size, 2, .int .i64 o.ow), (w53.heap.size, 3, .int .i64 0), (w53.heap.size, 4, .int .i64 0), (w53.heap.size, 5, .int .i64 0), (w53.heap.size, 6, .int .i64 co), (w53.heap.size, 7, .int .i64 0), (w53.heap.size, 8, .int .i64 0), (w53.heap.size, 9, .bool false), (w53.heap.size, 10, .bool false), (w53.heap.size, 11, .bool o.dm)] w55 := Kept.of hb_w55 (by go_grown) (by go_size) (by omega) (by simp [go_sem, lX_w54, lB_w54, cB0_w54, fB0_w54, cB1_w54, fB1_w54, cB2_w54, fB2_w54, cB3_w54, fB3_w54, cB4_w54, fB4_w54, cB5_w54, fB5_w54, cB6_w54, fB6_w54, cB7_w54, fB7_w54, cB8_w54, fB8_w54, cB9_w54, fB9_w54, cB10_w54, fB10_w54, cB11_w54, fB11_w54, cX0_w54, fX0_w54, cX1_w54, fX1_w54, cX2_w54, fX2_w54, cX3_w54, fX3_w54, cX4_w54, fX4_w54, cX5_w54, fX5_w54, cX6_w54, fX6_w54, cX7_w54, fX7_w54, cX8_w54, fX8_w54, cX9_w54, fX9_w54, cX10_w54, fX10_w54, cX11_w54, fX11_w54, lR_w54, cR0_w54, fR0_w54, cR1_w54, fR1_w54, cR2_w54, fR2_w54, cR3_w54, fR3_w54, cR4_w54, fR4_w54, cR5_w54, fR5_w54, cR6_w54, fR6_w54, cR7_w54, fR7_w54, cR8_w54, fR8_w54, cR9_w54, fR9_w54, cR10_w54, fR10_w54, cR11_w54, fR11_w54, lC_w54, cC0_w54, fC0_w54, cC1_w54, fC1_w54, cC2_w54, fC2_w54, cC3_w54, fC3_w54, cC4_w54, fC4_w54, cC5_w54, fC5_w54, cC6_w54, fC6_w54, cC7_w54, fC7_w54, cC8_w54, fC8_w54, cC9_w54, fC9_w54, cC10_w54, fC10_w54, cC11_w54, fC11_w54] <;> omega)
        clear hb_w55
        have KH_w55 := Lib.hid K_w55
        have hw_w55 := K_w55.below
        have hz_w55 := K_w55.size
        have lB_w55 : w.heap.size < w55.heap.size := by omega
        have lX_w55 : w1.heap.size < w55.heap.size := by omega
        have lR_w55 : w52.heap.size < w55.heap.size := by omega
        have lC_w55 : w53.heap.size < w55.heap.size := by omega
        clear lX_w54 lB_w54 cB0_w54 fB0_w54 cB1_w54 fB1_w54 cB2_w54 fB2_w54 cB3_w54 fB3_w54 cB4_w54 fB4_w54 cB5_w54 fB5_w54 cB6_w54 fB6_w54 cB7_w54 fB7_w54 cB8_w54 fB8_w54 cB9_w54 fB9_w54 cB10_w54 fB10_w54 cB11_w54 fB11_w54 cX0_w54 fX0_w54 cX1_w54 fX1_w54 cX2_w54 fX2_w54 cX3_w54 fX3_w54 cX4_w54 fX4_w54 cX5_w54 fX5_w54 cX6_w54 fX6_w54 cX7_w54 fX7_w54 cX8_w54 fX8_w54 cX9_w54 fX9_w54 cX10_w54 fX10_w54 cX11_w54 fX11_w54 lR_w54 cR0_w54 fR0_w54 cR1_w54 fR1_w54 cR2_w54 fR2_w54 cR3_w54 fR3_w54 cR4_w54 fR4_w54 cR5_w54 fR5_w54 cR6_w54 fR6_w54 cR7_w54 fR7_w54 cR8_w54 fR8_w54 cR9_w54 fR9_w54 cR10_w54 fR10_w54 cR11_w54 fR11_w54 lC_w54 cC0_w54 fC0_w54 cC1_w54 fC1_w54 cC2_w54 fC2_w54 cC3_w54 fC3_w54 cC4_w54 fC4_w54 cC5_w54 fC5_w54 cC6_w54 fC6_w54 cC7_w54 fC7_w54 cC8_w54 fC8_w54 cC9_w54 fC9_w54 cC10_w54 fC10_w54 cC11_w54 fC11_w54
        clear K_w55
        go_wp2_with fail
        go_returns
        exact ⟨rfl, by go_grown⟩
end Go.Proofs.Ytjedflfgafhlkaa
