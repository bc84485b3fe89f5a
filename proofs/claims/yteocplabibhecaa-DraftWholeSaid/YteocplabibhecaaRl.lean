/- Which packs are right, by the law. -/
import Derived.Test.YteocplabibhecaaRr
namespace Go.Proofs.Yteocplabibhecaa
open Go.RowKit Plain
set_option linter.unusedVariables false
set_option linter.unusedSimpArgs false

theorem rg13_14 {P : Program} {B n : Nat} {w0 : World} {L : List (Nat × Nat × Value)} {E F : World → Prop} {id : Nat} {Q : Exit → Act → World → Prop} {a : Act} {w : World} {o0 o1 o2 o3 o4 o5 o6 o7 o8 o9 o10 o11 o12 o13 o14 : Oper} (hm : P.follows .mixedOrders = true)
    (hB : (Region.noSelect [o0, o1, o2, o3, o4, o5, o6, o7, o8, o9, o10, o11, o12, o13, o14].toArray && Scr.ok .any [o0, o1, o2, o3, o4, o5, o6, o7, o8, o9, o10, o11, o12, o13, o14].toArray [3, 6, 10, 12] [0, 1, 2, 4, 5, 7, 8, 9, 11, 13, 14] (.free 0 (.free 1 (.free 2 (.free 4 (.free 8 (.free 9 (.read 3 (.free 5 (.read 6 (.free 7 (.read 10 (.free 11 (.read 12 (.free 13 (.free 14 .done))))))))))))))) true true [o0, o1, o2, o3, o4, o5, o6, o7, o8, o9, o10, o11, o12, o13, o14].toArray.size (Array.replicate [o0, o1, o2, o3, o4, o5, o6, o7, o8, o9, o10, o11, o12, o13, o14].toArray.size false)) = true)
    (k : Kept B w0 n L w) (he : E w) (hE : ∀ W W', E W → Below W.heap.size W W' → E W') (hf : F w) (hF : ∀ W W', F W → Below W.heap.size W W' → F W')
    (h : ∀ wk, Kept B w0 n L wk → E wk → F wk → wpQuiet P [o0, o1, o2, o3, o4, o5, o6, o7, o8, o9, o10, o11, o12, o13, o14].toArray (fun _ => True) (fun a0 => wpQuiet P [o0, o1, o2, o3, o4, o5, o6, o7, o8, o9, o10, o11, o12, o13, o14].toArray (fun w' => ∃ s : KX B w0 n L E, w' = s.val) (fun a1 => wpQuiet P [o0, o1, o2, o3, o4, o5, o6, o7, o8, o9, o10, o11, o12, o13, o14].toArray (fun _ => True) (fun a2 => wpQuiet P [o0, o1, o2, o3, o4, o5, o6, o7, o8, o9, o10, o11, o12, o13, o14].toArray (fun w' => ∃ s : KX B w0 n L E, w' = s.val) (fun a3 => wpQuiet P [o0, o1, o2, o3, o4, o5, o6, o7, o8, o9, o10, o11, o12, o13, o14].toArray (fun _ => True) (fun a4 => wpQuiet P [o0, o1, o2, o3, o4, o5, o6, o7, o8, o9, o10, o11, o12, o13, o14].toArray (fun w' => ∃ s : KX B w0 n L E, w' = s.val) (fun a5 => wpQuiet P [o0, o1, o2, o3, o4, o5, o6, o7, o8, o9, o10, o11, o12, o13, o14].toArray (fun _ => True) (fun a6 => wpQuiet P [o0, o1, o2, o3, o4, o5, o6, o7, o8, o9, o10, o11, o12, o13, o14].toArray (fun w' => ∃ s : KX B w0 n L E, w' = s.val) (fun a7 => wpQuiet P [o0, o1, o2, o3, o4, o5, o6, o7, o8, o9, o10, o11, o12, o13, o14].toArray (fun _ => True) (fun a8 => Q .normal a8 wk) [o13, o14] a7) [o12] a6) [o11] a5) [o10] a4) [o7] a3) [o6] a2) [o5] a1) [o3] a0) [o0, o1, o2, o4, o8, o9] a) : (Code.region id [o0, o1, o2, o3, o4, o5, o6, o7, o8, o9, o10, o11, o12, o13, o14].toArray true).wp P Q a w := by
  have e1 : E w.drew := hE _ _ he ((Below.refl _ _).drew)
  have g := h _ k.drew e1 (hF _ _ hf ((Below.refl _ _).drew))
  exact wp_region_scr (U := (fun w' => ∃ s : KX B w0 n L E, w' = s.val)) (ops := [o0, o1, o2, o3, o4, o5, o6, o7, o8, o9, o10, o11, o12, o13, o14].toArray) (.free 0 (.free 1 (.free 2 (.free 4 (.free 8 (.free 9 (.read 3 (.free 5 (.read 6 (.free 7 (.read 10 (.free 11 (.read 12 (.free 13 (.free 14 .done))))))))))))))) [3, 6, 10, 12] [0, 1, 2, 4, 5, 7, 8, 9, 11, 13, 14] hm hB ⟨⟨_, k.drew, e1⟩, rfl⟩ (Scr.of_free rfl g (fun _ g0 => Scr.of_free rfl g0 (fun _ g1 => Scr.of_free rfl g1 (fun _ g2 => Scr.of_free rfl g2 (fun _ g3 => Scr.of_free rfl g3 (fun _ g4 => Scr.of_free rfl g4 (fun _ g5 => Scr.of_read rfl g5 (fun _ g6 => Scr.of_free rfl g6 (fun _ g7 => Scr.of_read rfl g7 (fun _ g8 => Scr.of_free rfl g8 (fun _ g9 => Scr.of_read rfl g9 (fun _ g10 => Scr.of_free rfl g10 (fun _ g11 => Scr.of_read rfl g11 (fun _ g12 => Scr.of_free rfl g12 (fun _ g13 => Scr.of_free rfl g13 (fun _ g14 => g14))))))))))))))))
set_option maxRecDepth 100000 in
set_option maxHeartbeats 4000000 in
theorem right13 (v : Value) (ls : List (List (List Int))) (w : World) (hs : Rw3 w v ls) : Calls Try.prog 13 #[v] w fun e w' => e = .returned (.bool (right ls)) ∧ Below w.heap.size w w' := by
  obtain ⟨m1, a1, c1, rfl, f1⟩ := hs.at
  have F1 := Lib.hid f1
  clear hs f1
  by_cases h1 : ls.length < 1
  · have ef : Hid (right ls = false) := Lib.hid (right_len (.inl h1))
    go_enter Try.func13, Try.ntmps13
    go_wp2_with fail
    go_returns
    exact ⟨ret_bool ef.out.symm, Below.refl _ _⟩
  by_cases h4 : 4 < ls.length
  · have ef : Hid (right ls = false) := Lib.hid (right_len (.inr h4))
    go_enter Try.func13, Try.ntmps13
    go_wp2_with fail
    go_returns
    exact ⟨ret_bool ef.out.symm, Below.refl _ _⟩
  obtain ⟨b1, o1, rfl, hb1, hc1⟩ := F1.out (by omega)
  have HC1 := Lib.hid hc1
  obtain ⟨r0, hr0⟩ : ∃ r, ls[0]? = some r := ⟨ls[0]'(by omega), List.getElem?_eq_getElem (by omega)⟩
  have HR0 := Lib.hid hr0
  obtain ⟨a2, c2, e1, hr2⟩ := hc1 0 r0 hr0
  rw [Nat.add_zero] at e1
  obtain ⟨m2, f2⟩ := hr2.fm
  have i0 : (0 : Int) < (ls.length : Int) := by omega
  clear hr0 hc1 F1 hr2
  by_cases h2 : r0.length < 2
  · have ef : Hid (right ls = false) := Lib.hid (right_n HR0.out (.inl h2))
    clear f2
    go_enter Try.func13, Try.ntmps13
    go_wp2_with fail
    go_returns
    exact ⟨ret_bool ef.out.symm, Below.refl _ _⟩
  by_cases h8 : 8 < r0.length
  · have ef : Hid (right ls = false) := Lib.hid (right_n HR0.out (.inr h8))
    clear f2
    go_enter Try.func13, Try.ntmps13
    go_wp2_with fail
    go_returns
    exact ⟨ret_bool ef.out.symm, Below.refl _ _⟩
  obtain ⟨b2, o2, rfl, hb2, hc2⟩ := f2 (by omega)
  obtain ⟨p0, hp0⟩ : ∃ r, r0[0]? = some r := ⟨r0[0]'(by omega), List.getElem?_eq_getElem (by omega)⟩
  obtain ⟨a3, c3, e2, hp2⟩ := hc2 0 p0 hp0
  rw [Nat.add_zero] at e2
  have m3 := hp2.fm ic1 |>.1
  have HREQ := Lib.hid (right_eq (by omega) HR0.out hp0 (by omega) (by omega))
  have j0 : (0 : Int) < (r0.length : Int) := by omega
  obtain ⟨n, hn⟩ : ∃ n, r0.length = n := ⟨_, rfl⟩
  obtain ⟨c, hc⟩ : ∃ n, p0.length = n := ⟨_, rfl⟩
  rw [hn] at HREQ e1 h2 h8 j0
  rw [hc] at HREQ e2 m3
  have HN0 := Lib.hid hn
  clear hc2 hp0 hp2 f2 hn hc m2
  by_cases c1' : c < 1
  · have ef : Hid (right ls = false) := Lib.hid (by rw [HREQ.out, decide_eq_false (show ¬ 1 ≤ c by omega), Bool.false_and, Bool.and_false])
    go_enter Try.func13, Try.ntmps13
    go_wp2_with fail
    go_returns
    exact ⟨ret_bool ef.out.symm, Below.refl _ _⟩
  by_cases c2' : 15 < c
  · have ef : Hid (right ls = false) := Lib.hid (by rw [HREQ.out, decide_eq_false (show ¬ c ≤ 15 by omega), Bool.and_false, Bool.and_false])
    go_enter Try.func13, Try.ntmps13
    go_wp2_with fail
    go_returns
    exact ⟨ret_bool ef.out.symm, Below.refl _ _⟩
  have E1 := Lib.hid e1
  have E2 := Lib.hid e2
  go_enter Try.func13, Try.ntmps13
  go_wp2_with fail
  clear e1 e2
  go_loopw [4] (fun i wr => AllRel w (okR n c) ls i wr) (fun i _ => ls.length - (intOf i).toNat)
  case atStart => exact ⟨0, Nat.zero_le _, rfl, rfl, Below.refl _ _⟩
  case round =>
    obtain ⟨i, hi, rfl, hti, hb⟩ := hrel
    have HTI := Lib.hid hti
    have hzz := hb.size
    clear hti
    by_cases hil : i < ls.length
    · obtain ⟨r, hr⟩ : ∃ r, ls[i]? = some r := ⟨ls[i], List.getElem?_eq_getElem hil⟩
      have HR := Lib.hid hr
      obtain ⟨a4, c4, e1, hr2⟩ := HC1.out i r hr
      obtain ⟨m4, f2⟩ := hr2.fm
      have F2 := Lib.hid f2
      have e1 := (hb.cell (p := ⟨b1, o1 + i, none⟩) hb1).trans e1
      have i1 : (0 : Int) ≤ (i : Int) := by omega
      have i2 : (i : Int) < (ls.length : Int) := by omega
      clear hr hr2 f2
      by_cases hrn : r.length = n
      · rw [hrn] at e1
        have HRN := Lib.hid hrn
        clear hrn
        obtain ⟨wo, rfl⟩ : ∃ wo, wo = wr := ⟨_, rfl⟩
        have HB := Lib.hid hb
        have q0 : ((n : Int) != (n : Int)) = false := by simp
        go_wp2_with fail
        go_loopw [5] (fun k wr => AllRel wo (okP c) r k wr) (fun k _ => n - (intOf k).toNat)
        case atStart => exact ⟨0, Nat.zero_le _, rfl, rfl, Below.refl _ _⟩
        case round =>
          clear hb q0
          obtain ⟨k, hk, rfl, htk, hb2⟩ := hrel
          rw [HRN.out] at hk
          have HTK := Lib.hid htk
          have hzz2 := hb2.size
          clear htk
          by_cases hkl : k < n
          · obtain ⟨b5, o5, rfl, hb5, hc5⟩ := F2.out (by rw [HRN.out]; omega)
            obtain ⟨p, hp⟩ : ∃ p, r[k]? = some p := ⟨r[k]'(by rw [HRN.out]; omega), List.getElem?_eq_getElem _⟩
            have HP := Lib.hid hp
            obtain ⟨a6, c6, e3, hp2⟩ := hc5 k p hp
            have e3 := (hb2.cell (p := ⟨b5, o5 + k, none⟩) (show b5 < wo.heap.size by omega)).trans ((HB.out.cell (p := ⟨b5, o5 + k, none⟩) hb5).trans e3)
            have e1 := (hb2.cell (p := ⟨b1, o1 + i, none⟩) (show b1 < wo.heap.size by omega)).trans e1
            have e4 := (hb2.cell (p := ⟨b1, o1, none⟩) (show b1 < wo.heap.size by omega)).trans ((HB.out.cell (p := ⟨b1, o1, none⟩) hb1).trans E1.out)
            have e5 := (hb2.cell (p := ⟨b2, o2, none⟩) (show b2 < wo.heap.size by omega)).trans ((HB.out.cell (p := ⟨b2, o2, none⟩) (by assumption)).trans E2.out)
            have HRW0 := Lib.hid ((hp2.below HB.out).below hb2)
            have m6 := (hp2.fm ic1).1
            have j1 : (0 : Int) ≤ (k : Int) := by omega
            have j2 : (k : Int) < (n : Int) := by omega
            clear hp hc5 hp2
            by_cases hpc : p.length = c
            · have HPC := Lib.hid hpc
              have q2 : ((p.length : Int) != (c : Int)) = false := by simp [hpc]
              clear hpc
              go_wp2_with fail
              refine rg13_14 (w0 := wr) (B := wr.heap.size) (n := wr.heap.size) (L := []) (E := fun _ => True) (F := fun _ => True) (by kernel_rfl) (by kernel_rfl) ⟨by go_grown, by go_size, (by simp [go_sem] <;> omega)⟩ trivial (fun _ _ _ _ => trivial) trivial (fun _ _ _ _ => trivial) (fun w21 K_w21 E_w21 F_w21 => ?_)
              have _ne : Nonempty (KX (wr.heap.size) wr (wr.heap.size) [] (fun _ => True)) := ⟨⟨_, K_w21, E_w21⟩⟩
              repeat (go_big_quiet_step (fail))
              refine wpQuiet_nil ?_
              have ra : ∀ s : KX (wr.heap.size) wr (wr.heap.size) [] (fun _ => True), s.val.cell? ⟨b1, o1 + i, none⟩ = some (.slice (some ⟨b5, o5, none⟩) n c4) := fun s => (s.kept.below.cell (p := ⟨b1, o1 + i, none⟩) (show b1 < wr.heap.size by omega)).trans e1
              have rb : ∀ s : KX (wr.heap.size) wr (wr.heap.size) [] (fun _ => True), s.val.cell? ⟨b5, o5 + k, none⟩ = some (.slice a6 p.length c6) := fun s => (s.kept.below.cell (p := ⟨b5, o5 + k, none⟩) (show b5 < wr.heap.size by omega)).trans e3
              have rc : ∀ s : KX (wr.heap.size) wr (wr.heap.size) [] (fun _ => True), s.val.cell? ⟨b1, o1, none⟩ = some (.slice (some ⟨b2, o2, none⟩) n c2) := fun s => (s.kept.below.cell (p := ⟨b1, o1, none⟩) (show b1 < wr.heap.size by omega)).trans e4
              have rd : ∀ s : KX (wr.heap.size) wr (wr.heap.size) [] (fun _ => True), s.val.cell? ⟨b2, o2, none⟩ = some (.slice a3 c c3) := fun s => (s.kept.below.cell (p := ⟨b2, o2, none⟩) (show b2 < wr.heap.size by omega)).trans e5
              repeat (go_big_quiet_step (fail))
              refine wpQuiet_nil ?_
              clear ra rb rc rd
              repeat (go_big_quiet_step (fail))
              refine wpQuiet_nil ?_
              have ra : ∀ s : KX (wr.heap.size) wr (wr.heap.size) [] (fun _ => True), s.val.cell? ⟨b1, o1 + i, none⟩ = some (.slice (some ⟨b5, o5, none⟩) n c4) := fun s => (s.kept.below.cell (p := ⟨b1, o1 + i, none⟩) (show b1 < wr.heap.size by omega)).trans e1
              have rb : ∀ s : KX (wr.heap.size) wr (wr.heap.size) [] (fun _ => True), s.val.cell? ⟨b5, o5 + k, none⟩ = some (.slice a6 p.length c6) := fun s => (s.kept.below.cell (p := ⟨b5, o5 + k, none⟩) (show b5 < wr.heap.size by omega)).trans e3
              have rc : ∀ s : KX (wr.heap.size) wr (wr.heap.size) [] (fun _ => True), s.val.cell? ⟨b1, o1, none⟩ = some (.slice (some ⟨b2, o2, none⟩) n c2) := fun s => (s.kept.below.cell (p := ⟨b1, o1, none⟩) (show b1 < wr.heap.size by omega)).trans e4
              have rd : ∀ s : KX (wr.heap.size) wr (wr.heap.size) [] (fun _ => True), s.val.cell? ⟨b2, o2, none⟩ = some (.slice a3 c c3) := fun s => (s.kept.below.cell (p := ⟨b2, o2, none⟩) (show b2 < wr.heap.size by omega)).trans e5
              repeat (go_big_quiet_step (fail))
              refine wpQuiet_nil ?_
              clear ra rb rc rd
              repeat (go_big_quiet_step (fail))
              refine wpQuiet_nil ?_
              have ra : ∀ s : KX (wr.heap.size) wr (wr.heap.size) [] (fun _ => True), s.val.cell? ⟨b1, o1 + i, none⟩ = some (.slice (some ⟨b5, o5, none⟩) n c4) := fun s => (s.kept.below.cell (p := ⟨b1, o1 + i, none⟩) (show b1 < wr.heap.size by omega)).trans e1
              have rb : ∀ s : KX (wr.heap.size) wr (wr.heap.size) [] (fun _ => True), s.val.cell? ⟨b5, o5 + k, none⟩ = some (.slice a6 p.length c6) := fun s => (s.kept.below.cell (p := ⟨b5, o5 + k, none⟩) (show b5 < wr.heap.size by omega)).trans e3
              have rc : ∀ s : KX (wr.heap.size) wr (wr.heap.size) [] (fun _ => True), s.val.cell? ⟨b1, o1, none⟩ = some (.slice (some ⟨b2, o2, none⟩) n c2) := fun s => (s.kept.below.cell (p := ⟨b1, o1, none⟩) (show b1 < wr.heap.size by omega)).trans e4
              have rd : ∀ s : KX (wr.heap.size) wr (wr.heap.size) [] (fun _ => True), s.val.cell? ⟨b2, o2, none⟩ = some (.slice a3 c c3) := fun s => (s.kept.below.cell (p := ⟨b2, o2, none⟩) (show b2 < wr.heap.size by omega)).trans e5
              repeat (go_big_quiet_step (fail))
              refine wpQuiet_nil ?_
              clear ra rb rc rd
              repeat (go_big_quiet_step (fail))
              refine wpQuiet_nil ?_
              have ra : ∀ s : KX (wr.heap.size) wr (wr.heap.size) [] (fun _ => True), s.val.cell? ⟨b1, o1 + i, none⟩ = some (.slice (some ⟨b5, o5, none⟩) n c4) := fun s => (s.kept.below.cell (p := ⟨b1, o1 + i, none⟩) (show b1 < wr.heap.size by omega)).trans e1
              have rb : ∀ s : KX (wr.heap.size) wr (wr.heap.size) [] (fun _ => True), s.val.cell? ⟨b5, o5 + k, none⟩ = some (.slice a6 p.length c6) := fun s => (s.kept.below.cell (p := ⟨b5, o5 + k, none⟩) (show b5 < wr.heap.size by omega)).trans e3
              have rc : ∀ s : KX (wr.heap.size) wr (wr.heap.size) [] (fun _ => True), s.val.cell? ⟨b1, o1, none⟩ = some (.slice (some ⟨b2, o2, none⟩) n c2) := fun s => (s.kept.below.cell (p := ⟨b1, o1, none⟩) (show b1 < wr.heap.size by omega)).trans e4
              have rd : ∀ s : KX (wr.heap.size) wr (wr.heap.size) [] (fun _ => True), s.val.cell? ⟨b2, o2, none⟩ = some (.slice a3 c c3) := fun s => (s.kept.below.cell (p := ⟨b2, o2, none⟩) (show b2 < wr.heap.size by omega)).trans e5
              repeat (go_big_quiet_step (fail))
              refine wpQuiet_nil ?_
              clear ra rb rc rd
              repeat (go_big_quiet_step (fail))
              refine wpQuiet_nil ?_
              clear _ne
              have KH_w21 := Lib.hid K_w21
              have hw_w21 := K_w21.below
              have hz_w21 := K_w21.size
              clear K_w21
              clear E_w21 F_w21
              have e1 := (hw_w21.cell (p := ⟨b1, o1 + i, none⟩) (show b1 < wr.heap.size by omega)).trans e1
              have e3 := (hw_w21.cell (p := ⟨b5, o5 + k, none⟩) (show b5 < wr.heap.size by omega)).trans e3
              have hb2' := below_via hb2 hw_w21
              have HRW := Lib.hid (HRW0.out.below hw_w21)
              obtain ⟨wp, rfl⟩ : ∃ wp, wp = w21 := ⟨_, rfl⟩
              have hzp := hw_w21.size
              have HBP := Lib.hid hb2'
              clear hb2' hw_w21 KH_w21 HRW0 e4 e5
              go_wp2_with fail
              go_loopw [6] (fun j wr => IdxRel wp badC p j wr) (fun j _ => p.length - (intOf j).toNat)
              case atStart => exact ⟨0, Nat.zero_le _, rfl, rfl, Below.refl _ _⟩
              case round =>
                obtain ⟨j, hj, rfl, htj, hb3⟩ := hrel
                have HTJ := Lib.hid htj
                have hzz3 := hb3.size
                have e1 := (hb3.cell (p := ⟨b1, o1 + i, none⟩) (show b1 < wp.heap.size by omega)).trans e1
                have e3 := (hb3.cell (p := ⟨b5, o5 + k, none⟩) (show b5 < wp.heap.size by omega)).trans e3
                clear htj
                by_cases hjl : j < p.length
                · obtain ⟨b7, o7, rfl, hb7, hc7⟩ := (HRW.out.fm ic1).2 (by omega)
                  obtain ⟨z, hz⟩ : ∃ z, p[j]? = some z := ⟨p[j], List.getElem?_eq_getElem hjl⟩
                  have HZ := Lib.hid hz
                  have e6 := (hb3.cell (p := ⟨b7, o7 + j, none⟩) hb7).trans (hc7 j z hz)
                  have l1 : (0 : Int) ≤ (j : Int) := by omega
                  have l2 : (j : Int) < (p.length : Int) := by omega
                  clear hz hc7
                  by_cases hz0 : z < 0
                  · have ef : Hid (right ls = false) := Lib.hid (by
                      rw [HREQ.out, all_bad HR.out (by unfold okR; rw [all_bad HP.out (by unfold okP; rw [any_hit HZ.out (by unfold badC; rw [decide_eq_true hz0]; rfl)]; simp), Bool.and_false]), Bool.false_and])
                    go_wp2_with fail
                    go_returns
                    exact ⟨ret_bool ef.out.symm, below_via HB.out (below_via HBP.out hb3)⟩
                  · by_cases hz1 : 1000000 < z
                    · have ef : Hid (right ls = false) := Lib.hid (by
                        rw [HREQ.out, all_bad HR.out (by unfold okR; rw [all_bad HP.out (by unfold okP; rw [any_hit HZ.out (by unfold badC; rw [decide_eq_true hz1, Bool.or_true])]; simp), Bool.and_false]), Bool.false_and])
                      go_wp2_with fail
                      go_returns
                      exact ⟨ret_bool ef.out.symm, below_via HB.out (below_via HBP.out hb3)⟩
                    · have h2 := Lib.hid (any_next HTJ.out HZ.out (by unfold badC; rw [decide_eq_false hz0, decide_eq_false hz1]; rfl))
                      go_wp2_with fail
                      go_roundw
                      case rel => exact ⟨j + 1, by omega, by go_num, h2.out, hb3⟩
                      case measure => simp [intOf]; omega
                · obtain rfl : j = p.length := by omega
                  have h2 := Lib.hid (all_next (f := okP c) HTK.out HP.out (by
                    have h := HTJ.out
                    rw [List.take_length] at h
                    unfold okP
                    rw [h, show (p.length == c) = true by simpa using HPC.out]
                    rfl))
                  go_wp2_with fail
                  go_roundw
                  case rel => exact ⟨k + 1, by have := HRN.out; omega, by go_num, h2.out, below_via HBP.out hb3⟩
                  case measure => simp [intOf]; omega

            · have q2 : ((p.length : Int) != (c : Int)) = true := by simp; omega
              have ef : Hid (right ls = false) := Lib.hid (by
                rw [HREQ.out, all_bad HR.out (by unfold okR; rw [all_bad HP.out (by unfold okP; rw [show (p.length == c) = false by simp; exact hpc]; rfl), Bool.and_false]), Bool.false_and])
              clear hpc
              go_wp2_with fail
              refine rg13_14 (w0 := wr) (B := wr.heap.size) (n := wr.heap.size) (L := []) (E := fun _ => True) (F := fun _ => True) (by kernel_rfl) (by kernel_rfl) ⟨by go_grown, by go_size, (by simp [go_sem] <;> omega)⟩ trivial (fun _ _ _ _ => trivial) trivial (fun _ _ _ _ => trivial) (fun w21 K_w21 E_w21 F_w21 => ?_)
              have _ne : Nonempty (KX (wr.heap.size) wr (wr.heap.size) [] (fun _ => True)) := ⟨⟨_, K_w21, E_w21⟩⟩
              repeat (go_big_quiet_step (fail))
              refine wpQuiet_nil ?_
              have ra : ∀ s : KX (wr.heap.size) wr (wr.heap.size) [] (fun _ => True), s.val.cell? ⟨b1, o1 + i, none⟩ = some (.slice (some ⟨b5, o5, none⟩) n c4) := fun s => (s.kept.below.cell (p := ⟨b1, o1 + i, none⟩) (show b1 < wr.heap.size by omega)).trans e1
              have rb : ∀ s : KX (wr.heap.size) wr (wr.heap.size) [] (fun _ => True), s.val.cell? ⟨b5, o5 + k, none⟩ = some (.slice a6 p.length c6) := fun s => (s.kept.below.cell (p := ⟨b5, o5 + k, none⟩) (show b5 < wr.heap.size by omega)).trans e3
              have rc : ∀ s : KX (wr.heap.size) wr (wr.heap.size) [] (fun _ => True), s.val.cell? ⟨b1, o1, none⟩ = some (.slice (some ⟨b2, o2, none⟩) n c2) := fun s => (s.kept.below.cell (p := ⟨b1, o1, none⟩) (show b1 < wr.heap.size by omega)).trans e4
              have rd : ∀ s : KX (wr.heap.size) wr (wr.heap.size) [] (fun _ => True), s.val.cell? ⟨b2, o2, none⟩ = some (.slice a3 c c3) := fun s => (s.kept.below.cell (p := ⟨b2, o2, none⟩) (show b2 < wr.heap.size by omega)).trans e5
              repeat (go_big_quiet_step (fail))
              refine wpQuiet_nil ?_
              clear ra rb rc rd
              repeat (go_big_quiet_step (fail))
              refine wpQuiet_nil ?_
              have ra : ∀ s : KX (wr.heap.size) wr (wr.heap.size) [] (fun _ => True), s.val.cell? ⟨b1, o1 + i, none⟩ = some (.slice (some ⟨b5, o5, none⟩) n c4) := fun s => (s.kept.below.cell (p := ⟨b1, o1 + i, none⟩) (show b1 < wr.heap.size by omega)).trans e1
              have rb : ∀ s : KX (wr.heap.size) wr (wr.heap.size) [] (fun _ => True), s.val.cell? ⟨b5, o5 + k, none⟩ = some (.slice a6 p.length c6) := fun s => (s.kept.below.cell (p := ⟨b5, o5 + k, none⟩) (show b5 < wr.heap.size by omega)).trans e3
              have rc : ∀ s : KX (wr.heap.size) wr (wr.heap.size) [] (fun _ => True), s.val.cell? ⟨b1, o1, none⟩ = some (.slice (some ⟨b2, o2, none⟩) n c2) := fun s => (s.kept.below.cell (p := ⟨b1, o1, none⟩) (show b1 < wr.heap.size by omega)).trans e4
              have rd : ∀ s : KX (wr.heap.size) wr (wr.heap.size) [] (fun _ => True), s.val.cell? ⟨b2, o2, none⟩ = some (.slice a3 c c3) := fun s => (s.kept.below.cell (p := ⟨b2, o2, none⟩) (show b2 < wr.heap.size by omega)).trans e5
              repeat (go_big_quiet_step (fail))
              refine wpQuiet_nil ?_
              clear ra rb rc rd
              repeat (go_big_quiet_step (fail))
              refine wpQuiet_nil ?_
              have ra : ∀ s : KX (wr.heap.size) wr (wr.heap.size) [] (fun _ => True), s.val.cell? ⟨b1, o1 + i, none⟩ = some (.slice (some ⟨b5, o5, none⟩) n c4) := fun s => (s.kept.below.cell (p := ⟨b1, o1 + i, none⟩) (show b1 < wr.heap.size by omega)).trans e1
              have rb : ∀ s : KX (wr.heap.size) wr (wr.heap.size) [] (fun _ => True), s.val.cell? ⟨b5, o5 + k, none⟩ = some (.slice a6 p.length c6) := fun s => (s.kept.below.cell (p := ⟨b5, o5 + k, none⟩) (show b5 < wr.heap.size by omega)).trans e3
              have rc : ∀ s : KX (wr.heap.size) wr (wr.heap.size) [] (fun _ => True), s.val.cell? ⟨b1, o1, none⟩ = some (.slice (some ⟨b2, o2, none⟩) n c2) := fun s => (s.kept.below.cell (p := ⟨b1, o1, none⟩) (show b1 < wr.heap.size by omega)).trans e4
              have rd : ∀ s : KX (wr.heap.size) wr (wr.heap.size) [] (fun _ => True), s.val.cell? ⟨b2, o2, none⟩ = some (.slice a3 c c3) := fun s => (s.kept.below.cell (p := ⟨b2, o2, none⟩) (show b2 < wr.heap.size by omega)).trans e5
              repeat (go_big_quiet_step (fail))
              refine wpQuiet_nil ?_
              clear ra rb rc rd
              repeat (go_big_quiet_step (fail))
              refine wpQuiet_nil ?_
              have ra : ∀ s : KX (wr.heap.size) wr (wr.heap.size) [] (fun _ => True), s.val.cell? ⟨b1, o1 + i, none⟩ = some (.slice (some ⟨b5, o5, none⟩) n c4) := fun s => (s.kept.below.cell (p := ⟨b1, o1 + i, none⟩) (show b1 < wr.heap.size by omega)).trans e1
              have rb : ∀ s : KX (wr.heap.size) wr (wr.heap.size) [] (fun _ => True), s.val.cell? ⟨b5, o5 + k, none⟩ = some (.slice a6 p.length c6) := fun s => (s.kept.below.cell (p := ⟨b5, o5 + k, none⟩) (show b5 < wr.heap.size by omega)).trans e3
              have rc : ∀ s : KX (wr.heap.size) wr (wr.heap.size) [] (fun _ => True), s.val.cell? ⟨b1, o1, none⟩ = some (.slice (some ⟨b2, o2, none⟩) n c2) := fun s => (s.kept.below.cell (p := ⟨b1, o1, none⟩) (show b1 < wr.heap.size by omega)).trans e4
              have rd : ∀ s : KX (wr.heap.size) wr (wr.heap.size) [] (fun _ => True), s.val.cell? ⟨b2, o2, none⟩ = some (.slice a3 c c3) := fun s => (s.kept.below.cell (p := ⟨b2, o2, none⟩) (show b2 < wr.heap.size by omega)).trans e5
              repeat (go_big_quiet_step (fail))
              refine wpQuiet_nil ?_
              clear ra rb rc rd
              repeat (go_big_quiet_step (fail))
              refine wpQuiet_nil ?_
              clear _ne
              have KH_w21 := Lib.hid K_w21
              have hw_w21 := K_w21.below
              have hz_w21 := K_w21.size
              clear K_w21
              clear E_w21 F_w21
              go_wp2_with fail
              go_returns
              exact ⟨ret_bool ef.out.symm, below_via HB.out (below_via hb2 hw_w21)⟩

          · obtain rfl : k = n := by omega
            have h2 := Lib.hid (all_next (f := okR k c) HTI.out HR.out (by have h := HTK.out; rw [← HRN.out, List.take_length] at h; unfold okR; rw [h, HRN.out]; simp))
            go_wp2_with fail
            go_roundw
            case rel => exact ⟨i + 1, by omega, by go_num, h2.out, below_via HB.out hb2⟩
            case measure => simp [intOf]; omega
      · have q1 : ((r.length : Int) != (n : Int)) = true := by simp; omega
        have ef : Hid (right ls = false) := Lib.hid (by
          rw [HREQ.out, all_bad HR.out (by unfold okR; rw [show (r.length == n) = false by simp; exact hrn]; rfl), Bool.false_and])
        go_wp2_with fail
        go_returns
        exact ⟨ret_bool ef.out.symm, hb⟩
    · obtain rfl : i = ls.length := by omega
      have ef : Hid (right ls = true) := Lib.hid (by rw [HREQ.out, all_end HTI.out, Bool.true_and, decide_eq_true (show 1 ≤ c by omega), decide_eq_true (show c ≤ 15 by omega)]; rfl)
      go_wp2_with fail
      go_returns
      exact ⟨ret_bool ef.out.symm, hb⟩
theorem right13c (v : Value) (ls : List (List (List Int))) (b : Bool) (w : World) (hs : Rw3 w v ls) (h : right ls = b) : Calls Try.prog 13 #[v] w fun e w' => e = .returned (.bool b) ∧ Below w.heap.size w w' := by
  subst h
  exact right13 v ls w hs
end Go.Proofs.Yteocplabibhecaa
