/- Packs that share no memory, by the code. -/
import Derived.Test.YteocplabibhecaaOwn
import Derived.Deep.OwnRows
namespace Go.Proofs.Yteocplabibhecaa
open Go.RowKit Plain
set_option linter.unusedVariables false
set_option linter.unusedSimpArgs false

theorem made_flat {α : Type} {f : α → List Value} {d : α} {z : Value} (hf : ∀ x, (f x).length = 1) (hd : f d = [z]) (n : Nat) : (madeCells #[z] n).toList = (List.replicate n d).flatMap f := by
  apply List.ext_getElem
  · rw [flat_length (f := f) (sz := 1) (fun x _ => hf x)]
    simp [madeCells]
  · intro i h1 h2
    have h3 : i < n := by simpa [madeCells] using h1
    have h4 := flat_at (f := f) (sz := 1) (l := List.replicate n d) (fun x _ => hf x) (i := i) (j := 0) (x := d) (u := z) (by simp [h3]) (by rw [hd]; rfl)
    rw [Nat.mul_one, Nat.add_zero, List.getElem?_eq_getElem h2] at h4
    simp only [Option.some.injEq] at h4
    rw [h4]
    simp [madeCells, Nat.mod_one]
theorem made_ow {α : Type} {f : α → List Value} {d : α} {z : Value} (hf : ∀ x, (f x).length = 1) (hd : f d = [z]) (w : World) (T : TypeId) (n : Nat) (hn : n ≤ 1000) : Ow f 1 T (w.alloc (.cells (madeCells #[z] n) T)) w.heap.size (.slice (some ⟨w.heap.size, 0, none⟩) n n) (List.replicate n d) := by
  have h := Ow.lit (f := f) (sz := 1) w T (List.replicate n d) (madeCells #[z] n) (made_flat hf hd n) (fun x _ => hf x) w.heap.size (Nat.le_refl _) (by simp [maxLen]; omega)
  rw [List.length_replicate] at h
  exact h
theorem rg29_8 {P : Program} {B n : Nat} {w0 : World} {L : List (Nat × Nat × Value)} {E F : World → Prop} {id : Nat} {Q : Exit → Act → World → Prop} {a : Act} {w : World} {o0 o1 o2 o3 o4 o5 o6 o7 o8 o9 o10 o11 : Oper} (hm : P.follows .mixedOrders = true)
    (hB : (Region.noSelect [o0, o1, o2, o3, o4, o5, o6, o7, o8, o9, o10, o11].toArray && Scr.ok .any [o0, o1, o2, o3, o4, o5, o6, o7, o8, o9, o10, o11].toArray [5] [0, 1, 2, 3, 4, 6, 10] (.free 0 (.free 1 (.free 2 (.free 3 (.free 4 (.free 6 (.read 5 (.alt 7 (.alt 8 (.altc 9 (.free 10 (.altc 11 .done .stop)) .stop) .stop) .stop)))))))) true true [o0, o1, o2, o3, o4, o5, o6, o7, o8, o9, o10, o11].toArray.size (Array.replicate [o0, o1, o2, o3, o4, o5, o6, o7, o8, o9, o10, o11].toArray.size false)) = true)
    (k : Kept B w0 n L w) (he : E w) (hE : ∀ W W', E W → Below W.heap.size W W' → E W') (hf : F w) (hF : ∀ W W', F W → Below W.heap.size W W' → F W')
    (h : ∀ wk, Kept B w0 n L wk → E wk → F wk → wpQuiet P [o0, o1, o2, o3, o4, o5, o6, o7, o8, o9, o10, o11].toArray (fun _ => True) (fun a0 => wpQuiet P [o0, o1, o2, o3, o4, o5, o6, o7, o8, o9, o10, o11].toArray (fun w' => ∃ s : KX B w0 n L E, w' = s.val) (fun a1 => ((∀ K2 : Act → World → Prop, (∀ a2 w2, ((∀ K3 : Act → World → Prop, (∀ a3 w3, ((∀ K4 : Act → World → Prop, (∀ a4 w4, wpQuiet P [o0, o1, o2, o3, o4, o5, o6, o7, o8, o9, o10, o11].toArray (fun _ => True) (fun a5 => ((∀ K6 : Act → World → Prop, (∀ a6 w6, Q .normal a6 w6 → K6 a6 w6) → wpList P [o0, o1, o2, o3, o4, o5, o6, o7, o8, o9, o10, o11].toArray (fun e a6 w6 => e = .normal ∧ K6 a6 w6) [o11] a5 w4) ∧ True)) [o10] a4 → K4 a4 w4) → wpList P [o0, o1, o2, o3, o4, o5, o6, o7, o8, o9, o10, o11].toArray (fun e a4 w4 => e = .normal ∧ K4 a4 w4) [o9] a3 w3) ∧ True) → K3 a3 w3) → wpList P [o0, o1, o2, o3, o4, o5, o6, o7, o8, o9, o10, o11].toArray (fun e a3 w3 => e = .normal ∧ (∃ s : KX B w0 n L E, w3 = s.val) ∧ K3 a3 w3) [o8] a2 w2) ∧ True) → K2 a2 w2) → wpList P [o0, o1, o2, o3, o4, o5, o6, o7, o8, o9, o10, o11].toArray (fun e a2 w2 => e = .normal ∧ (∃ s : KX B w0 n L E, w2 = s.val) ∧ K2 a2 w2) [o7] a1 wk) ∧ True)) [o5] a0) [o0, o1, o2, o3, o4, o6] a) : (Code.region id [o0, o1, o2, o3, o4, o5, o6, o7, o8, o9, o10, o11].toArray true).wp P Q a w := by
  have e1 : E w.drew := hE _ _ he ((Below.refl _ _).drew)
  have g := h _ k.drew e1 (hF _ _ hf ((Below.refl _ _).drew))
  exact wp_region_scr (U := (fun w' => ∃ s : KX B w0 n L E, w' = s.val)) (ops := [o0, o1, o2, o3, o4, o5, o6, o7, o8, o9, o10, o11].toArray) (.free 0 (.free 1 (.free 2 (.free 3 (.free 4 (.free 6 (.read 5 (.alt 7 (.alt 8 (.altc 9 (.free 10 (.altc 11 .done .stop)) .stop) .stop) .stop)))))))) [5] [0, 1, 2, 3, 4, 6, 10] hm hB ⟨⟨_, k.drew, e1⟩, rfl⟩ (Scr.of_free rfl g (fun _ g0 => Scr.of_free rfl g0 (fun _ g1 => Scr.of_free rfl g1 (fun _ g2 => Scr.of_free rfl g2 (fun _ g3 => Scr.of_free rfl g3 (fun _ g4 => Scr.of_free rfl g4 (fun _ g5 => Scr.of_read rfl g5 (fun _ g6 => (Scr.of_alt rfl (g6.1 _ (fun _ _ g => g)) (fun _ _ g7 => (Scr.of_alt rfl (g7.1 _ (fun _ _ g => g)) (fun _ _ g8 => (Scr.of_altc rfl (g8.1 _ (fun _ _ g => g)) (fun _ _ g9 => Scr.of_free rfl g9 (fun _ g10 => (Scr.of_altc rfl (g10.1 _ (fun _ _ g => g)) (fun _ _ g11 => g11) trivial))) trivial)) trivial)) trivial)))))))))
theorem rowcell {w : World} {base g n cap e : Nat} {rvs tl : List Sl} {s : Sl} {i : Nat} (h : Ow vc 1 e w base (.slice (some ⟨g, 0, none⟩) n cap) (rvs ++ s :: tl)) (hi : rvs.length = i) : w.cell? ⟨g, i, none⟩ = some s.v := by
  have hr := (h.rw (fun _ _ => rfl)).at1 vc1
  obtain ⟨_, a, c, hv, hf⟩ := hr
  simp only [Value.slice.injEq] at hv
  obtain ⟨rfl, _, _⟩ := hv
  obtain ⟨b, off, hb, _, hc⟩ := hf (by simp; omega)
  simp at hb
  obtain ⟨rfl, rfl⟩ := hb
  have := hc i s (by rw [List.getElem?_append_right (by omega), hi]; simp)
  rwa [Nat.zero_add] at this
theorem set_mid {rvs tl : List Sl} {s t : Sl} {i : Nat} (hi : rvs.length = i) : (rvs ++ s :: tl).set i t = rvs ++ t :: tl := by
  rw [List.set_append_right _ _ (by omega), hi]
  simp
def CpRel (w : World) (ls : List (List (List Int))) (ob : Nat) (iv : Value) (wr : World) : Prop := ∃ (i : Nat) (rvs : List Sl) (vss : List (List Sl)), i ≤ ls.length ∧ iv = .int .i64 i ∧ rvs.length = i ∧ Ow vc 1 30 wr w.heap.size (.slice (some ⟨ob, 0, none⟩) ls.length ls.length) (rvs ++ List.replicate (ls.length - i) Sl.nil) ∧ Fam vc 32 wr rvs vss ∧ Mat ic 3 wr vss (ls.take i) ∧ (∀ s ∈ rvs, ∀ b, blk s.v = some b → w.heap.size ≤ b) ∧ (∀ i k s b, at2 vss i k = some s → blk s.v = some b → w.heap.size ≤ b) ∧ Below w.heap.size w wr
def CpRel2 (w wo : World) (ob n : Nat) (rvs tl : List Sl) (vss : List (List Sl)) (lss : List (List (List Int))) (r : List (List Int)) (kv : Value) (wr : World) : Prop := ∃ (k : Nat) (sl : Sl) (r' : List Sl), k ≤ r.length ∧ kv = .int .i64 k ∧ Ow vc 1 30 wr w.heap.size (.slice (some ⟨ob, 0, none⟩) n n) (rvs ++ sl :: tl) ∧ Ow vc 1 32 wr wo.heap.size sl.v r' ∧ Mat ic 3 wr (vss ++ [r']) (lss ++ [r.take k]) ∧ (∀ s ∈ r', ∀ b, blk s.v = some b → wo.heap.size ≤ b) ∧ Onl [ob] wo wr
set_option maxRecDepth 100000 in
set_option maxHeartbeats 4000000 in
theorem copied29 (v : Value) (ls : List (List (List Int))) (w : World) (hs : Rw3 w v ls) (hsm : small ls = true) : Calls Try.prog 29 #[v] w (MxNew w ls) := by
  obtain ⟨m1, a1, c1, rfl, f1⟩ := hs.at
  have F1 := Lib.hid f1
  have HSM := Lib.hid (small_at hsm)
  have h6 := HSM.out.1
  have hmk := fun w => run_make_row' (P := Try.prog) 22 30 (.slice none 0 0) 24 Try.underlying22 (by kernel_rfl) rfl .i64 .i64 ls.length (by omega) (by omega) w
  clear hs f1 hsm
  go_enter Try.func29, Try.ntmps29
  go_wp2_with fail
  have HZ := Lib.hid (made_ow (f := vc) (d := Sl.nil) (z := .slice none 0 0) (fun _ => rfl) rfl w 30 ls.length (by omega))
  go_loopw [13] (fun i wr => CpRel w ls w.heap.size i wr) (fun i _ => ls.length - (intOf i).toNat)
  case atStart => exact ⟨0, [], [], Nat.zero_le _, rfl, rfl, HZ.out, Fam.nil _ _, by rw [List.take_zero]; exact Mat.nil _ _, by simp, by simp [at2], (Below.refl _ _).alloc (Nat.le_refl _) _⟩
  case round =>
    clear hmk HZ
    obtain ⟨i, rvs, vss, hi, rfl, hrv, hov, hf, hm, hbr, hbi, hb⟩ := hrel
    have HRV := Lib.hid hrv
    have HF := Lib.hid hf
    have HMM := Lib.hid hm
    have HBR := Lib.hid hbr
    have HBI := Lib.hid hbi
    have HBW := Lib.hid hb
    have hzz := hb.size
    by_cases hil : i < ls.length
    · rw [show ls.length - i = (ls.length - i - 1) + 1 by omega, List.replicate_succ] at hov
      obtain ⟨tl, htl⟩ : ∃ l, List.replicate (ls.length - i - 1) Sl.nil = l := ⟨_, rfl⟩
      have HTL := Lib.hid htl
      rw [htl] at hov
      have HOV0 := Lib.hid hov
      obtain ⟨b1, o1, rfl, hb1, hc1⟩ := F1.out (by omega)
      obtain ⟨r, hr⟩ : ∃ r, ls[i]? = some r := ⟨ls[i], List.getElem?_eq_getElem hil⟩
      have HR := Lib.hid hr
      obtain ⟨a2, c2, e1, hr2⟩ := hc1 i r hr
      obtain ⟨m2, f2⟩ := hr2.fm
      have F2 := Lib.hid f2
      have HSR := Lib.hid (HSM.out.2 i r hr)
      have e1 := (hb.cell (p := ⟨b1, o1 + i, none⟩) hb1).trans e1
      have i1 : (0 : Int) ≤ (i : Int) := by omega
      have i2 : (i : Int) < (ls.length : Int) := by omega
      obtain ⟨wo, rfl⟩ : ∃ wo, wo = wr := ⟨_, rfl⟩
      obtain ⟨lss, hlss⟩ : ∃ l, ls.take i = l := ⟨_, rfl⟩
      have HLSS := Lib.hid hlss
      rw [hlss] at HMM
      have hr10 := HSR.out.1
      clear hr hc1 hr2 f2 hb hlss hrv hov hf hm hbr hbi htl
      go_wp2_with fail
      go_loopw [20] (fun k wr => CpRel2 w wo w.heap.size ls.length rvs tl vss lss r k wr) (fun k _ => r.length - (intOf k).toNat)
      case atStart => exact ⟨0, Sl.nil, [], Nat.zero_le _, rfl, HOV0.out, Ow.nil _ _ _, by rw [List.take_zero]; exact HMM.out.push0, by simp, Onl.refl _ _⟩
      case round =>
        clear e1
        obtain ⟨k, ⟨la, ln, lc⟩, r', hk, rfl, hov, hl, hm, hrn, ho⟩ := hrel
        have hln : ln = r'.length := by
          obtain ⟨_, _, h⟩ := hl.form
          simp only [Sl.v, Value.slice.injEq] at h
          exact h.2.1
        subst hln
        have HOV := Lib.hid hov
        have HL := Lib.hid hl
        have HM := Lib.hid hm
        have HRN := Lib.hid hrn
        have HO := Lib.hid ho
        have hzz2 := ho.size
        have hobr : w.heap.size < wr.heap.size := (hov.typ _ rfl).2.1
        have eo : wr.cell? ⟨w.heap.size, i, none⟩ = some (.slice la r'.length lc) := rowcell hov HRV.out
        have HLEN : Hid (ls.length = (rvs ++ (⟨la, r'.length, lc⟩ : Sl) :: tl).length) := Lib.hid (by rw [← HTL.out]; simp [HRV.out]; omega)
        have HRL : Hid (r'.length ≤ 10) := Lib.hid (by
          have h1 := hm.lens vss.length r' (r.take k) (by simp) (by have := hm.len; simp at this; rw [this]; simp)
          rw [List.length_take] at h1
          have := HSR.out.1
          omega)
        have HBW2 : Hid (Below w.heap.size w wr) := Lib.hid (HBW.out.trans (b := wo) (ho.below' (by simp) hzz))
        clear hov hl hm hrn
        by_cases hkl : k < r.length
        · obtain ⟨b2, o2, rfl, hb2, hc2⟩ := F2.out (by omega)
          obtain ⟨p, hp⟩ : ∃ p, r[k]? = some p := ⟨r[k], List.getElem?_eq_getElem hkl⟩
          have HP := Lib.hid hp
          obtain ⟨a3, c3, e2, hp2⟩ := hc2 k p hp
          have e2 := (HBW2.out.cell (p := ⟨b2, o2 + k, none⟩) hb2).trans e2
          have HPW := Lib.hid (hp2.below HBW2.out)
          have HPL := Lib.hid (HSR.out.2 k p hp)
          have j1 : (0 : Int) ≤ (k : Int) := by omega
          have j2 : (k : Int) < (r.length : Int) := by omega
          clear hp hc2 hp2 ho
          go_wp2_with fail
          refine rg29_8 (w0 := wr) (B := wr.heap.size) (n := wr.heap.size) (L := []) (E := fun _ => True) (F := fun _ => True) (by kernel_rfl) (by kernel_rfl) ⟨by go_grown, by go_size, (by simp [go_sem] <;> omega)⟩ trivial (fun _ _ _ _ => trivial) trivial (fun _ _ _ _ => trivial) (fun w21 K_w21 E_w21 F_w21 => ?_)
          have _ne : Nonempty (KX (wr.heap.size) wr (wr.heap.size) [] (fun _ => True)) := ⟨⟨_, K_w21, E_w21⟩⟩
          repeat (go_big_quiet_step (fail))
          refine wpQuiet_nil ?_
          have ra : ∀ s : KX (wr.heap.size) wr (wr.heap.size) [] (fun _ => True), s.val.cell? ⟨w.heap.size, i, none⟩ = some (.slice la r'.length lc) := fun s => (s.kept.below.cell (p := ⟨w.heap.size, i, none⟩) hobr).trans eo
          repeat (go_big_quiet_step (fail))
          refine wpQuiet_nil ?_
          clear ra
          have KH_w21 := Lib.hid K_w21
          have hw_w21 := K_w21.below
          have hz_w21 := K_w21.size
          clear K_w21
          clear E_w21 F_w21
          refine ⟨fun K hK0 => ?_, trivial⟩
          have hK := Lib.hid hK0
          clear hK0
          go_wp2_with fail
          with_reducible refine (clone33 _ _ (HPW.out.below hw_w21) (by have := HPL.out; omega)).mono ?_
          rintro e w22 ⟨v1, rfl, hown1, hb_w22⟩
          have hbr1 := below_via hw_w21 hb_w22
          obtain ⟨av, cv, hv1⟩ := hown1.form
          subst hv1
          obtain ⟨s1, hs1⟩ : ∃ s : Sl, s = ⟨av, p.length, cv⟩ := ⟨_, rfl⟩
          have hs1v : s1.v = .slice av p.length cv := by rw [hs1]; rfl
          have HS1V := Lib.hid hs1v
          have HN1 : Hid (∀ b, blk s1.v = some b → wr.heap.size ≤ b) := Lib.hid (fun b hb => by rw [hs1v] at hb; have := (hown1.typ b (blk_own hb)).1; have := hw_w21.size; omega)
          have HM1 : Hid (Mat ic 3 w22 (vss ++ [r' ++ [s1]]) (lss ++ [r.take k ++ [p]])) := Lib.hid (HM.out.push1 s1 p hbr1 (by rw [hs1v]; exact Oe.of_ow hown1) HN1.out)
          have HL1 := Lib.hid (HL.out.below hbr1)
          have HOV1 := Lib.hid (HOV.out.below hbr1)
          have HO1 := Lib.hid (HO.out.grow hbr1)
          have K_w22 := KH_w21.out.step (by omega) hb_w22
          have KH_w22 := Lib.hid K_w22
          have hz_w22 := K_w22.size
          have hw_w22 := K_w22.below
          clear K_w22 hb_w22 hown1 hs1v hs1 hbr1
          go_wp2_with fail
          first | (refine ⟨rfl, ⟨⟨_, KH_w22.out, trivial⟩, rfl⟩, hK.out _ _ ?_⟩; clear hK K) | (refine ⟨⟨⟨_, KH_w22.out, trivial⟩, rfl⟩, hK.out _ _ ?_⟩; clear hK K)
          refine ⟨fun K hK0 => ?_, trivial⟩
          have hK := Lib.hid hK0
          clear hK0
          go_wp2_with fail
          first | (refine ⟨rfl, ⟨⟨_, KH_w22.out.step (by omega) ((Below.refl _ _).alloc (Nat.le_refl _) _), trivial⟩, rfl⟩, hK.out _ _ ?_⟩; clear hK K) | (refine ⟨⟨⟨_, KH_w22.out.step (by omega) ((Below.refl _ _).alloc (Nat.le_refl _) _), trivial⟩, rfl⟩, hK.out _ _ ?_⟩; clear hK K)
          refine ⟨fun K hK0 => ?_, trivial⟩
          have hK := Lib.hid hK0
          clear hK0
          go_wp2_with (at_builtin; refine wpList_append_ow (f := vc) (sz := 1) rfl _ _ 30 rfl wo.heap.size 32 (.slice none 0 0) 24 Try.underlying30 info32 rfl (by decide) _ r' rfl (HL1.out.below ((Below.refl _ _).alloc (Nat.le_refl _) _)) vc_ok _ [s1] rfl (Rw.one2 _ _ s1 _ (by simp [vc, HS1V.out]) _ _ (by simp)) ?ca4 ?cb4 (by have := hz_w22; have := HO.out.size; simp; omega) ?_)
          case ca4 => have q1 := HRL.out; simp [maxLen]; omega
          case cb4 => have q1 := HRL.out; simp; omega
          intro v2 w2 hown2 hg2 _
          have hty : Ty _ _ 32 := (HL1.out.below (w' := w22.alloc (.cells #[.slice av p.length cv] 32)) ((Below.refl _ _).alloc (Nat.le_refl _) _)).ty
          have HM2 : Hid (Mat ic 3 w2 (vss ++ [r' ++ [s1]]) (lss ++ [r.take (k + 1)])) := Lib.hid (by
            rw [List.take_add_one, HP.out]
            exact (HM1.out.below (w' := w22.alloc (.cells #[.slice av p.length cv] 32)) ((Below.refl _ _).alloc (Nat.le_refl _) _)).grownT hg2 hty (by decide))
          have HO2 : Hid (Onl [w.heap.size] wo w2) := Lib.hid ((HO1.out.grow ((Below.refl _ _).alloc (Nat.le_refl _) _)).grown hg2 (fun q hq => .inr (HL1.out.typ q hq).1))
          have hov2 := (HOV1.out.below (w' := w22.alloc (.cells #[.slice av p.length cv] 32)) ((Below.refl _ _).alloc (Nat.le_refl _) _)).grownT hg2 hty (by decide)
          have HL2 := Lib.hid hown2
          obtain ⟨a2, c2', hv2⟩ := hown2.form
          obtain ⟨n2, hn2⟩ : ∃ n, (r' ++ [s1]).length = n := ⟨_, rfl⟩
          rw [hn2] at hv2
          subst hv2
          have hcB : w2.cell? ⟨w.heap.size, i, none⟩ = Option.some (.slice la r'.length lc) := rowcell hov2 HRV.out
          have hfB : w2.frozen? ⟨w.heap.size, i, none⟩ = false := by
            obtain ⟨_, _, cur, hcur⟩ := hov2.typ _ rfl
            exact frozen_of_row w2 _ i cur 30 hcur
          have HOV2 := Lib.hid hov2
          clear hown2 hg2 hty hov2 hn2
          go_wp2_with fail
          first | (refine ⟨rfl, hK.out _ _ ?_⟩; clear hK K) | (refine hK.out _ _ ?_; clear hK K)
          repeat (go_big_quiet_step (fail))
          refine wpQuiet_nil ?_
          refine ⟨fun K hK0 => ?_, trivial⟩
          have hK := Lib.hid hK0
          clear hK0
          go_wp2_with fail
          first | (refine ⟨rfl, hK.out _ _ ?_⟩; clear hK K) | (refine hK.out _ _ ?_; clear hK K)
          clear _ne
          go_wp2_with fail
          go_roundw
          case rel =>
            have hty : Ty w2 (some w.heap.size) 30 := fun b hb => by
              cases hb
              exact (HOV2.out.typ _ rfl).2.2
            have ho3 : Onl [w.heap.size] w2 (w2.setCell ⟨w.heap.size, i, none⟩ (.slice a2 n2 c2')) := (Onl.refl _ _).setCell (.inl (by simp)) _
            exact ⟨k + 1, ⟨a2, n2, c2'⟩, r' ++ [s1], by omega, by go_num, by
              have h := HOV2.out.set1 (fun _ => rfl) HLEN.out i (⟨a2, n2, c2'⟩ : Sl) (.slice a2 n2 c2') rfl
              rwa [set_mid HRV.out] at h, HL2.out.onlT ho3 hty (by decide), HM2.out.onlT ho3 hty (by decide), by
              have h := HRN.out
              have h2 := HO.out.size
              intro s hs b hb
              rcases List.mem_append.1 hs with h3 | h3
              · exact h s h3 b hb
              · simp at h3
                subst h3
                have := HN1.out b hb
                omega, HO2.out.trans ho3⟩
          case measure => simp [intOf]; omega
        · obtain rfl : k = r.length := by omega
          have hm : Mat ic 3 wr (vss ++ [r']) (ls.take (i + 1)) := by
            have h := HM.out
            rw [List.take_length, ← HLSS.out] at h
            rw [List.take_add_one, HR.out]
            exact h
          have HM3 := Lib.hid hm
          have hty : Ty wo (some w.heap.size) 30 := fun b hb => by
            cases hb
            exact (HOV0.out.typ _ rfl).2.2
          have HF3 : Hid (Fam vc 32 wr (rvs ++ [⟨la, r'.length, lc⟩]) (vss ++ [r'])) := Lib.hid (by
            refine (HF.out.onlT ho hty (by decide)).push' ⟨la, r'.length, lc⟩ r' (Oe.of_ow HL.out) ?_
            intro b hb x hx hbx
            have h1 := HF.out.lt hx hbx
            have h2 := (HL.out.typ b (blk_own hb)).1
            omega)
          have HBR3 : Hid (∀ s ∈ rvs ++ [(⟨la, r'.length, lc⟩ : Sl)], ∀ b, blk s.v = some b → w.heap.size ≤ b) := Lib.hid (fun s hs b hb => by
            rcases List.mem_append.1 hs with h3 | h3
            · exact HBR.out s h3 b hb
            · simp at h3
              subst h3
              have h2 := (HL.out.typ b (blk_own hb)).1
              omega)
          have HBI3 : Hid (∀ i k s b, at2 (vss ++ [r']) i k = some s → blk s.v = some b → w.heap.size ≤ b) := Lib.hid (fun j k s b hs hb => by
            rcases at2_last _ _ _ _ _ hs with h1 | h1
            · exact HBI.out j k s b h1 hb
            · have := HRN.out s h1 b hb
              omega)
          clear ho hty hm
          go_wp2_with fail
          go_roundw
          case rel => exact ⟨i + 1, rvs ++ [⟨la, r'.length, lc⟩], vss ++ [r'], by omega, by go_num, by simp [HRV.out], by
            have h := HOV.out
            rw [← HTL.out] at h
            rw [List.append_assoc, show ls.length - (i + 1) = ls.length - i - 1 by omega]
            exact h, HF3.out, HM3.out, HBR3.out, HBI3.out, HBW2.out⟩
          case measure => simp [intOf]; omega
    · obtain rfl : i = ls.length := by omega
      have HMX : Hid (MxM wr w.heap.size ⟨some ⟨w.heap.size, 0, none⟩, ls.length, ls.length⟩ rvs vss ls) := Lib.hid ⟨Oe.of_ow (by rw [Nat.sub_self, List.replicate_zero, List.append_nil] at hov; exact hov), HF.out, by have h := HMM.out; rwa [List.take_length] at h, fun b hb => by have := blk_own hb; simp [Sl.v, Value.ownBlock] at this; omega, HBR.out, HBI.out⟩
      clear hb hov hf hm hbr hbi
      go_wp2_with fail
      go_returns
      exact ⟨_, _, _, rfl, HMX.out, HBW.out⟩
end Go.Proofs.Yteocplabibhecaa
