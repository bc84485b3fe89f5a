/- DraftPlays: the walk. -/
import Derived.Test.YteocplabibhecaaDu
import Derived.Test.YteocplabibhecaaSRow
import Derived.LoopTactic
namespace Go.Proofs.Yteocplabibhecaa
open Go.RowKit Plain Go.Deep
set_option linter.unusedVariables false
set_option linter.unusedSimpArgs false

def PyRel (w : World) (M n c : Nat) (s t : Value) (wr : World) : Prop := ∃ (k P : Nat) (d : Dr), k ≤ n ∧ t = .int .i64 k ∧ s = .pointer (some ⟨P, 0, none⟩) ∧ d.Inv c ∧ Duo wr w.heap.size P M d d ∧ Below w.heap.size w wr
def GoRel (w : World) (O P M c : Nat) (d : Dr) (t : Value) (wr : World) : Prop := ∃ (k : Nat), k ≤ d.n ∧ t = .int .i64 k ∧ Trio wr w.heap.size O P M c d ∧ Below w.heap.size w wr
set_option maxRecDepth 100000 in
set_option maxHeartbeats 8000000 in
theorem plays6_ok (v : Value) (ls : List (List (List Int))) (a1 : Option Addr) (c1 : Nat) (rows : List (List Int)) (w : World) (HS : Hid (Rw3 w v ls)) (HSR : Hid (SRow [.i64, .i64, .i64] w (.slice a1 rows.length c1) rows)) (HSM : Hid (small ls = true)) (HRT : Hid (right ls = true)) (h150 : rows.length ≤ 150) : Calls Try.prog 6 #[v, .slice a1 rows.length c1] w fun e w' => e = .returned (.bool true) ∧ Below w.heap.size w w' := by
  obtain ⟨m1, a0, c0, rfl, f1⟩ := HS.out.at
  have q150 : decide ((rows.length : Int) > 150) = false := decide_eq_false (by omega)
  clear f1
  go_enter Try.func6, Try.ntmps6
  go_wp2_with fail
  with_reducible refine (small8c _ ls true _ HS.out HSM.out).mono ?_
  rintro e w0 ⟨rfl, hb0⟩
  have HB0 := Lib.hid hb0
  clear hb0
  go_wp2_with fail
  with_reducible refine (right13c _ ls true _ (HS.out.below HB0.out) HRT.out).mono ?_
  rintro e w1 ⟨rfl, hb1⟩
  have HB1 := Lib.hid (below_via HB0.out hb1)
  clear hb1 HB0
  go_wp2_with fail
  with_reducible refine (own10 _ ls _ (HS.out.below HB1.out) HSM.out).mono ?_
  rintro e wo1 ⟨so, rvs, vss, he, hmx, hbo⟩
  have hse : so.v = .slice so.a ls.length so.c := by
    have h := oe_slice hmx.out
    rw [hmx.rows.len, hmx.mat.len] at h
    exact h
  rw [hse] at he
  subst he
  have HR3 : Hid (Rw3 wo1 (.slice so.a ls.length so.c) ls) := Lib.hid (by rw [← hse]; exact hmx.rw3)
  have HBO := Lib.hid (below_via HB1.out hbo)
  clear hmx hse hbo
  go_wp2_with fail
  with_reducible refine (new11 _ ls _ HR3.out HRT.out).mono ?_
  rintro e wn1 ⟨P, S, rfl, hd, hbn⟩
  have HD := Lib.hid (hd.base' (B' := w.heap.size) HBO.out.size)
  have HBN := Lib.hid (below_via HBO.out hbn)
  clear hd hbn HR3 HB1 HBO
  go_wp2_with fail
  with_reducible refine (begin15 _ ls _ (HS.out.below HBN.out) HRT.out).mono ?_
  rintro e wm ⟨M, T, rfl, hmo, hbm⟩
  have HDU : Hid (Duo wm w.heap.size P M (Dr.init ls) (Dr.init ls)) := Lib.hid ⟨S, T, HD.out.below hbm, hmo.base' HBN.out.size, fun k hk hm => by have := (HD.out.newB k hk).2; have := (hmo.newB k hm).1; omega⟩
  have HBM := Lib.hid (below_via HBN.out hbm)
  obtain ⟨c, hc⟩ : ∃ c, ((ls.getD 0 []).getD 0 []).length = c := ⟨_, rfl⟩
  have hiv := init_inv HRT.out
  rw [hc] at hiv
  have HIV := Lib.hid hiv
  clear hmo hbm HD HBN hc hiv
  go_wp2_with fail
  go_loopw [5, 8] (fun s t wr => PyRel w M rows.length c s t wr) (fun _ t _ => rows.length - (intOf t).toNat)
  case atStart => exact ⟨0, P, Dr.init ls, Nat.zero_le _, rfl, rfl, HIV.out, HDU.out, HBM.out⟩
  case round =>
    clear HIV HDU HBM
    obtain ⟨k, P, d, hk, rfl, rfl, hiv, hdu, hbw⟩ := hrel
    have HIV := Lib.hid hiv
    have HDU := Lib.hid hdu
    have HBW := Lib.hid hbw
    have hzz := hbw.size
    clear hiv hbw
    by_cases hkl : k < rows.length
    · obtain ⟨_, bq, off, cap', hvv, hba, hcells⟩ := HSR.out.some (by intro e; rw [e] at hkl; simp at hkl)
      obtain ⟨r, hr⟩ : ∃ r, rows[k]? = some r := ⟨_, List.getElem?_eq_getElem hkl⟩
      obtain ⟨hrl, hcl⟩ := hcells k r hr
      obtain ⟨wh, p, i, rfl⟩ : ∃ a b c, r = [a, b, c] := by
        match r, hrl with
        | [a, b, c], _ => exact ⟨a, b, c, rfl⟩
      have cA0 : wr.cell? ⟨bq, off + k * 3, none⟩ = some (.int .i64 wh) := (HBW.out.cell (p := ⟨bq, off + k * 3, none⟩) hba).trans (hcl 0 _ _ rfl rfl).1
      have cA1 : wr.cell? ⟨bq, off + k * 3 + 1, none⟩ = some (.int .i64 p) := (HBW.out.cell (p := ⟨bq, off + k * 3 + 1, none⟩) hba).trans (hcl 1 _ _ rfl rfl).1
      have cA2 : wr.cell? ⟨bq, off + k * 3 + 2, none⟩ = some (.int .i64 i) := (HBW.out.cell (p := ⟨bq, off + k * 3 + 2, none⟩) hba).trans (hcl 2 _ _ rfl rfl).1
      simp only [Value.slice.injEq] at hvv
      obtain ⟨rfl, hvl, rfl⟩ := hvv
      clear hcells hr hrl hcl hvl
      have i1 : (0 : Int) ≤ (k : Int) := by omega
      have i2 : (k : Int) < (rows.length : Int) := by omega
      go_upto_region 11 with fail
      obtain ⟨wz, hwz⟩ : ∃ W, W = wr.alloc (.cells #[.int .i64 wh, .int .i64 p, .int .i64 i] 52) := ⟨_, rfl⟩
      have hbz : Below wr.heap.size wr wz := by rw [hwz]; exact (Below.refl _ _).alloc (Nat.le_refl _) _
      have hcz : ∀ j, wz.cell? ⟨wr.heap.size, j, none⟩ = #[Value.int .i64 wh, .int .i64 p, .int .i64 i][j]? := fun j => by rw [hwz]; exact cell_of_row _ _ j _ 52 (0, 0) (heap_alloc_new _ _)
      have cz0 : wz.cell? ⟨wr.heap.size, 0, none⟩ = some (.int .i64 wh) := hcz 0
      have cz1 : wz.cell? ⟨wr.heap.size, 1, none⟩ = some (.int .i64 p) := hcz 1
      have cz2 : wz.cell? ⟨wr.heap.size, 2, none⟩ = some (.int .i64 i) := hcz 2
      have hza : wr.heap.size < wz.heap.size := by rw [hwz]; simp
      rw [← hwz]
      have HBZ := Lib.hid (below_via HBW.out hbz)
      have HDZ := Lib.hid (HDU.out.below hbz)
      have HZN : Hid (∃ S T, DuoM wz w.heap.size S T P M d d ∧ wr.heap.size ∉ S ∧ wr.heap.size ∉ T) := Lib.hid (by
        obtain ⟨S, T, h⟩ := hdu
        exact ⟨S, T, ⟨h.a.below hbz, h.m.below hbz, h.ne⟩, fun hm => by have := (h.a.newB _ hm).2; omega, fun hm => by have := (h.m.newB _ hm).2; omega⟩)
      clear hwz hcz hbz cA0 cA1 cA2 hdu HDU
      by_cases hwh : wh = 0
      · have q0 : (wh == 0) = true := by rw [hwh]; rfl
        obtain ⟨S, T, htm, hnS, hnT⟩ := HZN.out
        have HTM := Lib.hid htm
        obtain ⟨g, hg⟩ : ∃ g, d.got p i = g := ⟨_, rfl⟩
        obtain ⟨er, her⟩ : ∃ g, d.err p i = g := ⟨_, rfl⟩
        obtain ⟨x, hx⟩ : ∃ x, d.stp p i = x := ⟨_, rfl⟩
        have hers := err_small d p i
        rw [her] at hers
        have hix := stp_inv HIV.out p i
        rw [hx] at hix
        have HIX := Lib.hid hix
        have HTK := Lib.hid (mtake16 M _ c T d p i _ htm.m HIV.out)
        rw [hg, her, hx] at HTK
        have HTD : Hid (∀ W, DrAt W w.heap.size S P d → Calls Try.prog 17 #[.pointer (some ⟨P, 0, none⟩), .int .i64 p, .int .i64 i, .int .i64 g, .int .i64 er] W (TkM W w.heap.size S P x (.returned (.bool true)))) := Lib.hid (fun W h => by rw [← hx]; exact takes17c P _ c S d p i g er W h HIV.out hg her)
        have HSL : Hid ((∀ b ∈ S, w.heap.size ≤ b) ∧ (∀ b ∈ T, w.heap.size ≤ b)) := Lib.hid ⟨fun b hb => (htm.a.newB b hb).1, fun b hb => (htm.m.newB b hb).1⟩
        have hw3 : IntKind.i64.wrap er = er := by simp [IntKind.wrap, IntKind.signed, IntKind.bits]; omega
        clear htm hg her hx hix hwh
        go_wp2_with fail
        with_reducible refine HTK.out.mono ?_
        rintro e w2 ⟨T2, rfl, hm2, ht2, _, ho2⟩
        have HA2 : Hid (DrAt w2 w.heap.size S P d) := Lib.hid (HTM.out.a.onl ho2 (fun b hb hm => HTM.out.ne b hb hm))
        have HD2 : Hid (Duo w2 w.heap.size P M d x) := Lib.hid (HTM.out.takeM hm2 ht2 ho2)
        have HM2 := Lib.hid hm2
        have HNE2 : Hid (∀ k ∈ S, k ∉ T2) := Lib.hid (fun k hk hm => by
          rcases ht2 k hm with h1 | h1
          · exact HTM.out.ne k hk h1
          · have := (HTM.out.a.newB k hk).2
            omega)
        have HB2 : Hid (Below w.heap.size w w2) := Lib.hid (over_below HBZ.out ho2 HSL.out.2)
        have cz1 : w2.cell? ⟨wr.heap.size, 1, none⟩ = some (.int .i64 p) := (ho2.cell hza hnT).trans cz1
        have cz2 : w2.cell? ⟨wr.heap.size, 2, none⟩ = some (.int .i64 i) := (ho2.cell hza hnT).trans cz2
        have hza : wr.heap.size < w2.heap.size := Nat.lt_of_lt_of_le hza ho2.size
        clear hm2 ht2 ho2 HTK HTM HZN HDZ HBZ cz0
        go_wp2_with fail
        with_reducible refine (HTD.out _ HA2.out).mono ?_
        rintro e w3 ⟨S3, rfl, hd3, hs3, _, ho3⟩
        have HD3 : Hid (Duo w3 w.heap.size P M x x) := Lib.hid (DuoM.takeA ⟨HA2.out, HM2.out, HNE2.out⟩ hd3 hs3 ho3)
        have HB3 : Hid (Below w.heap.size w w3) := Lib.hid (over_below HB2.out ho3 HSL.out.1)
        clear hd3 hs3 ho3 HTD HA2 HD2 HM2 HNE2 HB2 HSL cz1 cz2
        obtain ⟨S4, T4, hdu4⟩ := HD3.out
        have HA4 := Lib.hid (alike14 P _ c S4 M _ T4 x _ hdu4.a hdu4.m HIX.out)
        clear hdu4
        go_wp2_with fail
        with_reducible refine HA4.out.mono ?_
        rintro e w4 ⟨rfl, hb4⟩
        have HD4 := Lib.hid (HD3.out.below hb4)
        have HB4 := Lib.hid (below_via HB3.out hb4)
        clear hb4 HA4 HD3 HB3
        go_wp2_with fail
        go_roundw
        case rel => exact ⟨k + 1, P, x, by omega, by go_num, rfl, HIX.out, HD4.out, HB4.out⟩
        case measure => simp [intOf]; omega
      · have q0 : (wh == 0) = false := by simpa using hwh
        obtain ⟨S, T, htm, hnS, hnT⟩ := HZN.out
        have HTM := Lib.hid htm
        clear htm hwh
        go_wp2_with fail
        with_reducible refine (copy25 P _ c S d _ HTM.out.a HIV.out).mono ?_
        rintro e w2 ⟨P2, S2, rfl, hd2, hb2⟩
        have HTR : Hid (Trio w2 w.heap.size P P2 M c d) := Lib.hid (HTM.out.copy HIV.out HBZ.out.size hd2 hb2)
        have HB2 := Lib.hid (below_via HBZ.out hb2)
        clear hd2 hb2 HTM HZN HDZ HBZ cz0 cz1 cz2
        go_wp2_with fail
        go_loopw [13] (fun t wr => GoRel w P P2 M c d t wr) (fun t _ => d.n - (intOf t).toNat)
        case atStart => exact ⟨0, Nat.zero_le _, rfl, HTR.out, HB2.out⟩
        case round =>
          clear HTR HB2 hza hzz
          obtain ⟨j, hj, rfl, htr, hbw⟩ := hrel
          have HTR := Lib.hid htr
          have HBJ := Lib.hid hbw
          have hn8 := HIV.out.n8
          obtain ⟨x, R, S3, T3, hR, hix, hdu, hne⟩ := htr
          obtain ⟨ta, tc, hM, e_t⟩ := hdu.m.taken
          by_cases hjn : j < d.n
          · have HX := Lib.hid (take22 P _ c R x (j : Int) 0 _ hR hix)
            have HR := Lib.hid hR
            have HDU := Lib.hid hdu
            have HNE := Lib.hid hne
            have hix2 := Lib.hid (stp_inv hix (j : Int) 0)
            clear hR hdu hne hix hbw
            go_wp2_with fail
            with_reducible refine HX.out.mono ?_
            rintro e w5 ⟨R2, rfl, hR2, hs2, _, ho2⟩
            have HT5 : Hid (Trio w5 w.heap.size P P2 M c d) := Lib.hid ⟨_, R2, S3, T3, hR2, hix2.out, ⟨HDU.out.a.onl ho2 (fun b hb hm => (HNE.out b hm).1 hb), HDU.out.m.onl ho2 (fun b hb hm => (HNE.out b hm).2 hb), HDU.out.ne⟩, fun b hb => by
              rcases hs2 b hb with h1 | h1
              · exact HNE.out b h1
              · exact ⟨fun hm => by have := (HDU.out.a.newB b hm).2; omega, fun hm => by have := (HDU.out.m.newB b hm).2; omega⟩⟩
            have HB5 : Hid (Below w.heap.size w w5) := Lib.hid (over_below HBJ.out ho2 (fun b hb => (HR.out.newB b hb).1))
            clear hR2 hs2 ho2 HX HR HDU HNE hix2 e_t hM HTR HBJ
            go_wp2_with fail
            go_roundw
            case rel => exact ⟨j + 1, by omega, by go_num, HT5.out, HB5.out⟩
            case measure => simp [intOf]; omega
          · obtain rfl : j = d.n := by omega
            obtain ⟨S4, T4, hdu4⟩ := HTR.out.duo
            have HA4 := Lib.hid (alike14 P2 _ c S4 M _ T4 d _ hdu4.a hdu4.m HIV.out)
            have HD4 : Hid (Duo wr w.heap.size P2 M d d) := Lib.hid ⟨S4, T4, hdu4⟩
            clear hdu4 hR hdu hne hix hbw
            go_wp2_with fail
            with_reducible refine HA4.out.mono ?_
            rintro e w6 ⟨rfl, hb6⟩
            have HD6 := Lib.hid (HD4.out.below hb6)
            have HB6 := Lib.hid (below_via HBJ.out hb6)
            clear hb6 HA4 HD4
            go_wp2_with fail
            go_roundw
            case rel => exact ⟨k + 1, P2, d, by omega, by go_num, rfl, HIV.out, HD6.out, HB6.out⟩
            case measure => simp [intOf]; omega
    · obtain rfl : k = rows.length := by omega
      clear hdu
      go_wp2_with fail
      with_reducible refine (known _).mono ?_
      rintro e w9 ⟨rfl, hb9⟩
      have HB9 := Lib.hid (below_via HBW.out hb9)
      clear hb9
      go_wp2_with fail
      go_returns
      exact ⟨rfl, HB9.out⟩

set_option maxRecDepth 100000 in
set_option maxHeartbeats 2000000 in
theorem plays6_big (v : Value) (ls : List (List (List Int))) (a1 : Option Addr) (c1 : Nat) (rows : List (List Int)) (w : World) (HS : Hid (Rw3 w v ls)) (HSM : Hid (small ls = false)) : Calls Try.prog 6 #[v, .slice a1 rows.length c1] w fun e w' => e = .returned (.bool true) ∧ Below w.heap.size w w' := by
  go_enter Try.func6, Try.ntmps6
  go_wp2_with fail
  with_reducible refine (small8c _ ls false _ HS.out HSM.out).mono ?_
  rintro e w0 ⟨rfl, hb0⟩
  go_wp2_with fail
  with_reducible refine (known _).mono ?_
  rintro e w9 ⟨rfl, hb9⟩
  go_wp2_with fail
  go_returns
  exact ⟨rfl, below_via hb0 hb9⟩
set_option maxRecDepth 100000 in
set_option maxHeartbeats 2000000 in
theorem plays6_bad (v : Value) (ls : List (List (List Int))) (a1 : Option Addr) (c1 : Nat) (rows : List (List Int)) (w : World) (HS : Hid (Rw3 w v ls)) (HSM : Hid (small ls = true)) (HRT : Hid (right ls = false)) : Calls Try.prog 6 #[v, .slice a1 rows.length c1] w fun e w' => e = .returned (.bool true) ∧ Below w.heap.size w w' := by
  go_enter Try.func6, Try.ntmps6
  go_wp2_with fail
  with_reducible refine (small8c _ ls true _ HS.out HSM.out).mono ?_
  rintro e w0 ⟨rfl, hb0⟩
  have HB0 := Lib.hid hb0
  clear hb0
  go_wp2_with fail
  with_reducible refine (right13c _ ls false _ (HS.out.below HB0.out) HRT.out).mono ?_
  rintro e w1 ⟨rfl, hb1⟩
  go_wp2_with fail
  with_reducible refine (known _).mono ?_
  rintro e w9 ⟨rfl, hb9⟩
  go_wp2_with fail
  go_returns
  exact ⟨rfl, below_via HB0.out (below_via hb1 hb9)⟩
set_option maxRecDepth 100000 in
set_option maxHeartbeats 2000000 in
theorem plays6_long (v : Value) (ls : List (List (List Int))) (a1 : Option Addr) (c1 : Nat) (rows : List (List Int)) (w : World) (HS : Hid (Rw3 w v ls)) (HSM : Hid (small ls = true)) (HRT : Hid (right ls = true)) (hlong : ¬ rows.length ≤ 150) : Calls Try.prog 6 #[v, .slice a1 rows.length c1] w fun e w' => e = .returned (.bool true) ∧ Below w.heap.size w w' := by
  have qlong : decide ((rows.length : Int) > 150) = true := decide_eq_true (by omega)
  go_enter Try.func6, Try.ntmps6
  go_wp2_with fail
  with_reducible refine (small8c _ ls true _ HS.out HSM.out).mono ?_
  rintro e w0 ⟨rfl, hb0⟩
  have HB0 := Lib.hid hb0
  clear hb0
  go_wp2_with fail
  with_reducible refine (right13c _ ls true _ (HS.out.below HB0.out) HRT.out).mono ?_
  rintro e w1 ⟨rfl, hb1⟩
  go_wp2_with fail
  with_reducible refine (known _).mono ?_
  rintro e w9 ⟨rfl, hb9⟩
  go_wp2_with fail
  go_returns
  exact ⟨rfl, below_via HB0.out (below_via hb1 hb9)⟩
theorem plays6 (v : Value) (ls : List (List (List Int))) (a1 : Option Addr) (c1 : Nat) (rows : List (List Int)) (w : World) (hs : Rw3 w v ls) (hr : SRow [.i64, .i64, .i64] w (.slice a1 rows.length c1) rows) : Calls Try.prog 6 #[v, .slice a1 rows.length c1] w fun e w' => e = .returned (.bool true) ∧ Below w.heap.size w w' := by
  cases hsm : small ls
  · exact plays6_big v ls a1 c1 rows w (Lib.hid hs) (Lib.hid hsm)
  · cases hrt : right ls
    · exact plays6_bad v ls a1 c1 rows w (Lib.hid hs) (Lib.hid hsm) (Lib.hid hrt)
    · by_cases h3 : rows.length ≤ 150
      · exact plays6_ok v ls a1 c1 rows w (Lib.hid hs) (Lib.hid hr) (Lib.hid hsm) (Lib.hid hrt) h3
      · exact plays6_long v ls a1 c1 rows w (Lib.hid hs) (Lib.hid hsm) (Lib.hid hrt) h3
end Go.Proofs.Yteocplabibhecaa
