/- DraftWhole: the walk. -/
import Derived.Test.YteocplabibhecaaDu
import Derived.Test.YteocplabibhecaaPw
import Derived.Test.YteocplabibhecaaSeg
import Derived.LoopTactic
import Derived.Sort.LoopGhostIn
namespace Go.Proofs.Yteocplabibhecaa
open Go.RowKit Plain
set_option linter.unusedVariables false
set_option linter.unusedSimpArgs false

theorem rg4_16 {P : Program} {B n : Nat} {w0 : World} {L : List (Nat × Nat × Value)} {E F : World → Prop} {id : Nat} {Q : Exit → Act → World → Prop} {a : Act} {w : World} {o0 o1 o2 o3 o4 o5 o6 o7 o8 o9 o10 o11 o12 o13 o14 o15 o16 o17 : Oper} (hm : P.follows .mixedOrders = true)
    (hB : (Region.noSelect [o0, o1, o2, o3, o4, o5, o6, o7, o8, o9, o10, o11, o12, o13, o14, o15, o16, o17].toArray && Scr.ok .any [o0, o1, o2, o3, o4, o5, o6, o7, o8, o9, o10, o11, o12, o13, o14, o15, o16, o17].toArray [6, 7, 11, 14] [0, 1, 2, 3, 4, 5, 8, 9, 10, 12, 13, 15, 16, 17] (.free 0 (.free 1 (.free 2 (.free 3 (.free 4 (.free 5 (.free 8 (.free 9 (.free 10 (.free 12 (.read 6 (.read 7 (.read 11 (.free 13 (.read 14 (.free 15 (.free 16 (.free 17 .done)))))))))))))))))) true true [o0, o1, o2, o3, o4, o5, o6, o7, o8, o9, o10, o11, o12, o13, o14, o15, o16, o17].toArray.size (Array.replicate [o0, o1, o2, o3, o4, o5, o6, o7, o8, o9, o10, o11, o12, o13, o14, o15, o16, o17].toArray.size false)) = true)
    (k : Kept B w0 n L w) (he : E w) (hE : ∀ W W', E W → Below W.heap.size W W' → E W') (hf : F w) (hF : ∀ W W', F W → Below W.heap.size W W' → F W')
    (h : ∀ wk, Kept B w0 n L wk → E wk → F wk → wpQuiet P [o0, o1, o2, o3, o4, o5, o6, o7, o8, o9, o10, o11, o12, o13, o14, o15, o16, o17].toArray (fun _ => True) (fun a0 => wpQuiet P [o0, o1, o2, o3, o4, o5, o6, o7, o8, o9, o10, o11, o12, o13, o14, o15, o16, o17].toArray (fun w' => ∃ s : KX B w0 n L E, w' = s.val) (fun a1 => wpQuiet P [o0, o1, o2, o3, o4, o5, o6, o7, o8, o9, o10, o11, o12, o13, o14, o15, o16, o17].toArray (fun _ => True) (fun a2 => wpQuiet P [o0, o1, o2, o3, o4, o5, o6, o7, o8, o9, o10, o11, o12, o13, o14, o15, o16, o17].toArray (fun w' => ∃ s : KX B w0 n L E, w' = s.val) (fun a3 => wpQuiet P [o0, o1, o2, o3, o4, o5, o6, o7, o8, o9, o10, o11, o12, o13, o14, o15, o16, o17].toArray (fun _ => True) (fun a4 => Q .normal a4 wk) [o15, o16, o17] a3) [o14] a2) [o13] a1) [o6, o7, o11] a0) [o0, o1, o2, o3, o4, o5, o8, o9, o10, o12] a) : (Code.region id [o0, o1, o2, o3, o4, o5, o6, o7, o8, o9, o10, o11, o12, o13, o14, o15, o16, o17].toArray true).wp P Q a w := by
  have e1 : E w.drew := hE _ _ he ((Below.refl _ _).drew)
  have g := h _ k.drew e1 (hF _ _ hf ((Below.refl _ _).drew))
  exact wp_region_scr (U := (fun w' => ∃ s : KX B w0 n L E, w' = s.val)) (ops := [o0, o1, o2, o3, o4, o5, o6, o7, o8, o9, o10, o11, o12, o13, o14, o15, o16, o17].toArray) (.free 0 (.free 1 (.free 2 (.free 3 (.free 4 (.free 5 (.free 8 (.free 9 (.free 10 (.free 12 (.read 6 (.read 7 (.read 11 (.free 13 (.read 14 (.free 15 (.free 16 (.free 17 .done)))))))))))))))))) [6, 7, 11, 14] [0, 1, 2, 3, 4, 5, 8, 9, 10, 12, 13, 15, 16, 17] hm hB ⟨⟨_, k.drew, e1⟩, rfl⟩ (Scr.of_free rfl g (fun _ g0 => Scr.of_free rfl g0 (fun _ g1 => Scr.of_free rfl g1 (fun _ g2 => Scr.of_free rfl g2 (fun _ g3 => Scr.of_free rfl g3 (fun _ g4 => Scr.of_free rfl g4 (fun _ g5 => Scr.of_free rfl g5 (fun _ g6 => Scr.of_free rfl g6 (fun _ g7 => Scr.of_free rfl g7 (fun _ g8 => Scr.of_free rfl g8 (fun _ g9 => Scr.of_read rfl g9 (fun _ g10 => Scr.of_read rfl g10 (fun _ g11 => Scr.of_read rfl g11 (fun _ g12 => Scr.of_free rfl g12 (fun _ g13 => Scr.of_read rfl g13 (fun _ g14 => Scr.of_free rfl g14 (fun _ g15 => Scr.of_free rfl g15 (fun _ g16 => Scr.of_free rfl g16 (fun _ g17 => g17)))))))))))))))))))
theorem MoAt.overc {w : World} {B : Nat} {S : List Nat} {M : Nat} {d : Dr} (h : MoAt w B S M d) : M < w.heap.size ∧ w.cell? ⟨M, 6, none⟩ = some (.bool d.over) := by
  obtain ⟨sf, sl, st, sm, fl, vss, h2⟩ := h
  exact ⟨h2.lt, by rw [h2.cell 6]; rfl⟩
theorem MoAt.front {w : World} {B : Nat} {S : List Nat} {M : Nat} {d : Dr} (h : MoAt w B S M d) (ho : d.over = false) {p : Nat} (hp : p < d.n) : ∃ fg fc fa fk, w.cell? ⟨M, 0, none⟩ = some (.slice (some ⟨fg, 0, none⟩) d.n fc) ∧ fg < w.heap.size ∧ w.cell? ⟨fg, p, none⟩ = some (.slice fa (d.pk p).length fk) := by
  obtain ⟨sf, sl, st, sm, fl, vss, h2⟩ := h
  obtain ⟨fvs, h3, h4, h5⟩ := h2.fval ho
  have hpl : p < fvs.length := by rw [h4]; exact hp
  have h6 := List.getElem?_eq_getElem hpl
  obtain ⟨g, g1, g2, g3, _, g5⟩ := row_cell h5 h4 h6
  have h7 : at2 (d.tk :: d.live) 1 p = some (d.pk p) := by
    have hlv : d.live = d.fronts :: d.rs.drop (d.rd + 1) := by unfold Dr.live; rw [ho]; rfl
    rw [hlv]
    exact at2_of (r := d.fronts) rfl (fronts_at hp)
  have h8 := sl_len (h2.mat.row 1 p _ _ (at2_of h3 h6) h7)
  refine ⟨g, sf.c, fvs[p].a, fvs[p].c, ?_, g3, ?_⟩
  · rw [h2.cell 0, ← g1, ← g2]; rfl
  · rw [g5, h8]
def WhRel (w : World) (P M c n L T : Nat) (g : Nat) (u : Value) (wr : World) : Prop := ∃ (t v : Nat) (d : Dr), g + t = T ∧ u = .int .i64 v ∧ v ≤ 8 * t ∧ Tn c n L t d ∧ Duo wr w.heap.size P M d d ∧ Below w.heap.size w wr
def WiRel (w : World) (P M c n L t : Nat) (ord : Nat → Nat) (u i : Value) (wr : World) : Prop := ∃ (j v : Nat) (x : Dr), j ≤ n ∧ i = .int .i64 j ∧ u = .int .i64 v ∧ v ≤ 8 * t + j ∧ Odr c n L ord t j x ∧ Duo wr w.heap.size P M x x ∧ Below w.heap.size w wr
set_option maxRecDepth 100000 in
set_option maxHeartbeats 8000000 in
theorem whole4_ok (v : Value) (ls : List (List (List Int))) (a1 : Option Addr) (c1 : Nat) (zs : List Int) (f : Nat) (w : World) (HS : Hid (Rw3 w v ls)) (HPK : Hid (Seg w .u8 (.slice a1 zs.length c1) zs)) (HPW : Hid (∀ z ∈ zs, 0 ≤ z ∧ z ≤ 255)) (HSM : Hid (small ls = true)) (HRT : Hid (right ls = true)) (h300 : zs.length ≤ 300) (hf : f ≤ 255) : Calls Try.prog 4 #[v, .slice a1 zs.length c1, .int .u8 (f : Int)] w fun e w' => e = .returned (.bool true) ∧ Below w.heap.size w w' := by
  obtain ⟨m1, a0, c0, rfl, f1⟩ := HS.out.at
  have F1 := Lib.hid f1
  have q300 : decide ((zs.length : Int) > 300) = false := decide_eq_false (by omega)
  clear f1
  go_enter Try.func4, Try.ntmps4
  go_wp2_with fail
  with_reducible refine (small8c _ ls true _ HS.out HSM.out).mono ?_
  rintro e w0 ⟨rfl, hb0⟩
  have HB0 := Lib.hid hb0
  clear hb0
  go_wp2_with fail
  with_reducible refine (right13c _ ls true _ (HS.out.below HB0.out) HRT.out).mono ?_
  rintro e w1 ⟨rfl, hb1⟩
  have HB1 := Lib.hid (below_via HB0.out hb1)
  clear hb1 HB0
  go_wp2_with fail
  with_reducible refine (own10 _ ls _ (HS.out.below HB1.out) HSM.out).mono ?_
  rintro e wo1 ⟨so, rvs, vss, he, hmx, hbo⟩
  have hse : so.v = .slice so.a ls.length so.c := by
    have h := oe_slice hmx.out
    rw [hmx.rows.len, hmx.mat.len] at h
    exact h
  rw [hse] at he
  subst he
  have HR3 : Hid (Rw3 wo1 (.slice so.a ls.length so.c) ls) := Lib.hid (by rw [← hse]; exact hmx.rw3)
  have HBO := Lib.hid (below_via HB1.out hbo)
  clear hmx hse hbo
  go_wp2_with fail
  with_reducible refine (new11 _ ls _ HR3.out HRT.out).mono ?_
  rintro e wn1 ⟨P, S, rfl, hd, hbn⟩
  have HD := Lib.hid (hd.base' (B' := w.heap.size) HBO.out.size)
  have HBN := Lib.hid (below_via HBO.out hbn)
  clear hd hbn HR3 HB1 HBO
  go_wp2_with fail
  with_reducible refine (begin15 _ ls _ (HS.out.below HBN.out) HRT.out).mono ?_
  rintro e wm ⟨M, T, rfl, hmo, hbm⟩
  have HDU : Hid (Duo wm w.heap.size P M (Dr.init ls) (Dr.init ls)) := Lib.hid ⟨S, T, HD.out.below hbm, hmo.base' HBN.out.size, fun k hk hm => by have := (HD.out.newB k hk).2; have := (hmo.newB k hm).1; omega⟩
  have HBM := Lib.hid (below_via HBN.out hbm)
  obtain ⟨c, hc⟩ : ∃ c, ((ls.getD 0 []).getD 0 []).length = c := ⟨_, rfl⟩
  have hiv := init_inv HRT.out
  rw [hc] at hiv
  have HIV := Lib.hid hiv
  clear hmo hbm HD HBN hc hiv
  go_upto_region 7 with fail
  obtain ⟨r0, hr0⟩ : ∃ r, ls[0]? = some r := ⟨_, (right_row0 HRT.out).choose_spec.1⟩
  obtain ⟨hn2, hn8, hL1, hL4⟩ : 2 ≤ r0.length ∧ r0.length ≤ 8 ∧ 1 ≤ ls.length ∧ ls.length ≤ 4 := by
    obtain ⟨r, h1, h2⟩ := right_row0 HRT.out
    rw [hr0] at h1
    cases h1
    exact h2
  obtain ⟨b1, o1, rfl, hb1, hc1⟩ := F1.out (by omega)
  obtain ⟨a2, c2, e1, _⟩ := hc1 0 r0 hr0
  rw [Nat.add_zero] at e1
  have e1 := (HBM.out.cell (p := ⟨b1, o1, none⟩) hb1).trans e1
  have hb1m : b1 < wm.heap.size := by have := HBM.out.size; omega
  have HN := Lib.hid (init_n hr0)
  obtain ⟨n, hn⟩ : ∃ n, r0.length = n := ⟨_, rfl⟩
  rw [hn] at hn2 hn8 e1 HN
  have HTN : Hid (Tn c n ls.length 0 (Dr.init ls)) := Lib.hid ⟨HIV.out, HN.out, rfl, by simp [Dr.init], fun p => by
    show (List.replicate _ false).getD p false = false
    simp only [List.getD_eq_getElem?_getD, List.getElem?_replicate]
    split <;> rfl⟩
  obtain ⟨T, hT⟩ : ∃ T, ls.length * c = T := ⟨_, rfl⟩
  have hT60 : T ≤ 60 := by rw [← hT]; exact Nat.mul_le_mul hL4 HIV.out.c15
  have HTT := Lib.hid hT
  have h01 : (0 : Int) < (ls.length : Int) := by omega
  clear hr0 hn hc1 HIV HN hT
  go_wp2_with fail
  go_loopg [11] T (fun g u wr => WhRel w P M c n ls.length T g u wr)
  case atStart => exact ⟨0, 0, Dr.init ls, rfl, rfl, Nat.zero_le _, HTN.out, HDU.out, HBM.out⟩
  case round =>
    clear HTN HDU HBM e1 hb1m
    obtain ⟨t, v, d, hg, rfl, hv, htn, hdu, hbw⟩ := hrel
    have HTN := Lib.hid htn
    have HDU := Lib.hid hdu
    have HBW := Lib.hid hbw
    have hzz := hbw.size
    clear htn hbw
    obtain ⟨S, T', hdm⟩ := hdu
    obtain ⟨hM, e6⟩ := hdm.m.overc
    clear hdm
    cases hov : d.over
    · rw [hov] at e6
      have htT : t < T := by rw [← HTT.out]; exact HTN.out.lt hov
      obtain ⟨ord, hord⟩ : ∃ ord : Nat → Nat, ord = fun i => (i + f) % n := ⟨_, rfl⟩
      have HOI : Hid (IsOrd n ord) := Lib.hid (by rw [hord]; exact rot_ord f hn2 hn8)
      have HOE : Hid (∀ i, ord i = (i + f) % n) := Lib.hid (fun i => by rw [hord])
      have HO0 := Lib.hid (HTN.out.ord hov ord)
      have HOV := Lib.hid hov
      obtain ⟨wo, rfl⟩ : ∃ wo, wo = wr := ⟨_, rfl⟩
      clear hord hov
      go_wp2_with fail
      go_loopw [11, 12] (fun u i wr => WiRel w P M c n ls.length t ord u i wr) (fun _ i _ => n - (intOf i).toNat)
      case atStart => exact ⟨0, v, d, Nat.zero_le _, rfl, rfl, by omega, HO0.out, HDU.out, HBW.out⟩
      case round =>
        clear HDU HBW hzz hM e6 HO0
        obtain ⟨j, v, x, hj, rfl, rfl, hv, hox, hdu, hbw⟩ := hrel
        have HOX := Lib.hid hox
        have HBW := Lib.hid hbw
        have hzz := hbw.size
        clear hbw
        by_cases hjn : j < n
        · obtain ⟨p, hp⟩ : ∃ p, ord j = p := ⟨_, rfl⟩
          have hpn : p < n := by rw [← hp]; exact HOI.out.lt j hjn
          have hp2 : ((j : Int) + (f : Int)).tmod (n : Int) = (p : Int) := by
            rw [← hp, HOE.out j]
            exact (Int.tmod_eq_emod_of_nonneg (by omega)).trans (by rw [Int.natCast_emod, Int.natCast_add])
          obtain ⟨hov, hl0, hl15⟩ := HOX.out.pick HOI.out hjn
          rw [hp] at hl0 hl15
          have hxn := HOX.out.hn
          obtain ⟨S, T', hdm⟩ := hdu
          have HDM := Lib.hid hdm
          obtain ⟨fg, fc, fa, fk, e0, hfg, ef⟩ := hdm.m.front hov (p := p) (by rw [hxn]; exact hpn)
          obtain ⟨hM, _⟩ := hdm.m.overc
          rw [hxn] at e0
          obtain ⟨l, hl⟩ : ∃ l, x.pk p = l := ⟨_, rfl⟩
          rw [hl] at hl0 hl15 ef
          have HL := Lib.hid hl
          have HP := Lib.hid hp
          have hn0 : ((n : Int) == 0) = false := beq_false_of_ne (by omega)
          have hn0' : ¬ (n : Int) = 0 := by omega
          have hll0 : ((l.length : Int) == 0) = false := beq_false_of_ne (by omega)
          have hll0' : ¬ (l.length : Int) = 0 := by omega
          clear hdm hox hp hl hxn hov
          by_cases hzl : zs.length = 0
          · have q1 : decide ((zs.length : Int) > 0) = false := decide_eq_false (by omega)
            have q2 : ¬ zs.length > 0 := by omega
            have q3 : decide (zs.length > 0) = false := decide_eq_false q2
            have q4 : ¬ (zs.length : Int) > 0 := by omega
            clear hzl
            go_upto_region 18 with fail
            have HDUO : Hid (Duo wr w.heap.size P M x x) := Lib.hid ⟨S, T', HDM.out⟩
            have HBY := Lib.hid HBW.out
            clear HDM
            have hkl : 0 < l.length := hl0
            obtain ⟨S, T', hdm⟩ := HDUO.out
            have HDM := Lib.hid hdm
            obtain ⟨gc, hgc⟩ : ∃ z, x.got p (0 : Int) = z := ⟨_, rfl⟩
            obtain ⟨x', hx'⟩ : ∃ z, x.stp p (0 : Int) = z := ⟨_, rfl⟩
            have her : x.err p (0 : Int) = 0 := by
              have h := HOX.out.errk HOI.out hjn (k := 0) (by rw [HP.out, HL.out]; exact hkl)
              rw [HP.out] at h
              exact h
            have HST : Hid (Odr c n ls.length ord t (j + 1) x') := Lib.hid (by
              have h := HOX.out.step HOI.out hjn (k := 0) (by rw [HP.out, HL.out]; exact hkl)
              rw [HP.out] at h
              rw [← hx']
              exact h)
            have HTK := Lib.hid (mtake16 M _ c T' x (p : Int) (0 : Int) _ hdm.m HOX.out.inv)
            rw [hgc, her, hx'] at HTK
            have HTD : Hid (∀ W, DrAt W w.heap.size S P x → Calls Try.prog 17 #[.pointer (some ⟨P, 0, none⟩), .int .i64 (p : Int), .int .i64 (0 : Int), .int .i64 gc, .int .i64 0] W (TkM W w.heap.size S P x' (.returned (.bool true)))) := Lib.hid (fun W h => by rw [← hx']; exact takes17c P _ c S x (p : Int) (0 : Int) gc 0 W h HOX.out.inv hgc her)
            have HSL : Hid ((∀ b ∈ S, w.heap.size ≤ b) ∧ (∀ b ∈ T', w.heap.size ≤ b)) := Lib.hid ⟨fun b hb => (hdm.a.newB b hb).1, fun b hb => (hdm.m.newB b hb).1⟩
            clear hdm hgc her hx' e0 hfg ef
            go_wp2_with fail
            with_reducible refine HTK.out.mono ?_
            rintro e w2 ⟨T2, rfl, hm2, ht2, _, ho2⟩
            have HA2 : Hid (DrAt w2 w.heap.size S P x) := Lib.hid (HDM.out.a.onl ho2 (fun b hb hm => HDM.out.ne b hb hm))
            have HM2 := Lib.hid hm2
            have HNE2 : Hid (∀ k ∈ S, k ∉ T2) := Lib.hid (fun k hk hm => by
              rcases ht2 k hm with h1 | h1
              · exact HDM.out.ne k hk h1
              · have := (HDM.out.a.newB k hk).2
                omega)
            have HB2 : Hid (Below w.heap.size w w2) := Lib.hid (over_below HBY.out ho2 HSL.out.2)
            clear hm2 ht2 ho2 HTK HDM HBY HDUO HBW hzz
            go_wp2_with fail
            with_reducible refine (HTD.out _ HA2.out).mono ?_
            rintro e w3 ⟨S3, rfl, hd3, hs3, _, ho3⟩
            have HD3 : Hid (Duo w3 w.heap.size P M x' x') := Lib.hid (DuoM.takeA ⟨HA2.out, HM2.out, HNE2.out⟩ hd3 hs3 ho3)
            have HB3 : Hid (Below w.heap.size w w3) := Lib.hid (over_below HB2.out ho3 HSL.out.1)
            clear hd3 hs3 ho3 HTD HA2 HM2 HNE2 HB2 HSL
            go_wp2_with fail
            go_roundw
            case rel => exact ⟨j + 1, v, x', by omega, by go_num, rfl, by omega, HST.out, HD3.out, HB3.out⟩
            case measure => simp [intOf]; omega
          · have q1 : decide ((zs.length : Int) > 0) = true := decide_eq_true (by omega)
            obtain ⟨b4, o4, c4, hv4, hb4, hc4⟩ := (HPK.out.some (by intro e; rw [e] at hzl; exact hzl rfl)).2
            simp only [Value.slice.injEq, true_and] at hv4
            obtain ⟨rfl, rfl⟩ := hv4
            obtain ⟨q, hq⟩ : ∃ q, v % zs.length = q := ⟨_, rfl⟩
            have hql : q < zs.length := by rw [← hq]; exact Nat.mod_lt _ (by omega)
            have m2 : (v : Int).tmod (zs.length : Int) = (q : Int) := by
              rw [← hq]
              exact (Int.tmod_eq_emod_of_nonneg (by omega)).trans (Int.natCast_emod _ _).symm
            obtain ⟨z, hz⟩ : ∃ z, zs[q]? = some z := ⟨_, List.getElem?_eq_getElem hql⟩
            have e4 : wr.cell? ⟨b4, o4 + q, none⟩ = some (.int .u8 z) := (HBW.out.cell (p := ⟨b4, o4 + q, none⟩) hb4).trans (hc4 q z hz)
            have hb4r : b4 < wr.heap.size := by omega
            obtain ⟨hz0, hz255⟩ := HPW.out z (List.mem_of_getElem? hz)
            obtain ⟨y, rfl⟩ : ∃ y : Nat, z = y := ⟨z.toNat, by omega⟩
            obtain ⟨kk, hkk⟩ : ∃ k, y % l.length = k := ⟨_, rfl⟩
            have hkl : kk < l.length := by rw [← hkk]; exact Nat.mod_lt _ (by omega)
            have m4 : (y : Int).tmod (l.length : Int) = (kk : Int) := by
              rw [← hkk]
              exact (Int.tmod_eq_emod_of_nonneg (by omega)).trans (Int.natCast_emod _ _).symm
            have hz0' : ((zs.length : Int) == 0) = false := beq_false_of_ne (by omega)
            have hz0'' : ¬ (zs.length : Int) = 0 := by omega
            have j1 : (0 : Int) ≤ (q : Int) := by omega
            have j2 : (q : Int) < (zs.length : Int) := by omega
            have j3 : (0 : Int) ≤ (p : Int) := by omega
            have j4 : (p : Int) < (n : Int) := by omega
            clear hc4 hz hq hkk
            go_upto_region 16 with fail
            refine rg4_16 (w0 := wr) (B := wr.heap.size) (n := wr.heap.size) (L := []) (E := fun _ => True) (F := fun _ => True) (by kernel_rfl) (by kernel_rfl) ⟨by go_grown, by go_size, (by simp [go_sem] <;> omega)⟩ trivial (fun _ _ _ _ => trivial) trivial (fun _ _ _ _ => trivial) (fun w30 K_w30 E_w30 F_w30 => ?_)
            have _ne : Nonempty (KX (wr.heap.size) wr (wr.heap.size) [] (fun _ => True)) := ⟨⟨_, K_w30, E_w30⟩⟩
            repeat (go_big_quiet_step (fail))
            refine wpQuiet_nil ?_
            have ra : ∀ s : KX (wr.heap.size) wr (wr.heap.size) [] (fun _ => True), s.val.cell? ⟨b4, o4 + q, none⟩ = some (.int .u8 (y : Int)) := fun s => (s.kept.below.cell (p := ⟨b4, o4 + q, none⟩) hb4r).trans e4
            have rb : ∀ s : KX (wr.heap.size) wr (wr.heap.size) [] (fun _ => True), s.val.cell? ⟨M, 0, none⟩ = some (.slice (some ⟨fg, 0, none⟩) n fc) := fun s => (s.kept.below.cell (p := ⟨M, 0, none⟩) hM).trans e0
            have rc : ∀ s : KX (wr.heap.size) wr (wr.heap.size) [] (fun _ => True), s.val.cell? ⟨fg, p, none⟩ = some (.slice fa l.length fk) := fun s => (s.kept.below.cell (p := ⟨fg, p, none⟩) hfg).trans ef
            repeat (go_big_quiet_step (fail))
            refine wpQuiet_nil ?_
            clear ra rb rc
            repeat (go_big_quiet_step (fail))
            refine wpQuiet_nil ?_
            have ra : ∀ s : KX (wr.heap.size) wr (wr.heap.size) [] (fun _ => True), s.val.cell? ⟨b4, o4 + q, none⟩ = some (.int .u8 (y : Int)) := fun s => (s.kept.below.cell (p := ⟨b4, o4 + q, none⟩) hb4r).trans e4
            have rb : ∀ s : KX (wr.heap.size) wr (wr.heap.size) [] (fun _ => True), s.val.cell? ⟨M, 0, none⟩ = some (.slice (some ⟨fg, 0, none⟩) n fc) := fun s => (s.kept.below.cell (p := ⟨M, 0, none⟩) hM).trans e0
            have rc : ∀ s : KX (wr.heap.size) wr (wr.heap.size) [] (fun _ => True), s.val.cell? ⟨fg, p, none⟩ = some (.slice fa l.length fk) := fun s => (s.kept.below.cell (p := ⟨fg, p, none⟩) hfg).trans ef
            repeat (go_big_quiet_step (fail))
            refine wpQuiet_nil ?_
            clear ra rb rc
            repeat (go_big_quiet_step (fail))
            refine wpQuiet_nil ?_
            clear _ne
            have KH_w30 := Lib.hid K_w30
            have hw_w30 := K_w30.below
            have hz_w30 := K_w30.size
            clear K_w30
            clear E_w30 F_w30
            have HDUO : Hid (Duo w30 w.heap.size P M x x) := Lib.hid ⟨S, T', HDM.out.a.below hw_w30, HDM.out.m.below hw_w30, HDM.out.ne⟩
            have HBY : Hid (Below w.heap.size w w30) := Lib.hid (below_via HBW.out hw_w30)
            obtain ⟨wy, rfl⟩ : ∃ W, W = w30 := ⟨_, rfl⟩
            clear hw_w30 KH_w30 HDM
            clear e4 hb4r m2 m4 j1 j2 hz0' hz0''
            go_upto_region 18 with fail
            obtain ⟨S, T', hdm⟩ := HDUO.out
            have HDM := Lib.hid hdm
            obtain ⟨gc, hgc⟩ : ∃ z, x.got p (kk : Int) = z := ⟨_, rfl⟩
            obtain ⟨x', hx'⟩ : ∃ z, x.stp p (kk : Int) = z := ⟨_, rfl⟩
            have her : x.err p (kk : Int) = 0 := by
              have h := HOX.out.errk HOI.out hjn (k := kk) (by rw [HP.out, HL.out]; exact hkl)
              rw [HP.out] at h
              exact h
            have HST : Hid (Odr c n ls.length ord t (j + 1) x') := Lib.hid (by
              have h := HOX.out.step HOI.out hjn (k := kk) (by rw [HP.out, HL.out]; exact hkl)
              rw [HP.out] at h
              rw [← hx']
              exact h)
            have HTK := Lib.hid (mtake16 M _ c T' x (p : Int) (kk : Int) _ hdm.m HOX.out.inv)
            rw [hgc, her, hx'] at HTK
            have HTD : Hid (∀ W, DrAt W w.heap.size S P x → Calls Try.prog 17 #[.pointer (some ⟨P, 0, none⟩), .int .i64 (p : Int), .int .i64 (kk : Int), .int .i64 gc, .int .i64 0] W (TkM W w.heap.size S P x' (.returned (.bool true)))) := Lib.hid (fun W h => by rw [← hx']; exact takes17c P _ c S x (p : Int) (kk : Int) gc 0 W h HOX.out.inv hgc her)
            have HSL : Hid ((∀ b ∈ S, w.heap.size ≤ b) ∧ (∀ b ∈ T', w.heap.size ≤ b)) := Lib.hid ⟨fun b hb => (hdm.a.newB b hb).1, fun b hb => (hdm.m.newB b hb).1⟩
            clear hdm hgc her hx' e0 hfg ef
            go_wp2_with fail
            with_reducible refine HTK.out.mono ?_
            rintro e w2 ⟨T2, rfl, hm2, ht2, _, ho2⟩
            have HA2 : Hid (DrAt w2 w.heap.size S P x) := Lib.hid (HDM.out.a.onl ho2 (fun b hb hm => HDM.out.ne b hb hm))
            have HM2 := Lib.hid hm2
            have HNE2 : Hid (∀ k ∈ S, k ∉ T2) := Lib.hid (fun k hk hm => by
              rcases ht2 k hm with h1 | h1
              · exact HDM.out.ne k hk h1
              · have := (HDM.out.a.newB k hk).2
                omega)
            have HB2 : Hid (Below w.heap.size w w2) := Lib.hid (over_below HBY.out ho2 HSL.out.2)
            clear hm2 ht2 ho2 HTK HDM HBY HDUO HBW hzz
            go_wp2_with fail
            with_reducible refine (HTD.out _ HA2.out).mono ?_
            rintro e w3 ⟨S3, rfl, hd3, hs3, _, ho3⟩
            have HD3 : Hid (Duo w3 w.heap.size P M x' x') := Lib.hid (DuoM.takeA ⟨HA2.out, HM2.out, HNE2.out⟩ hd3 hs3 ho3)
            have HB3 : Hid (Below w.heap.size w w3) := Lib.hid (over_below HB2.out ho3 HSL.out.1)
            clear hd3 hs3 ho3 HTD HA2 HM2 HNE2 HB2 HSL
            go_wp2_with fail
            go_roundw
            case rel => exact ⟨j + 1, v + 1, x', by omega, by go_num, by go_num, by omega, HST.out, HD3.out, HB3.out⟩
            case measure => simp [intOf]; omega
        · obtain rfl : n = j := by omega
          obtain ⟨S, T', hdm⟩ := hdu
          have HA := Lib.hid (alike14 P _ c S M _ T' x _ hdm.a hdm.m HOX.out.inv)
          have HDU : Hid (Duo wr w.heap.size P M x x) := Lib.hid ⟨S, T', hdm⟩
          clear hdm hox
          go_wp2_with fail
          with_reducible refine HA.out.mono ?_
          rintro e w6 ⟨rfl, hb6⟩
          have HD6 := Lib.hid (HDU.out.below hb6)
          have HB6 := Lib.hid (below_via HBW.out hb6)
          clear hb6 HA HDU HBW
          go_wp2_with fail
          go_roundg (T - (t + 1))
          case rel => exact ⟨t + 1, v, x, by omega, rfl, by omega, HOX.out.tn, HD6.out, HB6.out⟩
          case measure => omega
    · rw [hov] at e6
      go_wp2_with fail
      with_reducible refine (known _).mono ?_
      rintro e w9 ⟨rfl, hb9⟩
      have HB9 := Lib.hid (below_via HBW.out hb9)
      clear hb9
      go_wp2_with fail
      go_returns
      exact ⟨rfl, HB9.out⟩

set_option maxRecDepth 100000 in
set_option maxHeartbeats 2000000 in
theorem whole4_big (v : Value) (ls : List (List (List Int))) (a1 : Option Addr) (c1 : Nat) (zs : List Int) (f : Nat) (w : World) (HS : Hid (Rw3 w v ls)) (HSM : Hid (small ls = false)) : Calls Try.prog 4 #[v, .slice a1 zs.length c1, .int .u8 (f : Int)] w fun e w' => e = .returned (.bool true) ∧ Below w.heap.size w w' := by
  go_enter Try.func4, Try.ntmps4
  go_wp2_with fail
  with_reducible refine (small8c _ ls false _ HS.out HSM.out).mono ?_
  rintro e w0 ⟨rfl, hb0⟩
  go_wp2_with fail
  with_reducible refine (known _).mono ?_
  rintro e w9 ⟨rfl, hb9⟩
  go_wp2_with fail
  go_returns
  exact ⟨rfl, below_via hb0 hb9⟩
set_option maxRecDepth 100000 in
set_option maxHeartbeats 2000000 in
theorem whole4_bad (v : Value) (ls : List (List (List Int))) (a1 : Option Addr) (c1 : Nat) (zs : List Int) (f : Nat) (w : World) (HS : Hid (Rw3 w v ls)) (HSM : Hid (small ls = true)) (HRT : Hid (right ls = false)) : Calls Try.prog 4 #[v, .slice a1 zs.length c1, .int .u8 (f : Int)] w fun e w' => e = .returned (.bool true) ∧ Below w.heap.size w w' := by
  go_enter Try.func4, Try.ntmps4
  go_wp2_with fail
  with_reducible refine (small8c _ ls true _ HS.out HSM.out).mono ?_
  rintro e w0 ⟨rfl, hb0⟩
  have HB0 := Lib.hid hb0
  clear hb0
  go_wp2_with fail
  with_reducible refine (right13c _ ls false _ (HS.out.below HB0.out) HRT.out).mono ?_
  rintro e w1 ⟨rfl, hb1⟩
  go_wp2_with fail
  with_reducible refine (known _).mono ?_
  rintro e w9 ⟨rfl, hb9⟩
  go_wp2_with fail
  go_returns
  exact ⟨rfl, below_via HB0.out (below_via hb1 hb9)⟩
set_option maxRecDepth 100000 in
set_option maxHeartbeats 2000000 in
theorem whole4_long (v : Value) (ls : List (List (List Int))) (a1 : Option Addr) (c1 : Nat) (zs : List Int) (f : Nat) (w : World) (HS : Hid (Rw3 w v ls)) (HSM : Hid (small ls = true)) (HRT : Hid (right ls = true)) (hlong : ¬ zs.length ≤ 300) : Calls Try.prog 4 #[v, .slice a1 zs.length c1, .int .u8 (f : Int)] w fun e w' => e = .returned (.bool true) ∧ Below w.heap.size w w' := by
  have qlong : decide ((zs.length : Int) > 300) = true := decide_eq_true (by omega)
  go_enter Try.func4, Try.ntmps4
  go_wp2_with fail
  with_reducible refine (small8c _ ls true _ HS.out HSM.out).mono ?_
  rintro e w0 ⟨rfl, hb0⟩
  have HB0 := Lib.hid hb0
  clear hb0
  go_wp2_with fail
  with_reducible refine (right13c _ ls true _ (HS.out.below HB0.out) HRT.out).mono ?_
  rintro e w1 ⟨rfl, hb1⟩
  go_wp2_with fail
  with_reducible refine (known _).mono ?_
  rintro e w9 ⟨rfl, hb9⟩
  go_wp2_with fail
  go_returns
  exact ⟨rfl, below_via HB0.out (below_via hb1 hb9)⟩
theorem whole4 (v : Value) (ls : List (List (List Int))) (a1 : Option Addr) (c1 : Nat) (zs : List Int) (f : Nat) (w : World) (hs : Rw3 w v ls) (hp : Seg w .u8 (.slice a1 zs.length c1) zs) (hw : ∀ z ∈ zs, 0 ≤ z ∧ z ≤ 255) (hf : f ≤ 255) : Calls Try.prog 4 #[v, .slice a1 zs.length c1, .int .u8 (f : Int)] w fun e w' => e = .returned (.bool true) ∧ Below w.heap.size w w' := by
  cases hsm : small ls
  · exact whole4_big v ls a1 c1 zs f w (Lib.hid hs) (Lib.hid hsm)
  · cases hrt : right ls
    · exact whole4_bad v ls a1 c1 zs f w (Lib.hid hs) (Lib.hid hsm) (Lib.hid hrt)
    · by_cases h3 : zs.length ≤ 300
      · exact whole4_ok v ls a1 c1 zs f w (Lib.hid hs) (Lib.hid hp) (Lib.hid hw) (Lib.hid hsm) (Lib.hid hrt) h3 hf
      · exact whole4_long v ls a1 c1 zs f w (Lib.hid hs) (Lib.hid hsm) (Lib.hid hrt) h3
end Go.Proofs.Yteocplabibhecaa
