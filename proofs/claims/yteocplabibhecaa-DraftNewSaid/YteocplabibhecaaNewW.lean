/- DraftNew: the walk. -/
import Derived.Test.YteocplabibhecaaAl
import Derived.Test.YteocplabibhecaaBg
import Derived.Test.YteocplabibhecaaRl
namespace Go.Proofs.Yteocplabibhecaa
open Go.RowKit Plain
set_option linter.unusedVariables false
set_option linter.unusedSimpArgs false

theorem rg3_11 {P : Program} {B n : Nat} {w0 : World} {L : List (Nat × Nat × Value)} {E F : World → Prop} {id : Nat} {Q : Exit → Act → World → Prop} {a : Act} {w : World} {o0 o1 o2 o3 o4 o5 o6 o7 o8 o9 o10 o11 o12 o13 o14 o15 : Oper} (hm : P.follows .mixedOrders = true)
    (hB : (Region.noSelect [o0, o1, o2, o3, o4, o5, o6, o7, o8, o9, o10, o11, o12, o13, o14, o15].toArray && Scr.ok .any [o0, o1, o2, o3, o4, o5, o6, o7, o8, o9, o10, o11, o12, o13, o14, o15].toArray [3, 6, 10, 13] [0, 1, 2, 4, 5, 7, 8, 9, 11, 12, 15] (.free 0 (.free 1 (.free 2 (.free 4 (.free 7 (.free 8 (.free 9 (.free 11 (.read 3 (.free 5 (.read 6 (.read 10 (.free 12 (.read 13 (.altc 14 (.free 15 .done) .stop))))))))))))))) true true [o0, o1, o2, o3, o4, o5, o6, o7, o8, o9, o10, o11, o12, o13, o14, o15].toArray.size (Array.replicate [o0, o1, o2, o3, o4, o5, o6, o7, o8, o9, o10, o11, o12, o13, o14, o15].toArray.size false)) = true)
    (k : Kept B w0 n L w) (he : E w) (hE : ∀ W W', E W → Below W.heap.size W W' → E W') (hf : F w) (hF : ∀ W W', F W → Below W.heap.size W W' → F W')
    (h : ∀ wk, Kept B w0 n L wk → E wk → F wk → wpQuiet P [o0, o1, o2, o3, o4, o5, o6, o7, o8, o9, o10, o11, o12, o13, o14, o15].toArray (fun _ => True) (fun a0 => wpQuiet P [o0, o1, o2, o3, o4, o5, o6, o7, o8, o9, o10, o11, o12, o13, o14, o15].toArray (fun w' => ∃ s : KX B w0 n L E, w' = s.val) (fun a1 => wpQuiet P [o0, o1, o2, o3, o4, o5, o6, o7, o8, o9, o10, o11, o12, o13, o14, o15].toArray (fun _ => True) (fun a2 => wpQuiet P [o0, o1, o2, o3, o4, o5, o6, o7, o8, o9, o10, o11, o12, o13, o14, o15].toArray (fun w' => ∃ s : KX B w0 n L E, w' = s.val) (fun a3 => wpQuiet P [o0, o1, o2, o3, o4, o5, o6, o7, o8, o9, o10, o11, o12, o13, o14, o15].toArray (fun _ => True) (fun a4 => wpQuiet P [o0, o1, o2, o3, o4, o5, o6, o7, o8, o9, o10, o11, o12, o13, o14, o15].toArray (fun w' => ∃ s : KX B w0 n L E, w' = s.val) (fun a5 => ((∀ K6 : Act → World → Prop, (∀ a6 w6, wpQuiet P [o0, o1, o2, o3, o4, o5, o6, o7, o8, o9, o10, o11, o12, o13, o14, o15].toArray (fun _ => True) (fun a7 => Q .normal a7 w6) [o15] a6 → K6 a6 w6) → wpList P [o0, o1, o2, o3, o4, o5, o6, o7, o8, o9, o10, o11, o12, o13, o14, o15].toArray (fun e a6 w6 => e = .normal ∧ K6 a6 w6) [o14] a5 wk) ∧ True)) [o13] a4) [o12] a3) [o6, o10] a2) [o5] a1) [o3] a0) [o0, o1, o2, o4, o7, o8, o9, o11] a) : (Code.region id [o0, o1, o2, o3, o4, o5, o6, o7, o8, o9, o10, o11, o12, o13, o14, o15].toArray true).wp P Q a w := by
  have e1 : E w.drew := hE _ _ he ((Below.refl _ _).drew)
  have g := h _ k.drew e1 (hF _ _ hf ((Below.refl _ _).drew))
  exact wp_region_scr (U := (fun w' => ∃ s : KX B w0 n L E, w' = s.val)) (ops := [o0, o1, o2, o3, o4, o5, o6, o7, o8, o9, o10, o11, o12, o13, o14, o15].toArray) (.free 0 (.free 1 (.free 2 (.free 4 (.free 7 (.free 8 (.free 9 (.free 11 (.read 3 (.free 5 (.read 6 (.read 10 (.free 12 (.read 13 (.altc 14 (.free 15 .done) .stop))))))))))))))) [3, 6, 10, 13] [0, 1, 2, 4, 5, 7, 8, 9, 11, 12, 15] hm hB ⟨⟨_, k.drew, e1⟩, rfl⟩ (Scr.of_free rfl g (fun _ g0 => Scr.of_free rfl g0 (fun _ g1 => Scr.of_free rfl g1 (fun _ g2 => Scr.of_free rfl g2 (fun _ g3 => Scr.of_free rfl g3 (fun _ g4 => Scr.of_free rfl g4 (fun _ g5 => Scr.of_free rfl g5 (fun _ g6 => Scr.of_free rfl g6 (fun _ g7 => Scr.of_read rfl g7 (fun _ g8 => Scr.of_free rfl g8 (fun _ g9 => Scr.of_read rfl g9 (fun _ g10 => Scr.of_read rfl g10 (fun _ g11 => Scr.of_free rfl g11 (fun _ g12 => Scr.of_read rfl g12 (fun _ g13 => (Scr.of_altc rfl (g13.1 _ (fun _ _ g => g)) (fun _ _ g14 => Scr.of_free rfl g14 (fun _ g15 => g15)) trivial))))))))))))))))
theorem MxM.base {w : World} {b b' : Nat} {so : Sl} {rvs : List Sl} {vss : List (List Sl)} {ls : List (List (List Int))} (h : MxM w b so rvs vss ls) (hb : b' ≤ b) : MxM w b' so rvs vss ls :=
  ⟨h.out, h.rows, h.mat, fun x hx => Nat.le_trans hb (h.bo x hx), fun s hs x hx => Nat.le_trans hb (h.br s hs x hx), fun i k s x hs hx => Nat.le_trans hb (h.bi i k s x hs hx)⟩
theorem MxM.pk {w : World} {base : Nat} {so : Sl} {rvs : List Sl} {vss : List (List Sl)} {ls : List (List (List Int))} (h : MxM w base so rvs vss ls) {i k : Nat} {l : List Int} (hl : at2 ls i k = some l) : ∃ ob rb rc pa pc, PkC w so rvs vss ((vss.getD i []).length) i k l ob rb rc pa pc := by
  obtain ⟨r, hr, hk⟩ := at2_row hl
  obtain ⟨vs, hvs, hvl⟩ := h.mat.getr hr
  have hri : i < rvs.length := by rw [h.rows.len]; exact (List.getElem?_eq_some_iff.1 hvs).1
  have hrv := List.getElem?_eq_getElem hri
  obtain ⟨g, hg, g0, gn, gl, gb, gc, _⟩ := h.out.cell1 vc1 hrv
  have hkv : k < vs.length := by rw [hvl]; exact (List.getElem?_eq_some_iff.1 hk).1
  have hpv := List.getElem?_eq_getElem hkv
  have ho2 := h.rows.row i rvs[i] vs hrv hvs
  obtain ⟨g2, q1, q2, q3, q4, q5, q6, _⟩ := ho2.cell1 vc1 hpv
  have ho3 := h.mat.row i k vs[k] l (at2_of hvs hpv) hl
  have e3 := oe_slice ho3
  have hn : vs.length = (vss.getD i []).length := by rw [getD_lt hvs]
  have e4 : rvs[i] = ⟨some ⟨g2, 0, none⟩, (vss.getD i []).length, rvs[i].c⟩ := by
    have : rvs[i] = ⟨rvs[i].a, rvs[i].n, rvs[i].c⟩ := rfl
    rw [this, q1, q3, hn]
  have e5 : vs[k] = ⟨vs[k].a, l.length, vs[k].c⟩ := by
    have h1 : vs[k] = ⟨vs[k].a, vs[k].n, vs[k].c⟩ := rfl
    have h2 : vs[k].n = l.length := by
      unfold Sl.v at e3
      simp only [Value.slice.injEq] at e3
      exact e3.2.1
    rw [← h2]
  refine ⟨g, g2, rvs[i].c, vs[k].a, vs[k].c, hg, gl, ?_, q4, ?_, ?_, ?_, ?_, q2, ?_, gb⟩
  · rw [gc, e4]; rfl
  · rw [q6, e5]; rfl
  · rw [← e3]; exact ho3
  · rw [hrv]; exact congrArg some e4
  · rw [at2_of hvs hpv]; exact congrArg some e5
  · have : (Value.slice (some ⟨g2, 0, none⟩) (vss.getD i []).length rvs[i].c) = rvs[i].v := (congrArg Sl.v e4).symm
    rw [this]
    exact q5
theorem rlen_of {w w1 : World} {b b1 : Nat} {so : Sl} {rvs : List Sl} {vss : List (List Sl)} {lsx ls : List (List (List Int))} (h : MxM w b so rvs vss lsx) (h1 : MxM w1 b1 so rvs vss ls) {i : Nat} {r : List (List Int)} (hr : ls[i]? = some r) {x : Sl} (hx : rvs[i]? = some x) : (vss.getD i []).length = r.length := by
  obtain ⟨vs, hvs, hvl⟩ := h1.mat.getr hr
  rw [getD_lt hvs, hvl]
theorem set2_same {α : Type} {l : List (List α)} {i k : Nat} {x : α} (h : at2 l i k = some x) : set2 l i k x = l := by
  obtain ⟨r, hr, hk⟩ := at2_row h
  rw [set2_eq hr, set_same hk, set_same hr]
theorem set2_set2 {α : Type} {l : List (List α)} {i k : Nat} {x y : α} : set2 (set2 l i k x) i k y = set2 l i k y := by
  apply List.ext_getElem?
  intro j
  rw [set2_row, set2_row, set2_row]
  split
  · cases l[j]? with
    | none => rfl
    | some r => simp
  · rfl
theorem MxM.seti {w : World} {base : Nat} {so : Sl} {rvs : List Sl} {vss : List (List Sl)} {ls : List (List (List Int))} (h : MxM w base so rvs vss ls) {i k g : Nat} {s : Sl} {l' : List Int} (hs : at2 vss i k = some s) (hg : blk s.v = some g) (w' : World) (ho : Onl [g] w w') (hr : Oe ic 3 w' s.v l') : MxM w' base so rvs vss (set2 ls i k l') := by
  obtain ⟨l, _, hro⟩ := h.mat.of hs
  have ht : Ty w (some g) 3 := hro.ty hg
  have hm := h.mat.set (S := [g]) i k s s l' hs ho (fun b hb => by simp at hb; subst hb; exact .inr hg) hr (fun b hb => .inl hb)
  rw [set2_same hs] at hm
  exact ⟨h.out.onlT ho ht (by decide), h.rows.onlT ho ht (by decide), hm, h.bo, h.br, h.bi⟩
def DnRel (w w1 w2 : World) (so : Sl) (rvs : List Sl) (vss : List (List Sl)) (ls : List (List (List Int))) (s : Value) (wr : World) : Prop := ∃ (i : Nat) (lsx : List (List (List Int))), i ≤ ls.length ∧ s = .int .i64 i ∧ MxM wr w.heap.size so rvs vss lsx ∧ (∀ i' k', i ≤ i' → at2 lsx i' k' = at2 ls i' k') ∧ Onl (since w.heap.size w1.heap.size) w2 wr
def DkRel (w w1 w2 : World) (so : Sl) (rvs : List Sl) (vss : List (List Sl)) (ls : List (List (List Int))) (i n : Nat) (s : Value) (wr : World) : Prop := ∃ (k : Nat) (lsx : List (List (List Int))), k ≤ n ∧ s = .int .i64 k ∧ MxM wr w.heap.size so rvs vss lsx ∧ (∀ i' k', (i < i' ∨ (i' = i ∧ k ≤ k')) → at2 lsx i' k' = at2 ls i' k') ∧ Onl (since w.heap.size w1.heap.size) w2 wr
def DjRel (w w1 w2 : World) (so : Sl) (rvs : List Sl) (vss : List (List Sl)) (lsx : List (List (List Int))) (i k n : Nat) (s : Value) (wr : World) : Prop := ∃ (j : Nat) (l' : List Int), j ≤ n ∧ l'.length = n ∧ s = .int .i64 j ∧ MxM wr w.heap.size so rvs vss (set2 lsx i k l') ∧ Onl (since w.heap.size w1.heap.size) w2 wr
set_option maxRecDepth 100000 in
set_option maxHeartbeats 2000000 in
theorem new3_big (v : Value) (ls : List (List (List Int))) (w : World) (HS : Hid (Rw3 w v ls)) (HSM : Hid (small ls = false)) : Calls Try.prog 3 #[v] w fun e w' => e = .returned (.bool true) ∧ Below w.heap.size w w' := by
  go_enter Try.func3, Try.ntmps3
  go_wp2_with fail
  with_reducible refine (small8c _ ls false _ HS.out HSM.out).mono ?_
  rintro e w0 ⟨rfl, hb0⟩
  go_wp2_with fail
  with_reducible refine (known _).mono ?_
  rintro e w1 ⟨rfl, hb1⟩
  go_wp2_with fail
  go_returns
  exact ⟨rfl, below_via hb0 hb1⟩
set_option maxRecDepth 100000 in
set_option maxHeartbeats 8000000 in
theorem new3_bad (v : Value) (ls : List (List (List Int))) (w : World) (HS : Hid (Rw3 w v ls)) (HSM : Hid (small ls = true)) (HRT : Hid (right ls = false)) : Calls Try.prog 3 #[v] w fun e w' => e = .returned (.bool true) ∧ Below w.heap.size w w' := by
  obtain ⟨m1, a1, c1, rfl, f1⟩ := HS.out.at
  have F1 := Lib.hid f1
  have h6 := (small_at HSM.out).1
  clear f1
  go_enter Try.func3, Try.ntmps3
  go_wp2_with fail
  with_reducible refine (small8c _ ls true _ HS.out HSM.out).mono ?_
  rintro e w0 ⟨rfl, hb0⟩
  have HB0 := Lib.hid hb0
  clear hb0
  go_wp2_with fail
  with_reducible refine (own10 _ ls _ (HS.out.below HB0.out) HSM.out).mono ?_
  rintro e w1 ⟨so, rvs, vss, he, hmx, hb1⟩
  replace hmx := hmx.base HB0.out.size
  replace hb1 := below_via HB0.out hb1
  have hse : so.v = .slice so.a ls.length so.c := by
    have h := oe_slice hmx.out
    rw [hmx.rows.len, hmx.mat.len] at h
    exact h
  rw [hse] at he
  subst he
  have HMX := Lib.hid hmx
  have HB1 := Lib.hid hb1
  have HIN : Hid (∀ i k s b, at2 vss i k = some s → blk s.v = some b → b ∈ since w.heap.size w1.heap.size) := Lib.hid (fun i k s b h1 h2 => mem_since.2 ⟨hmx.bi i k s b h1 h2, hmx.mat.lt h1 h2⟩)
  have HR3 : Hid (Rw3 w1 (.slice so.a ls.length so.c) ls) := Lib.hid (by rw [← hse]; exact hmx.rw3)
  clear hmx hb1 hse HB0
  go_wp2_with fail
  with_reducible refine (new11_bad _ ls _ HR3.out HRT.out).mono ?_
  rintro e w2 ⟨rfl, hb2⟩
  have HB12 := Lib.hid hb2
  have HB2 := Lib.hid (below_via HB1.out hb2)
  clear hb2
  go_wp2_with fail
  go_loopw [6] (fun s wr => DnRel w w1 w2 so rvs vss ls s wr) (fun s _ => ls.length - (intOf s).toNat)
  case atStart => exact ⟨0, ls, Nat.zero_le _, rfl, HMX.out.below HB12.out, fun _ _ _ => rfl, Onl.refl _ _⟩
  case round =>
    obtain ⟨i, lsx, hi, rfl, hm, hag, ho⟩ := hrel
    have HMI := Lib.hid hm
    have HAGI := Lib.hid hag
    have HOI := Lib.hid ho
    have HBI : Hid (Below w.heap.size w wr) := Lib.hid (HB2.out.trans (ho.below' (fun b hb => (mem_since.1 hb).1) HB2.out.size))
    have hzz := HBI.out.size
    clear hm hag ho
    by_cases hil : i < ls.length
    · obtain ⟨r, hr⟩ : ∃ r, ls[i]? = some r := ⟨_, List.getElem?_eq_getElem hil⟩
      have HR := Lib.hid hr
      obtain ⟨b1, o1, rfl, hb1, hc1⟩ := F1.out (by omega)
      obtain ⟨a2, c2, e1, hr2⟩ := hc1 i r hr
      obtain ⟨m2, f2⟩ := hr2.fm
      have F2 := Lib.hid f2
      have E1 := Lib.hid e1
      have i1 : (0 : Int) ≤ (i : Int) := by omega
      have i2 : (i : Int) < (ls.length : Int) := by omega
      obtain ⟨wo, rfl⟩ : ∃ wo, wo = wr := ⟨_, rfl⟩
      have e1 := (HBI.out.cell (p := ⟨b1, o1 + i, none⟩) hb1).trans e1
      clear hr hc1 hr2 f2
      go_wp2_with fail
      go_loopw [7] (fun s wr => DkRel w w1 w2 so rvs vss ls i r.length s wr) (fun s _ => r.length - (intOf s).toNat)
      case atStart => exact ⟨0, lsx, Nat.zero_le _, rfl, HMI.out, fun i' k' h => HAGI.out i' k' (by omega), HOI.out⟩
      case round =>
        clear e1 HMI HAGI HOI HBI hzz
        obtain ⟨k, lsx, hk, rfl, hm, hag, ho⟩ := hrel
        have HBK : Hid (Below w.heap.size w wr) := Lib.hid (HB2.out.trans (ho.below' (fun b hb => (mem_since.1 hb).1) HB2.out.size))
        have hzz := HBK.out.size
        have hb1r : b1 < wr.heap.size := by omega
        have e1 := (HBK.out.cell (p := ⟨b1, o1 + i, none⟩) hb1).trans E1.out
        have HO := Lib.hid ho
        have HAG := Lib.hid hag
        have HM := Lib.hid hm
        by_cases hkl : k < r.length
        · obtain ⟨p, hp⟩ : ∃ p, r[k]? = some p := ⟨_, List.getElem?_eq_getElem hkl⟩
          obtain ⟨b2, o2, rfl, hb2, hc2⟩ := F2.out (by omega)
          obtain ⟨a3, c3, e2, hp2⟩ := hc2 k p hp
          have e2 := (HBK.out.cell (p := ⟨b2, o2 + k, none⟩) hb2).trans e2
          have hb2r : b2 < wr.heap.size := by omega
          have hat : at2 lsx i k = some p := by rw [hag i k (.inr ⟨rfl, Nat.le_refl _⟩)]; exact at2_of HR.out hp
          obtain ⟨ob, rb, rc, pa, pc, hk'⟩ := hm.pk hat
          have HOA := Lib.hid hk'.oa
          have e_o := hk'.oc
          rw [rlen_of hm HMX.out HR.out hk'.rv] at e_o
          have hol := hk'.ol
          have e_r := hk'.rcell
          have hrl := hk'.rl
          have HRV := Lib.hid hk'.rv
          have HPR := Lib.hid (hk'.row.rw ic_len)
          have HPQ := Lib.hid (hp2.below HBK.out)
          have HAT := Lib.hid hat
          have HKL := Lib.hid hkl
          have hr10 := ((small_at HSM.out).2 i r HR.out).1
          have hp20 := ((small_at HSM.out).2 i r HR.out).2 k p hp
          have j1 : (0 : Int) ≤ (k : Int) := by omega
          have j2 : (k : Int) < (r.length : Int) := by omega
          clear hp hc2 hp2 hk' hat hm hag ho
          rw [HOA.out]
          go_wp2_with fail
          refine rg3_11 (w0 := wr) (B := wr.heap.size) (n := wr.heap.size) (L := []) (E := fun _ => True) (F := fun _ => True) (by kernel_rfl) (by kernel_rfl) ⟨by go_grown, by go_size, (by simp [go_sem] <;> omega)⟩ trivial (fun _ _ _ _ => trivial) trivial (fun _ _ _ _ => trivial) (fun w21 K_w21 E_w21 F_w21 => ?_)
          have _ne : Nonempty (KX (wr.heap.size) wr (wr.heap.size) [] (fun _ => True)) := ⟨⟨_, K_w21, E_w21⟩⟩
          repeat (go_big_quiet_step (fail))
          refine wpQuiet_nil ?_
          have rx0 : ∀ s : KX (wr.heap.size) wr (wr.heap.size) [] (fun _ => True), s.val.cell? ⟨ob, i, none⟩ = some (.slice (some ⟨rb, 0, none⟩) r.length rc) := fun s => (s.kept.below.cell (p := ⟨ob, i, none⟩) hol).trans e_o
          have rx1 : ∀ s : KX (wr.heap.size) wr (wr.heap.size) [] (fun _ => True), s.val.cell? ⟨rb, k, none⟩ = some (.slice pa p.length pc) := fun s => (s.kept.below.cell (p := ⟨rb, k, none⟩) hrl).trans e_r
          have rx2 : ∀ s : KX (wr.heap.size) wr (wr.heap.size) [] (fun _ => True), s.val.cell? ⟨b1, o1 + i, none⟩ = some (.slice (some ⟨b2, o2, none⟩) r.length c2) := fun s => (s.kept.below.cell (p := ⟨b1, o1 + i, none⟩) hb1r).trans e1
          have rx3 : ∀ s : KX (wr.heap.size) wr (wr.heap.size) [] (fun _ => True), s.val.cell? ⟨b2, o2 + k, none⟩ = some (.slice a3 p.length c3) := fun s => (s.kept.below.cell (p := ⟨b2, o2 + k, none⟩) hb2r).trans e2
          repeat (go_big_quiet_step (fail))
          refine wpQuiet_nil ?_
          clear rx0 rx1 rx2 rx3
          repeat (go_big_quiet_step (fail))
          refine wpQuiet_nil ?_
          have rx0 : ∀ s : KX (wr.heap.size) wr (wr.heap.size) [] (fun _ => True), s.val.cell? ⟨ob, i, none⟩ = some (.slice (some ⟨rb, 0, none⟩) r.length rc) := fun s => (s.kept.below.cell (p := ⟨ob, i, none⟩) hol).trans e_o
          have rx1 : ∀ s : KX (wr.heap.size) wr (wr.heap.size) [] (fun _ => True), s.val.cell? ⟨rb, k, none⟩ = some (.slice pa p.length pc) := fun s => (s.kept.below.cell (p := ⟨rb, k, none⟩) hrl).trans e_r
          have rx2 : ∀ s : KX (wr.heap.size) wr (wr.heap.size) [] (fun _ => True), s.val.cell? ⟨b1, o1 + i, none⟩ = some (.slice (some ⟨b2, o2, none⟩) r.length c2) := fun s => (s.kept.below.cell (p := ⟨b1, o1 + i, none⟩) hb1r).trans e1
          have rx3 : ∀ s : KX (wr.heap.size) wr (wr.heap.size) [] (fun _ => True), s.val.cell? ⟨b2, o2 + k, none⟩ = some (.slice a3 p.length c3) := fun s => (s.kept.below.cell (p := ⟨b2, o2 + k, none⟩) hb2r).trans e2
          repeat (go_big_quiet_step (fail))
          refine wpQuiet_nil ?_
          clear rx0 rx1 rx2 rx3
          repeat (go_big_quiet_step (fail))
          refine wpQuiet_nil ?_
          have rx0 : ∀ s : KX (wr.heap.size) wr (wr.heap.size) [] (fun _ => True), s.val.cell? ⟨ob, i, none⟩ = some (.slice (some ⟨rb, 0, none⟩) r.length rc) := fun s => (s.kept.below.cell (p := ⟨ob, i, none⟩) hol).trans e_o
          have rx1 : ∀ s : KX (wr.heap.size) wr (wr.heap.size) [] (fun _ => True), s.val.cell? ⟨rb, k, none⟩ = some (.slice pa p.length pc) := fun s => (s.kept.below.cell (p := ⟨rb, k, none⟩) hrl).trans e_r
          have rx2 : ∀ s : KX (wr.heap.size) wr (wr.heap.size) [] (fun _ => True), s.val.cell? ⟨b1, o1 + i, none⟩ = some (.slice (some ⟨b2, o2, none⟩) r.length c2) := fun s => (s.kept.below.cell (p := ⟨b1, o1 + i, none⟩) hb1r).trans e1
          have rx3 : ∀ s : KX (wr.heap.size) wr (wr.heap.size) [] (fun _ => True), s.val.cell? ⟨b2, o2 + k, none⟩ = some (.slice a3 p.length c3) := fun s => (s.kept.below.cell (p := ⟨b2, o2 + k, none⟩) hb2r).trans e2
          repeat (go_big_quiet_step (fail))
          refine wpQuiet_nil ?_
          clear rx0 rx1 rx2 rx3
          have KH_w21 := Lib.hid K_w21
          have hw_w21 := K_w21.below
          have hz_w21 := K_w21.size
          clear K_w21
          clear E_w21 F_w21
          refine ⟨fun K hK0 => ?_, trivial⟩
          have hK := Lib.hid hK0
          clear hK0
          go_wp2_with fail
          with_reducible refine (ints12c _ _ p p _ (HPR.out.below hw_w21) (HPQ.out.below hw_w21) rfl).mono ?_
          rintro e w22 ⟨rfl, hb_w22⟩
          have hbq := below_via hw_w21 hb_w22
          clear hb_w22
          go_wp2_with fail
          first | (refine ⟨rfl, hK.out _ _ ?_⟩; clear hK K) | (refine hK.out _ _ ?_; clear hK K)
          repeat (go_big_quiet_step (fail))
          refine wpQuiet_nil ?_
          clear _ne
          obtain ⟨wq, rfl⟩ : ∃ W, W = w22 := ⟨_, rfl⟩
          have HMQ := Lib.hid (HM.out.below hbq)
          have HOQ := Lib.hid (HO.out.grow hbq)
          clear hbq hw_w21 KH_w21 e_o e_r e1 e2 HPR HPQ
          go_wp2_with fail
          go_loopw [8] (fun s wr => DjRel w w1 w2 so rvs vss lsx i k p.length s wr) (fun s _ => p.length - (intOf s).toNat)
          case atStart => exact ⟨0, p, Nat.zero_le _, rfl, rfl, by rw [set2_same HAT.out]; exact HMQ.out, HOQ.out⟩
          case round =>
            clear HMQ HOQ
            obtain ⟨j, l', hj, hl', rfl, hmj, hoj⟩ := hrel
            have hat' : at2 (set2 lsx i k l') i k = some l' := at2_set2_self HAT.out
            obtain ⟨ob', rb', rc', pa', pc', hk'⟩ := hmj.pk hat'
            obtain rfl : ob = ob' := by have h := hk'.oa; rw [HOA.out] at h; simpa using h
            have hrv := hk'.rv
            rw [HRV.out] at hrv
            simp only [Option.some.injEq, Sl.mk.injEq, Addr.mk.injEq, and_true] at hrv
            obtain ⟨rfl, _, rfl⟩ := hrv
            have e_o := hk'.oc
            rw [rlen_of hmj HMX.out HR.out hk'.rv] at e_o
            have e_r := hk'.rcell
            rw [hl'] at e_r
            have HMJ := Lib.hid hmj
            have HOJ := Lib.hid hoj
            have hol := hk'.ol
            have hrl := hk'.rl
            have HROW := Lib.hid hk'.row
            have HPV := Lib.hid hk'.pv
            clear hk' hat' hmj hoj
            by_cases hjl : j < p.length
            · obtain ⟨z, hz⟩ : ∃ z, l'[j]? = some z := ⟨_, List.getElem?_eq_getElem (show j < l'.length by omega)⟩
              obtain ⟨g, hg, _, _, hgl, hgb, hgc, _⟩ := Oe.cell1 (s := ⟨pa', l'.length, pc'⟩) ic1 HROW.out hz
              change pa' = _ at hg
              subst hg
              have hgf : wr.frozen? ⟨g, j, none⟩ = false := ty_frozen (HROW.out.ty hgb) _
              have l1 : (0 : Int) ≤ (j : Int) := by omega
              have l2 : (j : Int) < (p.length : Int) := by omega
              have HGB := Lib.hid hgb
              have HMN : Hid (MxM (wr.setCell ⟨g, j, none⟩ (.int .i64 (wrap64 (z + 1)))) w.heap.size so rvs vss (set2 lsx i k (l'.set j (wrap64 (z + 1))))) := Lib.hid (by
                have h := HMJ.out.seti HPV.out hgb (l' := l'.set j (wrap64 (z + 1))) (wr.setCell ⟨g, j, none⟩ (.int .i64 (wrap64 (z + 1)))) ((Onl.refl _ _).setCell (.inl (by simp)) _) (Ow.set1 HROW.out (fun _ => rfl) rfl j _ _ rfl)
                rwa [set2_set2] at h)
              have HON : Hid (Onl (since w.heap.size w1.heap.size) w2 (wr.setCell ⟨g, j, none⟩ (.int .i64 (wrap64 (z + 1))))) := Lib.hid (HOJ.out.setCell (q := ⟨g, j, none⟩) (.inl (HIN.out _ _ _ _ HPV.out HGB.out)) _)
              clear hz hgb
              go_wp2_with fail
              go_roundw
              case rel => exact ⟨j + 1, l'.set j (wrap64 (z + 1)), by omega, by rw [List.length_set]; exact hl', by go_num, HMN.out, HON.out⟩
              case measure => simp [intOf]; omega
            · obtain rfl : j = p.length := by omega
              have HAG2 : Hid (∀ i' k', (i < i' ∨ (i' = i ∧ k + 1 ≤ k')) → at2 (set2 lsx i k l') i' k' = at2 ls i' k') := Lib.hid (fun i' k' h => by
                rw [at2_set2_ne _ _ (by intro e; simp at e; omega)]
                exact HAG.out i' k' (by omega))
              clear hj hjl
              go_wp2_with fail
              go_roundw
              case rel => exact ⟨k + 1, _, by have := HKL.out; omega, by go_num, HMJ.out, HAG2.out, HOJ.out⟩
              case measure => simp [intOf]; omega

        · obtain rfl : k = r.length := by omega
          have HAG2 : Hid (∀ i' k', i + 1 ≤ i' → at2 lsx i' k' = at2 ls i' k') := Lib.hid (fun i' k' h => HAG.out i' k' (by omega))
          clear hm hag ho
          go_wp2_with fail
          go_roundw
          case rel => exact ⟨i + 1, lsx, by omega, by go_num, HM.out, HAG2.out, HO.out⟩
          case measure => simp [intOf]; omega
    · obtain rfl : i = ls.length := by omega
      go_wp2_with fail
      with_reducible refine (right13c _ ls false _ (HS.out.below HBI.out) HRT.out).mono ?_
      rintro e w5 ⟨rfl, hb5⟩
      go_wp2_with fail
      with_reducible refine (known _).mono ?_
      rintro e w6 ⟨rfl, hb6⟩
      go_wp2_with fail
      go_returns
      exact ⟨rfl, below_via HBI.out (below_via hb5 hb6)⟩

set_option maxRecDepth 100000 in
set_option maxHeartbeats 8000000 in
theorem new3_ok (v : Value) (ls : List (List (List Int))) (w : World) (HS : Hid (Rw3 w v ls)) (HSM : Hid (small ls = true)) (HRT : Hid (right ls = true)) : Calls Try.prog 3 #[v] w fun e w' => e = .returned (.bool true) ∧ Below w.heap.size w w' := by
  obtain ⟨m1, a1, c1, rfl, f1⟩ := HS.out.at
  have F1 := Lib.hid f1
  have h6 := (small_at HSM.out).1
  clear f1
  go_enter Try.func3, Try.ntmps3
  go_wp2_with fail
  with_reducible refine (small8c _ ls true _ HS.out HSM.out).mono ?_
  rintro e w0 ⟨rfl, hb0⟩
  have HB0 := Lib.hid hb0
  clear hb0
  go_wp2_with fail
  with_reducible refine (own10 _ ls _ (HS.out.below HB0.out) HSM.out).mono ?_
  rintro e w1 ⟨so, rvs, vss, he, hmx, hb1⟩
  replace hmx := hmx.base HB0.out.size
  replace hb1 := below_via HB0.out hb1
  have hse : so.v = .slice so.a ls.length so.c := by
    have h := oe_slice hmx.out
    rw [hmx.rows.len, hmx.mat.len] at h
    exact h
  rw [hse] at he
  subst he
  have HMX := Lib.hid hmx
  have HB1 := Lib.hid hb1
  have HIN : Hid (∀ i k s b, at2 vss i k = some s → blk s.v = some b → b ∈ since w.heap.size w1.heap.size) := Lib.hid (fun i k s b h1 h2 => mem_since.2 ⟨hmx.bi i k s b h1 h2, hmx.mat.lt h1 h2⟩)
  have HR3 : Hid (Rw3 w1 (.slice so.a ls.length so.c) ls) := Lib.hid (by rw [← hse]; exact hmx.rw3)
  clear hmx hb1 hse HB0
  go_wp2_with fail
  with_reducible refine (new11 _ ls _ HR3.out HRT.out).mono ?_
  rintro e w2 ⟨P, S, rfl, hd, hb2⟩
  have HD := Lib.hid hd
  have HB12 := Lib.hid hb2
  have HB2 := Lib.hid (below_via HB1.out hb2)
  clear hb2 hd
  go_wp2_with fail
  go_loopw [6] (fun s wr => DnRel w w1 w2 so rvs vss ls s wr) (fun s _ => ls.length - (intOf s).toNat)
  case atStart => exact ⟨0, ls, Nat.zero_le _, rfl, HMX.out.below HB12.out, fun _ _ _ => rfl, Onl.refl _ _⟩
  case round =>
    obtain ⟨i, lsx, hi, rfl, hm, hag, ho⟩ := hrel
    have HMI := Lib.hid hm
    have HAGI := Lib.hid hag
    have HOI := Lib.hid ho
    have HBI : Hid (Below w.heap.size w wr) := Lib.hid (HB2.out.trans (ho.below' (fun b hb => (mem_since.1 hb).1) HB2.out.size))
    have hzz := HBI.out.size
    clear hm hag ho
    by_cases hil : i < ls.length
    · obtain ⟨r, hr⟩ : ∃ r, ls[i]? = some r := ⟨_, List.getElem?_eq_getElem hil⟩
      have HR := Lib.hid hr
      obtain ⟨b1, o1, rfl, hb1, hc1⟩ := F1.out (by omega)
      obtain ⟨a2, c2, e1, hr2⟩ := hc1 i r hr
      obtain ⟨m2, f2⟩ := hr2.fm
      have F2 := Lib.hid f2
      have E1 := Lib.hid e1
      have i1 : (0 : Int) ≤ (i : Int) := by omega
      have i2 : (i : Int) < (ls.length : Int) := by omega
      obtain ⟨wo, rfl⟩ : ∃ wo, wo = wr := ⟨_, rfl⟩
      have e1 := (HBI.out.cell (p := ⟨b1, o1 + i, none⟩) hb1).trans e1
      clear hr hc1 hr2 f2
      go_wp2_with fail
      go_loopw [7] (fun s wr => DkRel w w1 w2 so rvs vss ls i r.length s wr) (fun s _ => r.length - (intOf s).toNat)
      case atStart => exact ⟨0, lsx, Nat.zero_le _, rfl, HMI.out, fun i' k' h => HAGI.out i' k' (by omega), HOI.out⟩
      case round =>
        clear e1 HMI HAGI HOI HBI hzz
        obtain ⟨k, lsx, hk, rfl, hm, hag, ho⟩ := hrel
        have HBK : Hid (Below w.heap.size w wr) := Lib.hid (HB2.out.trans (ho.below' (fun b hb => (mem_since.1 hb).1) HB2.out.size))
        have hzz := HBK.out.size
        have hb1r : b1 < wr.heap.size := by omega
        have e1 := (HBK.out.cell (p := ⟨b1, o1 + i, none⟩) hb1).trans E1.out
        have HO := Lib.hid ho
        have HAG := Lib.hid hag
        have HM := Lib.hid hm
        by_cases hkl : k < r.length
        · obtain ⟨p, hp⟩ : ∃ p, r[k]? = some p := ⟨_, List.getElem?_eq_getElem hkl⟩
          obtain ⟨b2, o2, rfl, hb2, hc2⟩ := F2.out (by omega)
          obtain ⟨a3, c3, e2, hp2⟩ := hc2 k p hp
          have e2 := (HBK.out.cell (p := ⟨b2, o2 + k, none⟩) hb2).trans e2
          have hb2r : b2 < wr.heap.size := by omega
          have hat : at2 lsx i k = some p := by rw [hag i k (.inr ⟨rfl, Nat.le_refl _⟩)]; exact at2_of HR.out hp
          obtain ⟨ob, rb, rc, pa, pc, hk'⟩ := hm.pk hat
          have HOA := Lib.hid hk'.oa
          have e_o := hk'.oc
          rw [rlen_of hm HMX.out HR.out hk'.rv] at e_o
          have hol := hk'.ol
          have e_r := hk'.rcell
          have hrl := hk'.rl
          have HRV := Lib.hid hk'.rv
          have HPR := Lib.hid (hk'.row.rw ic_len)
          have HPQ := Lib.hid (hp2.below HBK.out)
          have HAT := Lib.hid hat
          have HKL := Lib.hid hkl
          have hr10 := ((small_at HSM.out).2 i r HR.out).1
          have hp20 := ((small_at HSM.out).2 i r HR.out).2 k p hp
          have j1 : (0 : Int) ≤ (k : Int) := by omega
          have j2 : (k : Int) < (r.length : Int) := by omega
          clear hp hc2 hp2 hk' hat hm hag ho
          rw [HOA.out]
          go_wp2_with fail
          refine rg3_11 (w0 := wr) (B := wr.heap.size) (n := wr.heap.size) (L := []) (E := fun _ => True) (F := fun _ => True) (by kernel_rfl) (by kernel_rfl) ⟨by go_grown, by go_size, (by simp [go_sem] <;> omega)⟩ trivial (fun _ _ _ _ => trivial) trivial (fun _ _ _ _ => trivial) (fun w21 K_w21 E_w21 F_w21 => ?_)
          have _ne : Nonempty (KX (wr.heap.size) wr (wr.heap.size) [] (fun _ => True)) := ⟨⟨_, K_w21, E_w21⟩⟩
          repeat (go_big_quiet_step (fail))
          refine wpQuiet_nil ?_
          have rx0 : ∀ s : KX (wr.heap.size) wr (wr.heap.size) [] (fun _ => True), s.val.cell? ⟨ob, i, none⟩ = some (.slice (some ⟨rb, 0, none⟩) r.length rc) := fun s => (s.kept.below.cell (p := ⟨ob, i, none⟩) hol).trans e_o
          have rx1 : ∀ s : KX (wr.heap.size) wr (wr.heap.size) [] (fun _ => True), s.val.cell? ⟨rb, k, none⟩ = some (.slice pa p.length pc) := fun s => (s.kept.below.cell (p := ⟨rb, k, none⟩) hrl).trans e_r
          have rx2 : ∀ s : KX (wr.heap.size) wr (wr.heap.size) [] (fun _ => True), s.val.cell? ⟨b1, o1 + i, none⟩ = some (.slice (some ⟨b2, o2, none⟩) r.length c2) := fun s => (s.kept.below.cell (p := ⟨b1, o1 + i, none⟩) hb1r).trans e1
          have rx3 : ∀ s : KX (wr.heap.size) wr (wr.heap.size) [] (fun _ => True), s.val.cell? ⟨b2, o2 + k, none⟩ = some (.slice a3 p.length c3) := fun s => (s.kept.below.cell (p := ⟨b2, o2 + k, none⟩) hb2r).trans e2
          repeat (go_big_quiet_step (fail))
          refine wpQuiet_nil ?_
          clear rx0 rx1 rx2 rx3
          repeat (go_big_quiet_step (fail))
          refine wpQuiet_nil ?_
          have rx0 : ∀ s : KX (wr.heap.size) wr (wr.heap.size) [] (fun _ => True), s.val.cell? ⟨ob, i, none⟩ = some (.slice (some ⟨rb, 0, none⟩) r.length rc) := fun s => (s.kept.below.cell (p := ⟨ob, i, none⟩) hol).trans e_o
          have rx1 : ∀ s : KX (wr.heap.size) wr (wr.heap.size) [] (fun _ => True), s.val.cell? ⟨rb, k, none⟩ = some (.slice pa p.length pc) := fun s => (s.kept.below.cell (p := ⟨rb, k, none⟩) hrl).trans e_r
          have rx2 : ∀ s : KX (wr.heap.size) wr (wr.heap.size) [] (fun _ => True), s.val.cell? ⟨b1, o1 + i, none⟩ = some (.slice (some ⟨b2, o2, none⟩) r.length c2) := fun s => (s.kept.below.cell (p := ⟨b1, o1 + i, none⟩) hb1r).trans e1
          have rx3 : ∀ s : KX (wr.heap.size) wr (wr.heap.size) [] (fun _ => True), s.val.cell? ⟨b2, o2 + k, none⟩ = some (.slice a3 p.length c3) := fun s => (s.kept.below.cell (p := ⟨b2, o2 + k, none⟩) hb2r).trans e2
          repeat (go_big_quiet_step (fail))
          refine wpQuiet_nil ?_
          clear rx0 rx1 rx2 rx3
          repeat (go_big_quiet_step (fail))
          refine wpQuiet_nil ?_
          have rx0 : ∀ s : KX (wr.heap.size) wr (wr.heap.size) [] (fun _ => True), s.val.cell? ⟨ob, i, none⟩ = some (.slice (some ⟨rb, 0, none⟩) r.length rc) := fun s => (s.kept.below.cell (p := ⟨ob, i, none⟩) hol).trans e_o
          have rx1 : ∀ s : KX (wr.heap.size) wr (wr.heap.size) [] (fun _ => True), s.val.cell? ⟨rb, k, none⟩ = some (.slice pa p.length pc) := fun s => (s.kept.below.cell (p := ⟨rb, k, none⟩) hrl).trans e_r
          have rx2 : ∀ s : KX (wr.heap.size) wr (wr.heap.size) [] (fun _ => True), s.val.cell? ⟨b1, o1 + i, none⟩ = some (.slice (some ⟨b2, o2, none⟩) r.length c2) := fun s => (s.kept.below.cell (p := ⟨b1, o1 + i, none⟩) hb1r).trans e1
          have rx3 : ∀ s : KX (wr.heap.size) wr (wr.heap.size) [] (fun _ => True), s.val.cell? ⟨b2, o2 + k, none⟩ = some (.slice a3 p.length c3) := fun s => (s.kept.below.cell (p := ⟨b2, o2 + k, none⟩) hb2r).trans e2
          repeat (go_big_quiet_step (fail))
          refine wpQuiet_nil ?_
          clear rx0 rx1 rx2 rx3
          have KH_w21 := Lib.hid K_w21
          have hw_w21 := K_w21.below
          have hz_w21 := K_w21.size
          clear K_w21
          clear E_w21 F_w21
          refine ⟨fun K hK0 => ?_, trivial⟩
          have hK := Lib.hid hK0
          clear hK0
          go_wp2_with fail
          with_reducible refine (ints12c _ _ p p _ (HPR.out.below hw_w21) (HPQ.out.below hw_w21) rfl).mono ?_
          rintro e w22 ⟨rfl, hb_w22⟩
          have hbq := below_via hw_w21 hb_w22
          clear hb_w22
          go_wp2_with fail
          first | (refine ⟨rfl, hK.out _ _ ?_⟩; clear hK K) | (refine hK.out _ _ ?_; clear hK K)
          repeat (go_big_quiet_step (fail))
          refine wpQuiet_nil ?_
          clear _ne
          obtain ⟨wq, rfl⟩ : ∃ W, W = w22 := ⟨_, rfl⟩
          have HMQ := Lib.hid (HM.out.below hbq)
          have HOQ := Lib.hid (HO.out.grow hbq)
          clear hbq hw_w21 KH_w21 e_o e_r e1 e2 HPR HPQ
          go_wp2_with fail
          go_loopw [8] (fun s wr => DjRel w w1 w2 so rvs vss lsx i k p.length s wr) (fun s _ => p.length - (intOf s).toNat)
          case atStart => exact ⟨0, p, Nat.zero_le _, rfl, rfl, by rw [set2_same HAT.out]; exact HMQ.out, HOQ.out⟩
          case round =>
            clear HMQ HOQ
            obtain ⟨j, l', hj, hl', rfl, hmj, hoj⟩ := hrel
            have hat' : at2 (set2 lsx i k l') i k = some l' := at2_set2_self HAT.out
            obtain ⟨ob', rb', rc', pa', pc', hk'⟩ := hmj.pk hat'
            obtain rfl : ob = ob' := by have h := hk'.oa; rw [HOA.out] at h; simpa using h
            have hrv := hk'.rv
            rw [HRV.out] at hrv
            simp only [Option.some.injEq, Sl.mk.injEq, Addr.mk.injEq, and_true] at hrv
            obtain ⟨rfl, _, rfl⟩ := hrv
            have e_o := hk'.oc
            rw [rlen_of hmj HMX.out HR.out hk'.rv] at e_o
            have e_r := hk'.rcell
            rw [hl'] at e_r
            have HMJ := Lib.hid hmj
            have HOJ := Lib.hid hoj
            have hol := hk'.ol
            have hrl := hk'.rl
            have HROW := Lib.hid hk'.row
            have HPV := Lib.hid hk'.pv
            clear hk' hat' hmj hoj
            by_cases hjl : j < p.length
            · obtain ⟨z, hz⟩ : ∃ z, l'[j]? = some z := ⟨_, List.getElem?_eq_getElem (show j < l'.length by omega)⟩
              obtain ⟨g, hg, _, _, hgl, hgb, hgc, _⟩ := Oe.cell1 (s := ⟨pa', l'.length, pc'⟩) ic1 HROW.out hz
              change pa' = _ at hg
              subst hg
              have hgf : wr.frozen? ⟨g, j, none⟩ = false := ty_frozen (HROW.out.ty hgb) _
              have l1 : (0 : Int) ≤ (j : Int) := by omega
              have l2 : (j : Int) < (p.length : Int) := by omega
              have HGB := Lib.hid hgb
              have HMN : Hid (MxM (wr.setCell ⟨g, j, none⟩ (.int .i64 (wrap64 (z + 1)))) w.heap.size so rvs vss (set2 lsx i k (l'.set j (wrap64 (z + 1))))) := Lib.hid (by
                have h := HMJ.out.seti HPV.out hgb (l' := l'.set j (wrap64 (z + 1))) (wr.setCell ⟨g, j, none⟩ (.int .i64 (wrap64 (z + 1)))) ((Onl.refl _ _).setCell (.inl (by simp)) _) (Ow.set1 HROW.out (fun _ => rfl) rfl j _ _ rfl)
                rwa [set2_set2] at h)
              have HON : Hid (Onl (since w.heap.size w1.heap.size) w2 (wr.setCell ⟨g, j, none⟩ (.int .i64 (wrap64 (z + 1))))) := Lib.hid (HOJ.out.setCell (q := ⟨g, j, none⟩) (.inl (HIN.out _ _ _ _ HPV.out HGB.out)) _)
              clear hz hgb
              go_wp2_with fail
              go_roundw
              case rel => exact ⟨j + 1, l'.set j (wrap64 (z + 1)), by omega, by rw [List.length_set]; exact hl', by go_num, HMN.out, HON.out⟩
              case measure => simp [intOf]; omega
            · obtain rfl : j = p.length := by omega
              have HAG2 : Hid (∀ i' k', (i < i' ∨ (i' = i ∧ k + 1 ≤ k')) → at2 (set2 lsx i k l') i' k' = at2 ls i' k') := Lib.hid (fun i' k' h => by
                rw [at2_set2_ne _ _ (by intro e; simp at e; omega)]
                exact HAG.out i' k' (by omega))
              clear hj hjl
              go_wp2_with fail
              go_roundw
              case rel => exact ⟨k + 1, _, by have := HKL.out; omega, by go_num, HMJ.out, HAG2.out, HOJ.out⟩
              case measure => simp [intOf]; omega

        · obtain rfl : k = r.length := by omega
          have HAG2 : Hid (∀ i' k', i + 1 ≤ i' → at2 lsx i' k' = at2 ls i' k') := Lib.hid (fun i' k' h => HAG.out i' k' (by omega))
          clear hm hag ho
          go_wp2_with fail
          go_roundw
          case rel => exact ⟨i + 1, lsx, by omega, by go_num, HM.out, HAG2.out, HO.out⟩
          case measure => simp [intOf]; omega
    · obtain rfl : i = ls.length := by omega
      have HDI : Hid (DrAt wr w1.heap.size S P (Dr.init ls)) := Lib.hid (HD.out.onl HOI.out (fun b hb hm => by have h1 := (HD.out.newB b hb).1; have h2 := (mem_since.1 hm).2; omega))
      go_wp2_with fail
      with_reducible refine (right13c _ ls true _ (HS.out.below HBI.out) HRT.out).mono ?_
      rintro e w5 ⟨rfl, hb5⟩
      have HB5 := Lib.hid (below_via HBI.out hb5)
      have HD5 := Lib.hid (HDI.out.below hb5)
      clear hb5
      go_wp2_with fail
      with_reducible refine (begin15 _ ls _ (HS.out.below HB5.out) HRT.out).mono ?_
      rintro e w6 ⟨M, S', rfl, hmo, hb6⟩
      have HB6 := Lib.hid (below_via HB5.out hb6)
      have HD6 := Lib.hid (HD5.out.below hb6)
      have HMO := Lib.hid hmo
      clear hmo hb6
      go_wp2_with fail
      with_reducible refine (alike14 P _ _ S M _ S' (Dr.init ls) _ HD6.out HMO.out (init_inv HRT.out)).mono ?_
      rintro e w7 ⟨rfl, hb7⟩
      go_wp2_with fail
      with_reducible refine (known _).mono ?_
      rintro e w8 ⟨rfl, hb8⟩
      go_wp2_with fail
      go_returns
      exact ⟨rfl, below_via HB6.out (below_via hb7 hb8)⟩

theorem new3 (v : Value) (ls : List (List (List Int))) (w : World) (hs : Rw3 w v ls) : Calls Try.prog 3 #[v] w fun e w' => e = .returned (.bool true) ∧ Below w.heap.size w w' := by
  cases hsm : small ls
  · exact new3_big v ls w (Lib.hid hs) (Lib.hid hsm)
  · cases hrt : right ls
    · exact new3_bad v ls w (Lib.hid hs) (Lib.hid hsm) (Lib.hid hrt)
    · exact new3_ok v ls w (Lib.hid hs) (Lib.hid hsm) (Lib.hid hrt)
end Go.Proofs.Yteocplabibhecaa
