/- Pack and Waiting. -/
import Derived.Test.YteocplabibhecaaDr
namespace Go.Proofs.Yteocplabibhecaa
open Go.RowKit Plain
set_option linter.unusedVariables false
set_option linter.unusedSimpArgs false

theorem rg21_7 {P : Program} {B n : Nat} {w0 : World} {L : List (Nat × Nat × Value)} {E F : World → Prop} {id : Nat} {Q : Exit → Act → World → Prop} {a : Act} {w : World} {o0 o1 o2 o3 o4 o5 o6 o7 o8 o9 o10 o11 o12 o13 o14 o15 o16 o17 : Oper} (hm : P.follows .mixedOrders = true)
    (hB : (Region.noSelect [o0, o1, o2, o3, o4, o5, o6, o7, o8, o9, o10, o11, o12, o13, o14, o15, o16, o17].toArray && Scr.ok .any [o0, o1, o2, o3, o4, o5, o6, o7, o8, o9, o10, o11, o12, o13, o14, o15, o16, o17].toArray [3, 7, 9, 14] [0, 1, 2, 4, 5, 6, 8, 10, 11, 13, 16, 17] (.free 0 (.free 1 (.free 2 (.free 4 (.free 5 (.free 6 (.free 10 (.free 11 (.read 3 (.read 7 (.free 8 (.read 9 (.alt 12 (.free 13 (.read 14 (.altc 15 (.free 16 (.free 17 .done)) .stop))) .stop))))))))))))) true true [o0, o1, o2, o3, o4, o5, o6, o7, o8, o9, o10, o11, o12, o13, o14, o15, o16, o17].toArray.size (Array.replicate [o0, o1, o2, o3, o4, o5, o6, o7, o8, o9, o10, o11, o12, o13, o14, o15, o16, o17].toArray.size false)) = true)
    (k : Kept B w0 n L w) (he : E w) (hE : ∀ W W', E W → Below W.heap.size W W' → E W') (hf : F w) (hF : ∀ W W', F W → Below W.heap.size W W' → F W')
    (h : ∀ wk, Kept B w0 n L wk → E wk → F wk → wpQuiet P [o0, o1, o2, o3, o4, o5, o6, o7, o8, o9, o10, o11, o12, o13, o14, o15, o16, o17].toArray (fun _ => True) (fun a0 => wpQuiet P [o0, o1, o2, o3, o4, o5, o6, o7, o8, o9, o10, o11, o12, o13, o14, o15, o16, o17].toArray (fun w' => ∃ s : KX B w0 n L E, w' = s.val) (fun a1 => wpQuiet P [o0, o1, o2, o3, o4, o5, o6, o7, o8, o9, o10, o11, o12, o13, o14, o15, o16, o17].toArray (fun _ => True) (fun a2 => wpQuiet P [o0, o1, o2, o3, o4, o5, o6, o7, o8, o9, o10, o11, o12, o13, o14, o15, o16, o17].toArray (fun w' => ∃ s : KX B w0 n L E, w' = s.val) (fun a3 => ((∀ K4 : Act → World → Prop, (∀ a4 w4, wpQuiet P [o0, o1, o2, o3, o4, o5, o6, o7, o8, o9, o10, o11, o12, o13, o14, o15, o16, o17].toArray (fun _ => True) (fun a5 => wpQuiet P [o0, o1, o2, o3, o4, o5, o6, o7, o8, o9, o10, o11, o12, o13, o14, o15, o16, o17].toArray (fun w' => ∃ s : KX B w0 n L E, w' = s.val) (fun a6 => ((∀ K7 : Act → World → Prop, (∀ a7 w7, wpQuiet P [o0, o1, o2, o3, o4, o5, o6, o7, o8, o9, o10, o11, o12, o13, o14, o15, o16, o17].toArray (fun _ => True) (fun a8 => Q .normal a8 w7) [o16, o17] a7 → K7 a7 w7) → wpList P [o0, o1, o2, o3, o4, o5, o6, o7, o8, o9, o10, o11, o12, o13, o14, o15, o16, o17].toArray (fun e a7 w7 => e = .normal ∧ K7 a7 w7) [o15] a6 w4) ∧ True)) [o14] a5) [o13] a4 → K4 a4 w4) → wpList P [o0, o1, o2, o3, o4, o5, o6, o7, o8, o9, o10, o11, o12, o13, o14, o15, o16, o17].toArray (fun e a4 w4 => e = .normal ∧ (∃ s : KX B w0 n L E, w4 = s.val) ∧ K4 a4 w4) [o12] a3 wk) ∧ True)) [o9] a2) [o8] a1) [o3, o7] a0) [o0, o1, o2, o4, o5, o6, o10, o11] a) : (Code.region id [o0, o1, o2, o3, o4, o5, o6, o7, o8, o9, o10, o11, o12, o13, o14, o15, o16, o17].toArray true).wp P Q a w := by
  have e1 : E w.drew := hE _ _ he ((Below.refl _ _).drew)
  have g := h _ k.drew e1 (hF _ _ hf ((Below.refl _ _).drew))
  exact wp_region_scr (U := (fun w' => ∃ s : KX B w0 n L E, w' = s.val)) (ops := [o0, o1, o2, o3, o4, o5, o6, o7, o8, o9, o10, o11, o12, o13, o14, o15, o16, o17].toArray) (.free 0 (.free 1 (.free 2 (.free 4 (.free 5 (.free 6 (.free 10 (.free 11 (.read 3 (.read 7 (.free 8 (.read 9 (.alt 12 (.free 13 (.read 14 (.altc 15 (.free 16 (.free 17 .done)) .stop))) .stop))))))))))))) [3, 7, 9, 14] [0, 1, 2, 4, 5, 6, 8, 10, 11, 13, 16, 17] hm hB ⟨⟨_, k.drew, e1⟩, rfl⟩ (Scr.of_free rfl g (fun _ g0 => Scr.of_free rfl g0 (fun _ g1 => Scr.of_free rfl g1 (fun _ g2 => Scr.of_free rfl g2 (fun _ g3 => Scr.of_free rfl g3 (fun _ g4 => Scr.of_free rfl g4 (fun _ g5 => Scr.of_free rfl g5 (fun _ g6 => Scr.of_free rfl g6 (fun _ g7 => Scr.of_read rfl g7 (fun _ g8 => Scr.of_read rfl g8 (fun _ g9 => Scr.of_free rfl g9 (fun _ g10 => Scr.of_read rfl g10 (fun _ g11 => (Scr.of_alt rfl (g11.1 _ (fun _ _ g => g)) (fun _ _ g12 => Scr.of_free rfl g12 (fun _ g13 => Scr.of_read rfl g13 (fun _ g14 => (Scr.of_altc rfl (g14.1 _ (fun _ _ g => g)) (fun _ _ g15 => Scr.of_free rfl g15 (fun _ g16 => Scr.of_free rfl g16 (fun _ g17 => g17))) trivial)))) trivial))))))))))))))
set_option maxRecDepth 100000 in
set_option maxHeartbeats 4000000 in
theorem pack21 (P : Nat) (B c : Nat) (S : List Nat) (d : Dr) (p : Int) (w : World) (h : DrAt w B S P d) (iv : d.Inv c) : Calls Try.prog 21 #[.pointer (some ⟨P, 0, none⟩), .int .i64 p] w (PairAt w (d.ask p) (d.askE p)) := by
  have HN := Lib.hid (none31 P B c S d w h iv)
  have hn8 := iv.n8
  have HD := Lib.hid h
  have HIV := Lib.hid iv
  obtain ⟨so, st, sm, rvs, vss, hd⟩ := h
  obtain ⟨c0, c1, c2, c3, c4⟩ := hd.cells
  have hP := hd.lt
  by_cases h1 : p < 0
  · have e1 : Hid (d.ask p = []) := Lib.hid (by unfold Dr.ask; rw [if_pos (.inl h1)])
    have e2 : Hid (d.askE p = 2) := Lib.hid (by unfold Dr.askE; rw [if_pos (.inl h1)])
    clear hd iv
    go_enter Try.func21, Try.ntmps21
    go_wp2_with fail
    with_reducible refine HN.out.mono ?_
    rintro e w ⟨rfl, rfl⟩
    go_wp2_with fail
    go_returns
    rw [e1.out, e2.out]
    exact PairAt.nil (Below.refl _ _)
  by_cases h2 : (d.n : Int) ≤ p
  · have e1 : Hid (d.ask p = []) := Lib.hid (by unfold Dr.ask; rw [if_pos (.inr h2)])
    have e2 : Hid (d.askE p = 2) := Lib.hid (by unfold Dr.askE; rw [if_pos (.inr h2)])
    clear hd iv
    go_enter Try.func21, Try.ntmps21
    go_wp2_with fail
    with_reducible refine HN.out.mono ?_
    rintro e w ⟨rfl, rfl⟩
    go_wp2_with fail
    go_returns
    rw [e1.out, e2.out]
    exact PairAt.nil (Below.refl _ _)
  obtain ⟨q, rfl⟩ : ∃ q : Nat, p = q := ⟨p.toNat, by omega⟩
  have hq : q < d.n := by omega
  have i1 : (0 : Int) ≤ (q : Int) := by omega
  have i2 : (q : Int) < (d.n : Int) := by omega
  have e2 : Hid (d.askE q = 0) := Lib.hid (by unfold Dr.askE; rw [if_neg (by omega)])
  cases ho : d.over
  · have HO := Lib.hid (over32c P B c S d false w HD.out iv ho)
    have hne : d.rd ≠ d.rs.length := fun e => by rw [(over_iff d).2 e] at ho; cases ho
    have hrd := iv.rd
    obtain ⟨mb, hma, hml, hmc, _⟩ := hd.mvc (p := q) (by rw [iv.mv]; exact hq)
    have hmv := iv.mv
    rw [hma, hmv] at c2
    cases hm : d.mvd q
    · rw [hm] at hmc
      obtain ⟨l, hl⟩ : ∃ l, d.pk q = l := ⟨_, rfl⟩
      have hat := iv.pk_at (by omega) q
      rw [hl] at hat
      have e1 : Hid (d.ask q = l) := Lib.hid (by unfold Dr.ask; rw [if_neg (by omega), Int.toNat_natCast, ho, hm, hl]; rfl)
      have hnow := iv.now q hq (by omega)
      rw [hl] at hnow
      have hll : l.length ≤ 100 := by have := iv.c15; omega
      have hfr := iv.fr_lt q
      obtain ⟨ob, rb, rc, pa, pc, hk⟩ := hd.pk iv.row hat
      have ha := hk.oa
      rw [ha] at c0
      have hol := hk.ol
      have e_o := hk.oc
      have hrl := hk.rl
      have e_r := hk.rcell
      have HR := Lib.hid (hk.row.rw ic_len)
      have HLL := Lib.hid hll
      have HQ := Lib.hid hq
      have HO2 := Lib.hid hne
      have j1 : (d.rd : Int) < (d.rs.length : Int) := by omega
      have j2 : (d.fr q : Int) < (d.n : Int) := by omega
      have j3 : (0 : Int) ≤ (d.fr q : Int) := by omega
      have j4 : (0 : Int) ≤ (d.rd : Int) := by omega
      clear hd iv hk ha hll hat hl hnow ho hm hq hne hfr
      go_enter Try.func21, Try.ntmps21
      go_wp2_with fail
      with_reducible refine HN.out.mono ?_
      rintro e w ⟨rfl, rfl⟩
      go_wp2_with fail
      with_reducible refine HO.out.mono ?_
      rintro e w1 ⟨rfl, hb1⟩
      have hmc := (hb1.cell (p := ⟨mb, q, none⟩) hml).trans hmc
      have c2 := (hb1.cell (p := ⟨P, 2, none⟩) hP).trans c2
      have hP1 : P < w1.heap.size := Nat.lt_of_lt_of_le hP hb1.size
      have c0 := (hb1.cell (p := ⟨P, 0, none⟩) hP).trans c0
      have c3 := (hb1.cell (p := ⟨P, 3, none⟩) hP).trans c3
      have e_o := (hb1.cell (p := ⟨ob, d.rd, none⟩) hol).trans e_o
      have e_r := (hb1.cell (p := ⟨rb, d.fr q, none⟩) hrl).trans e_r
      have hol1 : ob < w1.heap.size := Nat.lt_of_lt_of_le hol hb1.size
      have hrl1 : rb < w1.heap.size := Nat.lt_of_lt_of_le hrl hb1.size
      have HB1 := Lib.hid hb1
      clear hb1
      go_wp2_with fail
      refine rg21_7 (w0 := w1) (B := w1.heap.size) (n := w1.heap.size) (L := []) (E := fun _ => True) (F := fun _ => True) (by kernel_rfl) (by kernel_rfl) ⟨by go_grown, by go_size, (by simp [go_sem] <;> omega)⟩ trivial (fun _ _ _ _ => trivial) trivial (fun _ _ _ _ => trivial) (fun w21 K_w21 E_w21 F_w21 => ?_)
      have _ne : Nonempty (KX (w1.heap.size) w1 (w1.heap.size) [] (fun _ => True)) := ⟨⟨_, K_w21, E_w21⟩⟩
      repeat (go_big_quiet_step (fail))
      refine wpQuiet_nil ?_
      have rxa : ∀ s : KX (w1.heap.size) w1 (w1.heap.size) [] (fun _ => True), s.val.cell? ⟨P, 0, none⟩ = some (.slice (some ⟨ob, 0, none⟩) d.rs.length so.c) := fun s => (s.kept.below.cell (p := ⟨P, 0, none⟩) hP1).trans c0
      have rxb : ∀ s : KX (w1.heap.size) w1 (w1.heap.size) [] (fun _ => True), s.val.cell? ⟨P, 3, none⟩ = some (.int .i64 d.rd) := fun s => (s.kept.below.cell (p := ⟨P, 3, none⟩) hP1).trans c3
      have rxc : ∀ s : KX (w1.heap.size) w1 (w1.heap.size) [] (fun _ => True), s.val.cell? ⟨ob, d.rd, none⟩ = some (.slice (some ⟨rb, 0, none⟩) d.n rc) := fun s => (s.kept.below.cell (p := ⟨ob, d.rd, none⟩) hol1).trans e_o
      have rxd : ∀ s : KX (w1.heap.size) w1 (w1.heap.size) [] (fun _ => True), s.val.cell? ⟨rb, d.fr q, none⟩ = some (.slice pa l.length pc) := fun s => (s.kept.below.cell (p := ⟨rb, d.fr q, none⟩) hrl1).trans e_r
      repeat (go_big_quiet_step (fail))
      refine wpQuiet_nil ?_
      clear rxa rxb rxc rxd
      repeat (go_big_quiet_step (fail))
      refine wpQuiet_nil ?_
      have rxa : ∀ s : KX (w1.heap.size) w1 (w1.heap.size) [] (fun _ => True), s.val.cell? ⟨P, 0, none⟩ = some (.slice (some ⟨ob, 0, none⟩) d.rs.length so.c) := fun s => (s.kept.below.cell (p := ⟨P, 0, none⟩) hP1).trans c0
      have rxb : ∀ s : KX (w1.heap.size) w1 (w1.heap.size) [] (fun _ => True), s.val.cell? ⟨P, 3, none⟩ = some (.int .i64 d.rd) := fun s => (s.kept.below.cell (p := ⟨P, 3, none⟩) hP1).trans c3
      have rxc : ∀ s : KX (w1.heap.size) w1 (w1.heap.size) [] (fun _ => True), s.val.cell? ⟨ob, d.rd, none⟩ = some (.slice (some ⟨rb, 0, none⟩) d.n rc) := fun s => (s.kept.below.cell (p := ⟨ob, d.rd, none⟩) hol1).trans e_o
      have rxd : ∀ s : KX (w1.heap.size) w1 (w1.heap.size) [] (fun _ => True), s.val.cell? ⟨rb, d.fr q, none⟩ = some (.slice pa l.length pc) := fun s => (s.kept.below.cell (p := ⟨rb, d.fr q, none⟩) hrl1).trans e_r
      repeat (go_big_quiet_step (fail))
      refine wpQuiet_nil ?_
      clear rxa rxb rxc rxd
      have KH_w21 := Lib.hid K_w21
      have hw_w21 := K_w21.below
      have hz_w21 := K_w21.size
      clear K_w21
      clear E_w21 F_w21
      refine ⟨fun K hK0 => ?_, trivial⟩
      have hK := Lib.hid hK0
      clear hK0
      go_wp2_with fail
      with_reducible refine (front34 P B c S d q _ ((HD.out.below HB1.out).below hw_w21) HIV.out HQ.out HO2.out).mono ?_
      rintro e w' ⟨rfl, rfl⟩
      go_wp2_with fail
      first | (refine ⟨rfl, ⟨⟨_, KH_w21.out, trivial⟩, rfl⟩, hK.out _ _ ?_⟩; clear hK K) | (refine ⟨⟨⟨_, KH_w21.out, trivial⟩, rfl⟩, hK.out _ _ ?_⟩; clear hK K)
      repeat (go_big_quiet_step (fail))
      refine wpQuiet_nil ?_
      have rxa : ∀ s : KX (w1.heap.size) w1 (w1.heap.size) [] (fun _ => True), s.val.cell? ⟨P, 0, none⟩ = some (.slice (some ⟨ob, 0, none⟩) d.rs.length so.c) := fun s => (s.kept.below.cell (p := ⟨P, 0, none⟩) hP1).trans c0
      have rxb : ∀ s : KX (w1.heap.size) w1 (w1.heap.size) [] (fun _ => True), s.val.cell? ⟨P, 3, none⟩ = some (.int .i64 d.rd) := fun s => (s.kept.below.cell (p := ⟨P, 3, none⟩) hP1).trans c3
      have rxc : ∀ s : KX (w1.heap.size) w1 (w1.heap.size) [] (fun _ => True), s.val.cell? ⟨ob, d.rd, none⟩ = some (.slice (some ⟨rb, 0, none⟩) d.n rc) := fun s => (s.kept.below.cell (p := ⟨ob, d.rd, none⟩) hol1).trans e_o
      have rxd : ∀ s : KX (w1.heap.size) w1 (w1.heap.size) [] (fun _ => True), s.val.cell? ⟨rb, d.fr q, none⟩ = some (.slice pa l.length pc) := fun s => (s.kept.below.cell (p := ⟨rb, d.fr q, none⟩) hrl1).trans e_r
      repeat (go_big_quiet_step (fail))
      refine wpQuiet_nil ?_
      clear rxa rxb rxc rxd
      refine ⟨fun K hK0 => ?_, trivial⟩
      have hK := Lib.hid hK0
      clear hK0
      go_wp2_with fail
      with_reducible refine (clone33 (l := l) _ _ ((HR.out.below HB1.out).below hw_w21) (by have := HLL.out; omega)).mono ?_
      rintro e w22 ⟨v, rfl, hv, hb_w22⟩
      obtain ⟨av, cv, rfl⟩ := hv.form
      have HV : Hid (Ow ic 1 3 w22 w.heap.size (.slice av l.length cv) l) := Lib.hid (hv.base (fun b hb => by have := (hv.typ b hb).1; have := hw_w21.size; have := HB1.out.size; omega))
      have HBB := Lib.hid (below_via HB1.out (below_via hw_w21 hb_w22))
      clear hv hb_w22
      go_wp2_with fail
      first | (refine ⟨rfl, hK.out _ _ ?_⟩; clear hK K) | (refine hK.out _ _ ?_; clear hK K)
      repeat (go_big_quiet_step (fail))
      refine wpQuiet_nil ?_
      clear _ne
      go_wp2_with fail
      go_returns
      rw [e1.out, e2.out]
      exact ⟨_, rfl, HV.out, HBB.out⟩

    · rw [hm] at hmc
      have e1 : Hid (d.ask q = []) := Lib.hid (by unfold Dr.ask; rw [if_neg (by omega), Int.toNat_natCast, ho, hm]; rfl)
      clear hd iv ho hm
      go_enter Try.func21, Try.ntmps21
      go_wp2_with fail
      with_reducible refine HN.out.mono ?_
      rintro e w ⟨rfl, rfl⟩
      go_wp2_with fail
      with_reducible refine HO.out.mono ?_
      rintro e w1 ⟨rfl, hb1⟩
      have hmc := (hb1.cell (p := ⟨mb, q, none⟩) hml).trans hmc
      have c2 := (hb1.cell (p := ⟨P, 2, none⟩) hP).trans c2
      have hP1 : P < w1.heap.size := Nat.lt_of_lt_of_le hP hb1.size
      go_wp2_with fail
      go_returns
      rw [e1.out, e2.out]
      exact PairAt.nil hb1
  · have HO := Lib.hid (over32c P B c S d true w HD.out iv ho)
    have e1 : Hid (d.ask q = []) := Lib.hid (by unfold Dr.ask; rw [if_neg (by omega), ho]; rfl)
    clear hd iv ho
    go_enter Try.func21, Try.ntmps21
    go_wp2_with fail
    with_reducible refine HN.out.mono ?_
    rintro e w ⟨rfl, rfl⟩
    go_wp2_with fail
    with_reducible refine HO.out.mono ?_
    rintro e w1 ⟨rfl, hb1⟩
    go_wp2_with fail
    go_returns
    rw [e1.out, e2.out]
    exact PairAt.nil hb1
def WtRel (w : World) (mv : List Bool) (out iv : Value) (wr : World) : Prop := ∃ k : Nat, k ≤ mv.length ∧ iv = .int .i64 k ∧ Ow ic 1 3 wr w.heap.size out (waitL (mv.take k) 0) ∧ Below w.heap.size w wr
/-- numbers of the caller's own -/
def IntsAt (w : World) (l : List Int) (e : Ending) (w' : World) : Prop := ∃ v, e = .returned v ∧ Ow ic 1 3 w' w.heap.size v l ∧ Below w.heap.size w w'
theorem wait_next {mv : List Bool} {k : Nat} {b : Bool} (h : mv[k]? = some b) : waitL (mv.take (k + 1)) 0 = waitL (mv.take k) 0 ++ (if b then [] else [(k : Int)]) := by
  have hk := (List.getElem?_eq_some_iff.1 h).1
  rw [List.take_add_one, h]
  show waitL (mv.take k ++ [b]) 0 = _
  rw [waitL_snoc, List.length_take, show 0 + min k mv.length = k by omega]
theorem wait_len (mv : List Bool) (n : Nat) : (waitL mv n).length ≤ mv.length := by
  induction mv generalizing n with
  | nil => simp [waitL]
  | cons b l ih =>
    unfold waitL
    have := ih (n + 1)
    split <;> simp <;> omega
set_option maxRecDepth 100000 in
set_option maxHeartbeats 2000000 in
theorem waiting27 (P : Nat) (B c : Nat) (S : List Nat) (d : Dr) (w : World) (h : DrAt w B S P d) (iv : d.Inv c) : Calls Try.prog 27 #[.pointer (some ⟨P, 0, none⟩)] w (IntsAt w d.wait) := by
  have HN := Lib.hid (none31 P B c S d w h iv)
  have HD := Lib.hid h
  have hn8 := iv.n8
  obtain ⟨so, st, sm, rvs, vss, hd⟩ := h
  obtain ⟨c0, c1, c2, c3, c4⟩ := hd.cells
  have hP := hd.lt
  cases ho : d.over
  · have HO := Lib.hid (over32c P B c S d false w HD.out iv ho)
    have e1 : Hid (d.wait = waitL d.mv 0) := Lib.hid (by unfold Dr.wait; rw [ho]; rfl)
    have hmvl := iv.mv
    have HMV := Lib.hid hd.mov
    have hsm := oe_slice hd.mov
    obtain ⟨_, am, cm, hvm, F1⟩ := (hd.mov.rw bc_len).at1 bc1
    unfold Sl.v at hvm
    simp only [Value.slice.injEq] at hvm
    obtain ⟨hva, _, _⟩ := hvm
    rw [← hva] at F1
    have HF := Lib.hid F1
    clear hd iv ho F1 hva hsm
    go_enter Try.func27, Try.ntmps27
    go_wp2_with fail
    with_reducible refine HN.out.mono ?_
    rintro e w ⟨rfl, rfl⟩
    go_wp2_with fail
    with_reducible refine HO.out.mono ?_
    rintro e w1 ⟨rfl, hb1⟩
    have c2 := (hb1.cell (p := ⟨P, 2, none⟩) hP).trans c2
    have hP1 : P < w1.heap.size := Nat.lt_of_lt_of_le hP hb1.size
    go_wp2_with fail
    go_loopw [3, 17] (fun out i wr => WtRel w d.mv out i wr) (fun _ i _ => d.mv.length - (intOf i).toNat)
    case atStart => exact ⟨0, Nat.zero_le _, rfl, Ow.nil _ _ _, hb1⟩
    case round =>
      clear c2
      obtain ⟨k, hk, rfl, hov, hb⟩ := hrel
      obtain ⟨ao, co, rfl⟩ := hov.form
      obtain ⟨no, hno⟩ : ∃ n, (waitL (d.mv.take k) 0).length = n := ⟨_, rfl⟩
      have HOV := Lib.hid hov
      have HLN : Hid ((waitL (d.mv.take k) 0).length ≤ 8) := Lib.hid (by have := wait_len (d.mv.take k) 0; rw [List.length_take] at this; omega)
      have hz_wr := hb.size
      clear hov
      by_cases hkl : k < d.mv.length
      · obtain ⟨b1, o1, hsa, hb1', hc1⟩ := HF.out (by omega)
        obtain ⟨b, hbk⟩ : ∃ b, d.mv[k]? = some b := ⟨_, List.getElem?_eq_getElem hkl⟩
        have HBK := Lib.hid (wait_next hbk)
        have em := (hb.cell (p := ⟨b1, o1 + k, none⟩) hb1').trans (hc1 k b hbk)
        have i1 : (0 : Int) ≤ (k : Int) := by omega
        have i2 : (k : Int) < (d.mv.length : Int) := by omega
        rw [hsa]
        clear hc1 hbk
        cases b
        · go_wp2_with (at_builtin; refine wpList_append_ow (f := ic) (sz := 1) rfl _ _ 32 rfl w.heap.size 3 (.int .i64 0) 8 Try.underlying32 info3 rfl (by decide) _ (waitL (d.mv.take k) 0) rfl (HOV.out.below (by go_grown)) ic_ok _ [(k : Int)] rfl (Rw.one2 _ _ (k : Int) _ rfl _ _ (by simp)) ?d2 ?d3 (by go_size) ?_)
          case d2 => have := HLN.out; simp [maxLen]; omega
          case d3 => have := HLN.out; simp; omega
          intro v' w2 hown hgrow _
          have HO' : Hid (Ow ic 1 3 w2 w.heap.size v' (waitL (d.mv.take (k + 1)) 0)) := Lib.hid (by rw [HBK.out]; exact hown)
          have hb2 : Below w.heap.size w w2 := below_row (W := _) (by go_grown) hgrow (by go_size) (fun q hq => (HOV.out.typ q ((ob_len _ _ _ _ _).trans hq)).1)
          clear hown hgrow
          go_wp2_with fail
          go_roundw
          case rel => exact ⟨k + 1, by omega, by go_num, HO'.out, hb2⟩
          case measure => simp [intOf]; omega
        · have HO' : Hid (Ow ic 1 3 wr w.heap.size (.slice ao (waitL (d.mv.take k) 0).length co) (waitL (d.mv.take (k + 1)) 0)) := Lib.hid (by rw [HBK.out]; simp; exact HOV.out)
          go_wp2_with fail
          go_roundw
          case rel => exact ⟨k + 1, by omega, by go_num, HO'.out, hb⟩
          case measure => simp [intOf]; omega
      · obtain rfl : k = d.mv.length := by omega
        have HO' : Hid (Ow ic 1 3 wr w.heap.size (.slice ao (waitL (d.mv.take d.mv.length) 0).length co) d.wait) := Lib.hid (by have h := HOV.out; rw [List.take_length] at h ⊢; rw [e1.out]; exact h)
        go_wp2_with fail
        go_returns
        exact ⟨_, rfl, HO'.out, hb⟩
  · have HO := Lib.hid (over32c P B c S d true w HD.out iv ho)
    have e1 : Hid (d.wait = []) := Lib.hid (by unfold Dr.wait; rw [if_pos ho])
    clear hd iv ho
    go_enter Try.func27, Try.ntmps27
    go_wp2_with fail
    with_reducible refine HN.out.mono ?_
    rintro e w ⟨rfl, rfl⟩
    go_wp2_with fail
    with_reducible refine HO.out.mono ?_
    rintro e w1 ⟨rfl, hb1⟩
    go_wp2_with fail
    go_returns
    rw [e1.out]
    exact ⟨_, rfl, Ow.nil _ _ _, hb1⟩
end Go.Proofs.Yteocplabibhecaa
