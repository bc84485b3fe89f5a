/- The best partner. -/
import Derived.Test.YtonaidjdkejoeaaLv
import Derived.LoopTactic
namespace Go.Proofs.Ytonaidjdkejoeaa
open Go.RowKit Plain
set_option linter.unusedVariables false
set_option linter.unusedSimpArgs false

theorem rg27_5 {P : Program} {B n : Nat} {w0 : World} {L : List (Nat × Nat × Value)} {E F : World → Prop} {id : Nat} {Q : Exit → Act → World → Prop} {a : Act} {w : World} {o0 o1 o2 o3 o4 o5 o6 o7 o8 o9 : Oper} (hm : P.follows .mixedOrders = true)
    (hB : (Region.noSelect [o0, o1, o2, o3, o4, o5, o6, o7, o8, o9].toArray && Scr.ok .any [o0, o1, o2, o3, o4, o5, o6, o7, o8, o9].toArray [3, 6, 7] [0, 1, 2, 4, 5, 9] (.free 0 (.free 1 (.free 2 (.free 4 (.read 3 (.free 5 (.read 6 (.read 7 (.altc 8 (.free 9 .done) .stop))))))))) true true [o0, o1, o2, o3, o4, o5, o6, o7, o8, o9].toArray.size (Array.replicate [o0, o1, o2, o3, o4, o5, o6, o7, o8, o9].toArray.size false)) = true)
    (k : Kept B w0 n L w) (he : E w) (hE : ∀ W W', E W → Below W.heap.size W W' → E W') (hf : F w) (hF : ∀ W W', F W → Below W.heap.size W W' → F W')
    (h : ∀ wk, Kept B w0 n L wk → E wk → F wk → wpQuiet P [o0, o1, o2, o3, o4, o5, o6, o7, o8, o9].toArray (fun _ => True) (fun a0 => wpQuiet P [o0, o1, o2, o3, o4, o5, o6, o7, o8, o9].toArray (fun w' => ∃ s : KX B w0 n L E, w' = s.val) (fun a1 => wpQuiet P [o0, o1, o2, o3, o4, o5, o6, o7, o8, o9].toArray (fun _ => True) (fun a2 => wpQuiet P [o0, o1, o2, o3, o4, o5, o6, o7, o8, o9].toArray (fun w' => ∃ s : KX B w0 n L E, w' = s.val) (fun a3 => ((∀ K4 : Act → World → Prop, (∀ a4 w4, wpQuiet P [o0, o1, o2, o3, o4, o5, o6, o7, o8, o9].toArray (fun _ => True) (fun a5 => Q .normal a5 w4) [o9] a4 → K4 a4 w4) → wpList P [o0, o1, o2, o3, o4, o5, o6, o7, o8, o9].toArray (fun e a4 w4 => e = .normal ∧ K4 a4 w4) [o8] a3 wk) ∧ True)) [o6, o7] a2) [o5] a1) [o3] a0) [o0, o1, o2, o4] a) : (Code.region id [o0, o1, o2, o3, o4, o5, o6, o7, o8, o9].toArray true).wp P Q a w := by
  have e1 : E w.drew := hE _ _ he ((Below.refl _ _).drew)
  have g := h _ k.drew e1 (hF _ _ hf ((Below.refl _ _).drew))
  exact wp_region_scr (U := (fun w' => ∃ s : KX B w0 n L E, w' = s.val)) (ops := [o0, o1, o2, o3, o4, o5, o6, o7, o8, o9].toArray) (.free 0 (.free 1 (.free 2 (.free 4 (.read 3 (.free 5 (.read 6 (.read 7 (.altc 8 (.free 9 .done) .stop))))))))) [3, 6, 7] [0, 1, 2, 4, 5, 9] hm hB ⟨⟨_, k.drew, e1⟩, rfl⟩ (Scr.of_free rfl g (fun _ g0 => Scr.of_free rfl g0 (fun _ g1 => Scr.of_free rfl g1 (fun _ g2 => Scr.of_free rfl g2 (fun _ g3 => Scr.of_read rfl g3 (fun _ g4 => Scr.of_free rfl g4 (fun _ g5 => Scr.of_read rfl g5 (fun _ g6 => Scr.of_read rfl g6 (fun _ g7 => (Scr.of_altc rfl (g7.1 _ (fun _ _ g => g)) (fun _ _ g8 => Scr.of_free rfl g8 (fun _ g9 => g9)) trivial))))))))))
theorem rg27_7 {P : Program} {B n : Nat} {w0 : World} {L : List (Nat × Nat × Value)} {E F : World → Prop} {id : Nat} {Q : Exit → Act → World → Prop} {a : Act} {w : World} {o0 o1 o2 o3 o4 o5 o6 o7 o8 o9 o10 o11 o12 o13 o14 o15 o16 o17 o18 o19 o20 : Oper} (hm : P.follows .mixedOrders = true)
    (hB : (Region.noSelect [o0, o1, o2, o3, o4, o5, o6, o7, o8, o9, o10, o11, o12, o13, o14, o15, o16, o17, o18, o19, o20].toArray && Scr.ok .any [o0, o1, o2, o3, o4, o5, o6, o7, o8, o9, o10, o11, o12, o13, o14, o15, o16, o17, o18, o19, o20].toArray [7, 10, 14, 17] [0, 1, 2, 3, 4, 5, 6, 8, 9, 11, 12, 13, 15, 16, 19, 20] (.free 0 (.free 1 (.free 2 (.free 3 (.free 4 (.free 5 (.free 6 (.free 8 (.free 11 (.free 12 (.free 13 (.free 15 (.read 7 (.free 9 (.read 10 (.read 14 (.free 16 (.read 17 (.altc 18 (.free 19 (.free 20 .done)) .stop))))))))))))))))))) true true [o0, o1, o2, o3, o4, o5, o6, o7, o8, o9, o10, o11, o12, o13, o14, o15, o16, o17, o18, o19, o20].toArray.size (Array.replicate [o0, o1, o2, o3, o4, o5, o6, o7, o8, o9, o10, o11, o12, o13, o14, o15, o16, o17, o18, o19, o20].toArray.size false)) = true)
    (k : Kept B w0 n L w) (he : E w) (hE : ∀ W W', E W → Below W.heap.size W W' → E W') (hf : F w) (hF : ∀ W W', F W → Below W.heap.size W W' → F W')
    (h : ∀ wk, Kept B w0 n L wk → E wk → F wk → wpQuiet P [o0, o1, o2, o3, o4, o5, o6, o7, o8, o9, o10, o11, o12, o13, o14, o15, o16, o17, o18, o19, o20].toArray (fun _ => True) (fun a0 => wpQuiet P [o0, o1, o2, o3, o4, o5, o6, o7, o8, o9, o10, o11, o12, o13, o14, o15, o16, o17, o18, o19, o20].toArray (fun w' => ∃ s : KX B w0 n L E, w' = s.val) (fun a1 => wpQuiet P [o0, o1, o2, o3, o4, o5, o6, o7, o8, o9, o10, o11, o12, o13, o14, o15, o16, o17, o18, o19, o20].toArray (fun _ => True) (fun a2 => wpQuiet P [o0, o1, o2, o3, o4, o5, o6, o7, o8, o9, o10, o11, o12, o13, o14, o15, o16, o17, o18, o19, o20].toArray (fun w' => ∃ s : KX B w0 n L E, w' = s.val) (fun a3 => wpQuiet P [o0, o1, o2, o3, o4, o5, o6, o7, o8, o9, o10, o11, o12, o13, o14, o15, o16, o17, o18, o19, o20].toArray (fun _ => True) (fun a4 => wpQuiet P [o0, o1, o2, o3, o4, o5, o6, o7, o8, o9, o10, o11, o12, o13, o14, o15, o16, o17, o18, o19, o20].toArray (fun w' => ∃ s : KX B w0 n L E, w' = s.val) (fun a5 => ((∀ K6 : Act → World → Prop, (∀ a6 w6, wpQuiet P [o0, o1, o2, o3, o4, o5, o6, o7, o8, o9, o10, o11, o12, o13, o14, o15, o16, o17, o18, o19, o20].toArray (fun _ => True) (fun a7 => Q .normal a7 w6) [o19, o20] a6 → K6 a6 w6) → wpList P [o0, o1, o2, o3, o4, o5, o6, o7, o8, o9, o10, o11, o12, o13, o14, o15, o16, o17, o18, o19, o20].toArray (fun e a6 w6 => e = .normal ∧ K6 a6 w6) [o18] a5 wk) ∧ True)) [o17] a4) [o16] a3) [o10, o14] a2) [o9] a1) [o7] a0) [o0, o1, o2, o3, o4, o5, o6, o8, o11, o12, o13, o15] a) : (Code.region id [o0, o1, o2, o3, o4, o5, o6, o7, o8, o9, o10, o11, o12, o13, o14, o15, o16, o17, o18, o19, o20].toArray true).wp P Q a w := by
  have e1 : E w.drew := hE _ _ he ((Below.refl _ _).drew)
  have g := h _ k.drew e1 (hF _ _ hf ((Below.refl _ _).drew))
  exact wp_region_scr (U := (fun w' => ∃ s : KX B w0 n L E, w' = s.val)) (ops := [o0, o1, o2, o3, o4, o5, o6, o7, o8, o9, o10, o11, o12, o13, o14, o15, o16, o17, o18, o19, o20].toArray) (.free 0 (.free 1 (.free 2 (.free 3 (.free 4 (.free 5 (.free 6 (.free 8 (.free 11 (.free 12 (.free 13 (.free 15 (.read 7 (.free 9 (.read 10 (.read 14 (.free 16 (.read 17 (.altc 18 (.free 19 (.free 20 .done)) .stop))))))))))))))))))) [7, 10, 14, 17] [0, 1, 2, 3, 4, 5, 6, 8, 9, 11, 12, 13, 15, 16, 19, 20] hm hB ⟨⟨_, k.drew, e1⟩, rfl⟩ (Scr.of_free rfl g (fun _ g0 => Scr.of_free rfl g0 (fun _ g1 => Scr.of_free rfl g1 (fun _ g2 => Scr.of_free rfl g2 (fun _ g3 => Scr.of_free rfl g3 (fun _ g4 => Scr.of_free rfl g4 (fun _ g5 => Scr.of_free rfl g5 (fun _ g6 => Scr.of_free rfl g6 (fun _ g7 => Scr.of_free rfl g7 (fun _ g8 => Scr.of_free rfl g8 (fun _ g9 => Scr.of_free rfl g9 (fun _ g10 => Scr.of_free rfl g10 (fun _ g11 => Scr.of_read rfl g11 (fun _ g12 => Scr.of_free rfl g12 (fun _ g13 => Scr.of_read rfl g13 (fun _ g14 => Scr.of_read rfl g14 (fun _ g15 => Scr.of_free rfl g15 (fun _ g16 => Scr.of_read rfl g16 (fun _ g17 => (Scr.of_altc rfl (g17.1 _ (fun _ _ g => g)) (fun _ _ g18 => Scr.of_free rfl g18 (fun _ g19 => Scr.of_free rfl g19 (fun _ g20 => g20))) trivial))))))))))))))))))))
/-- the cells of a Boolean -/
def bc (b : Bool) : List Value := [.bool b]
theorem bc_ok : ∀ b : Bool, (bc b).length = 1 ∧ ∀ u ∈ bc b, u.oneCell' = true := fun b => ⟨rfl, fun u hu => by simp [bc] at hu; subst hu; rfl⟩
def PaRel (w : World) (x : Lb) (i : Nat) (tk : List Bool) (b t : Value) (wr : World) : Prop := ∃ k : Nat, k ≤ x.l.length ∧ t = .int .i64 k ∧ b = .int .i64 (pa x i tk k) ∧ Below w.heap.size w wr
theorem window29c (P : Nat) (x : Lb) (v : Value) (p : Pl) (d : Int) (w : World) (hl : LobAt w P x v) (ok : x.Ok) (hs : p.Ok x.now) (hd : x.w p = d) : Calls Try.prog 29 #[.pointer (some ⟨P, 0, none⟩), .agg #[.int .i64 p.id, .int .i64 p.ra, .int .u64 p.si]] w fun e w' => e = .returned (.int .i64 d) ∧ Below w.heap.size w w' := by
  subst hd
  exact window29 P x v p w hl ok (by have h := ok.n; have h1 := hs.s0; have h2 := hs.s1; unfold U at *; omega)
theorem apart37c (p q : Pl) (now d : Int) (w : World) (hp : p.Ok now) (hq : q.Ok now) (hd : ap p.ra q.ra = d) : Calls Try.prog 37 #[.agg #[.int .i64 p.id, .int .i64 p.ra, .int .u64 p.si], .agg #[.int .i64 q.id, .int .i64 q.ra, .int .u64 q.si]] w fun e w' => e = .returned (.int .i64 d) ∧ Below w.heap.size w w' := by
  subst hd
  exact apart37 p q w ⟨hp.r0, hp.r1⟩ ⟨hq.r0, hq.r1⟩
set_option maxRecDepth 100000 in
set_option maxHeartbeats 4000000 in
theorem partner27 (P : Nat) (x : Lb) (v : Value) (i : Nat) (p : Pl) (tv : Value) (tk : List Bool) (w : World) (hl : LobAt w P x v) (ok : x.Ok) (hi : x.l[i]? = some p) (ht : Rw bc 1 w tv tk) (htl : tk.length = x.l.length) : Calls Try.prog 27 #[.pointer (some ⟨P, 0, none⟩), .int .i64 i, tv] w fun e w' => e = .returned (.int .i64 (pa x i tk x.l.length)) ∧ Below w.heap.size w w' := by
  have hP := hl.lt
  have HL := Lib.hid hl
  have hil := (List.getElem?_eq_some_iff.1 hi).1
  obtain ⟨b1, o1, c1, hv, hb1, hc1⟩ : ∃ b1 o1 c1, v = .slice (some ⟨b1, o1, none⟩) x.l.length c1 ∧ b1 < w.heap.size ∧ ∀ i x_1, x.l[i]? = some x_1 → ∀ j u, (plc x_1)[j]? = some u → w.cell? ⟨b1, o1 + (i * 3 + j), none⟩ = some u := by
    obtain ⟨_, a, c, e, f⟩ := hl.rw.form
    obtain ⟨b, o, rfl, h1, h2⟩ := f (by omega)
    exact ⟨b, o, c, e, h1, h2⟩
  subst hv
  obtain ⟨b2, o2, c2, hv, hb2, hc2⟩ : ∃ b2 o2 c2, tv = .slice (some ⟨b2, o2, none⟩) x.l.length c2 ∧ b2 < w.heap.size ∧ ∀ i x_1, tk[i]? = some x_1 → ∀ j u, (bc x_1)[j]? = some u → w.cell? ⟨b2, o2 + (i * 1 + j), none⟩ = some u := by
    obtain ⟨_, a, c, e, f⟩ := ht.form
    obtain ⟨b, o, rfl, h1, h2⟩ := f (by omega)
    exact ⟨b, o, c, by rw [e, htl], h1, h2⟩
  subst hv
  have C4 : w.cell? ⟨P, 4, none⟩ = some (.slice (some ⟨b1, o1, none⟩) x.l.length c1) := hl.cell 4
  have HC1 := Lib.hid hc1
  have HC2 := Lib.hid hc2
  have HPI := Lib.hid hi
  have HTL := Lib.hid htl
  have h200 := ok.len
  have OKP : Hid (p.Ok x.now) := Lib.hid (ok.p p (List.mem_of_getElem? hi))
  clear hl hi ht htl hc1 hc2
  go_enter Try.func27, Try.ntmps27
  go_wp2_with fail
  go_loopw [7, 16] (fun b t wr => PaRel w x i tk b t wr) (fun _ t _ => x.l.length - (intOf t).toNat)
  case atStart => exact ⟨0, Nat.zero_le _, rfl, rfl, Below.refl _ _⟩
  case round =>
    obtain ⟨k, hk, rfl, rfl, hw_wr⟩ := hrel
    have hz_wr := hw_wr.size
    by_cases hkl : k < x.l.length
    · obtain ⟨q, hq⟩ : ∃ q, x.l[k]? = some q := ⟨x.l[k], List.getElem?_eq_getElem hkl⟩
      obtain ⟨tb, htb⟩ : ∃ tb, tk[k]? = some tb := ⟨tk[k]'(by have := HTL.out; omega), List.getElem?_eq_getElem (by have := HTL.out; omega)⟩
      have ei0 : w.cell? ⟨b1, o1 + i * 3, none⟩ = some (.int .i64 p.id) := HC1.out i p HPI.out 0 _ rfl
      have ei1 : w.cell? ⟨b1, o1 + i * 3 + 1, none⟩ = some (.int .i64 p.ra) := HC1.out i p HPI.out 1 _ rfl
      have ei2 : w.cell? ⟨b1, o1 + i * 3 + 2, none⟩ = some (.int .u64 p.si) := HC1.out i p HPI.out 2 _ rfl
      have ek0 : w.cell? ⟨b1, o1 + k * 3, none⟩ = some (.int .i64 q.id) := HC1.out k q hq 0 _ rfl
      have m0 : wr.cell? ⟨b1, o1 + k * 3, none⟩ = some (.int .i64 q.id) := (hw_wr.cell (p := ⟨b1, o1 + k * 3, none⟩) hb1).trans ek0
      have ek1 : w.cell? ⟨b1, o1 + k * 3 + 1, none⟩ = some (.int .i64 q.ra) := HC1.out k q hq 1 _ rfl
      have m1 : wr.cell? ⟨b1, o1 + k * 3 + 1, none⟩ = some (.int .i64 q.ra) := (hw_wr.cell (p := ⟨b1, o1 + k * 3 + 1, none⟩) hb1).trans ek1
      have ek2 : w.cell? ⟨b1, o1 + k * 3 + 2, none⟩ = some (.int .u64 q.si) := HC1.out k q hq 2 _ rfl
      have m2 : wr.cell? ⟨b1, o1 + k * 3 + 2, none⟩ = some (.int .u64 q.si) := (hw_wr.cell (p := ⟨b1, o1 + k * 3 + 2, none⟩) hb1).trans ek2
      have et : w.cell? ⟨b2, o2 + k, none⟩ = some (.bool tb) := by have := HC2.out k tb htb 0 _ rfl; rwa [Nat.mul_one, Nat.add_zero] at this
      have OKQ : Hid (q.Ok x.now) := Lib.hid (ok.p q (List.mem_of_getElem? hq))
      have HCAN := Lib.hid (can_of HPI.out hq htb)
      have hgi := getD_of (d := noPl) HPI.out
      have hgk := getD_of (d := noPl) hq
      have HGI := Lib.hid hgi
      have HGK := Lib.hid hgk
      have HQ := Lib.hid hq
      obtain ⟨d, hd⟩ : ∃ d, ap p.ra q.ra = d := ⟨_, rfl⟩
      obtain ⟨dp, hdp⟩ : ∃ d, x.w p = d := ⟨_, rfl⟩
      obtain ⟨dq, hdq⟩ : ∃ d, x.w q = d := ⟨_, rfl⟩
      obtain ⟨nb, hnb⟩ : ∃ n, pa x i tk k = n := ⟨_, rfl⟩
      have hbd := pa_bd x i tk k
      rw [hnb] at hbd ⊢
      obtain ⟨hbd1, hbd2⟩ := hbd
      have HNB := Lib.hid hnb
      have HD := Lib.hid hd
      have HDP := Lib.hid hdp
      have HDQ := Lib.hid hdq
      have i1 : (0 : Int) ≤ (k : Int) := by omega
      have i2 : (k : Int) < (x.l.length : Int) := by omega
      have i3 : (0 : Int) ≤ (i : Int) := by omega
      have i4 : (i : Int) < (x.l.length : Int) := by omega
      clear hq htb hgi hgk hd hdp hdq hnb
      have NOC : can x i tk k = false → Hid (pa x i tk (k + 1) = nb) := fun h => Lib.hid (by rw [pa_no h, HNB.out])
      by_cases a1 : k = i
      · have HPA := NOC (by rw [HCAN.out, a1]; simp)
        have t1 : ((k : Int) == (i : Int)) = true := by simpa using (by omega : (k : Int) = (i : Int))
        clear NOC a1
        skip
        go_wp2_with fail
        refine rg27_5 (w0 := w) (B := w.heap.size) (n := wr.heap.size + 1) (L := [(wr.heap.size, 0, .int .i64 q.id), (wr.heap.size, 1, .int .i64 q.ra), (wr.heap.size, 2, .int .u64 q.si)]) (E := fun _ => True) (F := fun _ => True) (by kernel_rfl) (by kernel_rfl) ⟨by go_grown, by go_size, (by simp [go_sem] <;> omega)⟩ trivial (fun _ _ _ _ => trivial) trivial (fun _ _ _ _ => trivial) (fun w21 K_w21 E_w21 F_w21 => ?_)
        have _ne : Nonempty (KX (w.heap.size) w (wr.heap.size + 1) [(wr.heap.size, 0, .int .i64 q.id), (wr.heap.size, 1, .int .i64 q.ra), (wr.heap.size, 2, .int .u64 q.si)] (fun _ => True)) := ⟨⟨_, K_w21, E_w21⟩⟩
        repeat (go_big_quiet_step (fail))
        refine wpQuiet_nil ?_
        have rD0 : ∀ s : KX (w.heap.size) w (wr.heap.size + 1) [(wr.heap.size, 0, .int .i64 q.id), (wr.heap.size, 1, .int .i64 q.ra), (wr.heap.size, 2, .int .u64 q.si)] (fun _ => True), s.val.cell? ⟨wr.heap.size, 0, none⟩ = some (.int .i64 q.id) := fun s => s.kept.at (by simp)
        have rD1 : ∀ s : KX (w.heap.size) w (wr.heap.size + 1) [(wr.heap.size, 0, .int .i64 q.id), (wr.heap.size, 1, .int .i64 q.ra), (wr.heap.size, 2, .int .u64 q.si)] (fun _ => True), s.val.cell? ⟨wr.heap.size, 1, none⟩ = some (.int .i64 q.ra) := fun s => s.kept.at (by simp)
        have rD2 : ∀ s : KX (w.heap.size) w (wr.heap.size + 1) [(wr.heap.size, 0, .int .i64 q.id), (wr.heap.size, 1, .int .i64 q.ra), (wr.heap.size, 2, .int .u64 q.si)] (fun _ => True), s.val.cell? ⟨wr.heap.size, 2, none⟩ = some (.int .u64 q.si) := fun s => s.kept.at (by simp)
        have r4 : ∀ s : KX (w.heap.size) w (wr.heap.size + 1) [(wr.heap.size, 0, .int .i64 q.id), (wr.heap.size, 1, .int .i64 q.ra), (wr.heap.size, 2, .int .u64 q.si)] (fun _ => True), s.val.cell? ⟨P, 4, none⟩ = some ((.slice (some ⟨b1, o1, none⟩) x.l.length c1)) := fun s => (s.kept.below.cell (p := ⟨P, 4, none⟩) hP).trans C4
        have ri0 : ∀ s : KX (w.heap.size) w (wr.heap.size + 1) [(wr.heap.size, 0, .int .i64 q.id), (wr.heap.size, 1, .int .i64 q.ra), (wr.heap.size, 2, .int .u64 q.si)] (fun _ => True), s.val.cell? ⟨b1, o1 + i * 3, none⟩ = some (.int .i64 p.id) := fun s => (s.kept.below.cell (p := ⟨b1, o1 + i * 3, none⟩) hb1).trans ei0
        have ri1 : ∀ s : KX (w.heap.size) w (wr.heap.size + 1) [(wr.heap.size, 0, .int .i64 q.id), (wr.heap.size, 1, .int .i64 q.ra), (wr.heap.size, 2, .int .u64 q.si)] (fun _ => True), s.val.cell? ⟨b1, o1 + i * 3 + 1, none⟩ = some (.int .i64 p.ra) := fun s => (s.kept.below.cell (p := ⟨b1, o1 + i * 3 + 1, none⟩) hb1).trans ei1
        have ri2 : ∀ s : KX (w.heap.size) w (wr.heap.size + 1) [(wr.heap.size, 0, .int .i64 q.id), (wr.heap.size, 1, .int .i64 q.ra), (wr.heap.size, 2, .int .u64 q.si)] (fun _ => True), s.val.cell? ⟨b1, o1 + i * 3 + 2, none⟩ = some (.int .u64 p.si) := fun s => (s.kept.below.cell (p := ⟨b1, o1 + i * 3 + 2, none⟩) hb1).trans ei2
        have rk0 : ∀ s : KX (w.heap.size) w (wr.heap.size + 1) [(wr.heap.size, 0, .int .i64 q.id), (wr.heap.size, 1, .int .i64 q.ra), (wr.heap.size, 2, .int .u64 q.si)] (fun _ => True), s.val.cell? ⟨b1, o1 + k * 3, none⟩ = some (.int .i64 q.id) := fun s => (s.kept.below.cell (p := ⟨b1, o1 + k * 3, none⟩) hb1).trans ek0
        have rk1 : ∀ s : KX (w.heap.size) w (wr.heap.size + 1) [(wr.heap.size, 0, .int .i64 q.id), (wr.heap.size, 1, .int .i64 q.ra), (wr.heap.size, 2, .int .u64 q.si)] (fun _ => True), s.val.cell? ⟨b1, o1 + k * 3 + 1, none⟩ = some (.int .i64 q.ra) := fun s => (s.kept.below.cell (p := ⟨b1, o1 + k * 3 + 1, none⟩) hb1).trans ek1
        have rk2 : ∀ s : KX (w.heap.size) w (wr.heap.size + 1) [(wr.heap.size, 0, .int .i64 q.id), (wr.heap.size, 1, .int .i64 q.ra), (wr.heap.size, 2, .int .u64 q.si)] (fun _ => True), s.val.cell? ⟨b1, o1 + k * 3 + 2, none⟩ = some (.int .u64 q.si) := fun s => (s.kept.below.cell (p := ⟨b1, o1 + k * 3 + 2, none⟩) hb1).trans ek2
        repeat (go_big_quiet_step (fail))
        refine wpQuiet_nil ?_
        clear rD0 rD1 rD2 r4 ri0 ri1 ri2 rk0 rk1 rk2
        repeat (go_big_quiet_step (fail))
        refine wpQuiet_nil ?_
        have rD0 : ∀ s : KX (w.heap.size) w (wr.heap.size + 1) [(wr.heap.size, 0, .int .i64 q.id), (wr.heap.size, 1, .int .i64 q.ra), (wr.heap.size, 2, .int .u64 q.si)] (fun _ => True), s.val.cell? ⟨wr.heap.size, 0, none⟩ = some (.int .i64 q.id) := fun s => s.kept.at (by simp)
        have rD1 : ∀ s : KX (w.heap.size) w (wr.heap.size + 1) [(wr.heap.size, 0, .int .i64 q.id), (wr.heap.size, 1, .int .i64 q.ra), (wr.heap.size, 2, .int .u64 q.si)] (fun _ => True), s.val.cell? ⟨wr.heap.size, 1, none⟩ = some (.int .i64 q.ra) := fun s => s.kept.at (by simp)
        have rD2 : ∀ s : KX (w.heap.size) w (wr.heap.size + 1) [(wr.heap.size, 0, .int .i64 q.id), (wr.heap.size, 1, .int .i64 q.ra), (wr.heap.size, 2, .int .u64 q.si)] (fun _ => True), s.val.cell? ⟨wr.heap.size, 2, none⟩ = some (.int .u64 q.si) := fun s => s.kept.at (by simp)
        have r4 : ∀ s : KX (w.heap.size) w (wr.heap.size + 1) [(wr.heap.size, 0, .int .i64 q.id), (wr.heap.size, 1, .int .i64 q.ra), (wr.heap.size, 2, .int .u64 q.si)] (fun _ => True), s.val.cell? ⟨P, 4, none⟩ = some ((.slice (some ⟨b1, o1, none⟩) x.l.length c1)) := fun s => (s.kept.below.cell (p := ⟨P, 4, none⟩) hP).trans C4
        have ri0 : ∀ s : KX (w.heap.size) w (wr.heap.size + 1) [(wr.heap.size, 0, .int .i64 q.id), (wr.heap.size, 1, .int .i64 q.ra), (wr.heap.size, 2, .int .u64 q.si)] (fun _ => True), s.val.cell? ⟨b1, o1 + i * 3, none⟩ = some (.int .i64 p.id) := fun s => (s.kept.below.cell (p := ⟨b1, o1 + i * 3, none⟩) hb1).trans ei0
        have ri1 : ∀ s : KX (w.heap.size) w (wr.heap.size + 1) [(wr.heap.size, 0, .int .i64 q.id), (wr.heap.size, 1, .int .i64 q.ra), (wr.heap.size, 2, .int .u64 q.si)] (fun _ => True), s.val.cell? ⟨b1, o1 + i * 3 + 1, none⟩ = some (.int .i64 p.ra) := fun s => (s.kept.below.cell (p := ⟨b1, o1 + i * 3 + 1, none⟩) hb1).trans ei1
        have ri2 : ∀ s : KX (w.heap.size) w (wr.heap.size + 1) [(wr.heap.size, 0, .int .i64 q.id), (wr.heap.size, 1, .int .i64 q.ra), (wr.heap.size, 2, .int .u64 q.si)] (fun _ => True), s.val.cell? ⟨b1, o1 + i * 3 + 2, none⟩ = some (.int .u64 p.si) := fun s => (s.kept.below.cell (p := ⟨b1, o1 + i * 3 + 2, none⟩) hb1).trans ei2
        have rk0 : ∀ s : KX (w.heap.size) w (wr.heap.size + 1) [(wr.heap.size, 0, .int .i64 q.id), (wr.heap.size, 1, .int .i64 q.ra), (wr.heap.size, 2, .int .u64 q.si)] (fun _ => True), s.val.cell? ⟨b1, o1 + k * 3, none⟩ = some (.int .i64 q.id) := fun s => (s.kept.below.cell (p := ⟨b1, o1 + k * 3, none⟩) hb1).trans ek0
        have rk1 : ∀ s : KX (w.heap.size) w (wr.heap.size + 1) [(wr.heap.size, 0, .int .i64 q.id), (wr.heap.size, 1, .int .i64 q.ra), (wr.heap.size, 2, .int .u64 q.si)] (fun _ => True), s.val.cell? ⟨b1, o1 + k * 3 + 1, none⟩ = some (.int .i64 q.ra) := fun s => (s.kept.below.cell (p := ⟨b1, o1 + k * 3 + 1, none⟩) hb1).trans ek1
        have rk2 : ∀ s : KX (w.heap.size) w (wr.heap.size + 1) [(wr.heap.size, 0, .int .i64 q.id), (wr.heap.size, 1, .int .i64 q.ra), (wr.heap.size, 2, .int .u64 q.si)] (fun _ => True), s.val.cell? ⟨b1, o1 + k * 3 + 2, none⟩ = some (.int .u64 q.si) := fun s => (s.kept.below.cell (p := ⟨b1, o1 + k * 3 + 2, none⟩) hb1).trans ek2
        repeat (go_big_quiet_step (fail))
        refine wpQuiet_nil ?_
        clear rD0 rD1 rD2 r4 ri0 ri1 ri2 rk0 rk1 rk2
        have KH_w21 := Lib.hid K_w21
        have hw_w21 := K_w21.below
        have hz_w21 := K_w21.size
        have lD_w21 : wr.heap.size < w21.heap.size := by omega
        clear K_w21
        clear E_w21 F_w21
        refine ⟨fun K hK0 => ?_, trivial⟩
        have hK := Lib.hid hK0
        clear hK0
        go_wp2_with fail
        with_reducible refine (apart37c p q x.now d _ OKP.out OKQ.out HD.out).mono ?_
        rintro e w22 ⟨rfl, hb_w22⟩
        have K_w22 := (KH_w21.out.step (by omega) (by go_grown)).step (by omega) hb_w22
        clear hb_w22
        have KH_w22 := Lib.hid K_w22
        have hw_w22 := K_w22.below
        have hz_w22 := K_w22.size
        have lD_w22 : wr.heap.size < w22.heap.size := by omega
        clear lD_w21
        clear K_w22
        go_wp2_with fail
        first | (refine ⟨rfl, hK.out _ _ ?_⟩; clear hK K) | (refine hK.out _ _ ?_; clear hK K)
        repeat (go_big_quiet_step (fail))
        refine wpQuiet_nil ?_
        clear _ne
        have g4_w22 : w22.cell? ⟨P, 4, none⟩ = Option.some (.slice (some ⟨b1, o1, none⟩) x.l.length c1) := (hw_w22.cell (p := ⟨P, 4, none⟩) hP).trans C4
        have gi0_w22 : w22.cell? ⟨b1, o1 + i * 3, none⟩ = Option.some (.int .i64 p.id) := (hw_w22.cell (p := ⟨b1, o1 + i * 3, none⟩) hb1).trans ei0
        have gi1_w22 : w22.cell? ⟨b1, o1 + i * 3 + 1, none⟩ = Option.some (.int .i64 p.ra) := (hw_w22.cell (p := ⟨b1, o1 + i * 3 + 1, none⟩) hb1).trans ei1
        have gi2_w22 : w22.cell? ⟨b1, o1 + i * 3 + 2, none⟩ = Option.some (.int .u64 p.si) := (hw_w22.cell (p := ⟨b1, o1 + i * 3 + 2, none⟩) hb1).trans ei2
        have gk0_w22 : w22.cell? ⟨b1, o1 + k * 3, none⟩ = Option.some (.int .i64 q.id) := (hw_w22.cell (p := ⟨b1, o1 + k * 3, none⟩) hb1).trans ek0
        have gk1_w22 : w22.cell? ⟨b1, o1 + k * 3 + 1, none⟩ = Option.some (.int .i64 q.ra) := (hw_w22.cell (p := ⟨b1, o1 + k * 3 + 1, none⟩) hb1).trans ek1
        have gk2_w22 : w22.cell? ⟨b1, o1 + k * 3 + 2, none⟩ = Option.some (.int .u64 q.si) := (hw_w22.cell (p := ⟨b1, o1 + k * 3 + 2, none⟩) hb1).trans ek2
        have gt_w22 : w22.cell? ⟨b2, o2 + k, none⟩ = Option.some (.bool tb) := (hw_w22.cell (p := ⟨b2, o2 + k, none⟩) hb2).trans et
        have cD0_w22 := KH_w22.out.at (b := wr.heap.size) (o := 0) (v := .int .i64 q.id) (by simp)
        have fD0_w22 := KH_w22.out.free (b := wr.heap.size) (o := 0) (v := .int .i64 q.id) (by simp)
        have cD1_w22 := KH_w22.out.at (b := wr.heap.size) (o := 1) (v := .int .i64 q.ra) (by simp)
        have fD1_w22 := KH_w22.out.free (b := wr.heap.size) (o := 1) (v := .int .i64 q.ra) (by simp)
        have cD2_w22 := KH_w22.out.at (b := wr.heap.size) (o := 2) (v := .int .u64 q.si) (by simp)
        have fD2_w22 := KH_w22.out.free (b := wr.heap.size) (o := 2) (v := .int .u64 q.si) (by simp)
        go_wp2_with fail
        go_roundw
        case rel => exact ⟨k + 1, by omega, by go_num, by rw [HPA.out], by go_grown⟩
        case measure => simp [intOf]; omega
      · have t1 : ((k : Int) == (i : Int)) = false := by simp; omega
        cases tb with
        | true =>
          have HPA := NOC (by rw [HCAN.out]; simp)
          clear NOC a1
          skip
          go_wp2_with fail
          refine rg27_5 (w0 := w) (B := w.heap.size) (n := wr.heap.size + 1) (L := [(wr.heap.size, 0, .int .i64 q.id), (wr.heap.size, 1, .int .i64 q.ra), (wr.heap.size, 2, .int .u64 q.si)]) (E := fun _ => True) (F := fun _ => True) (by kernel_rfl) (by kernel_rfl) ⟨by go_grown, by go_size, (by simp [go_sem] <;> omega)⟩ trivial (fun _ _ _ _ => trivial) trivial (fun _ _ _ _ => trivial) (fun w21 K_w21 E_w21 F_w21 => ?_)
          have _ne : Nonempty (KX (w.heap.size) w (wr.heap.size + 1) [(wr.heap.size, 0, .int .i64 q.id), (wr.heap.size, 1, .int .i64 q.ra), (wr.heap.size, 2, .int .u64 q.si)] (fun _ => True)) := ⟨⟨_, K_w21, E_w21⟩⟩
          repeat (go_big_quiet_step (fail))
          refine wpQuiet_nil ?_
          have rD0 : ∀ s : KX (w.heap.size) w (wr.heap.size + 1) [(wr.heap.size, 0, .int .i64 q.id), (wr.heap.size, 1, .int .i64 q.ra), (wr.heap.size, 2, .int .u64 q.si)] (fun _ => True), s.val.cell? ⟨wr.heap.size, 0, none⟩ = some (.int .i64 q.id) := fun s => s.kept.at (by simp)
          have rD1 : ∀ s : KX (w.heap.size) w (wr.heap.size + 1) [(wr.heap.size, 0, .int .i64 q.id), (wr.heap.size, 1, .int .i64 q.ra), (wr.heap.size, 2, .int .u64 q.si)] (fun _ => True), s.val.cell? ⟨wr.heap.size, 1, none⟩ = some (.int .i64 q.ra) := fun s => s.kept.at (by simp)
          have rD2 : ∀ s : KX (w.heap.size) w (wr.heap.size + 1) [(wr.heap.size, 0, .int .i64 q.id), (wr.heap.size, 1, .int .i64 q.ra), (wr.heap.size, 2, .int .u64 q.si)] (fun _ => True), s.val.cell? ⟨wr.heap.size, 2, none⟩ = some (.int .u64 q.si) := fun s => s.kept.at (by simp)
          have r4 : ∀ s : KX (w.heap.size) w (wr.heap.size + 1) [(wr.heap.size, 0, .int .i64 q.id), (wr.heap.size, 1, .int .i64 q.ra), (wr.heap.size, 2, .int .u64 q.si)] (fun _ => True), s.val.cell? ⟨P, 4, none⟩ = some ((.slice (some ⟨b1, o1, none⟩) x.l.length c1)) := fun s => (s.kept.below.cell (p := ⟨P, 4, none⟩) hP).trans C4
          have ri0 : ∀ s : KX (w.heap.size) w (wr.heap.size + 1) [(wr.heap.size, 0, .int .i64 q.id), (wr.heap.size, 1, .int .i64 q.ra), (wr.heap.size, 2, .int .u64 q.si)] (fun _ => True), s.val.cell? ⟨b1, o1 + i * 3, none⟩ = some (.int .i64 p.id) := fun s => (s.kept.below.cell (p := ⟨b1, o1 + i * 3, none⟩) hb1).trans ei0
          have ri1 : ∀ s : KX (w.heap.size) w (wr.heap.size + 1) [(wr.heap.size, 0, .int .i64 q.id), (wr.heap.size, 1, .int .i64 q.ra), (wr.heap.size, 2, .int .u64 q.si)] (fun _ => True), s.val.cell? ⟨b1, o1 + i * 3 + 1, none⟩ = some (.int .i64 p.ra) := fun s => (s.kept.below.cell (p := ⟨b1, o1 + i * 3 + 1, none⟩) hb1).trans ei1
          have ri2 : ∀ s : KX (w.heap.size) w (wr.heap.size + 1) [(wr.heap.size, 0, .int .i64 q.id), (wr.heap.size, 1, .int .i64 q.ra), (wr.heap.size, 2, .int .u64 q.si)] (fun _ => True), s.val.cell? ⟨b1, o1 + i * 3 + 2, none⟩ = some (.int .u64 p.si) := fun s => (s.kept.below.cell (p := ⟨b1, o1 + i * 3 + 2, none⟩) hb1).trans ei2
          have rk0 : ∀ s : KX (w.heap.size) w (wr.heap.size + 1) [(wr.heap.size, 0, .int .i64 q.id), (wr.heap.size, 1, .int .i64 q.ra), (wr.heap.size, 2, .int .u64 q.si)] (fun _ => True), s.val.cell? ⟨b1, o1 + k * 3, none⟩ = some (.int .i64 q.id) := fun s => (s.kept.below.cell (p := ⟨b1, o1 + k * 3, none⟩) hb1).trans ek0
          have rk1 : ∀ s : KX (w.heap.size) w (wr.heap.size + 1) [(wr.heap.size, 0, .int .i64 q.id), (wr.heap.size, 1, .int .i64 q.ra), (wr.heap.size, 2, .int .u64 q.si)] (fun _ => True), s.val.cell? ⟨b1, o1 + k * 3 + 1, none⟩ = some (.int .i64 q.ra) := fun s => (s.kept.below.cell (p := ⟨b1, o1 + k * 3 + 1, none⟩) hb1).trans ek1
          have rk2 : ∀ s : KX (w.heap.size) w (wr.heap.size + 1) [(wr.heap.size, 0, .int .i64 q.id), (wr.heap.size, 1, .int .i64 q.ra), (wr.heap.size, 2, .int .u64 q.si)] (fun _ => True), s.val.cell? ⟨b1, o1 + k * 3 + 2, none⟩ = some (.int .u64 q.si) := fun s => (s.kept.below.cell (p := ⟨b1, o1 + k * 3 + 2, none⟩) hb1).trans ek2
          repeat (go_big_quiet_step (fail))
          refine wpQuiet_nil ?_
          clear rD0 rD1 rD2 r4 ri0 ri1 ri2 rk0 rk1 rk2
          repeat (go_big_quiet_step (fail))
          refine wpQuiet_nil ?_
          have rD0 : ∀ s : KX (w.heap.size) w (wr.heap.size + 1) [(wr.heap.size, 0, .int .i64 q.id), (wr.heap.size, 1, .int .i64 q.ra), (wr.heap.size, 2, .int .u64 q.si)] (fun _ => True), s.val.cell? ⟨wr.heap.size, 0, none⟩ = some (.int .i64 q.id) := fun s => s.kept.at (by simp)
          have rD1 : ∀ s : KX (w.heap.size) w (wr.heap.size + 1) [(wr.heap.size, 0, .int .i64 q.id), (wr.heap.size, 1, .int .i64 q.ra), (wr.heap.size, 2, .int .u64 q.si)] (fun _ => True), s.val.cell? ⟨wr.heap.size, 1, none⟩ = some (.int .i64 q.ra) := fun s => s.kept.at (by simp)
          have rD2 : ∀ s : KX (w.heap.size) w (wr.heap.size + 1) [(wr.heap.size, 0, .int .i64 q.id), (wr.heap.size, 1, .int .i64 q.ra), (wr.heap.size, 2, .int .u64 q.si)] (fun _ => True), s.val.cell? ⟨wr.heap.size, 2, none⟩ = some (.int .u64 q.si) := fun s => s.kept.at (by simp)
          have r4 : ∀ s : KX (w.heap.size) w (wr.heap.size + 1) [(wr.heap.size, 0, .int .i64 q.id), (wr.heap.size, 1, .int .i64 q.ra), (wr.heap.size, 2, .int .u64 q.si)] (fun _ => True), s.val.cell? ⟨P, 4, none⟩ = some ((.slice (some ⟨b1, o1, none⟩) x.l.length c1)) := fun s => (s.kept.below.cell (p := ⟨P, 4, none⟩) hP).trans C4
          have ri0 : ∀ s : KX (w.heap.size) w (wr.heap.size + 1) [(wr.heap.size, 0, .int .i64 q.id), (wr.heap.size, 1, .int .i64 q.ra), (wr.heap.size, 2, .int .u64 q.si)] (fun _ => True), s.val.cell? ⟨b1, o1 + i * 3, none⟩ = some (.int .i64 p.id) := fun s => (s.kept.below.cell (p := ⟨b1, o1 + i * 3, none⟩) hb1).trans ei0
          have ri1 : ∀ s : KX (w.heap.size) w (wr.heap.size + 1) [(wr.heap.size, 0, .int .i64 q.id), (wr.heap.size, 1, .int .i64 q.ra), (wr.heap.size, 2, .int .u64 q.si)] (fun _ => True), s.val.cell? ⟨b1, o1 + i * 3 + 1, none⟩ = some (.int .i64 p.ra) := fun s => (s.kept.below.cell (p := ⟨b1, o1 + i * 3 + 1, none⟩) hb1).trans ei1
          have ri2 : ∀ s : KX (w.heap.size) w (wr.heap.size + 1) [(wr.heap.size, 0, .int .i64 q.id), (wr.heap.size, 1, .int .i64 q.ra), (wr.heap.size, 2, .int .u64 q.si)] (fun _ => True), s.val.cell? ⟨b1, o1 + i * 3 + 2, none⟩ = some (.int .u64 p.si) := fun s => (s.kept.below.cell (p := ⟨b1, o1 + i * 3 + 2, none⟩) hb1).trans ei2
          have rk0 : ∀ s : KX (w.heap.size) w (wr.heap.size + 1) [(wr.heap.size, 0, .int .i64 q.id), (wr.heap.size, 1, .int .i64 q.ra), (wr.heap.size, 2, .int .u64 q.si)] (fun _ => True), s.val.cell? ⟨b1, o1 + k * 3, none⟩ = some (.int .i64 q.id) := fun s => (s.kept.below.cell (p := ⟨b1, o1 + k * 3, none⟩) hb1).trans ek0
          have rk1 : ∀ s : KX (w.heap.size) w (wr.heap.size + 1) [(wr.heap.size, 0, .int .i64 q.id), (wr.heap.size, 1, .int .i64 q.ra), (wr.heap.size, 2, .int .u64 q.si)] (fun _ => True), s.val.cell? ⟨b1, o1 + k * 3 + 1, none⟩ = some (.int .i64 q.ra) := fun s => (s.kept.below.cell (p := ⟨b1, o1 + k * 3 + 1, none⟩) hb1).trans ek1
          have rk2 : ∀ s : KX (w.heap.size) w (wr.heap.size + 1) [(wr.heap.size, 0, .int .i64 q.id), (wr.heap.size, 1, .int .i64 q.ra), (wr.heap.size, 2, .int .u64 q.si)] (fun _ => True), s.val.cell? ⟨b1, o1 + k * 3 + 2, none⟩ = some (.int .u64 q.si) := fun s => (s.kept.below.cell (p := ⟨b1, o1 + k * 3 + 2, none⟩) hb1).trans ek2
          repeat (go_big_quiet_step (fail))
          refine wpQuiet_nil ?_
          clear rD0 rD1 rD2 r4 ri0 ri1 ri2 rk0 rk1 rk2
          have KH_w21 := Lib.hid K_w21
          have hw_w21 := K_w21.below
          have hz_w21 := K_w21.size
          have lD_w21 : wr.heap.size < w21.heap.size := by omega
          clear K_w21
          clear E_w21 F_w21
          refine ⟨fun K hK0 => ?_, trivial⟩
          have hK := Lib.hid hK0
          clear hK0
          go_wp2_with fail
          with_reducible refine (apart37c p q x.now d _ OKP.out OKQ.out HD.out).mono ?_
          rintro e w22 ⟨rfl, hb_w22⟩
          have K_w22 := (KH_w21.out.step (by omega) (by go_grown)).step (by omega) hb_w22
          clear hb_w22
          have KH_w22 := Lib.hid K_w22
          have hw_w22 := K_w22.below
          have hz_w22 := K_w22.size
          have lD_w22 : wr.heap.size < w22.heap.size := by omega
          clear lD_w21
          clear K_w22
          go_wp2_with fail
          first | (refine ⟨rfl, hK.out _ _ ?_⟩; clear hK K) | (refine hK.out _ _ ?_; clear hK K)
          repeat (go_big_quiet_step (fail))
          refine wpQuiet_nil ?_
          clear _ne
          have g4_w22 : w22.cell? ⟨P, 4, none⟩ = Option.some (.slice (some ⟨b1, o1, none⟩) x.l.length c1) := (hw_w22.cell (p := ⟨P, 4, none⟩) hP).trans C4
          have gi0_w22 : w22.cell? ⟨b1, o1 + i * 3, none⟩ = Option.some (.int .i64 p.id) := (hw_w22.cell (p := ⟨b1, o1 + i * 3, none⟩) hb1).trans ei0
          have gi1_w22 : w22.cell? ⟨b1, o1 + i * 3 + 1, none⟩ = Option.some (.int .i64 p.ra) := (hw_w22.cell (p := ⟨b1, o1 + i * 3 + 1, none⟩) hb1).trans ei1
          have gi2_w22 : w22.cell? ⟨b1, o1 + i * 3 + 2, none⟩ = Option.some (.int .u64 p.si) := (hw_w22.cell (p := ⟨b1, o1 + i * 3 + 2, none⟩) hb1).trans ei2
          have gk0_w22 : w22.cell? ⟨b1, o1 + k * 3, none⟩ = Option.some (.int .i64 q.id) := (hw_w22.cell (p := ⟨b1, o1 + k * 3, none⟩) hb1).trans ek0
          have gk1_w22 : w22.cell? ⟨b1, o1 + k * 3 + 1, none⟩ = Option.some (.int .i64 q.ra) := (hw_w22.cell (p := ⟨b1, o1 + k * 3 + 1, none⟩) hb1).trans ek1
          have gk2_w22 : w22.cell? ⟨b1, o1 + k * 3 + 2, none⟩ = Option.some (.int .u64 q.si) := (hw_w22.cell (p := ⟨b1, o1 + k * 3 + 2, none⟩) hb1).trans ek2
          have gt_w22 : w22.cell? ⟨b2, o2 + k, none⟩ = Option.some (.bool true) := (hw_w22.cell (p := ⟨b2, o2 + k, none⟩) hb2).trans et
          have cD0_w22 := KH_w22.out.at (b := wr.heap.size) (o := 0) (v := .int .i64 q.id) (by simp)
          have fD0_w22 := KH_w22.out.free (b := wr.heap.size) (o := 0) (v := .int .i64 q.id) (by simp)
          have cD1_w22 := KH_w22.out.at (b := wr.heap.size) (o := 1) (v := .int .i64 q.ra) (by simp)
          have fD1_w22 := KH_w22.out.free (b := wr.heap.size) (o := 1) (v := .int .i64 q.ra) (by simp)
          have cD2_w22 := KH_w22.out.at (b := wr.heap.size) (o := 2) (v := .int .u64 q.si) (by simp)
          have fD2_w22 := KH_w22.out.free (b := wr.heap.size) (o := 2) (v := .int .u64 q.si) (by simp)
          go_wp2_with fail
          go_roundw
          case rel => exact ⟨k + 1, by omega, by go_num, by rw [HPA.out], by go_grown⟩
          case measure => simp [intOf]; omega
        | false =>
          by_cases a3 : dp < d
          · have HPA := NOC (by rw [HCAN.out, HD.out, HDP.out]; simp; omega)
            clear NOC a1
            skip
            go_wp2_with fail
            refine rg27_5 (w0 := w) (B := w.heap.size) (n := wr.heap.size + 1) (L := [(wr.heap.size, 0, .int .i64 q.id), (wr.heap.size, 1, .int .i64 q.ra), (wr.heap.size, 2, .int .u64 q.si)]) (E := fun _ => True) (F := fun _ => True) (by kernel_rfl) (by kernel_rfl) ⟨by go_grown, by go_size, (by simp [go_sem] <;> omega)⟩ trivial (fun _ _ _ _ => trivial) trivial (fun _ _ _ _ => trivial) (fun w21 K_w21 E_w21 F_w21 => ?_)
            have _ne : Nonempty (KX (w.heap.size) w (wr.heap.size + 1) [(wr.heap.size, 0, .int .i64 q.id), (wr.heap.size, 1, .int .i64 q.ra), (wr.heap.size, 2, .int .u64 q.si)] (fun _ => True)) := ⟨⟨_, K_w21, E_w21⟩⟩
            repeat (go_big_quiet_step (fail))
            refine wpQuiet_nil ?_
            have rD0 : ∀ s : KX (w.heap.size) w (wr.heap.size + 1) [(wr.heap.size, 0, .int .i64 q.id), (wr.heap.size, 1, .int .i64 q.ra), (wr.heap.size, 2, .int .u64 q.si)] (fun _ => True), s.val.cell? ⟨wr.heap.size, 0, none⟩ = some (.int .i64 q.id) := fun s => s.kept.at (by simp)
            have rD1 : ∀ s : KX (w.heap.size) w (wr.heap.size + 1) [(wr.heap.size, 0, .int .i64 q.id), (wr.heap.size, 1, .int .i64 q.ra), (wr.heap.size, 2, .int .u64 q.si)] (fun _ => True), s.val.cell? ⟨wr.heap.size, 1, none⟩ = some (.int .i64 q.ra) := fun s => s.kept.at (by simp)
            have rD2 : ∀ s : KX (w.heap.size) w (wr.heap.size + 1) [(wr.heap.size, 0, .int .i64 q.id), (wr.heap.size, 1, .int .i64 q.ra), (wr.heap.size, 2, .int .u64 q.si)] (fun _ => True), s.val.cell? ⟨wr.heap.size, 2, none⟩ = some (.int .u64 q.si) := fun s => s.kept.at (by simp)
            have r4 : ∀ s : KX (w.heap.size) w (wr.heap.size + 1) [(wr.heap.size, 0, .int .i64 q.id), (wr.heap.size, 1, .int .i64 q.ra), (wr.heap.size, 2, .int .u64 q.si)] (fun _ => True), s.val.cell? ⟨P, 4, none⟩ = some ((.slice (some ⟨b1, o1, none⟩) x.l.length c1)) := fun s => (s.kept.below.cell (p := ⟨P, 4, none⟩) hP).trans C4
            have ri0 : ∀ s : KX (w.heap.size) w (wr.heap.size + 1) [(wr.heap.size, 0, .int .i64 q.id), (wr.heap.size, 1, .int .i64 q.ra), (wr.heap.size, 2, .int .u64 q.si)] (fun _ => True), s.val.cell? ⟨b1, o1 + i * 3, none⟩ = some (.int .i64 p.id) := fun s => (s.kept.below.cell (p := ⟨b1, o1 + i * 3, none⟩) hb1).trans ei0
            have ri1 : ∀ s : KX (w.heap.size) w (wr.heap.size + 1) [(wr.heap.size, 0, .int .i64 q.id), (wr.heap.size, 1, .int .i64 q.ra), (wr.heap.size, 2, .int .u64 q.si)] (fun _ => True), s.val.cell? ⟨b1, o1 + i * 3 + 1, none⟩ = some (.int .i64 p.ra) := fun s => (s.kept.below.cell (p := ⟨b1, o1 + i * 3 + 1, none⟩) hb1).trans ei1
            have ri2 : ∀ s : KX (w.heap.size) w (wr.heap.size + 1) [(wr.heap.size, 0, .int .i64 q.id), (wr.heap.size, 1, .int .i64 q.ra), (wr.heap.size, 2, .int .u64 q.si)] (fun _ => True), s.val.cell? ⟨b1, o1 + i * 3 + 2, none⟩ = some (.int .u64 p.si) := fun s => (s.kept.below.cell (p := ⟨b1, o1 + i * 3 + 2, none⟩) hb1).trans ei2
            have rk0 : ∀ s : KX (w.heap.size) w (wr.heap.size + 1) [(wr.heap.size, 0, .int .i64 q.id), (wr.heap.size, 1, .int .i64 q.ra), (wr.heap.size, 2, .int .u64 q.si)] (fun _ => True), s.val.cell? ⟨b1, o1 + k * 3, none⟩ = some (.int .i64 q.id) := fun s => (s.kept.below.cell (p := ⟨b1, o1 + k * 3, none⟩) hb1).trans ek0
            have rk1 : ∀ s : KX (w.heap.size) w (wr.heap.size + 1) [(wr.heap.size, 0, .int .i64 q.id), (wr.heap.size, 1, .int .i64 q.ra), (wr.heap.size, 2, .int .u64 q.si)] (fun _ => True), s.val.cell? ⟨b1, o1 + k * 3 + 1, none⟩ = some (.int .i64 q.ra) := fun s => (s.kept.below.cell (p := ⟨b1, o1 + k * 3 + 1, none⟩) hb1).trans ek1
            have rk2 : ∀ s : KX (w.heap.size) w (wr.heap.size + 1) [(wr.heap.size, 0, .int .i64 q.id), (wr.heap.size, 1, .int .i64 q.ra), (wr.heap.size, 2, .int .u64 q.si)] (fun _ => True), s.val.cell? ⟨b1, o1 + k * 3 + 2, none⟩ = some (.int .u64 q.si) := fun s => (s.kept.below.cell (p := ⟨b1, o1 + k * 3 + 2, none⟩) hb1).trans ek2
            repeat (go_big_quiet_step (fail))
            refine wpQuiet_nil ?_
            clear rD0 rD1 rD2 r4 ri0 ri1 ri2 rk0 rk1 rk2
            repeat (go_big_quiet_step (fail))
            refine wpQuiet_nil ?_
            have rD0 : ∀ s : KX (w.heap.size) w (wr.heap.size + 1) [(wr.heap.size, 0, .int .i64 q.id), (wr.heap.size, 1, .int .i64 q.ra), (wr.heap.size, 2, .int .u64 q.si)] (fun _ => True), s.val.cell? ⟨wr.heap.size, 0, none⟩ = some (.int .i64 q.id) := fun s => s.kept.at (by simp)
            have rD1 : ∀ s : KX (w.heap.size) w (wr.heap.size + 1) [(wr.heap.size, 0, .int .i64 q.id), (wr.heap.size, 1, .int .i64 q.ra), (wr.heap.size, 2, .int .u64 q.si)] (fun _ => True), s.val.cell? ⟨wr.heap.size, 1, none⟩ = some (.int .i64 q.ra) := fun s => s.kept.at (by simp)
            have rD2 : ∀ s : KX (w.heap.size) w (wr.heap.size + 1) [(wr.heap.size, 0, .int .i64 q.id), (wr.heap.size, 1, .int .i64 q.ra), (wr.heap.size, 2, .int .u64 q.si)] (fun _ => True), s.val.cell? ⟨wr.heap.size, 2, none⟩ = some (.int .u64 q.si) := fun s => s.kept.at (by simp)
            have r4 : ∀ s : KX (w.heap.size) w (wr.heap.size + 1) [(wr.heap.size, 0, .int .i64 q.id), (wr.heap.size, 1, .int .i64 q.ra), (wr.heap.size, 2, .int .u64 q.si)] (fun _ => True), s.val.cell? ⟨P, 4, none⟩ = some ((.slice (some ⟨b1, o1, none⟩) x.l.length c1)) := fun s => (s.kept.below.cell (p := ⟨P, 4, none⟩) hP).trans C4
            have ri0 : ∀ s : KX (w.heap.size) w (wr.heap.size + 1) [(wr.heap.size, 0, .int .i64 q.id), (wr.heap.size, 1, .int .i64 q.ra), (wr.heap.size, 2, .int .u64 q.si)] (fun _ => True), s.val.cell? ⟨b1, o1 + i * 3, none⟩ = some (.int .i64 p.id) := fun s => (s.kept.below.cell (p := ⟨b1, o1 + i * 3, none⟩) hb1).trans ei0
            have ri1 : ∀ s : KX (w.heap.size) w (wr.heap.size + 1) [(wr.heap.size, 0, .int .i64 q.id), (wr.heap.size, 1, .int .i64 q.ra), (wr.heap.size, 2, .int .u64 q.si)] (fun _ => True), s.val.cell? ⟨b1, o1 + i * 3 + 1, none⟩ = some (.int .i64 p.ra) := fun s => (s.kept.below.cell (p := ⟨b1, o1 + i * 3 + 1, none⟩) hb1).trans ei1
            have ri2 : ∀ s : KX (w.heap.size) w (wr.heap.size + 1) [(wr.heap.size, 0, .int .i64 q.id), (wr.heap.size, 1, .int .i64 q.ra), (wr.heap.size, 2, .int .u64 q.si)] (fun _ => True), s.val.cell? ⟨b1, o1 + i * 3 + 2, none⟩ = some (.int .u64 p.si) := fun s => (s.kept.below.cell (p := ⟨b1, o1 + i * 3 + 2, none⟩) hb1).trans ei2
            have rk0 : ∀ s : KX (w.heap.size) w (wr.heap.size + 1) [(wr.heap.size, 0, .int .i64 q.id), (wr.heap.size, 1, .int .i64 q.ra), (wr.heap.size, 2, .int .u64 q.si)] (fun _ => True), s.val.cell? ⟨b1, o1 + k * 3, none⟩ = some (.int .i64 q.id) := fun s => (s.kept.below.cell (p := ⟨b1, o1 + k * 3, none⟩) hb1).trans ek0
            have rk1 : ∀ s : KX (w.heap.size) w (wr.heap.size + 1) [(wr.heap.size, 0, .int .i64 q.id), (wr.heap.size, 1, .int .i64 q.ra), (wr.heap.size, 2, .int .u64 q.si)] (fun _ => True), s.val.cell? ⟨b1, o1 + k * 3 + 1, none⟩ = some (.int .i64 q.ra) := fun s => (s.kept.below.cell (p := ⟨b1, o1 + k * 3 + 1, none⟩) hb1).trans ek1
            have rk2 : ∀ s : KX (w.heap.size) w (wr.heap.size + 1) [(wr.heap.size, 0, .int .i64 q.id), (wr.heap.size, 1, .int .i64 q.ra), (wr.heap.size, 2, .int .u64 q.si)] (fun _ => True), s.val.cell? ⟨b1, o1 + k * 3 + 2, none⟩ = some (.int .u64 q.si) := fun s => (s.kept.below.cell (p := ⟨b1, o1 + k * 3 + 2, none⟩) hb1).trans ek2
            repeat (go_big_quiet_step (fail))
            refine wpQuiet_nil ?_
            clear rD0 rD1 rD2 r4 ri0 ri1 ri2 rk0 rk1 rk2
            have KH_w21 := Lib.hid K_w21
            have hw_w21 := K_w21.below
            have hz_w21 := K_w21.size
            have lD_w21 : wr.heap.size < w21.heap.size := by omega
            clear K_w21
            clear E_w21 F_w21
            refine ⟨fun K hK0 => ?_, trivial⟩
            have hK := Lib.hid hK0
            clear hK0
            go_wp2_with fail
            with_reducible refine (apart37c p q x.now d _ OKP.out OKQ.out HD.out).mono ?_
            rintro e w22 ⟨rfl, hb_w22⟩
            have K_w22 := (KH_w21.out.step (by omega) (by go_grown)).step (by omega) hb_w22
            clear hb_w22
            have KH_w22 := Lib.hid K_w22
            have hw_w22 := K_w22.below
            have hz_w22 := K_w22.size
            have lD_w22 : wr.heap.size < w22.heap.size := by omega
            clear lD_w21
            clear K_w22
            go_wp2_with fail
            first | (refine ⟨rfl, hK.out _ _ ?_⟩; clear hK K) | (refine hK.out _ _ ?_; clear hK K)
            repeat (go_big_quiet_step (fail))
            refine wpQuiet_nil ?_
            clear _ne
            have g4_w22 : w22.cell? ⟨P, 4, none⟩ = Option.some (.slice (some ⟨b1, o1, none⟩) x.l.length c1) := (hw_w22.cell (p := ⟨P, 4, none⟩) hP).trans C4
            have gi0_w22 : w22.cell? ⟨b1, o1 + i * 3, none⟩ = Option.some (.int .i64 p.id) := (hw_w22.cell (p := ⟨b1, o1 + i * 3, none⟩) hb1).trans ei0
            have gi1_w22 : w22.cell? ⟨b1, o1 + i * 3 + 1, none⟩ = Option.some (.int .i64 p.ra) := (hw_w22.cell (p := ⟨b1, o1 + i * 3 + 1, none⟩) hb1).trans ei1
            have gi2_w22 : w22.cell? ⟨b1, o1 + i * 3 + 2, none⟩ = Option.some (.int .u64 p.si) := (hw_w22.cell (p := ⟨b1, o1 + i * 3 + 2, none⟩) hb1).trans ei2
            have gk0_w22 : w22.cell? ⟨b1, o1 + k * 3, none⟩ = Option.some (.int .i64 q.id) := (hw_w22.cell (p := ⟨b1, o1 + k * 3, none⟩) hb1).trans ek0
            have gk1_w22 : w22.cell? ⟨b1, o1 + k * 3 + 1, none⟩ = Option.some (.int .i64 q.ra) := (hw_w22.cell (p := ⟨b1, o1 + k * 3 + 1, none⟩) hb1).trans ek1
            have gk2_w22 : w22.cell? ⟨b1, o1 + k * 3 + 2, none⟩ = Option.some (.int .u64 q.si) := (hw_w22.cell (p := ⟨b1, o1 + k * 3 + 2, none⟩) hb1).trans ek2
            have gt_w22 : w22.cell? ⟨b2, o2 + k, none⟩ = Option.some (.bool false) := (hw_w22.cell (p := ⟨b2, o2 + k, none⟩) hb2).trans et
            have cD0_w22 := KH_w22.out.at (b := wr.heap.size) (o := 0) (v := .int .i64 q.id) (by simp)
            have fD0_w22 := KH_w22.out.free (b := wr.heap.size) (o := 0) (v := .int .i64 q.id) (by simp)
            have cD1_w22 := KH_w22.out.at (b := wr.heap.size) (o := 1) (v := .int .i64 q.ra) (by simp)
            have fD1_w22 := KH_w22.out.free (b := wr.heap.size) (o := 1) (v := .int .i64 q.ra) (by simp)
            have cD2_w22 := KH_w22.out.at (b := wr.heap.size) (o := 2) (v := .int .u64 q.si) (by simp)
            have fD2_w22 := KH_w22.out.free (b := wr.heap.size) (o := 2) (v := .int .u64 q.si) (by simp)
            go_wp2_with fail
            with_reducible refine (window29c P x _ p dp _ (HL.out.below (by go_grown)) ok OKP.out HDP.out).mono ?_
            rintro e w23 ⟨rfl, hb_w23⟩
            have K_w23 := (KH_w22.out.step (by omega) (by go_grown)).step (by omega) hb_w23
            clear hb_w23
            have KH_w23 := Lib.hid K_w23
            have hw_w23 := K_w23.below
            have hz_w23 := K_w23.size
            have lD_w23 : wr.heap.size < w23.heap.size := by omega
            clear lD_w22 cD0_w22 fD0_w22 cD1_w22 fD1_w22 cD2_w22 fD2_w22
            clear K_w23
            have g4_w23 : w23.cell? ⟨P, 4, none⟩ = Option.some (.slice (some ⟨b1, o1, none⟩) x.l.length c1) := (hw_w23.cell (p := ⟨P, 4, none⟩) hP).trans C4
            have gi0_w23 : w23.cell? ⟨b1, o1 + i * 3, none⟩ = Option.some (.int .i64 p.id) := (hw_w23.cell (p := ⟨b1, o1 + i * 3, none⟩) hb1).trans ei0
            have gi1_w23 : w23.cell? ⟨b1, o1 + i * 3 + 1, none⟩ = Option.some (.int .i64 p.ra) := (hw_w23.cell (p := ⟨b1, o1 + i * 3 + 1, none⟩) hb1).trans ei1
            have gi2_w23 : w23.cell? ⟨b1, o1 + i * 3 + 2, none⟩ = Option.some (.int .u64 p.si) := (hw_w23.cell (p := ⟨b1, o1 + i * 3 + 2, none⟩) hb1).trans ei2
            have gk0_w23 : w23.cell? ⟨b1, o1 + k * 3, none⟩ = Option.some (.int .i64 q.id) := (hw_w23.cell (p := ⟨b1, o1 + k * 3, none⟩) hb1).trans ek0
            have gk1_w23 : w23.cell? ⟨b1, o1 + k * 3 + 1, none⟩ = Option.some (.int .i64 q.ra) := (hw_w23.cell (p := ⟨b1, o1 + k * 3 + 1, none⟩) hb1).trans ek1
            have gk2_w23 : w23.cell? ⟨b1, o1 + k * 3 + 2, none⟩ = Option.some (.int .u64 q.si) := (hw_w23.cell (p := ⟨b1, o1 + k * 3 + 2, none⟩) hb1).trans ek2
            have gt_w23 : w23.cell? ⟨b2, o2 + k, none⟩ = Option.some (.bool false) := (hw_w23.cell (p := ⟨b2, o2 + k, none⟩) hb2).trans et
            have cD0_w23 := KH_w23.out.at (b := wr.heap.size) (o := 0) (v := .int .i64 q.id) (by simp)
            have fD0_w23 := KH_w23.out.free (b := wr.heap.size) (o := 0) (v := .int .i64 q.id) (by simp)
            have cD1_w23 := KH_w23.out.at (b := wr.heap.size) (o := 1) (v := .int .i64 q.ra) (by simp)
            have fD1_w23 := KH_w23.out.free (b := wr.heap.size) (o := 1) (v := .int .i64 q.ra) (by simp)
            have cD2_w23 := KH_w23.out.at (b := wr.heap.size) (o := 2) (v := .int .u64 q.si) (by simp)
            have fD2_w23 := KH_w23.out.free (b := wr.heap.size) (o := 2) (v := .int .u64 q.si) (by simp)
            go_wp2_with fail
            go_roundw
            case rel => exact ⟨k + 1, by omega, by go_num, by rw [HPA.out], by go_grown⟩
            case measure => simp [intOf]; omega
          · by_cases a4 : dq < d
            · have HPA := NOC (by rw [HCAN.out, HD.out, HDP.out, HDQ.out]; simp; omega)
              clear NOC a1
              skip
              go_wp2_with fail
              refine rg27_5 (w0 := w) (B := w.heap.size) (n := wr.heap.size + 1) (L := [(wr.heap.size, 0, .int .i64 q.id), (wr.heap.size, 1, .int .i64 q.ra), (wr.heap.size, 2, .int .u64 q.si)]) (E := fun _ => True) (F := fun _ => True) (by kernel_rfl) (by kernel_rfl) ⟨by go_grown, by go_size, (by simp [go_sem] <;> omega)⟩ trivial (fun _ _ _ _ => trivial) trivial (fun _ _ _ _ => trivial) (fun w21 K_w21 E_w21 F_w21 => ?_)
              have _ne : Nonempty (KX (w.heap.size) w (wr.heap.size + 1) [(wr.heap.size, 0, .int .i64 q.id), (wr.heap.size, 1, .int .i64 q.ra), (wr.heap.size, 2, .int .u64 q.si)] (fun _ => True)) := ⟨⟨_, K_w21, E_w21⟩⟩
              repeat (go_big_quiet_step (fail))
              refine wpQuiet_nil ?_
              have rD0 : ∀ s : KX (w.heap.size) w (wr.heap.size + 1) [(wr.heap.size, 0, .int .i64 q.id), (wr.heap.size, 1, .int .i64 q.ra), (wr.heap.size, 2, .int .u64 q.si)] (fun _ => True), s.val.cell? ⟨wr.heap.size, 0, none⟩ = some (.int .i64 q.id) := fun s => s.kept.at (by simp)
              have rD1 : ∀ s : KX (w.heap.size) w (wr.heap.size + 1) [(wr.heap.size, 0, .int .i64 q.id), (wr.heap.size, 1, .int .i64 q.ra), (wr.heap.size, 2, .int .u64 q.si)] (fun _ => True), s.val.cell? ⟨wr.heap.size, 1, none⟩ = some (.int .i64 q.ra) := fun s => s.kept.at (by simp)
              have rD2 : ∀ s : KX (w.heap.size) w (wr.heap.size + 1) [(wr.heap.size, 0, .int .i64 q.id), (wr.heap.size, 1, .int .i64 q.ra), (wr.heap.size, 2, .int .u64 q.si)] (fun _ => True), s.val.cell? ⟨wr.heap.size, 2, none⟩ = some (.int .u64 q.si) := fun s => s.kept.at (by simp)
              have r4 : ∀ s : KX (w.heap.size) w (wr.heap.size + 1) [(wr.heap.size, 0, .int .i64 q.id), (wr.heap.size, 1, .int .i64 q.ra), (wr.heap.size, 2, .int .u64 q.si)] (fun _ => True), s.val.cell? ⟨P, 4, none⟩ = some ((.slice (some ⟨b1, o1, none⟩) x.l.length c1)) := fun s => (s.kept.below.cell (p := ⟨P, 4, none⟩) hP).trans C4
              have ri0 : ∀ s : KX (w.heap.size) w (wr.heap.size + 1) [(wr.heap.size, 0, .int .i64 q.id), (wr.heap.size, 1, .int .i64 q.ra), (wr.heap.size, 2, .int .u64 q.si)] (fun _ => True), s.val.cell? ⟨b1, o1 + i * 3, none⟩ = some (.int .i64 p.id) := fun s => (s.kept.below.cell (p := ⟨b1, o1 + i * 3, none⟩) hb1).trans ei0
              have ri1 : ∀ s : KX (w.heap.size) w (wr.heap.size + 1) [(wr.heap.size, 0, .int .i64 q.id), (wr.heap.size, 1, .int .i64 q.ra), (wr.heap.size, 2, .int .u64 q.si)] (fun _ => True), s.val.cell? ⟨b1, o1 + i * 3 + 1, none⟩ = some (.int .i64 p.ra) := fun s => (s.kept.below.cell (p := ⟨b1, o1 + i * 3 + 1, none⟩) hb1).trans ei1
              have ri2 : ∀ s : KX (w.heap.size) w (wr.heap.size + 1) [(wr.heap.size, 0, .int .i64 q.id), (wr.heap.size, 1, .int .i64 q.ra), (wr.heap.size, 2, .int .u64 q.si)] (fun _ => True), s.val.cell? ⟨b1, o1 + i * 3 + 2, none⟩ = some (.int .u64 p.si) := fun s => (s.kept.below.cell (p := ⟨b1, o1 + i * 3 + 2, none⟩) hb1).trans ei2
              have rk0 : ∀ s : KX (w.heap.size) w (wr.heap.size + 1) [(wr.heap.size, 0, .int .i64 q.id), (wr.heap.size, 1, .int .i64 q.ra), (wr.heap.size, 2, .int .u64 q.si)] (fun _ => True), s.val.cell? ⟨b1, o1 + k * 3, none⟩ = some (.int .i64 q.id) := fun s => (s.kept.below.cell (p := ⟨b1, o1 + k * 3, none⟩) hb1).trans ek0
              have rk1 : ∀ s : KX (w.heap.size) w (wr.heap.size + 1) [(wr.heap.size, 0, .int .i64 q.id), (wr.heap.size, 1, .int .i64 q.ra), (wr.heap.size, 2, .int .u64 q.si)] (fun _ => True), s.val.cell? ⟨b1, o1 + k * 3 + 1, none⟩ = some (.int .i64 q.ra) := fun s => (s.kept.below.cell (p := ⟨b1, o1 + k * 3 + 1, none⟩) hb1).trans ek1
              have rk2 : ∀ s : KX (w.heap.size) w (wr.heap.size + 1) [(wr.heap.size, 0, .int .i64 q.id), (wr.heap.size, 1, .int .i64 q.ra), (wr.heap.size, 2, .int .u64 q.si)] (fun _ => True), s.val.cell? ⟨b1, o1 + k * 3 + 2, none⟩ = some (.int .u64 q.si) := fun s => (s.kept.below.cell (p := ⟨b1, o1 + k * 3 + 2, none⟩) hb1).trans ek2
              repeat (go_big_quiet_step (fail))
              refine wpQuiet_nil ?_
              clear rD0 rD1 rD2 r4 ri0 ri1 ri2 rk0 rk1 rk2
              repeat (go_big_quiet_step (fail))
              refine wpQuiet_nil ?_
              have rD0 : ∀ s : KX (w.heap.size) w (wr.heap.size + 1) [(wr.heap.size, 0, .int .i64 q.id), (wr.heap.size, 1, .int .i64 q.ra), (wr.heap.size, 2, .int .u64 q.si)] (fun _ => True), s.val.cell? ⟨wr.heap.size, 0, none⟩ = some (.int .i64 q.id) := fun s => s.kept.at (by simp)
              have rD1 : ∀ s : KX (w.heap.size) w (wr.heap.size + 1) [(wr.heap.size, 0, .int .i64 q.id), (wr.heap.size, 1, .int .i64 q.ra), (wr.heap.size, 2, .int .u64 q.si)] (fun _ => True), s.val.cell? ⟨wr.heap.size, 1, none⟩ = some (.int .i64 q.ra) := fun s => s.kept.at (by simp)
              have rD2 : ∀ s : KX (w.heap.size) w (wr.heap.size + 1) [(wr.heap.size, 0, .int .i64 q.id), (wr.heap.size, 1, .int .i64 q.ra), (wr.heap.size, 2, .int .u64 q.si)] (fun _ => True), s.val.cell? ⟨wr.heap.size, 2, none⟩ = some (.int .u64 q.si) := fun s => s.kept.at (by simp)
              have r4 : ∀ s : KX (w.heap.size) w (wr.heap.size + 1) [(wr.heap.size, 0, .int .i64 q.id), (wr.heap.size, 1, .int .i64 q.ra), (wr.heap.size, 2, .int .u64 q.si)] (fun _ => True), s.val.cell? ⟨P, 4, none⟩ = some ((.slice (some ⟨b1, o1, none⟩) x.l.length c1)) := fun s => (s.kept.below.cell (p := ⟨P, 4, none⟩) hP).trans C4
              have ri0 : ∀ s : KX (w.heap.size) w (wr.heap.size + 1) [(wr.heap.size, 0, .int .i64 q.id), (wr.heap.size, 1, .int .i64 q.ra), (wr.heap.size, 2, .int .u64 q.si)] (fun _ => True), s.val.cell? ⟨b1, o1 + i * 3, none⟩ = some (.int .i64 p.id) := fun s => (s.kept.below.cell (p := ⟨b1, o1 + i * 3, none⟩) hb1).trans ei0
              have ri1 : ∀ s : KX (w.heap.size) w (wr.heap.size + 1) [(wr.heap.size, 0, .int .i64 q.id), (wr.heap.size, 1, .int .i64 q.ra), (wr.heap.size, 2, .int .u64 q.si)] (fun _ => True), s.val.cell? ⟨b1, o1 + i * 3 + 1, none⟩ = some (.int .i64 p.ra) := fun s => (s.kept.below.cell (p := ⟨b1, o1 + i * 3 + 1, none⟩) hb1).trans ei1
              have ri2 : ∀ s : KX (w.heap.size) w (wr.heap.size + 1) [(wr.heap.size, 0, .int .i64 q.id), (wr.heap.size, 1, .int .i64 q.ra), (wr.heap.size, 2, .int .u64 q.si)] (fun _ => True), s.val.cell? ⟨b1, o1 + i * 3 + 2, none⟩ = some (.int .u64 p.si) := fun s => (s.kept.below.cell (p := ⟨b1, o1 + i * 3 + 2, none⟩) hb1).trans ei2
              have rk0 : ∀ s : KX (w.heap.size) w (wr.heap.size + 1) [(wr.heap.size, 0, .int .i64 q.id), (wr.heap.size, 1, .int .i64 q.ra), (wr.heap.size, 2, .int .u64 q.si)] (fun _ => True), s.val.cell? ⟨b1, o1 + k * 3, none⟩ = some (.int .i64 q.id) := fun s => (s.kept.below.cell (p := ⟨b1, o1 + k * 3, none⟩) hb1).trans ek0
              have rk1 : ∀ s : KX (w.heap.size) w (wr.heap.size + 1) [(wr.heap.size, 0, .int .i64 q.id), (wr.heap.size, 1, .int .i64 q.ra), (wr.heap.size, 2, .int .u64 q.si)] (fun _ => True), s.val.cell? ⟨b1, o1 + k * 3 + 1, none⟩ = some (.int .i64 q.ra) := fun s => (s.kept.below.cell (p := ⟨b1, o1 + k * 3 + 1, none⟩) hb1).trans ek1
              have rk2 : ∀ s : KX (w.heap.size) w (wr.heap.size + 1) [(wr.heap.size, 0, .int .i64 q.id), (wr.heap.size, 1, .int .i64 q.ra), (wr.heap.size, 2, .int .u64 q.si)] (fun _ => True), s.val.cell? ⟨b1, o1 + k * 3 + 2, none⟩ = some (.int .u64 q.si) := fun s => (s.kept.below.cell (p := ⟨b1, o1 + k * 3 + 2, none⟩) hb1).trans ek2
              repeat (go_big_quiet_step (fail))
              refine wpQuiet_nil ?_
              clear rD0 rD1 rD2 r4 ri0 ri1 ri2 rk0 rk1 rk2
              have KH_w21 := Lib.hid K_w21
              have hw_w21 := K_w21.below
              have hz_w21 := K_w21.size
              have lD_w21 : wr.heap.size < w21.heap.size := by omega
              clear K_w21
              clear E_w21 F_w21
              refine ⟨fun K hK0 => ?_, trivial⟩
              have hK := Lib.hid hK0
              clear hK0
              go_wp2_with fail
              with_reducible refine (apart37c p q x.now d _ OKP.out OKQ.out HD.out).mono ?_
              rintro e w22 ⟨rfl, hb_w22⟩
              have K_w22 := (KH_w21.out.step (by omega) (by go_grown)).step (by omega) hb_w22
              clear hb_w22
              have KH_w22 := Lib.hid K_w22
              have hw_w22 := K_w22.below
              have hz_w22 := K_w22.size
              have lD_w22 : wr.heap.size < w22.heap.size := by omega
              clear lD_w21
              clear K_w22
              go_wp2_with fail
              first | (refine ⟨rfl, hK.out _ _ ?_⟩; clear hK K) | (refine hK.out _ _ ?_; clear hK K)
              repeat (go_big_quiet_step (fail))
              refine wpQuiet_nil ?_
              clear _ne
              have g4_w22 : w22.cell? ⟨P, 4, none⟩ = Option.some (.slice (some ⟨b1, o1, none⟩) x.l.length c1) := (hw_w22.cell (p := ⟨P, 4, none⟩) hP).trans C4
              have gi0_w22 : w22.cell? ⟨b1, o1 + i * 3, none⟩ = Option.some (.int .i64 p.id) := (hw_w22.cell (p := ⟨b1, o1 + i * 3, none⟩) hb1).trans ei0
              have gi1_w22 : w22.cell? ⟨b1, o1 + i * 3 + 1, none⟩ = Option.some (.int .i64 p.ra) := (hw_w22.cell (p := ⟨b1, o1 + i * 3 + 1, none⟩) hb1).trans ei1
              have gi2_w22 : w22.cell? ⟨b1, o1 + i * 3 + 2, none⟩ = Option.some (.int .u64 p.si) := (hw_w22.cell (p := ⟨b1, o1 + i * 3 + 2, none⟩) hb1).trans ei2
              have gk0_w22 : w22.cell? ⟨b1, o1 + k * 3, none⟩ = Option.some (.int .i64 q.id) := (hw_w22.cell (p := ⟨b1, o1 + k * 3, none⟩) hb1).trans ek0
              have gk1_w22 : w22.cell? ⟨b1, o1 + k * 3 + 1, none⟩ = Option.some (.int .i64 q.ra) := (hw_w22.cell (p := ⟨b1, o1 + k * 3 + 1, none⟩) hb1).trans ek1
              have gk2_w22 : w22.cell? ⟨b1, o1 + k * 3 + 2, none⟩ = Option.some (.int .u64 q.si) := (hw_w22.cell (p := ⟨b1, o1 + k * 3 + 2, none⟩) hb1).trans ek2
              have gt_w22 : w22.cell? ⟨b2, o2 + k, none⟩ = Option.some (.bool false) := (hw_w22.cell (p := ⟨b2, o2 + k, none⟩) hb2).trans et
              have cD0_w22 := KH_w22.out.at (b := wr.heap.size) (o := 0) (v := .int .i64 q.id) (by simp)
              have fD0_w22 := KH_w22.out.free (b := wr.heap.size) (o := 0) (v := .int .i64 q.id) (by simp)
              have cD1_w22 := KH_w22.out.at (b := wr.heap.size) (o := 1) (v := .int .i64 q.ra) (by simp)
              have fD1_w22 := KH_w22.out.free (b := wr.heap.size) (o := 1) (v := .int .i64 q.ra) (by simp)
              have cD2_w22 := KH_w22.out.at (b := wr.heap.size) (o := 2) (v := .int .u64 q.si) (by simp)
              have fD2_w22 := KH_w22.out.free (b := wr.heap.size) (o := 2) (v := .int .u64 q.si) (by simp)
              go_wp2_with fail
              with_reducible refine (window29c P x _ p dp _ (HL.out.below (by go_grown)) ok OKP.out HDP.out).mono ?_
              rintro e w23 ⟨rfl, hb_w23⟩
              have K_w23 := (KH_w22.out.step (by omega) (by go_grown)).step (by omega) hb_w23
              clear hb_w23
              have KH_w23 := Lib.hid K_w23
              have hw_w23 := K_w23.below
              have hz_w23 := K_w23.size
              have lD_w23 : wr.heap.size < w23.heap.size := by omega
              clear lD_w22 cD0_w22 fD0_w22 cD1_w22 fD1_w22 cD2_w22 fD2_w22
              clear K_w23
              have g4_w23 : w23.cell? ⟨P, 4, none⟩ = Option.some (.slice (some ⟨b1, o1, none⟩) x.l.length c1) := (hw_w23.cell (p := ⟨P, 4, none⟩) hP).trans C4
              have gi0_w23 : w23.cell? ⟨b1, o1 + i * 3, none⟩ = Option.some (.int .i64 p.id) := (hw_w23.cell (p := ⟨b1, o1 + i * 3, none⟩) hb1).trans ei0
              have gi1_w23 : w23.cell? ⟨b1, o1 + i * 3 + 1, none⟩ = Option.some (.int .i64 p.ra) := (hw_w23.cell (p := ⟨b1, o1 + i * 3 + 1, none⟩) hb1).trans ei1
              have gi2_w23 : w23.cell? ⟨b1, o1 + i * 3 + 2, none⟩ = Option.some (.int .u64 p.si) := (hw_w23.cell (p := ⟨b1, o1 + i * 3 + 2, none⟩) hb1).trans ei2
              have gk0_w23 : w23.cell? ⟨b1, o1 + k * 3, none⟩ = Option.some (.int .i64 q.id) := (hw_w23.cell (p := ⟨b1, o1 + k * 3, none⟩) hb1).trans ek0
              have gk1_w23 : w23.cell? ⟨b1, o1 + k * 3 + 1, none⟩ = Option.some (.int .i64 q.ra) := (hw_w23.cell (p := ⟨b1, o1 + k * 3 + 1, none⟩) hb1).trans ek1
              have gk2_w23 : w23.cell? ⟨b1, o1 + k * 3 + 2, none⟩ = Option.some (.int .u64 q.si) := (hw_w23.cell (p := ⟨b1, o1 + k * 3 + 2, none⟩) hb1).trans ek2
              have gt_w23 : w23.cell? ⟨b2, o2 + k, none⟩ = Option.some (.bool false) := (hw_w23.cell (p := ⟨b2, o2 + k, none⟩) hb2).trans et
              have cD0_w23 := KH_w23.out.at (b := wr.heap.size) (o := 0) (v := .int .i64 q.id) (by simp)
              have fD0_w23 := KH_w23.out.free (b := wr.heap.size) (o := 0) (v := .int .i64 q.id) (by simp)
              have cD1_w23 := KH_w23.out.at (b := wr.heap.size) (o := 1) (v := .int .i64 q.ra) (by simp)
              have fD1_w23 := KH_w23.out.free (b := wr.heap.size) (o := 1) (v := .int .i64 q.ra) (by simp)
              have cD2_w23 := KH_w23.out.at (b := wr.heap.size) (o := 2) (v := .int .u64 q.si) (by simp)
              have fD2_w23 := KH_w23.out.free (b := wr.heap.size) (o := 2) (v := .int .u64 q.si) (by simp)
              go_wp2_with fail
              with_reducible refine (window29c P x _ q dq _ (HL.out.below (by go_grown)) ok OKQ.out HDQ.out).mono ?_
              rintro e w24 ⟨rfl, hb_w24⟩
              have K_w24 := (KH_w23.out.step (by omega) (by go_grown)).step (by omega) hb_w24
              clear hb_w24
              have KH_w24 := Lib.hid K_w24
              have hw_w24 := K_w24.below
              have hz_w24 := K_w24.size
              have lD_w24 : wr.heap.size < w24.heap.size := by omega
              clear lD_w23 cD0_w23 fD0_w23 cD1_w23 fD1_w23 cD2_w23 fD2_w23
              clear K_w24
              have g4_w24 : w24.cell? ⟨P, 4, none⟩ = Option.some (.slice (some ⟨b1, o1, none⟩) x.l.length c1) := (hw_w24.cell (p := ⟨P, 4, none⟩) hP).trans C4
              have gi0_w24 : w24.cell? ⟨b1, o1 + i * 3, none⟩ = Option.some (.int .i64 p.id) := (hw_w24.cell (p := ⟨b1, o1 + i * 3, none⟩) hb1).trans ei0
              have gi1_w24 : w24.cell? ⟨b1, o1 + i * 3 + 1, none⟩ = Option.some (.int .i64 p.ra) := (hw_w24.cell (p := ⟨b1, o1 + i * 3 + 1, none⟩) hb1).trans ei1
              have gi2_w24 : w24.cell? ⟨b1, o1 + i * 3 + 2, none⟩ = Option.some (.int .u64 p.si) := (hw_w24.cell (p := ⟨b1, o1 + i * 3 + 2, none⟩) hb1).trans ei2
              have gk0_w24 : w24.cell? ⟨b1, o1 + k * 3, none⟩ = Option.some (.int .i64 q.id) := (hw_w24.cell (p := ⟨b1, o1 + k * 3, none⟩) hb1).trans ek0
              have gk1_w24 : w24.cell? ⟨b1, o1 + k * 3 + 1, none⟩ = Option.some (.int .i64 q.ra) := (hw_w24.cell (p := ⟨b1, o1 + k * 3 + 1, none⟩) hb1).trans ek1
              have gk2_w24 : w24.cell? ⟨b1, o1 + k * 3 + 2, none⟩ = Option.some (.int .u64 q.si) := (hw_w24.cell (p := ⟨b1, o1 + k * 3 + 2, none⟩) hb1).trans ek2
              have gt_w24 : w24.cell? ⟨b2, o2 + k, none⟩ = Option.some (.bool false) := (hw_w24.cell (p := ⟨b2, o2 + k, none⟩) hb2).trans et
              have cD0_w24 := KH_w24.out.at (b := wr.heap.size) (o := 0) (v := .int .i64 q.id) (by simp)
              have fD0_w24 := KH_w24.out.free (b := wr.heap.size) (o := 0) (v := .int .i64 q.id) (by simp)
              have cD1_w24 := KH_w24.out.at (b := wr.heap.size) (o := 1) (v := .int .i64 q.ra) (by simp)
              have fD1_w24 := KH_w24.out.free (b := wr.heap.size) (o := 1) (v := .int .i64 q.ra) (by simp)
              have cD2_w24 := KH_w24.out.at (b := wr.heap.size) (o := 2) (v := .int .u64 q.si) (by simp)
              have fD2_w24 := KH_w24.out.free (b := wr.heap.size) (o := 2) (v := .int .u64 q.si) (by simp)
              go_wp2_with fail
              go_roundw
              case rel => exact ⟨k + 1, by omega, by go_num, by rw [HPA.out], by go_grown⟩
              case measure => simp [intOf]; omega
            · have HY : Hid (can x i tk k = true) := Lib.hid (by rw [HCAN.out, HD.out, HDP.out, HDQ.out]; simp; omega)
              clear NOC a1
              by_cases a5 : nb < 0
              · have HPA : Hid (pa x i tk (k + 1) = k) := Lib.hid (pa_yes HY.out (.inl (by rw [HNB.out]; exact a5)))
                have t5 : decide (nb < 0) = true := by simpa using a5
                skip
                go_wp2_with fail
                refine rg27_5 (w0 := w) (B := w.heap.size) (n := wr.heap.size + 1) (L := [(wr.heap.size, 0, .int .i64 q.id), (wr.heap.size, 1, .int .i64 q.ra), (wr.heap.size, 2, .int .u64 q.si)]) (E := fun _ => True) (F := fun _ => True) (by kernel_rfl) (by kernel_rfl) ⟨by go_grown, by go_size, (by simp [go_sem] <;> omega)⟩ trivial (fun _ _ _ _ => trivial) trivial (fun _ _ _ _ => trivial) (fun w21 K_w21 E_w21 F_w21 => ?_)
                have _ne : Nonempty (KX (w.heap.size) w (wr.heap.size + 1) [(wr.heap.size, 0, .int .i64 q.id), (wr.heap.size, 1, .int .i64 q.ra), (wr.heap.size, 2, .int .u64 q.si)] (fun _ => True)) := ⟨⟨_, K_w21, E_w21⟩⟩
                repeat (go_big_quiet_step (fail))
                refine wpQuiet_nil ?_
                have rD0 : ∀ s : KX (w.heap.size) w (wr.heap.size + 1) [(wr.heap.size, 0, .int .i64 q.id), (wr.heap.size, 1, .int .i64 q.ra), (wr.heap.size, 2, .int .u64 q.si)] (fun _ => True), s.val.cell? ⟨wr.heap.size, 0, none⟩ = some (.int .i64 q.id) := fun s => s.kept.at (by simp)
                have rD1 : ∀ s : KX (w.heap.size) w (wr.heap.size + 1) [(wr.heap.size, 0, .int .i64 q.id), (wr.heap.size, 1, .int .i64 q.ra), (wr.heap.size, 2, .int .u64 q.si)] (fun _ => True), s.val.cell? ⟨wr.heap.size, 1, none⟩ = some (.int .i64 q.ra) := fun s => s.kept.at (by simp)
                have rD2 : ∀ s : KX (w.heap.size) w (wr.heap.size + 1) [(wr.heap.size, 0, .int .i64 q.id), (wr.heap.size, 1, .int .i64 q.ra), (wr.heap.size, 2, .int .u64 q.si)] (fun _ => True), s.val.cell? ⟨wr.heap.size, 2, none⟩ = some (.int .u64 q.si) := fun s => s.kept.at (by simp)
                have r4 : ∀ s : KX (w.heap.size) w (wr.heap.size + 1) [(wr.heap.size, 0, .int .i64 q.id), (wr.heap.size, 1, .int .i64 q.ra), (wr.heap.size, 2, .int .u64 q.si)] (fun _ => True), s.val.cell? ⟨P, 4, none⟩ = some ((.slice (some ⟨b1, o1, none⟩) x.l.length c1)) := fun s => (s.kept.below.cell (p := ⟨P, 4, none⟩) hP).trans C4
                have ri0 : ∀ s : KX (w.heap.size) w (wr.heap.size + 1) [(wr.heap.size, 0, .int .i64 q.id), (wr.heap.size, 1, .int .i64 q.ra), (wr.heap.size, 2, .int .u64 q.si)] (fun _ => True), s.val.cell? ⟨b1, o1 + i * 3, none⟩ = some (.int .i64 p.id) := fun s => (s.kept.below.cell (p := ⟨b1, o1 + i * 3, none⟩) hb1).trans ei0
                have ri1 : ∀ s : KX (w.heap.size) w (wr.heap.size + 1) [(wr.heap.size, 0, .int .i64 q.id), (wr.heap.size, 1, .int .i64 q.ra), (wr.heap.size, 2, .int .u64 q.si)] (fun _ => True), s.val.cell? ⟨b1, o1 + i * 3 + 1, none⟩ = some (.int .i64 p.ra) := fun s => (s.kept.below.cell (p := ⟨b1, o1 + i * 3 + 1, none⟩) hb1).trans ei1
                have ri2 : ∀ s : KX (w.heap.size) w (wr.heap.size + 1) [(wr.heap.size, 0, .int .i64 q.id), (wr.heap.size, 1, .int .i64 q.ra), (wr.heap.size, 2, .int .u64 q.si)] (fun _ => True), s.val.cell? ⟨b1, o1 + i * 3 + 2, none⟩ = some (.int .u64 p.si) := fun s => (s.kept.below.cell (p := ⟨b1, o1 + i * 3 + 2, none⟩) hb1).trans ei2
                have rk0 : ∀ s : KX (w.heap.size) w (wr.heap.size + 1) [(wr.heap.size, 0, .int .i64 q.id), (wr.heap.size, 1, .int .i64 q.ra), (wr.heap.size, 2, .int .u64 q.si)] (fun _ => True), s.val.cell? ⟨b1, o1 + k * 3, none⟩ = some (.int .i64 q.id) := fun s => (s.kept.below.cell (p := ⟨b1, o1 + k * 3, none⟩) hb1).trans ek0
                have rk1 : ∀ s : KX (w.heap.size) w (wr.heap.size + 1) [(wr.heap.size, 0, .int .i64 q.id), (wr.heap.size, 1, .int .i64 q.ra), (wr.heap.size, 2, .int .u64 q.si)] (fun _ => True), s.val.cell? ⟨b1, o1 + k * 3 + 1, none⟩ = some (.int .i64 q.ra) := fun s => (s.kept.below.cell (p := ⟨b1, o1 + k * 3 + 1, none⟩) hb1).trans ek1
                have rk2 : ∀ s : KX (w.heap.size) w (wr.heap.size + 1) [(wr.heap.size, 0, .int .i64 q.id), (wr.heap.size, 1, .int .i64 q.ra), (wr.heap.size, 2, .int .u64 q.si)] (fun _ => True), s.val.cell? ⟨b1, o1 + k * 3 + 2, none⟩ = some (.int .u64 q.si) := fun s => (s.kept.below.cell (p := ⟨b1, o1 + k * 3 + 2, none⟩) hb1).trans ek2
                repeat (go_big_quiet_step (fail))
                refine wpQuiet_nil ?_
                clear rD0 rD1 rD2 r4 ri0 ri1 ri2 rk0 rk1 rk2
                repeat (go_big_quiet_step (fail))
                refine wpQuiet_nil ?_
                have rD0 : ∀ s : KX (w.heap.size) w (wr.heap.size + 1) [(wr.heap.size, 0, .int .i64 q.id), (wr.heap.size, 1, .int .i64 q.ra), (wr.heap.size, 2, .int .u64 q.si)] (fun _ => True), s.val.cell? ⟨wr.heap.size, 0, none⟩ = some (.int .i64 q.id) := fun s => s.kept.at (by simp)
                have rD1 : ∀ s : KX (w.heap.size) w (wr.heap.size + 1) [(wr.heap.size, 0, .int .i64 q.id), (wr.heap.size, 1, .int .i64 q.ra), (wr.heap.size, 2, .int .u64 q.si)] (fun _ => True), s.val.cell? ⟨wr.heap.size, 1, none⟩ = some (.int .i64 q.ra) := fun s => s.kept.at (by simp)
                have rD2 : ∀ s : KX (w.heap.size) w (wr.heap.size + 1) [(wr.heap.size, 0, .int .i64 q.id), (wr.heap.size, 1, .int .i64 q.ra), (wr.heap.size, 2, .int .u64 q.si)] (fun _ => True), s.val.cell? ⟨wr.heap.size, 2, none⟩ = some (.int .u64 q.si) := fun s => s.kept.at (by simp)
                have r4 : ∀ s : KX (w.heap.size) w (wr.heap.size + 1) [(wr.heap.size, 0, .int .i64 q.id), (wr.heap.size, 1, .int .i64 q.ra), (wr.heap.size, 2, .int .u64 q.si)] (fun _ => True), s.val.cell? ⟨P, 4, none⟩ = some ((.slice (some ⟨b1, o1, none⟩) x.l.length c1)) := fun s => (s.kept.below.cell (p := ⟨P, 4, none⟩) hP).trans C4
                have ri0 : ∀ s : KX (w.heap.size) w (wr.heap.size + 1) [(wr.heap.size, 0, .int .i64 q.id), (wr.heap.size, 1, .int .i64 q.ra), (wr.heap.size, 2, .int .u64 q.si)] (fun _ => True), s.val.cell? ⟨b1, o1 + i * 3, none⟩ = some (.int .i64 p.id) := fun s => (s.kept.below.cell (p := ⟨b1, o1 + i * 3, none⟩) hb1).trans ei0
                have ri1 : ∀ s : KX (w.heap.size) w (wr.heap.size + 1) [(wr.heap.size, 0, .int .i64 q.id), (wr.heap.size, 1, .int .i64 q.ra), (wr.heap.size, 2, .int .u64 q.si)] (fun _ => True), s.val.cell? ⟨b1, o1 + i * 3 + 1, none⟩ = some (.int .i64 p.ra) := fun s => (s.kept.below.cell (p := ⟨b1, o1 + i * 3 + 1, none⟩) hb1).trans ei1
                have ri2 : ∀ s : KX (w.heap.size) w (wr.heap.size + 1) [(wr.heap.size, 0, .int .i64 q.id), (wr.heap.size, 1, .int .i64 q.ra), (wr.heap.size, 2, .int .u64 q.si)] (fun _ => True), s.val.cell? ⟨b1, o1 + i * 3 + 2, none⟩ = some (.int .u64 p.si) := fun s => (s.kept.below.cell (p := ⟨b1, o1 + i * 3 + 2, none⟩) hb1).trans ei2
                have rk0 : ∀ s : KX (w.heap.size) w (wr.heap.size + 1) [(wr.heap.size, 0, .int .i64 q.id), (wr.heap.size, 1, .int .i64 q.ra), (wr.heap.size, 2, .int .u64 q.si)] (fun _ => True), s.val.cell? ⟨b1, o1 + k * 3, none⟩ = some (.int .i64 q.id) := fun s => (s.kept.below.cell (p := ⟨b1, o1 + k * 3, none⟩) hb1).trans ek0
                have rk1 : ∀ s : KX (w.heap.size) w (wr.heap.size + 1) [(wr.heap.size, 0, .int .i64 q.id), (wr.heap.size, 1, .int .i64 q.ra), (wr.heap.size, 2, .int .u64 q.si)] (fun _ => True), s.val.cell? ⟨b1, o1 + k * 3 + 1, none⟩ = some (.int .i64 q.ra) := fun s => (s.kept.below.cell (p := ⟨b1, o1 + k * 3 + 1, none⟩) hb1).trans ek1
                have rk2 : ∀ s : KX (w.heap.size) w (wr.heap.size + 1) [(wr.heap.size, 0, .int .i64 q.id), (wr.heap.size, 1, .int .i64 q.ra), (wr.heap.size, 2, .int .u64 q.si)] (fun _ => True), s.val.cell? ⟨b1, o1 + k * 3 + 2, none⟩ = some (.int .u64 q.si) := fun s => (s.kept.below.cell (p := ⟨b1, o1 + k * 3 + 2, none⟩) hb1).trans ek2
                repeat (go_big_quiet_step (fail))
                refine wpQuiet_nil ?_
                clear rD0 rD1 rD2 r4 ri0 ri1 ri2 rk0 rk1 rk2
                have KH_w21 := Lib.hid K_w21
                have hw_w21 := K_w21.below
                have hz_w21 := K_w21.size
                have lD_w21 : wr.heap.size < w21.heap.size := by omega
                clear K_w21
                clear E_w21 F_w21
                refine ⟨fun K hK0 => ?_, trivial⟩
                have hK := Lib.hid hK0
                clear hK0
                go_wp2_with fail
                with_reducible refine (apart37c p q x.now d _ OKP.out OKQ.out HD.out).mono ?_
                rintro e w22 ⟨rfl, hb_w22⟩
                have K_w22 := (KH_w21.out.step (by omega) (by go_grown)).step (by omega) hb_w22
                clear hb_w22
                have KH_w22 := Lib.hid K_w22
                have hw_w22 := K_w22.below
                have hz_w22 := K_w22.size
                have lD_w22 : wr.heap.size < w22.heap.size := by omega
                clear lD_w21
                clear K_w22
                go_wp2_with fail
                first | (refine ⟨rfl, hK.out _ _ ?_⟩; clear hK K) | (refine hK.out _ _ ?_; clear hK K)
                repeat (go_big_quiet_step (fail))
                refine wpQuiet_nil ?_
                clear _ne
                have g4_w22 : w22.cell? ⟨P, 4, none⟩ = Option.some (.slice (some ⟨b1, o1, none⟩) x.l.length c1) := (hw_w22.cell (p := ⟨P, 4, none⟩) hP).trans C4
                have gi0_w22 : w22.cell? ⟨b1, o1 + i * 3, none⟩ = Option.some (.int .i64 p.id) := (hw_w22.cell (p := ⟨b1, o1 + i * 3, none⟩) hb1).trans ei0
                have gi1_w22 : w22.cell? ⟨b1, o1 + i * 3 + 1, none⟩ = Option.some (.int .i64 p.ra) := (hw_w22.cell (p := ⟨b1, o1 + i * 3 + 1, none⟩) hb1).trans ei1
                have gi2_w22 : w22.cell? ⟨b1, o1 + i * 3 + 2, none⟩ = Option.some (.int .u64 p.si) := (hw_w22.cell (p := ⟨b1, o1 + i * 3 + 2, none⟩) hb1).trans ei2
                have gk0_w22 : w22.cell? ⟨b1, o1 + k * 3, none⟩ = Option.some (.int .i64 q.id) := (hw_w22.cell (p := ⟨b1, o1 + k * 3, none⟩) hb1).trans ek0
                have gk1_w22 : w22.cell? ⟨b1, o1 + k * 3 + 1, none⟩ = Option.some (.int .i64 q.ra) := (hw_w22.cell (p := ⟨b1, o1 + k * 3 + 1, none⟩) hb1).trans ek1
                have gk2_w22 : w22.cell? ⟨b1, o1 + k * 3 + 2, none⟩ = Option.some (.int .u64 q.si) := (hw_w22.cell (p := ⟨b1, o1 + k * 3 + 2, none⟩) hb1).trans ek2
                have gt_w22 : w22.cell? ⟨b2, o2 + k, none⟩ = Option.some (.bool false) := (hw_w22.cell (p := ⟨b2, o2 + k, none⟩) hb2).trans et
                have cD0_w22 := KH_w22.out.at (b := wr.heap.size) (o := 0) (v := .int .i64 q.id) (by simp)
                have fD0_w22 := KH_w22.out.free (b := wr.heap.size) (o := 0) (v := .int .i64 q.id) (by simp)
                have cD1_w22 := KH_w22.out.at (b := wr.heap.size) (o := 1) (v := .int .i64 q.ra) (by simp)
                have fD1_w22 := KH_w22.out.free (b := wr.heap.size) (o := 1) (v := .int .i64 q.ra) (by simp)
                have cD2_w22 := KH_w22.out.at (b := wr.heap.size) (o := 2) (v := .int .u64 q.si) (by simp)
                have fD2_w22 := KH_w22.out.free (b := wr.heap.size) (o := 2) (v := .int .u64 q.si) (by simp)
                go_wp2_with fail
                with_reducible refine (window29c P x _ p dp _ (HL.out.below (by go_grown)) ok OKP.out HDP.out).mono ?_
                rintro e w23 ⟨rfl, hb_w23⟩
                have K_w23 := (KH_w22.out.step (by omega) (by go_grown)).step (by omega) hb_w23
                clear hb_w23
                have KH_w23 := Lib.hid K_w23
                have hw_w23 := K_w23.below
                have hz_w23 := K_w23.size
                have lD_w23 : wr.heap.size < w23.heap.size := by omega
                clear lD_w22 cD0_w22 fD0_w22 cD1_w22 fD1_w22 cD2_w22 fD2_w22
                clear K_w23
                have g4_w23 : w23.cell? ⟨P, 4, none⟩ = Option.some (.slice (some ⟨b1, o1, none⟩) x.l.length c1) := (hw_w23.cell (p := ⟨P, 4, none⟩) hP).trans C4
                have gi0_w23 : w23.cell? ⟨b1, o1 + i * 3, none⟩ = Option.some (.int .i64 p.id) := (hw_w23.cell (p := ⟨b1, o1 + i * 3, none⟩) hb1).trans ei0
                have gi1_w23 : w23.cell? ⟨b1, o1 + i * 3 + 1, none⟩ = Option.some (.int .i64 p.ra) := (hw_w23.cell (p := ⟨b1, o1 + i * 3 + 1, none⟩) hb1).trans ei1
                have gi2_w23 : w23.cell? ⟨b1, o1 + i * 3 + 2, none⟩ = Option.some (.int .u64 p.si) := (hw_w23.cell (p := ⟨b1, o1 + i * 3 + 2, none⟩) hb1).trans ei2
                have gk0_w23 : w23.cell? ⟨b1, o1 + k * 3, none⟩ = Option.some (.int .i64 q.id) := (hw_w23.cell (p := ⟨b1, o1 + k * 3, none⟩) hb1).trans ek0
                have gk1_w23 : w23.cell? ⟨b1, o1 + k * 3 + 1, none⟩ = Option.some (.int .i64 q.ra) := (hw_w23.cell (p := ⟨b1, o1 + k * 3 + 1, none⟩) hb1).trans ek1
                have gk2_w23 : w23.cell? ⟨b1, o1 + k * 3 + 2, none⟩ = Option.some (.int .u64 q.si) := (hw_w23.cell (p := ⟨b1, o1 + k * 3 + 2, none⟩) hb1).trans ek2
                have gt_w23 : w23.cell? ⟨b2, o2 + k, none⟩ = Option.some (.bool false) := (hw_w23.cell (p := ⟨b2, o2 + k, none⟩) hb2).trans et
                have cD0_w23 := KH_w23.out.at (b := wr.heap.size) (o := 0) (v := .int .i64 q.id) (by simp)
                have fD0_w23 := KH_w23.out.free (b := wr.heap.size) (o := 0) (v := .int .i64 q.id) (by simp)
                have cD1_w23 := KH_w23.out.at (b := wr.heap.size) (o := 1) (v := .int .i64 q.ra) (by simp)
                have fD1_w23 := KH_w23.out.free (b := wr.heap.size) (o := 1) (v := .int .i64 q.ra) (by simp)
                have cD2_w23 := KH_w23.out.at (b := wr.heap.size) (o := 2) (v := .int .u64 q.si) (by simp)
                have fD2_w23 := KH_w23.out.free (b := wr.heap.size) (o := 2) (v := .int .u64 q.si) (by simp)
                go_wp2_with fail
                with_reducible refine (window29c P x _ q dq _ (HL.out.below (by go_grown)) ok OKQ.out HDQ.out).mono ?_
                rintro e w24 ⟨rfl, hb_w24⟩
                have K_w24 := (KH_w23.out.step (by omega) (by go_grown)).step (by omega) hb_w24
                clear hb_w24
                have KH_w24 := Lib.hid K_w24
                have hw_w24 := K_w24.below
                have hz_w24 := K_w24.size
                have lD_w24 : wr.heap.size < w24.heap.size := by omega
                clear lD_w23 cD0_w23 fD0_w23 cD1_w23 fD1_w23 cD2_w23 fD2_w23
                clear K_w24
                have g4_w24 : w24.cell? ⟨P, 4, none⟩ = Option.some (.slice (some ⟨b1, o1, none⟩) x.l.length c1) := (hw_w24.cell (p := ⟨P, 4, none⟩) hP).trans C4
                have gi0_w24 : w24.cell? ⟨b1, o1 + i * 3, none⟩ = Option.some (.int .i64 p.id) := (hw_w24.cell (p := ⟨b1, o1 + i * 3, none⟩) hb1).trans ei0
                have gi1_w24 : w24.cell? ⟨b1, o1 + i * 3 + 1, none⟩ = Option.some (.int .i64 p.ra) := (hw_w24.cell (p := ⟨b1, o1 + i * 3 + 1, none⟩) hb1).trans ei1
                have gi2_w24 : w24.cell? ⟨b1, o1 + i * 3 + 2, none⟩ = Option.some (.int .u64 p.si) := (hw_w24.cell (p := ⟨b1, o1 + i * 3 + 2, none⟩) hb1).trans ei2
                have gk0_w24 : w24.cell? ⟨b1, o1 + k * 3, none⟩ = Option.some (.int .i64 q.id) := (hw_w24.cell (p := ⟨b1, o1 + k * 3, none⟩) hb1).trans ek0
                have gk1_w24 : w24.cell? ⟨b1, o1 + k * 3 + 1, none⟩ = Option.some (.int .i64 q.ra) := (hw_w24.cell (p := ⟨b1, o1 + k * 3 + 1, none⟩) hb1).trans ek1
                have gk2_w24 : w24.cell? ⟨b1, o1 + k * 3 + 2, none⟩ = Option.some (.int .u64 q.si) := (hw_w24.cell (p := ⟨b1, o1 + k * 3 + 2, none⟩) hb1).trans ek2
                have gt_w24 : w24.cell? ⟨b2, o2 + k, none⟩ = Option.some (.bool false) := (hw_w24.cell (p := ⟨b2, o2 + k, none⟩) hb2).trans et
                have cD0_w24 := KH_w24.out.at (b := wr.heap.size) (o := 0) (v := .int .i64 q.id) (by simp)
                have fD0_w24 := KH_w24.out.free (b := wr.heap.size) (o := 0) (v := .int .i64 q.id) (by simp)
                have cD1_w24 := KH_w24.out.at (b := wr.heap.size) (o := 1) (v := .int .i64 q.ra) (by simp)
                have fD1_w24 := KH_w24.out.free (b := wr.heap.size) (o := 1) (v := .int .i64 q.ra) (by simp)
                have cD2_w24 := KH_w24.out.at (b := wr.heap.size) (o := 2) (v := .int .u64 q.si) (by simp)
                have fD2_w24 := KH_w24.out.free (b := wr.heap.size) (o := 2) (v := .int .u64 q.si) (by simp)
                go_wp2_with fail
                refine rg27_7 (w0 := w) (B := w.heap.size) (n := wr.heap.size + 1) (L := [(wr.heap.size, 0, .int .i64 q.id), (wr.heap.size, 1, .int .i64 q.ra), (wr.heap.size, 2, .int .u64 q.si)]) (E := fun _ => True) (F := fun _ => True) (by kernel_rfl) (by kernel_rfl) (KH_w24.out.step (by omega) (by go_grown)) trivial (fun _ _ _ _ => trivial) trivial (fun _ _ _ _ => trivial) (fun w25 K_w25 E_w25 F_w25 => ?_)
                have _ne : Nonempty (KX (w.heap.size) w (wr.heap.size + 1) [(wr.heap.size, 0, .int .i64 q.id), (wr.heap.size, 1, .int .i64 q.ra), (wr.heap.size, 2, .int .u64 q.si)] (fun _ => True)) := ⟨⟨_, K_w25, E_w25⟩⟩
                repeat (go_big_quiet_step (fail))
                refine wpQuiet_nil ?_
                have rD0 : ∀ s : KX (w.heap.size) w (wr.heap.size + 1) [(wr.heap.size, 0, .int .i64 q.id), (wr.heap.size, 1, .int .i64 q.ra), (wr.heap.size, 2, .int .u64 q.si)] (fun _ => True), s.val.cell? ⟨wr.heap.size, 0, none⟩ = some (.int .i64 q.id) := fun s => s.kept.at (by simp)
                have rD1 : ∀ s : KX (w.heap.size) w (wr.heap.size + 1) [(wr.heap.size, 0, .int .i64 q.id), (wr.heap.size, 1, .int .i64 q.ra), (wr.heap.size, 2, .int .u64 q.si)] (fun _ => True), s.val.cell? ⟨wr.heap.size, 1, none⟩ = some (.int .i64 q.ra) := fun s => s.kept.at (by simp)
                have rD2 : ∀ s : KX (w.heap.size) w (wr.heap.size + 1) [(wr.heap.size, 0, .int .i64 q.id), (wr.heap.size, 1, .int .i64 q.ra), (wr.heap.size, 2, .int .u64 q.si)] (fun _ => True), s.val.cell? ⟨wr.heap.size, 2, none⟩ = some (.int .u64 q.si) := fun s => s.kept.at (by simp)
                have r4 : ∀ s : KX (w.heap.size) w (wr.heap.size + 1) [(wr.heap.size, 0, .int .i64 q.id), (wr.heap.size, 1, .int .i64 q.ra), (wr.heap.size, 2, .int .u64 q.si)] (fun _ => True), s.val.cell? ⟨P, 4, none⟩ = some ((.slice (some ⟨b1, o1, none⟩) x.l.length c1)) := fun s => (s.kept.below.cell (p := ⟨P, 4, none⟩) hP).trans C4
                have ri0 : ∀ s : KX (w.heap.size) w (wr.heap.size + 1) [(wr.heap.size, 0, .int .i64 q.id), (wr.heap.size, 1, .int .i64 q.ra), (wr.heap.size, 2, .int .u64 q.si)] (fun _ => True), s.val.cell? ⟨b1, o1 + i * 3, none⟩ = some (.int .i64 p.id) := fun s => (s.kept.below.cell (p := ⟨b1, o1 + i * 3, none⟩) hb1).trans ei0
                have ri1 : ∀ s : KX (w.heap.size) w (wr.heap.size + 1) [(wr.heap.size, 0, .int .i64 q.id), (wr.heap.size, 1, .int .i64 q.ra), (wr.heap.size, 2, .int .u64 q.si)] (fun _ => True), s.val.cell? ⟨b1, o1 + i * 3 + 1, none⟩ = some (.int .i64 p.ra) := fun s => (s.kept.below.cell (p := ⟨b1, o1 + i * 3 + 1, none⟩) hb1).trans ei1
                have ri2 : ∀ s : KX (w.heap.size) w (wr.heap.size + 1) [(wr.heap.size, 0, .int .i64 q.id), (wr.heap.size, 1, .int .i64 q.ra), (wr.heap.size, 2, .int .u64 q.si)] (fun _ => True), s.val.cell? ⟨b1, o1 + i * 3 + 2, none⟩ = some (.int .u64 p.si) := fun s => (s.kept.below.cell (p := ⟨b1, o1 + i * 3 + 2, none⟩) hb1).trans ei2
                have rk0 : ∀ s : KX (w.heap.size) w (wr.heap.size + 1) [(wr.heap.size, 0, .int .i64 q.id), (wr.heap.size, 1, .int .i64 q.ra), (wr.heap.size, 2, .int .u64 q.si)] (fun _ => True), s.val.cell? ⟨b1, o1 + k * 3, none⟩ = some (.int .i64 q.id) := fun s => (s.kept.below.cell (p := ⟨b1, o1 + k * 3, none⟩) hb1).trans ek0
                have rk1 : ∀ s : KX (w.heap.size) w (wr.heap.size + 1) [(wr.heap.size, 0, .int .i64 q.id), (wr.heap.size, 1, .int .i64 q.ra), (wr.heap.size, 2, .int .u64 q.si)] (fun _ => True), s.val.cell? ⟨b1, o1 + k * 3 + 1, none⟩ = some (.int .i64 q.ra) := fun s => (s.kept.below.cell (p := ⟨b1, o1 + k * 3 + 1, none⟩) hb1).trans ek1
                have rk2 : ∀ s : KX (w.heap.size) w (wr.heap.size + 1) [(wr.heap.size, 0, .int .i64 q.id), (wr.heap.size, 1, .int .i64 q.ra), (wr.heap.size, 2, .int .u64 q.si)] (fun _ => True), s.val.cell? ⟨b1, o1 + k * 3 + 2, none⟩ = some (.int .u64 q.si) := fun s => (s.kept.below.cell (p := ⟨b1, o1 + k * 3 + 2, none⟩) hb1).trans ek2
                repeat (go_big_quiet_step (fail))
                refine wpQuiet_nil ?_
                clear rD0 rD1 rD2 r4 ri0 ri1 ri2 rk0 rk1 rk2
                repeat (go_big_quiet_step (fail))
                refine wpQuiet_nil ?_
                have rD0 : ∀ s : KX (w.heap.size) w (wr.heap.size + 1) [(wr.heap.size, 0, .int .i64 q.id), (wr.heap.size, 1, .int .i64 q.ra), (wr.heap.size, 2, .int .u64 q.si)] (fun _ => True), s.val.cell? ⟨wr.heap.size, 0, none⟩ = some (.int .i64 q.id) := fun s => s.kept.at (by simp)
                have rD1 : ∀ s : KX (w.heap.size) w (wr.heap.size + 1) [(wr.heap.size, 0, .int .i64 q.id), (wr.heap.size, 1, .int .i64 q.ra), (wr.heap.size, 2, .int .u64 q.si)] (fun _ => True), s.val.cell? ⟨wr.heap.size, 1, none⟩ = some (.int .i64 q.ra) := fun s => s.kept.at (by simp)
                have rD2 : ∀ s : KX (w.heap.size) w (wr.heap.size + 1) [(wr.heap.size, 0, .int .i64 q.id), (wr.heap.size, 1, .int .i64 q.ra), (wr.heap.size, 2, .int .u64 q.si)] (fun _ => True), s.val.cell? ⟨wr.heap.size, 2, none⟩ = some (.int .u64 q.si) := fun s => s.kept.at (by simp)
                have r4 : ∀ s : KX (w.heap.size) w (wr.heap.size + 1) [(wr.heap.size, 0, .int .i64 q.id), (wr.heap.size, 1, .int .i64 q.ra), (wr.heap.size, 2, .int .u64 q.si)] (fun _ => True), s.val.cell? ⟨P, 4, none⟩ = some ((.slice (some ⟨b1, o1, none⟩) x.l.length c1)) := fun s => (s.kept.below.cell (p := ⟨P, 4, none⟩) hP).trans C4
                have ri0 : ∀ s : KX (w.heap.size) w (wr.heap.size + 1) [(wr.heap.size, 0, .int .i64 q.id), (wr.heap.size, 1, .int .i64 q.ra), (wr.heap.size, 2, .int .u64 q.si)] (fun _ => True), s.val.cell? ⟨b1, o1 + i * 3, none⟩ = some (.int .i64 p.id) := fun s => (s.kept.below.cell (p := ⟨b1, o1 + i * 3, none⟩) hb1).trans ei0
                have ri1 : ∀ s : KX (w.heap.size) w (wr.heap.size + 1) [(wr.heap.size, 0, .int .i64 q.id), (wr.heap.size, 1, .int .i64 q.ra), (wr.heap.size, 2, .int .u64 q.si)] (fun _ => True), s.val.cell? ⟨b1, o1 + i * 3 + 1, none⟩ = some (.int .i64 p.ra) := fun s => (s.kept.below.cell (p := ⟨b1, o1 + i * 3 + 1, none⟩) hb1).trans ei1
                have ri2 : ∀ s : KX (w.heap.size) w (wr.heap.size + 1) [(wr.heap.size, 0, .int .i64 q.id), (wr.heap.size, 1, .int .i64 q.ra), (wr.heap.size, 2, .int .u64 q.si)] (fun _ => True), s.val.cell? ⟨b1, o1 + i * 3 + 2, none⟩ = some (.int .u64 p.si) := fun s => (s.kept.below.cell (p := ⟨b1, o1 + i * 3 + 2, none⟩) hb1).trans ei2
                have rk0 : ∀ s : KX (w.heap.size) w (wr.heap.size + 1) [(wr.heap.size, 0, .int .i64 q.id), (wr.heap.size, 1, .int .i64 q.ra), (wr.heap.size, 2, .int .u64 q.si)] (fun _ => True), s.val.cell? ⟨b1, o1 + k * 3, none⟩ = some (.int .i64 q.id) := fun s => (s.kept.below.cell (p := ⟨b1, o1 + k * 3, none⟩) hb1).trans ek0
                have rk1 : ∀ s : KX (w.heap.size) w (wr.heap.size + 1) [(wr.heap.size, 0, .int .i64 q.id), (wr.heap.size, 1, .int .i64 q.ra), (wr.heap.size, 2, .int .u64 q.si)] (fun _ => True), s.val.cell? ⟨b1, o1 + k * 3 + 1, none⟩ = some (.int .i64 q.ra) := fun s => (s.kept.below.cell (p := ⟨b1, o1 + k * 3 + 1, none⟩) hb1).trans ek1
                have rk2 : ∀ s : KX (w.heap.size) w (wr.heap.size + 1) [(wr.heap.size, 0, .int .i64 q.id), (wr.heap.size, 1, .int .i64 q.ra), (wr.heap.size, 2, .int .u64 q.si)] (fun _ => True), s.val.cell? ⟨b1, o1 + k * 3 + 2, none⟩ = some (.int .u64 q.si) := fun s => (s.kept.below.cell (p := ⟨b1, o1 + k * 3 + 2, none⟩) hb1).trans ek2
                repeat (go_big_quiet_step (fail))
                refine wpQuiet_nil ?_
                clear rD0 rD1 rD2 r4 ri0 ri1 ri2 rk0 rk1 rk2
                repeat (go_big_quiet_step (fail))
                refine wpQuiet_nil ?_
                have rD0 : ∀ s : KX (w.heap.size) w (wr.heap.size + 1) [(wr.heap.size, 0, .int .i64 q.id), (wr.heap.size, 1, .int .i64 q.ra), (wr.heap.size, 2, .int .u64 q.si)] (fun _ => True), s.val.cell? ⟨wr.heap.size, 0, none⟩ = some (.int .i64 q.id) := fun s => s.kept.at (by simp)
                have rD1 : ∀ s : KX (w.heap.size) w (wr.heap.size + 1) [(wr.heap.size, 0, .int .i64 q.id), (wr.heap.size, 1, .int .i64 q.ra), (wr.heap.size, 2, .int .u64 q.si)] (fun _ => True), s.val.cell? ⟨wr.heap.size, 1, none⟩ = some (.int .i64 q.ra) := fun s => s.kept.at (by simp)
                have rD2 : ∀ s : KX (w.heap.size) w (wr.heap.size + 1) [(wr.heap.size, 0, .int .i64 q.id), (wr.heap.size, 1, .int .i64 q.ra), (wr.heap.size, 2, .int .u64 q.si)] (fun _ => True), s.val.cell? ⟨wr.heap.size, 2, none⟩ = some (.int .u64 q.si) := fun s => s.kept.at (by simp)
                have r4 : ∀ s : KX (w.heap.size) w (wr.heap.size + 1) [(wr.heap.size, 0, .int .i64 q.id), (wr.heap.size, 1, .int .i64 q.ra), (wr.heap.size, 2, .int .u64 q.si)] (fun _ => True), s.val.cell? ⟨P, 4, none⟩ = some ((.slice (some ⟨b1, o1, none⟩) x.l.length c1)) := fun s => (s.kept.below.cell (p := ⟨P, 4, none⟩) hP).trans C4
                have ri0 : ∀ s : KX (w.heap.size) w (wr.heap.size + 1) [(wr.heap.size, 0, .int .i64 q.id), (wr.heap.size, 1, .int .i64 q.ra), (wr.heap.size, 2, .int .u64 q.si)] (fun _ => True), s.val.cell? ⟨b1, o1 + i * 3, none⟩ = some (.int .i64 p.id) := fun s => (s.kept.below.cell (p := ⟨b1, o1 + i * 3, none⟩) hb1).trans ei0
                have ri1 : ∀ s : KX (w.heap.size) w (wr.heap.size + 1) [(wr.heap.size, 0, .int .i64 q.id), (wr.heap.size, 1, .int .i64 q.ra), (wr.heap.size, 2, .int .u64 q.si)] (fun _ => True), s.val.cell? ⟨b1, o1 + i * 3 + 1, none⟩ = some (.int .i64 p.ra) := fun s => (s.kept.below.cell (p := ⟨b1, o1 + i * 3 + 1, none⟩) hb1).trans ei1
                have ri2 : ∀ s : KX (w.heap.size) w (wr.heap.size + 1) [(wr.heap.size, 0, .int .i64 q.id), (wr.heap.size, 1, .int .i64 q.ra), (wr.heap.size, 2, .int .u64 q.si)] (fun _ => True), s.val.cell? ⟨b1, o1 + i * 3 + 2, none⟩ = some (.int .u64 p.si) := fun s => (s.kept.below.cell (p := ⟨b1, o1 + i * 3 + 2, none⟩) hb1).trans ei2
                have rk0 : ∀ s : KX (w.heap.size) w (wr.heap.size + 1) [(wr.heap.size, 0, .int .i64 q.id), (wr.heap.size, 1, .int .i64 q.ra), (wr.heap.size, 2, .int .u64 q.si)] (fun _ => True), s.val.cell? ⟨b1, o1 + k * 3, none⟩ = some (.int .i64 q.id) := fun s => (s.kept.below.cell (p := ⟨b1, o1 + k * 3, none⟩) hb1).trans ek0
                have rk1 : ∀ s : KX (w.heap.size) w (wr.heap.size + 1) [(wr.heap.size, 0, .int .i64 q.id), (wr.heap.size, 1, .int .i64 q.ra), (wr.heap.size, 2, .int .u64 q.si)] (fun _ => True), s.val.cell? ⟨b1, o1 + k * 3 + 1, none⟩ = some (.int .i64 q.ra) := fun s => (s.kept.below.cell (p := ⟨b1, o1 + k * 3 + 1, none⟩) hb1).trans ek1
                have rk2 : ∀ s : KX (w.heap.size) w (wr.heap.size + 1) [(wr.heap.size, 0, .int .i64 q.id), (wr.heap.size, 1, .int .i64 q.ra), (wr.heap.size, 2, .int .u64 q.si)] (fun _ => True), s.val.cell? ⟨b1, o1 + k * 3 + 2, none⟩ = some (.int .u64 q.si) := fun s => (s.kept.below.cell (p := ⟨b1, o1 + k * 3 + 2, none⟩) hb1).trans ek2
                repeat (go_big_quiet_step (fail))
                refine wpQuiet_nil ?_
                clear rD0 rD1 rD2 r4 ri0 ri1 ri2 rk0 rk1 rk2
                have KH_w25 := Lib.hid K_w25
                have hw_w25 := K_w25.below
                have hz_w25 := K_w25.size
                have lD_w25 : wr.heap.size < w25.heap.size := by omega
                clear lD_w24 cD0_w24 fD0_w24 cD1_w24 fD1_w24 cD2_w24 fD2_w24
                clear K_w25
                clear E_w25 F_w25
                refine ⟨fun K hK0 => ?_, trivial⟩
                have hK := Lib.hid hK0
                clear hK0
                go_wp2_with fail
                first | (refine ⟨rfl, hK.out _ _ ?_⟩; clear hK K) | (refine hK.out _ _ ?_; clear hK K)
                repeat (go_big_quiet_step (fail))
                refine wpQuiet_nil ?_
                clear _ne
                go_wp2_with fail
                go_roundw
                case rel => exact ⟨k + 1, by omega, by go_num, by rw [HPA.out], by go_grown⟩
                case measure => simp [intOf]; omega
              · obtain ⟨n, rfl⟩ : ∃ n : Nat, nb = n := ⟨nb.toNat, by omega⟩
                have t5 : decide ((n : Int) < 0) = false := by simp
                have hnl : n < x.l.length := by omega
                obtain ⟨z, hz⟩ : ∃ z, x.l[n]? = some z := ⟨x.l[n], List.getElem?_eq_getElem hnl⟩
                have eb0 : w.cell? ⟨b1, o1 + n * 3, none⟩ = some (.int .i64 z.id) := HC1.out n z hz 0 _ rfl
                have eb1 : w.cell? ⟨b1, o1 + n * 3 + 1, none⟩ = some (.int .i64 z.ra) := HC1.out n z hz 1 _ rfl
                have eb2 : w.cell? ⟨b1, o1 + n * 3 + 2, none⟩ = some (.int .u64 z.si) := HC1.out n z hz 2 _ rfl
                have OKZ : Hid (z.Ok x.now) := Lib.hid (ok.p z (List.mem_of_getElem? hz))
                obtain ⟨db, hdb⟩ : ∃ d, ap p.ra z.ra = d := ⟨_, rfl⟩
                have HDB := Lib.hid hdb
                have HGZ := Lib.hid (getD_of (d := noPl) hz)
                have i5 : (0 : Int) ≤ (n : Int) := by omega
                have i6 : (n : Int) < (x.l.length : Int) := by omega
                have AP : Hid (ap (x.l.getD i noPl).ra (x.l.getD k noPl).ra = d ∧ ap (x.l.getD i noPl).ra (x.l.getD (pa x i tk k).toNat noPl).ra = db) := Lib.hid (by rw [HNB.out, Int.toNat_natCast, HGI.out, HGK.out, HGZ.out]; exact ⟨HD.out, HDB.out⟩)
                clear hz hdb a5
                by_cases a6 : d < db
                · have HPA : Hid (pa x i tk (k + 1) = k) := Lib.hid (pa_yes HY.out (.inr (by rw [AP.out.1, AP.out.2]; exact a6)))
                  have t6 : decide (d < db) = true := by simpa using a6
                  skip
                  go_wp2_with fail
                  refine rg27_5 (w0 := w) (B := w.heap.size) (n := wr.heap.size + 1) (L := [(wr.heap.size, 0, .int .i64 q.id), (wr.heap.size, 1, .int .i64 q.ra), (wr.heap.size, 2, .int .u64 q.si)]) (E := fun _ => True) (F := fun _ => True) (by kernel_rfl) (by kernel_rfl) ⟨by go_grown, by go_size, (by simp [go_sem] <;> omega)⟩ trivial (fun _ _ _ _ => trivial) trivial (fun _ _ _ _ => trivial) (fun w21 K_w21 E_w21 F_w21 => ?_)
                  have _ne : Nonempty (KX (w.heap.size) w (wr.heap.size + 1) [(wr.heap.size, 0, .int .i64 q.id), (wr.heap.size, 1, .int .i64 q.ra), (wr.heap.size, 2, .int .u64 q.si)] (fun _ => True)) := ⟨⟨_, K_w21, E_w21⟩⟩
                  repeat (go_big_quiet_step (fail))
                  refine wpQuiet_nil ?_
                  have rD0 : ∀ s : KX (w.heap.size) w (wr.heap.size + 1) [(wr.heap.size, 0, .int .i64 q.id), (wr.heap.size, 1, .int .i64 q.ra), (wr.heap.size, 2, .int .u64 q.si)] (fun _ => True), s.val.cell? ⟨wr.heap.size, 0, none⟩ = some (.int .i64 q.id) := fun s => s.kept.at (by simp)
                  have rD1 : ∀ s : KX (w.heap.size) w (wr.heap.size + 1) [(wr.heap.size, 0, .int .i64 q.id), (wr.heap.size, 1, .int .i64 q.ra), (wr.heap.size, 2, .int .u64 q.si)] (fun _ => True), s.val.cell? ⟨wr.heap.size, 1, none⟩ = some (.int .i64 q.ra) := fun s => s.kept.at (by simp)
                  have rD2 : ∀ s : KX (w.heap.size) w (wr.heap.size + 1) [(wr.heap.size, 0, .int .i64 q.id), (wr.heap.size, 1, .int .i64 q.ra), (wr.heap.size, 2, .int .u64 q.si)] (fun _ => True), s.val.cell? ⟨wr.heap.size, 2, none⟩ = some (.int .u64 q.si) := fun s => s.kept.at (by simp)
                  have r4 : ∀ s : KX (w.heap.size) w (wr.heap.size + 1) [(wr.heap.size, 0, .int .i64 q.id), (wr.heap.size, 1, .int .i64 q.ra), (wr.heap.size, 2, .int .u64 q.si)] (fun _ => True), s.val.cell? ⟨P, 4, none⟩ = some ((.slice (some ⟨b1, o1, none⟩) x.l.length c1)) := fun s => (s.kept.below.cell (p := ⟨P, 4, none⟩) hP).trans C4
                  have ri0 : ∀ s : KX (w.heap.size) w (wr.heap.size + 1) [(wr.heap.size, 0, .int .i64 q.id), (wr.heap.size, 1, .int .i64 q.ra), (wr.heap.size, 2, .int .u64 q.si)] (fun _ => True), s.val.cell? ⟨b1, o1 + i * 3, none⟩ = some (.int .i64 p.id) := fun s => (s.kept.below.cell (p := ⟨b1, o1 + i * 3, none⟩) hb1).trans ei0
                  have ri1 : ∀ s : KX (w.heap.size) w (wr.heap.size + 1) [(wr.heap.size, 0, .int .i64 q.id), (wr.heap.size, 1, .int .i64 q.ra), (wr.heap.size, 2, .int .u64 q.si)] (fun _ => True), s.val.cell? ⟨b1, o1 + i * 3 + 1, none⟩ = some (.int .i64 p.ra) := fun s => (s.kept.below.cell (p := ⟨b1, o1 + i * 3 + 1, none⟩) hb1).trans ei1
                  have ri2 : ∀ s : KX (w.heap.size) w (wr.heap.size + 1) [(wr.heap.size, 0, .int .i64 q.id), (wr.heap.size, 1, .int .i64 q.ra), (wr.heap.size, 2, .int .u64 q.si)] (fun _ => True), s.val.cell? ⟨b1, o1 + i * 3 + 2, none⟩ = some (.int .u64 p.si) := fun s => (s.kept.below.cell (p := ⟨b1, o1 + i * 3 + 2, none⟩) hb1).trans ei2
                  have rk0 : ∀ s : KX (w.heap.size) w (wr.heap.size + 1) [(wr.heap.size, 0, .int .i64 q.id), (wr.heap.size, 1, .int .i64 q.ra), (wr.heap.size, 2, .int .u64 q.si)] (fun _ => True), s.val.cell? ⟨b1, o1 + k * 3, none⟩ = some (.int .i64 q.id) := fun s => (s.kept.below.cell (p := ⟨b1, o1 + k * 3, none⟩) hb1).trans ek0
                  have rk1 : ∀ s : KX (w.heap.size) w (wr.heap.size + 1) [(wr.heap.size, 0, .int .i64 q.id), (wr.heap.size, 1, .int .i64 q.ra), (wr.heap.size, 2, .int .u64 q.si)] (fun _ => True), s.val.cell? ⟨b1, o1 + k * 3 + 1, none⟩ = some (.int .i64 q.ra) := fun s => (s.kept.below.cell (p := ⟨b1, o1 + k * 3 + 1, none⟩) hb1).trans ek1
                  have rk2 : ∀ s : KX (w.heap.size) w (wr.heap.size + 1) [(wr.heap.size, 0, .int .i64 q.id), (wr.heap.size, 1, .int .i64 q.ra), (wr.heap.size, 2, .int .u64 q.si)] (fun _ => True), s.val.cell? ⟨b1, o1 + k * 3 + 2, none⟩ = some (.int .u64 q.si) := fun s => (s.kept.below.cell (p := ⟨b1, o1 + k * 3 + 2, none⟩) hb1).trans ek2
                  repeat (go_big_quiet_step (fail))
                  refine wpQuiet_nil ?_
                  clear rD0 rD1 rD2 r4 ri0 ri1 ri2 rk0 rk1 rk2
                  repeat (go_big_quiet_step (fail))
                  refine wpQuiet_nil ?_
                  have rD0 : ∀ s : KX (w.heap.size) w (wr.heap.size + 1) [(wr.heap.size, 0, .int .i64 q.id), (wr.heap.size, 1, .int .i64 q.ra), (wr.heap.size, 2, .int .u64 q.si)] (fun _ => True), s.val.cell? ⟨wr.heap.size, 0, none⟩ = some (.int .i64 q.id) := fun s => s.kept.at (by simp)
                  have rD1 : ∀ s : KX (w.heap.size) w (wr.heap.size + 1) [(wr.heap.size, 0, .int .i64 q.id), (wr.heap.size, 1, .int .i64 q.ra), (wr.heap.size, 2, .int .u64 q.si)] (fun _ => True), s.val.cell? ⟨wr.heap.size, 1, none⟩ = some (.int .i64 q.ra) := fun s => s.kept.at (by simp)
                  have rD2 : ∀ s : KX (w.heap.size) w (wr.heap.size + 1) [(wr.heap.size, 0, .int .i64 q.id), (wr.heap.size, 1, .int .i64 q.ra), (wr.heap.size, 2, .int .u64 q.si)] (fun _ => True), s.val.cell? ⟨wr.heap.size, 2, none⟩ = some (.int .u64 q.si) := fun s => s.kept.at (by simp)
                  have r4 : ∀ s : KX (w.heap.size) w (wr.heap.size + 1) [(wr.heap.size, 0, .int .i64 q.id), (wr.heap.size, 1, .int .i64 q.ra), (wr.heap.size, 2, .int .u64 q.si)] (fun _ => True), s.val.cell? ⟨P, 4, none⟩ = some ((.slice (some ⟨b1, o1, none⟩) x.l.length c1)) := fun s => (s.kept.below.cell (p := ⟨P, 4, none⟩) hP).trans C4
                  have ri0 : ∀ s : KX (w.heap.size) w (wr.heap.size + 1) [(wr.heap.size, 0, .int .i64 q.id), (wr.heap.size, 1, .int .i64 q.ra), (wr.heap.size, 2, .int .u64 q.si)] (fun _ => True), s.val.cell? ⟨b1, o1 + i * 3, none⟩ = some (.int .i64 p.id) := fun s => (s.kept.below.cell (p := ⟨b1, o1 + i * 3, none⟩) hb1).trans ei0
                  have ri1 : ∀ s : KX (w.heap.size) w (wr.heap.size + 1) [(wr.heap.size, 0, .int .i64 q.id), (wr.heap.size, 1, .int .i64 q.ra), (wr.heap.size, 2, .int .u64 q.si)] (fun _ => True), s.val.cell? ⟨b1, o1 + i * 3 + 1, none⟩ = some (.int .i64 p.ra) := fun s => (s.kept.below.cell (p := ⟨b1, o1 + i * 3 + 1, none⟩) hb1).trans ei1
                  have ri2 : ∀ s : KX (w.heap.size) w (wr.heap.size + 1) [(wr.heap.size, 0, .int .i64 q.id), (wr.heap.size, 1, .int .i64 q.ra), (wr.heap.size, 2, .int .u64 q.si)] (fun _ => True), s.val.cell? ⟨b1, o1 + i * 3 + 2, none⟩ = some (.int .u64 p.si) := fun s => (s.kept.below.cell (p := ⟨b1, o1 + i * 3 + 2, none⟩) hb1).trans ei2
                  have rk0 : ∀ s : KX (w.heap.size) w (wr.heap.size + 1) [(wr.heap.size, 0, .int .i64 q.id), (wr.heap.size, 1, .int .i64 q.ra), (wr.heap.size, 2, .int .u64 q.si)] (fun _ => True), s.val.cell? ⟨b1, o1 + k * 3, none⟩ = some (.int .i64 q.id) := fun s => (s.kept.below.cell (p := ⟨b1, o1 + k * 3, none⟩) hb1).trans ek0
                  have rk1 : ∀ s : KX (w.heap.size) w (wr.heap.size + 1) [(wr.heap.size, 0, .int .i64 q.id), (wr.heap.size, 1, .int .i64 q.ra), (wr.heap.size, 2, .int .u64 q.si)] (fun _ => True), s.val.cell? ⟨b1, o1 + k * 3 + 1, none⟩ = some (.int .i64 q.ra) := fun s => (s.kept.below.cell (p := ⟨b1, o1 + k * 3 + 1, none⟩) hb1).trans ek1
                  have rk2 : ∀ s : KX (w.heap.size) w (wr.heap.size + 1) [(wr.heap.size, 0, .int .i64 q.id), (wr.heap.size, 1, .int .i64 q.ra), (wr.heap.size, 2, .int .u64 q.si)] (fun _ => True), s.val.cell? ⟨b1, o1 + k * 3 + 2, none⟩ = some (.int .u64 q.si) := fun s => (s.kept.below.cell (p := ⟨b1, o1 + k * 3 + 2, none⟩) hb1).trans ek2
                  repeat (go_big_quiet_step (fail))
                  refine wpQuiet_nil ?_
                  clear rD0 rD1 rD2 r4 ri0 ri1 ri2 rk0 rk1 rk2
                  have KH_w21 := Lib.hid K_w21
                  have hw_w21 := K_w21.below
                  have hz_w21 := K_w21.size
                  have lD_w21 : wr.heap.size < w21.heap.size := by omega
                  clear K_w21
                  clear E_w21 F_w21
                  refine ⟨fun K hK0 => ?_, trivial⟩
                  have hK := Lib.hid hK0
                  clear hK0
                  go_wp2_with fail
                  with_reducible refine (apart37c p q x.now d _ OKP.out OKQ.out HD.out).mono ?_
                  rintro e w22 ⟨rfl, hb_w22⟩
                  have K_w22 := (KH_w21.out.step (by omega) (by go_grown)).step (by omega) hb_w22
                  clear hb_w22
                  have KH_w22 := Lib.hid K_w22
                  have hw_w22 := K_w22.below
                  have hz_w22 := K_w22.size
                  have lD_w22 : wr.heap.size < w22.heap.size := by omega
                  clear lD_w21
                  clear K_w22
                  go_wp2_with fail
                  first | (refine ⟨rfl, hK.out _ _ ?_⟩; clear hK K) | (refine hK.out _ _ ?_; clear hK K)
                  repeat (go_big_quiet_step (fail))
                  refine wpQuiet_nil ?_
                  clear _ne
                  have g4_w22 : w22.cell? ⟨P, 4, none⟩ = Option.some (.slice (some ⟨b1, o1, none⟩) x.l.length c1) := (hw_w22.cell (p := ⟨P, 4, none⟩) hP).trans C4
                  have gi0_w22 : w22.cell? ⟨b1, o1 + i * 3, none⟩ = Option.some (.int .i64 p.id) := (hw_w22.cell (p := ⟨b1, o1 + i * 3, none⟩) hb1).trans ei0
                  have gi1_w22 : w22.cell? ⟨b1, o1 + i * 3 + 1, none⟩ = Option.some (.int .i64 p.ra) := (hw_w22.cell (p := ⟨b1, o1 + i * 3 + 1, none⟩) hb1).trans ei1
                  have gi2_w22 : w22.cell? ⟨b1, o1 + i * 3 + 2, none⟩ = Option.some (.int .u64 p.si) := (hw_w22.cell (p := ⟨b1, o1 + i * 3 + 2, none⟩) hb1).trans ei2
                  have gk0_w22 : w22.cell? ⟨b1, o1 + k * 3, none⟩ = Option.some (.int .i64 q.id) := (hw_w22.cell (p := ⟨b1, o1 + k * 3, none⟩) hb1).trans ek0
                  have gk1_w22 : w22.cell? ⟨b1, o1 + k * 3 + 1, none⟩ = Option.some (.int .i64 q.ra) := (hw_w22.cell (p := ⟨b1, o1 + k * 3 + 1, none⟩) hb1).trans ek1
                  have gk2_w22 : w22.cell? ⟨b1, o1 + k * 3 + 2, none⟩ = Option.some (.int .u64 q.si) := (hw_w22.cell (p := ⟨b1, o1 + k * 3 + 2, none⟩) hb1).trans ek2
                  have gt_w22 : w22.cell? ⟨b2, o2 + k, none⟩ = Option.some (.bool false) := (hw_w22.cell (p := ⟨b2, o2 + k, none⟩) hb2).trans et
                  have cD0_w22 := KH_w22.out.at (b := wr.heap.size) (o := 0) (v := .int .i64 q.id) (by simp)
                  have fD0_w22 := KH_w22.out.free (b := wr.heap.size) (o := 0) (v := .int .i64 q.id) (by simp)
                  have cD1_w22 := KH_w22.out.at (b := wr.heap.size) (o := 1) (v := .int .i64 q.ra) (by simp)
                  have fD1_w22 := KH_w22.out.free (b := wr.heap.size) (o := 1) (v := .int .i64 q.ra) (by simp)
                  have cD2_w22 := KH_w22.out.at (b := wr.heap.size) (o := 2) (v := .int .u64 q.si) (by simp)
                  have fD2_w22 := KH_w22.out.free (b := wr.heap.size) (o := 2) (v := .int .u64 q.si) (by simp)
                  go_wp2_with fail
                  with_reducible refine (window29c P x _ p dp _ (HL.out.below (by go_grown)) ok OKP.out HDP.out).mono ?_
                  rintro e w23 ⟨rfl, hb_w23⟩
                  have K_w23 := (KH_w22.out.step (by omega) (by go_grown)).step (by omega) hb_w23
                  clear hb_w23
                  have KH_w23 := Lib.hid K_w23
                  have hw_w23 := K_w23.below
                  have hz_w23 := K_w23.size
                  have lD_w23 : wr.heap.size < w23.heap.size := by omega
                  clear lD_w22 cD0_w22 fD0_w22 cD1_w22 fD1_w22 cD2_w22 fD2_w22
                  clear K_w23
                  have g4_w23 : w23.cell? ⟨P, 4, none⟩ = Option.some (.slice (some ⟨b1, o1, none⟩) x.l.length c1) := (hw_w23.cell (p := ⟨P, 4, none⟩) hP).trans C4
                  have gi0_w23 : w23.cell? ⟨b1, o1 + i * 3, none⟩ = Option.some (.int .i64 p.id) := (hw_w23.cell (p := ⟨b1, o1 + i * 3, none⟩) hb1).trans ei0
                  have gi1_w23 : w23.cell? ⟨b1, o1 + i * 3 + 1, none⟩ = Option.some (.int .i64 p.ra) := (hw_w23.cell (p := ⟨b1, o1 + i * 3 + 1, none⟩) hb1).trans ei1
                  have gi2_w23 : w23.cell? ⟨b1, o1 + i * 3 + 2, none⟩ = Option.some (.int .u64 p.si) := (hw_w23.cell (p := ⟨b1, o1 + i * 3 + 2, none⟩) hb1).trans ei2
                  have gk0_w23 : w23.cell? ⟨b1, o1 + k * 3, none⟩ = Option.some (.int .i64 q.id) := (hw_w23.cell (p := ⟨b1, o1 + k * 3, none⟩) hb1).trans ek0
                  have gk1_w23 : w23.cell? ⟨b1, o1 + k * 3 + 1, none⟩ = Option.some (.int .i64 q.ra) := (hw_w23.cell (p := ⟨b1, o1 + k * 3 + 1, none⟩) hb1).trans ek1
                  have gk2_w23 : w23.cell? ⟨b1, o1 + k * 3 + 2, none⟩ = Option.some (.int .u64 q.si) := (hw_w23.cell (p := ⟨b1, o1 + k * 3 + 2, none⟩) hb1).trans ek2
                  have gt_w23 : w23.cell? ⟨b2, o2 + k, none⟩ = Option.some (.bool false) := (hw_w23.cell (p := ⟨b2, o2 + k, none⟩) hb2).trans et
                  have cD0_w23 := KH_w23.out.at (b := wr.heap.size) (o := 0) (v := .int .i64 q.id) (by simp)
                  have fD0_w23 := KH_w23.out.free (b := wr.heap.size) (o := 0) (v := .int .i64 q.id) (by simp)
                  have cD1_w23 := KH_w23.out.at (b := wr.heap.size) (o := 1) (v := .int .i64 q.ra) (by simp)
                  have fD1_w23 := KH_w23.out.free (b := wr.heap.size) (o := 1) (v := .int .i64 q.ra) (by simp)
                  have cD2_w23 := KH_w23.out.at (b := wr.heap.size) (o := 2) (v := .int .u64 q.si) (by simp)
                  have fD2_w23 := KH_w23.out.free (b := wr.heap.size) (o := 2) (v := .int .u64 q.si) (by simp)
                  go_wp2_with fail
                  with_reducible refine (window29c P x _ q dq _ (HL.out.below (by go_grown)) ok OKQ.out HDQ.out).mono ?_
                  rintro e w24 ⟨rfl, hb_w24⟩
                  have K_w24 := (KH_w23.out.step (by omega) (by go_grown)).step (by omega) hb_w24
                  clear hb_w24
                  have KH_w24 := Lib.hid K_w24
                  have hw_w24 := K_w24.below
                  have hz_w24 := K_w24.size
                  have lD_w24 : wr.heap.size < w24.heap.size := by omega
                  clear lD_w23 cD0_w23 fD0_w23 cD1_w23 fD1_w23 cD2_w23 fD2_w23
                  clear K_w24
                  have g4_w24 : w24.cell? ⟨P, 4, none⟩ = Option.some (.slice (some ⟨b1, o1, none⟩) x.l.length c1) := (hw_w24.cell (p := ⟨P, 4, none⟩) hP).trans C4
                  have gi0_w24 : w24.cell? ⟨b1, o1 + i * 3, none⟩ = Option.some (.int .i64 p.id) := (hw_w24.cell (p := ⟨b1, o1 + i * 3, none⟩) hb1).trans ei0
                  have gi1_w24 : w24.cell? ⟨b1, o1 + i * 3 + 1, none⟩ = Option.some (.int .i64 p.ra) := (hw_w24.cell (p := ⟨b1, o1 + i * 3 + 1, none⟩) hb1).trans ei1
                  have gi2_w24 : w24.cell? ⟨b1, o1 + i * 3 + 2, none⟩ = Option.some (.int .u64 p.si) := (hw_w24.cell (p := ⟨b1, o1 + i * 3 + 2, none⟩) hb1).trans ei2
                  have gk0_w24 : w24.cell? ⟨b1, o1 + k * 3, none⟩ = Option.some (.int .i64 q.id) := (hw_w24.cell (p := ⟨b1, o1 + k * 3, none⟩) hb1).trans ek0
                  have gk1_w24 : w24.cell? ⟨b1, o1 + k * 3 + 1, none⟩ = Option.some (.int .i64 q.ra) := (hw_w24.cell (p := ⟨b1, o1 + k * 3 + 1, none⟩) hb1).trans ek1
                  have gk2_w24 : w24.cell? ⟨b1, o1 + k * 3 + 2, none⟩ = Option.some (.int .u64 q.si) := (hw_w24.cell (p := ⟨b1, o1 + k * 3 + 2, none⟩) hb1).trans ek2
                  have gt_w24 : w24.cell? ⟨b2, o2 + k, none⟩ = Option.some (.bool false) := (hw_w24.cell (p := ⟨b2, o2 + k, none⟩) hb2).trans et
                  have cD0_w24 := KH_w24.out.at (b := wr.heap.size) (o := 0) (v := .int .i64 q.id) (by simp)
                  have fD0_w24 := KH_w24.out.free (b := wr.heap.size) (o := 0) (v := .int .i64 q.id) (by simp)
                  have cD1_w24 := KH_w24.out.at (b := wr.heap.size) (o := 1) (v := .int .i64 q.ra) (by simp)
                  have fD1_w24 := KH_w24.out.free (b := wr.heap.size) (o := 1) (v := .int .i64 q.ra) (by simp)
                  have cD2_w24 := KH_w24.out.at (b := wr.heap.size) (o := 2) (v := .int .u64 q.si) (by simp)
                  have fD2_w24 := KH_w24.out.free (b := wr.heap.size) (o := 2) (v := .int .u64 q.si) (by simp)
                  go_wp2_with fail
                  clear gi0_w24 gi1_w24 gi2_w24 gk0_w24 gk1_w24 gk2_w24 g4_w24 gt_w24
                  refine rg27_7 (w0 := w) (B := w.heap.size) (n := wr.heap.size + 1) (L := [(wr.heap.size, 0, .int .i64 q.id), (wr.heap.size, 1, .int .i64 q.ra), (wr.heap.size, 2, .int .u64 q.si)]) (E := fun _ => True) (F := fun _ => True) (by kernel_rfl) (by kernel_rfl) (KH_w24.out.step (by omega) (by go_grown)) trivial (fun _ _ _ _ => trivial) trivial (fun _ _ _ _ => trivial) (fun w25 K_w25 E_w25 F_w25 => ?_)
                  have _ne : Nonempty (KX (w.heap.size) w (wr.heap.size + 1) [(wr.heap.size, 0, .int .i64 q.id), (wr.heap.size, 1, .int .i64 q.ra), (wr.heap.size, 2, .int .u64 q.si)] (fun _ => True)) := ⟨⟨_, K_w25, E_w25⟩⟩
                  repeat (go_big_quiet_step (fail))
                  refine wpQuiet_nil ?_
                  have rD0 : ∀ s : KX (w.heap.size) w (wr.heap.size + 1) [(wr.heap.size, 0, .int .i64 q.id), (wr.heap.size, 1, .int .i64 q.ra), (wr.heap.size, 2, .int .u64 q.si)] (fun _ => True), s.val.cell? ⟨wr.heap.size, 0, none⟩ = some (.int .i64 q.id) := fun s => s.kept.at (by simp)
                  have rD1 : ∀ s : KX (w.heap.size) w (wr.heap.size + 1) [(wr.heap.size, 0, .int .i64 q.id), (wr.heap.size, 1, .int .i64 q.ra), (wr.heap.size, 2, .int .u64 q.si)] (fun _ => True), s.val.cell? ⟨wr.heap.size, 1, none⟩ = some (.int .i64 q.ra) := fun s => s.kept.at (by simp)
                  have rD2 : ∀ s : KX (w.heap.size) w (wr.heap.size + 1) [(wr.heap.size, 0, .int .i64 q.id), (wr.heap.size, 1, .int .i64 q.ra), (wr.heap.size, 2, .int .u64 q.si)] (fun _ => True), s.val.cell? ⟨wr.heap.size, 2, none⟩ = some (.int .u64 q.si) := fun s => s.kept.at (by simp)
                  have r4 : ∀ s : KX (w.heap.size) w (wr.heap.size + 1) [(wr.heap.size, 0, .int .i64 q.id), (wr.heap.size, 1, .int .i64 q.ra), (wr.heap.size, 2, .int .u64 q.si)] (fun _ => True), s.val.cell? ⟨P, 4, none⟩ = some ((.slice (some ⟨b1, o1, none⟩) x.l.length c1)) := fun s => (s.kept.below.cell (p := ⟨P, 4, none⟩) hP).trans C4
                  have ri0 : ∀ s : KX (w.heap.size) w (wr.heap.size + 1) [(wr.heap.size, 0, .int .i64 q.id), (wr.heap.size, 1, .int .i64 q.ra), (wr.heap.size, 2, .int .u64 q.si)] (fun _ => True), s.val.cell? ⟨b1, o1 + i * 3, none⟩ = some (.int .i64 p.id) := fun s => (s.kept.below.cell (p := ⟨b1, o1 + i * 3, none⟩) hb1).trans ei0
                  have ri1 : ∀ s : KX (w.heap.size) w (wr.heap.size + 1) [(wr.heap.size, 0, .int .i64 q.id), (wr.heap.size, 1, .int .i64 q.ra), (wr.heap.size, 2, .int .u64 q.si)] (fun _ => True), s.val.cell? ⟨b1, o1 + i * 3 + 1, none⟩ = some (.int .i64 p.ra) := fun s => (s.kept.below.cell (p := ⟨b1, o1 + i * 3 + 1, none⟩) hb1).trans ei1
                  have ri2 : ∀ s : KX (w.heap.size) w (wr.heap.size + 1) [(wr.heap.size, 0, .int .i64 q.id), (wr.heap.size, 1, .int .i64 q.ra), (wr.heap.size, 2, .int .u64 q.si)] (fun _ => True), s.val.cell? ⟨b1, o1 + i * 3 + 2, none⟩ = some (.int .u64 p.si) := fun s => (s.kept.below.cell (p := ⟨b1, o1 + i * 3 + 2, none⟩) hb1).trans ei2
                  have rk0 : ∀ s : KX (w.heap.size) w (wr.heap.size + 1) [(wr.heap.size, 0, .int .i64 q.id), (wr.heap.size, 1, .int .i64 q.ra), (wr.heap.size, 2, .int .u64 q.si)] (fun _ => True), s.val.cell? ⟨b1, o1 + k * 3, none⟩ = some (.int .i64 q.id) := fun s => (s.kept.below.cell (p := ⟨b1, o1 + k * 3, none⟩) hb1).trans ek0
                  have rk1 : ∀ s : KX (w.heap.size) w (wr.heap.size + 1) [(wr.heap.size, 0, .int .i64 q.id), (wr.heap.size, 1, .int .i64 q.ra), (wr.heap.size, 2, .int .u64 q.si)] (fun _ => True), s.val.cell? ⟨b1, o1 + k * 3 + 1, none⟩ = some (.int .i64 q.ra) := fun s => (s.kept.below.cell (p := ⟨b1, o1 + k * 3 + 1, none⟩) hb1).trans ek1
                  have rk2 : ∀ s : KX (w.heap.size) w (wr.heap.size + 1) [(wr.heap.size, 0, .int .i64 q.id), (wr.heap.size, 1, .int .i64 q.ra), (wr.heap.size, 2, .int .u64 q.si)] (fun _ => True), s.val.cell? ⟨b1, o1 + k * 3 + 2, none⟩ = some (.int .u64 q.si) := fun s => (s.kept.below.cell (p := ⟨b1, o1 + k * 3 + 2, none⟩) hb1).trans ek2
                  have rb0 : ∀ s : KX (w.heap.size) w (wr.heap.size + 1) [(wr.heap.size, 0, .int .i64 q.id), (wr.heap.size, 1, .int .i64 q.ra), (wr.heap.size, 2, .int .u64 q.si)] (fun _ => True), s.val.cell? ⟨b1, o1 + n * 3, none⟩ = some (.int .i64 z.id) := fun s => (s.kept.below.cell (p := ⟨b1, o1 + n * 3, none⟩) hb1).trans eb0
                  have rb1 : ∀ s : KX (w.heap.size) w (wr.heap.size + 1) [(wr.heap.size, 0, .int .i64 q.id), (wr.heap.size, 1, .int .i64 q.ra), (wr.heap.size, 2, .int .u64 q.si)] (fun _ => True), s.val.cell? ⟨b1, o1 + n * 3 + 1, none⟩ = some (.int .i64 z.ra) := fun s => (s.kept.below.cell (p := ⟨b1, o1 + n * 3 + 1, none⟩) hb1).trans eb1
                  have rb2 : ∀ s : KX (w.heap.size) w (wr.heap.size + 1) [(wr.heap.size, 0, .int .i64 q.id), (wr.heap.size, 1, .int .i64 q.ra), (wr.heap.size, 2, .int .u64 q.si)] (fun _ => True), s.val.cell? ⟨b1, o1 + n * 3 + 2, none⟩ = some (.int .u64 z.si) := fun s => (s.kept.below.cell (p := ⟨b1, o1 + n * 3 + 2, none⟩) hb1).trans eb2
                  repeat (go_big_quiet_step (fail))
                  refine wpQuiet_nil ?_
                  clear rD0 rD1 rD2 r4 ri0 ri1 ri2 rk0 rk1 rk2 rb0 rb1 rb2
                  repeat (go_big_quiet_step (fail))
                  refine wpQuiet_nil ?_
                  have rD0 : ∀ s : KX (w.heap.size) w (wr.heap.size + 1) [(wr.heap.size, 0, .int .i64 q.id), (wr.heap.size, 1, .int .i64 q.ra), (wr.heap.size, 2, .int .u64 q.si)] (fun _ => True), s.val.cell? ⟨wr.heap.size, 0, none⟩ = some (.int .i64 q.id) := fun s => s.kept.at (by simp)
                  have rD1 : ∀ s : KX (w.heap.size) w (wr.heap.size + 1) [(wr.heap.size, 0, .int .i64 q.id), (wr.heap.size, 1, .int .i64 q.ra), (wr.heap.size, 2, .int .u64 q.si)] (fun _ => True), s.val.cell? ⟨wr.heap.size, 1, none⟩ = some (.int .i64 q.ra) := fun s => s.kept.at (by simp)
                  have rD2 : ∀ s : KX (w.heap.size) w (wr.heap.size + 1) [(wr.heap.size, 0, .int .i64 q.id), (wr.heap.size, 1, .int .i64 q.ra), (wr.heap.size, 2, .int .u64 q.si)] (fun _ => True), s.val.cell? ⟨wr.heap.size, 2, none⟩ = some (.int .u64 q.si) := fun s => s.kept.at (by simp)
                  have r4 : ∀ s : KX (w.heap.size) w (wr.heap.size + 1) [(wr.heap.size, 0, .int .i64 q.id), (wr.heap.size, 1, .int .i64 q.ra), (wr.heap.size, 2, .int .u64 q.si)] (fun _ => True), s.val.cell? ⟨P, 4, none⟩ = some ((.slice (some ⟨b1, o1, none⟩) x.l.length c1)) := fun s => (s.kept.below.cell (p := ⟨P, 4, none⟩) hP).trans C4
                  have ri0 : ∀ s : KX (w.heap.size) w (wr.heap.size + 1) [(wr.heap.size, 0, .int .i64 q.id), (wr.heap.size, 1, .int .i64 q.ra), (wr.heap.size, 2, .int .u64 q.si)] (fun _ => True), s.val.cell? ⟨b1, o1 + i * 3, none⟩ = some (.int .i64 p.id) := fun s => (s.kept.below.cell (p := ⟨b1, o1 + i * 3, none⟩) hb1).trans ei0
                  have ri1 : ∀ s : KX (w.heap.size) w (wr.heap.size + 1) [(wr.heap.size, 0, .int .i64 q.id), (wr.heap.size, 1, .int .i64 q.ra), (wr.heap.size, 2, .int .u64 q.si)] (fun _ => True), s.val.cell? ⟨b1, o1 + i * 3 + 1, none⟩ = some (.int .i64 p.ra) := fun s => (s.kept.below.cell (p := ⟨b1, o1 + i * 3 + 1, none⟩) hb1).trans ei1
                  have ri2 : ∀ s : KX (w.heap.size) w (wr.heap.size + 1) [(wr.heap.size, 0, .int .i64 q.id), (wr.heap.size, 1, .int .i64 q.ra), (wr.heap.size, 2, .int .u64 q.si)] (fun _ => True), s.val.cell? ⟨b1, o1 + i * 3 + 2, none⟩ = some (.int .u64 p.si) := fun s => (s.kept.below.cell (p := ⟨b1, o1 + i * 3 + 2, none⟩) hb1).trans ei2
                  have rk0 : ∀ s : KX (w.heap.size) w (wr.heap.size + 1) [(wr.heap.size, 0, .int .i64 q.id), (wr.heap.size, 1, .int .i64 q.ra), (wr.heap.size, 2, .int .u64 q.si)] (fun _ => True), s.val.cell? ⟨b1, o1 + k * 3, none⟩ = some (.int .i64 q.id) := fun s => (s.kept.below.cell (p := ⟨b1, o1 + k * 3, none⟩) hb1).trans ek0
                  have rk1 : ∀ s : KX (w.heap.size) w (wr.heap.size + 1) [(wr.heap.size, 0, .int .i64 q.id), (wr.heap.size, 1, .int .i64 q.ra), (wr.heap.size, 2, .int .u64 q.si)] (fun _ => True), s.val.cell? ⟨b1, o1 + k * 3 + 1, none⟩ = some (.int .i64 q.ra) := fun s => (s.kept.below.cell (p := ⟨b1, o1 + k * 3 + 1, none⟩) hb1).trans ek1
                  have rk2 : ∀ s : KX (w.heap.size) w (wr.heap.size + 1) [(wr.heap.size, 0, .int .i64 q.id), (wr.heap.size, 1, .int .i64 q.ra), (wr.heap.size, 2, .int .u64 q.si)] (fun _ => True), s.val.cell? ⟨b1, o1 + k * 3 + 2, none⟩ = some (.int .u64 q.si) := fun s => (s.kept.below.cell (p := ⟨b1, o1 + k * 3 + 2, none⟩) hb1).trans ek2
                  have rb0 : ∀ s : KX (w.heap.size) w (wr.heap.size + 1) [(wr.heap.size, 0, .int .i64 q.id), (wr.heap.size, 1, .int .i64 q.ra), (wr.heap.size, 2, .int .u64 q.si)] (fun _ => True), s.val.cell? ⟨b1, o1 + n * 3, none⟩ = some (.int .i64 z.id) := fun s => (s.kept.below.cell (p := ⟨b1, o1 + n * 3, none⟩) hb1).trans eb0
                  have rb1 : ∀ s : KX (w.heap.size) w (wr.heap.size + 1) [(wr.heap.size, 0, .int .i64 q.id), (wr.heap.size, 1, .int .i64 q.ra), (wr.heap.size, 2, .int .u64 q.si)] (fun _ => True), s.val.cell? ⟨b1, o1 + n * 3 + 1, none⟩ = some (.int .i64 z.ra) := fun s => (s.kept.below.cell (p := ⟨b1, o1 + n * 3 + 1, none⟩) hb1).trans eb1
                  have rb2 : ∀ s : KX (w.heap.size) w (wr.heap.size + 1) [(wr.heap.size, 0, .int .i64 q.id), (wr.heap.size, 1, .int .i64 q.ra), (wr.heap.size, 2, .int .u64 q.si)] (fun _ => True), s.val.cell? ⟨b1, o1 + n * 3 + 2, none⟩ = some (.int .u64 z.si) := fun s => (s.kept.below.cell (p := ⟨b1, o1 + n * 3 + 2, none⟩) hb1).trans eb2
                  repeat (go_big_quiet_step (fail))
                  refine wpQuiet_nil ?_
                  clear rD0 rD1 rD2 r4 ri0 ri1 ri2 rk0 rk1 rk2 rb0 rb1 rb2
                  repeat (go_big_quiet_step (fail))
                  refine wpQuiet_nil ?_
                  have rD0 : ∀ s : KX (w.heap.size) w (wr.heap.size + 1) [(wr.heap.size, 0, .int .i64 q.id), (wr.heap.size, 1, .int .i64 q.ra), (wr.heap.size, 2, .int .u64 q.si)] (fun _ => True), s.val.cell? ⟨wr.heap.size, 0, none⟩ = some (.int .i64 q.id) := fun s => s.kept.at (by simp)
                  have rD1 : ∀ s : KX (w.heap.size) w (wr.heap.size + 1) [(wr.heap.size, 0, .int .i64 q.id), (wr.heap.size, 1, .int .i64 q.ra), (wr.heap.size, 2, .int .u64 q.si)] (fun _ => True), s.val.cell? ⟨wr.heap.size, 1, none⟩ = some (.int .i64 q.ra) := fun s => s.kept.at (by simp)
                  have rD2 : ∀ s : KX (w.heap.size) w (wr.heap.size + 1) [(wr.heap.size, 0, .int .i64 q.id), (wr.heap.size, 1, .int .i64 q.ra), (wr.heap.size, 2, .int .u64 q.si)] (fun _ => True), s.val.cell? ⟨wr.heap.size, 2, none⟩ = some (.int .u64 q.si) := fun s => s.kept.at (by simp)
                  have r4 : ∀ s : KX (w.heap.size) w (wr.heap.size + 1) [(wr.heap.size, 0, .int .i64 q.id), (wr.heap.size, 1, .int .i64 q.ra), (wr.heap.size, 2, .int .u64 q.si)] (fun _ => True), s.val.cell? ⟨P, 4, none⟩ = some ((.slice (some ⟨b1, o1, none⟩) x.l.length c1)) := fun s => (s.kept.below.cell (p := ⟨P, 4, none⟩) hP).trans C4
                  have ri0 : ∀ s : KX (w.heap.size) w (wr.heap.size + 1) [(wr.heap.size, 0, .int .i64 q.id), (wr.heap.size, 1, .int .i64 q.ra), (wr.heap.size, 2, .int .u64 q.si)] (fun _ => True), s.val.cell? ⟨b1, o1 + i * 3, none⟩ = some (.int .i64 p.id) := fun s => (s.kept.below.cell (p := ⟨b1, o1 + i * 3, none⟩) hb1).trans ei0
                  have ri1 : ∀ s : KX (w.heap.size) w (wr.heap.size + 1) [(wr.heap.size, 0, .int .i64 q.id), (wr.heap.size, 1, .int .i64 q.ra), (wr.heap.size, 2, .int .u64 q.si)] (fun _ => True), s.val.cell? ⟨b1, o1 + i * 3 + 1, none⟩ = some (.int .i64 p.ra) := fun s => (s.kept.below.cell (p := ⟨b1, o1 + i * 3 + 1, none⟩) hb1).trans ei1
                  have ri2 : ∀ s : KX (w.heap.size) w (wr.heap.size + 1) [(wr.heap.size, 0, .int .i64 q.id), (wr.heap.size, 1, .int .i64 q.ra), (wr.heap.size, 2, .int .u64 q.si)] (fun _ => True), s.val.cell? ⟨b1, o1 + i * 3 + 2, none⟩ = some (.int .u64 p.si) := fun s => (s.kept.below.cell (p := ⟨b1, o1 + i * 3 + 2, none⟩) hb1).trans ei2
                  have rk0 : ∀ s : KX (w.heap.size) w (wr.heap.size + 1) [(wr.heap.size, 0, .int .i64 q.id), (wr.heap.size, 1, .int .i64 q.ra), (wr.heap.size, 2, .int .u64 q.si)] (fun _ => True), s.val.cell? ⟨b1, o1 + k * 3, none⟩ = some (.int .i64 q.id) := fun s => (s.kept.below.cell (p := ⟨b1, o1 + k * 3, none⟩) hb1).trans ek0
                  have rk1 : ∀ s : KX (w.heap.size) w (wr.heap.size + 1) [(wr.heap.size, 0, .int .i64 q.id), (wr.heap.size, 1, .int .i64 q.ra), (wr.heap.size, 2, .int .u64 q.si)] (fun _ => True), s.val.cell? ⟨b1, o1 + k * 3 + 1, none⟩ = some (.int .i64 q.ra) := fun s => (s.kept.below.cell (p := ⟨b1, o1 + k * 3 + 1, none⟩) hb1).trans ek1
                  have rk2 : ∀ s : KX (w.heap.size) w (wr.heap.size + 1) [(wr.heap.size, 0, .int .i64 q.id), (wr.heap.size, 1, .int .i64 q.ra), (wr.heap.size, 2, .int .u64 q.si)] (fun _ => True), s.val.cell? ⟨b1, o1 + k * 3 + 2, none⟩ = some (.int .u64 q.si) := fun s => (s.kept.below.cell (p := ⟨b1, o1 + k * 3 + 2, none⟩) hb1).trans ek2
                  have rb0 : ∀ s : KX (w.heap.size) w (wr.heap.size + 1) [(wr.heap.size, 0, .int .i64 q.id), (wr.heap.size, 1, .int .i64 q.ra), (wr.heap.size, 2, .int .u64 q.si)] (fun _ => True), s.val.cell? ⟨b1, o1 + n * 3, none⟩ = some (.int .i64 z.id) := fun s => (s.kept.below.cell (p := ⟨b1, o1 + n * 3, none⟩) hb1).trans eb0
                  have rb1 : ∀ s : KX (w.heap.size) w (wr.heap.size + 1) [(wr.heap.size, 0, .int .i64 q.id), (wr.heap.size, 1, .int .i64 q.ra), (wr.heap.size, 2, .int .u64 q.si)] (fun _ => True), s.val.cell? ⟨b1, o1 + n * 3 + 1, none⟩ = some (.int .i64 z.ra) := fun s => (s.kept.below.cell (p := ⟨b1, o1 + n * 3 + 1, none⟩) hb1).trans eb1
                  have rb2 : ∀ s : KX (w.heap.size) w (wr.heap.size + 1) [(wr.heap.size, 0, .int .i64 q.id), (wr.heap.size, 1, .int .i64 q.ra), (wr.heap.size, 2, .int .u64 q.si)] (fun _ => True), s.val.cell? ⟨b1, o1 + n * 3 + 2, none⟩ = some (.int .u64 z.si) := fun s => (s.kept.below.cell (p := ⟨b1, o1 + n * 3 + 2, none⟩) hb1).trans eb2
                  repeat (go_big_quiet_step (fail))
                  refine wpQuiet_nil ?_
                  clear rD0 rD1 rD2 r4 ri0 ri1 ri2 rk0 rk1 rk2 rb0 rb1 rb2
                  have KH_w25 := Lib.hid K_w25
                  have hw_w25 := K_w25.below
                  have hz_w25 := K_w25.size
                  have lD_w25 : wr.heap.size < w25.heap.size := by omega
                  clear lD_w24 cD0_w24 fD0_w24 cD1_w24 fD1_w24 cD2_w24 fD2_w24
                  clear K_w25
                  clear E_w25 F_w25
                  refine ⟨fun K hK0 => ?_, trivial⟩
                  have hK := Lib.hid hK0
                  clear hK0
                  go_wp2_with fail
                  with_reducible refine (apart37c p z x.now db _ OKP.out OKZ.out HDB.out).mono ?_
                  rintro e w26 ⟨rfl, hb_w26⟩
                  have K_w26 := (KH_w25.out.step (by omega) (by go_grown)).step (by omega) hb_w26
                  clear hb_w26
                  have KH_w26 := Lib.hid K_w26
                  have hw_w26 := K_w26.below
                  have hz_w26 := K_w26.size
                  have lD_w26 : wr.heap.size < w26.heap.size := by omega
                  clear lD_w25
                  clear K_w26
                  go_wp2_with fail
                  first | (refine ⟨rfl, hK.out _ _ ?_⟩; clear hK K) | (refine hK.out _ _ ?_; clear hK K)
                  repeat (go_big_quiet_step (fail))
                  refine wpQuiet_nil ?_
                  clear _ne
                  go_wp2_with fail
                  go_roundw
                  case rel => exact ⟨k + 1, by omega, by go_num, by rw [HPA.out], by go_grown⟩
                  case measure => simp [intOf]; omega
                · have HPA : Hid (pa x i tk (k + 1) = n) := Lib.hid (by rw [pa_less (by rw [AP.out.1, AP.out.2, HNB.out]; omega), HNB.out])
                  have t6 : decide (d < db) = false := by simpa using a6
                  skip
                  go_wp2_with fail
                  refine rg27_5 (w0 := w) (B := w.heap.size) (n := wr.heap.size + 1) (L := [(wr.heap.size, 0, .int .i64 q.id), (wr.heap.size, 1, .int .i64 q.ra), (wr.heap.size, 2, .int .u64 q.si)]) (E := fun _ => True) (F := fun _ => True) (by kernel_rfl) (by kernel_rfl) ⟨by go_grown, by go_size, (by simp [go_sem] <;> omega)⟩ trivial (fun _ _ _ _ => trivial) trivial (fun _ _ _ _ => trivial) (fun w21 K_w21 E_w21 F_w21 => ?_)
                  have _ne : Nonempty (KX (w.heap.size) w (wr.heap.size + 1) [(wr.heap.size, 0, .int .i64 q.id), (wr.heap.size, 1, .int .i64 q.ra), (wr.heap.size, 2, .int .u64 q.si)] (fun _ => True)) := ⟨⟨_, K_w21, E_w21⟩⟩
                  repeat (go_big_quiet_step (fail))
                  refine wpQuiet_nil ?_
                  have rD0 : ∀ s : KX (w.heap.size) w (wr.heap.size + 1) [(wr.heap.size, 0, .int .i64 q.id), (wr.heap.size, 1, .int .i64 q.ra), (wr.heap.size, 2, .int .u64 q.si)] (fun _ => True), s.val.cell? ⟨wr.heap.size, 0, none⟩ = some (.int .i64 q.id) := fun s => s.kept.at (by simp)
                  have rD1 : ∀ s : KX (w.heap.size) w (wr.heap.size + 1) [(wr.heap.size, 0, .int .i64 q.id), (wr.heap.size, 1, .int .i64 q.ra), (wr.heap.size, 2, .int .u64 q.si)] (fun _ => True), s.val.cell? ⟨wr.heap.size, 1, none⟩ = some (.int .i64 q.ra) := fun s => s.kept.at (by simp)
                  have rD2 : ∀ s : KX (w.heap.size) w (wr.heap.size + 1) [(wr.heap.size, 0, .int .i64 q.id), (wr.heap.size, 1, .int .i64 q.ra), (wr.heap.size, 2, .int .u64 q.si)] (fun _ => True), s.val.cell? ⟨wr.heap.size, 2, none⟩ = some (.int .u64 q.si) := fun s => s.kept.at (by simp)
                  have r4 : ∀ s : KX (w.heap.size) w (wr.heap.size + 1) [(wr.heap.size, 0, .int .i64 q.id), (wr.heap.size, 1, .int .i64 q.ra), (wr.heap.size, 2, .int .u64 q.si)] (fun _ => True), s.val.cell? ⟨P, 4, none⟩ = some ((.slice (some ⟨b1, o1, none⟩) x.l.length c1)) := fun s => (s.kept.below.cell (p := ⟨P, 4, none⟩) hP).trans C4
                  have ri0 : ∀ s : KX (w.heap.size) w (wr.heap.size + 1) [(wr.heap.size, 0, .int .i64 q.id), (wr.heap.size, 1, .int .i64 q.ra), (wr.heap.size, 2, .int .u64 q.si)] (fun _ => True), s.val.cell? ⟨b1, o1 + i * 3, none⟩ = some (.int .i64 p.id) := fun s => (s.kept.below.cell (p := ⟨b1, o1 + i * 3, none⟩) hb1).trans ei0
                  have ri1 : ∀ s : KX (w.heap.size) w (wr.heap.size + 1) [(wr.heap.size, 0, .int .i64 q.id), (wr.heap.size, 1, .int .i64 q.ra), (wr.heap.size, 2, .int .u64 q.si)] (fun _ => True), s.val.cell? ⟨b1, o1 + i * 3 + 1, none⟩ = some (.int .i64 p.ra) := fun s => (s.kept.below.cell (p := ⟨b1, o1 + i * 3 + 1, none⟩) hb1).trans ei1
                  have ri2 : ∀ s : KX (w.heap.size) w (wr.heap.size + 1) [(wr.heap.size, 0, .int .i64 q.id), (wr.heap.size, 1, .int .i64 q.ra), (wr.heap.size, 2, .int .u64 q.si)] (fun _ => True), s.val.cell? ⟨b1, o1 + i * 3 + 2, none⟩ = some (.int .u64 p.si) := fun s => (s.kept.below.cell (p := ⟨b1, o1 + i * 3 + 2, none⟩) hb1).trans ei2
                  have rk0 : ∀ s : KX (w.heap.size) w (wr.heap.size + 1) [(wr.heap.size, 0, .int .i64 q.id), (wr.heap.size, 1, .int .i64 q.ra), (wr.heap.size, 2, .int .u64 q.si)] (fun _ => True), s.val.cell? ⟨b1, o1 + k * 3, none⟩ = some (.int .i64 q.id) := fun s => (s.kept.below.cell (p := ⟨b1, o1 + k * 3, none⟩) hb1).trans ek0
                  have rk1 : ∀ s : KX (w.heap.size) w (wr.heap.size + 1) [(wr.heap.size, 0, .int .i64 q.id), (wr.heap.size, 1, .int .i64 q.ra), (wr.heap.size, 2, .int .u64 q.si)] (fun _ => True), s.val.cell? ⟨b1, o1 + k * 3 + 1, none⟩ = some (.int .i64 q.ra) := fun s => (s.kept.below.cell (p := ⟨b1, o1 + k * 3 + 1, none⟩) hb1).trans ek1
                  have rk2 : ∀ s : KX (w.heap.size) w (wr.heap.size + 1) [(wr.heap.size, 0, .int .i64 q.id), (wr.heap.size, 1, .int .i64 q.ra), (wr.heap.size, 2, .int .u64 q.si)] (fun _ => True), s.val.cell? ⟨b1, o1 + k * 3 + 2, none⟩ = some (.int .u64 q.si) := fun s => (s.kept.below.cell (p := ⟨b1, o1 + k * 3 + 2, none⟩) hb1).trans ek2
                  repeat (go_big_quiet_step (fail))
                  refine wpQuiet_nil ?_
                  clear rD0 rD1 rD2 r4 ri0 ri1 ri2 rk0 rk1 rk2
                  repeat (go_big_quiet_step (fail))
                  refine wpQuiet_nil ?_
                  have rD0 : ∀ s : KX (w.heap.size) w (wr.heap.size + 1) [(wr.heap.size, 0, .int .i64 q.id), (wr.heap.size, 1, .int .i64 q.ra), (wr.heap.size, 2, .int .u64 q.si)] (fun _ => True), s.val.cell? ⟨wr.heap.size, 0, none⟩ = some (.int .i64 q.id) := fun s => s.kept.at (by simp)
                  have rD1 : ∀ s : KX (w.heap.size) w (wr.heap.size + 1) [(wr.heap.size, 0, .int .i64 q.id), (wr.heap.size, 1, .int .i64 q.ra), (wr.heap.size, 2, .int .u64 q.si)] (fun _ => True), s.val.cell? ⟨wr.heap.size, 1, none⟩ = some (.int .i64 q.ra) := fun s => s.kept.at (by simp)
                  have rD2 : ∀ s : KX (w.heap.size) w (wr.heap.size + 1) [(wr.heap.size, 0, .int .i64 q.id), (wr.heap.size, 1, .int .i64 q.ra), (wr.heap.size, 2, .int .u64 q.si)] (fun _ => True), s.val.cell? ⟨wr.heap.size, 2, none⟩ = some (.int .u64 q.si) := fun s => s.kept.at (by simp)
                  have r4 : ∀ s : KX (w.heap.size) w (wr.heap.size + 1) [(wr.heap.size, 0, .int .i64 q.id), (wr.heap.size, 1, .int .i64 q.ra), (wr.heap.size, 2, .int .u64 q.si)] (fun _ => True), s.val.cell? ⟨P, 4, none⟩ = some ((.slice (some ⟨b1, o1, none⟩) x.l.length c1)) := fun s => (s.kept.below.cell (p := ⟨P, 4, none⟩) hP).trans C4
                  have ri0 : ∀ s : KX (w.heap.size) w (wr.heap.size + 1) [(wr.heap.size, 0, .int .i64 q.id), (wr.heap.size, 1, .int .i64 q.ra), (wr.heap.size, 2, .int .u64 q.si)] (fun _ => True), s.val.cell? ⟨b1, o1 + i * 3, none⟩ = some (.int .i64 p.id) := fun s => (s.kept.below.cell (p := ⟨b1, o1 + i * 3, none⟩) hb1).trans ei0
                  have ri1 : ∀ s : KX (w.heap.size) w (wr.heap.size + 1) [(wr.heap.size, 0, .int .i64 q.id), (wr.heap.size, 1, .int .i64 q.ra), (wr.heap.size, 2, .int .u64 q.si)] (fun _ => True), s.val.cell? ⟨b1, o1 + i * 3 + 1, none⟩ = some (.int .i64 p.ra) := fun s => (s.kept.below.cell (p := ⟨b1, o1 + i * 3 + 1, none⟩) hb1).trans ei1
                  have ri2 : ∀ s : KX (w.heap.size) w (wr.heap.size + 1) [(wr.heap.size, 0, .int .i64 q.id), (wr.heap.size, 1, .int .i64 q.ra), (wr.heap.size, 2, .int .u64 q.si)] (fun _ => True), s.val.cell? ⟨b1, o1 + i * 3 + 2, none⟩ = some (.int .u64 p.si) := fun s => (s.kept.below.cell (p := ⟨b1, o1 + i * 3 + 2, none⟩) hb1).trans ei2
                  have rk0 : ∀ s : KX (w.heap.size) w (wr.heap.size + 1) [(wr.heap.size, 0, .int .i64 q.id), (wr.heap.size, 1, .int .i64 q.ra), (wr.heap.size, 2, .int .u64 q.si)] (fun _ => True), s.val.cell? ⟨b1, o1 + k * 3, none⟩ = some (.int .i64 q.id) := fun s => (s.kept.below.cell (p := ⟨b1, o1 + k * 3, none⟩) hb1).trans ek0
                  have rk1 : ∀ s : KX (w.heap.size) w (wr.heap.size + 1) [(wr.heap.size, 0, .int .i64 q.id), (wr.heap.size, 1, .int .i64 q.ra), (wr.heap.size, 2, .int .u64 q.si)] (fun _ => True), s.val.cell? ⟨b1, o1 + k * 3 + 1, none⟩ = some (.int .i64 q.ra) := fun s => (s.kept.below.cell (p := ⟨b1, o1 + k * 3 + 1, none⟩) hb1).trans ek1
                  have rk2 : ∀ s : KX (w.heap.size) w (wr.heap.size + 1) [(wr.heap.size, 0, .int .i64 q.id), (wr.heap.size, 1, .int .i64 q.ra), (wr.heap.size, 2, .int .u64 q.si)] (fun _ => True), s.val.cell? ⟨b1, o1 + k * 3 + 2, none⟩ = some (.int .u64 q.si) := fun s => (s.kept.below.cell (p := ⟨b1, o1 + k * 3 + 2, none⟩) hb1).trans ek2
                  repeat (go_big_quiet_step (fail))
                  refine wpQuiet_nil ?_
                  clear rD0 rD1 rD2 r4 ri0 ri1 ri2 rk0 rk1 rk2
                  have KH_w21 := Lib.hid K_w21
                  have hw_w21 := K_w21.below
                  have hz_w21 := K_w21.size
                  have lD_w21 : wr.heap.size < w21.heap.size := by omega
                  clear K_w21
                  clear E_w21 F_w21
                  refine ⟨fun K hK0 => ?_, trivial⟩
                  have hK := Lib.hid hK0
                  clear hK0
                  go_wp2_with fail
                  with_reducible refine (apart37c p q x.now d _ OKP.out OKQ.out HD.out).mono ?_
                  rintro e w22 ⟨rfl, hb_w22⟩
                  have K_w22 := (KH_w21.out.step (by omega) (by go_grown)).step (by omega) hb_w22
                  clear hb_w22
                  have KH_w22 := Lib.hid K_w22
                  have hw_w22 := K_w22.below
                  have hz_w22 := K_w22.size
                  have lD_w22 : wr.heap.size < w22.heap.size := by omega
                  clear lD_w21
                  clear K_w22
                  go_wp2_with fail
                  first | (refine ⟨rfl, hK.out _ _ ?_⟩; clear hK K) | (refine hK.out _ _ ?_; clear hK K)
                  repeat (go_big_quiet_step (fail))
                  refine wpQuiet_nil ?_
                  clear _ne
                  have g4_w22 : w22.cell? ⟨P, 4, none⟩ = Option.some (.slice (some ⟨b1, o1, none⟩) x.l.length c1) := (hw_w22.cell (p := ⟨P, 4, none⟩) hP).trans C4
                  have gi0_w22 : w22.cell? ⟨b1, o1 + i * 3, none⟩ = Option.some (.int .i64 p.id) := (hw_w22.cell (p := ⟨b1, o1 + i * 3, none⟩) hb1).trans ei0
                  have gi1_w22 : w22.cell? ⟨b1, o1 + i * 3 + 1, none⟩ = Option.some (.int .i64 p.ra) := (hw_w22.cell (p := ⟨b1, o1 + i * 3 + 1, none⟩) hb1).trans ei1
                  have gi2_w22 : w22.cell? ⟨b1, o1 + i * 3 + 2, none⟩ = Option.some (.int .u64 p.si) := (hw_w22.cell (p := ⟨b1, o1 + i * 3 + 2, none⟩) hb1).trans ei2
                  have gk0_w22 : w22.cell? ⟨b1, o1 + k * 3, none⟩ = Option.some (.int .i64 q.id) := (hw_w22.cell (p := ⟨b1, o1 + k * 3, none⟩) hb1).trans ek0
                  have gk1_w22 : w22.cell? ⟨b1, o1 + k * 3 + 1, none⟩ = Option.some (.int .i64 q.ra) := (hw_w22.cell (p := ⟨b1, o1 + k * 3 + 1, none⟩) hb1).trans ek1
                  have gk2_w22 : w22.cell? ⟨b1, o1 + k * 3 + 2, none⟩ = Option.some (.int .u64 q.si) := (hw_w22.cell (p := ⟨b1, o1 + k * 3 + 2, none⟩) hb1).trans ek2
                  have gt_w22 : w22.cell? ⟨b2, o2 + k, none⟩ = Option.some (.bool false) := (hw_w22.cell (p := ⟨b2, o2 + k, none⟩) hb2).trans et
                  have cD0_w22 := KH_w22.out.at (b := wr.heap.size) (o := 0) (v := .int .i64 q.id) (by simp)
                  have fD0_w22 := KH_w22.out.free (b := wr.heap.size) (o := 0) (v := .int .i64 q.id) (by simp)
                  have cD1_w22 := KH_w22.out.at (b := wr.heap.size) (o := 1) (v := .int .i64 q.ra) (by simp)
                  have fD1_w22 := KH_w22.out.free (b := wr.heap.size) (o := 1) (v := .int .i64 q.ra) (by simp)
                  have cD2_w22 := KH_w22.out.at (b := wr.heap.size) (o := 2) (v := .int .u64 q.si) (by simp)
                  have fD2_w22 := KH_w22.out.free (b := wr.heap.size) (o := 2) (v := .int .u64 q.si) (by simp)
                  go_wp2_with fail
                  with_reducible refine (window29c P x _ p dp _ (HL.out.below (by go_grown)) ok OKP.out HDP.out).mono ?_
                  rintro e w23 ⟨rfl, hb_w23⟩
                  have K_w23 := (KH_w22.out.step (by omega) (by go_grown)).step (by omega) hb_w23
                  clear hb_w23
                  have KH_w23 := Lib.hid K_w23
                  have hw_w23 := K_w23.below
                  have hz_w23 := K_w23.size
                  have lD_w23 : wr.heap.size < w23.heap.size := by omega
                  clear lD_w22 cD0_w22 fD0_w22 cD1_w22 fD1_w22 cD2_w22 fD2_w22
                  clear K_w23
                  have g4_w23 : w23.cell? ⟨P, 4, none⟩ = Option.some (.slice (some ⟨b1, o1, none⟩) x.l.length c1) := (hw_w23.cell (p := ⟨P, 4, none⟩) hP).trans C4
                  have gi0_w23 : w23.cell? ⟨b1, o1 + i * 3, none⟩ = Option.some (.int .i64 p.id) := (hw_w23.cell (p := ⟨b1, o1 + i * 3, none⟩) hb1).trans ei0
                  have gi1_w23 : w23.cell? ⟨b1, o1 + i * 3 + 1, none⟩ = Option.some (.int .i64 p.ra) := (hw_w23.cell (p := ⟨b1, o1 + i * 3 + 1, none⟩) hb1).trans ei1
                  have gi2_w23 : w23.cell? ⟨b1, o1 + i * 3 + 2, none⟩ = Option.some (.int .u64 p.si) := (hw_w23.cell (p := ⟨b1, o1 + i * 3 + 2, none⟩) hb1).trans ei2
                  have gk0_w23 : w23.cell? ⟨b1, o1 + k * 3, none⟩ = Option.some (.int .i64 q.id) := (hw_w23.cell (p := ⟨b1, o1 + k * 3, none⟩) hb1).trans ek0
                  have gk1_w23 : w23.cell? ⟨b1, o1 + k * 3 + 1, none⟩ = Option.some (.int .i64 q.ra) := (hw_w23.cell (p := ⟨b1, o1 + k * 3 + 1, none⟩) hb1).trans ek1
                  have gk2_w23 : w23.cell? ⟨b1, o1 + k * 3 + 2, none⟩ = Option.some (.int .u64 q.si) := (hw_w23.cell (p := ⟨b1, o1 + k * 3 + 2, none⟩) hb1).trans ek2
                  have gt_w23 : w23.cell? ⟨b2, o2 + k, none⟩ = Option.some (.bool false) := (hw_w23.cell (p := ⟨b2, o2 + k, none⟩) hb2).trans et
                  have cD0_w23 := KH_w23.out.at (b := wr.heap.size) (o := 0) (v := .int .i64 q.id) (by simp)
                  have fD0_w23 := KH_w23.out.free (b := wr.heap.size) (o := 0) (v := .int .i64 q.id) (by simp)
                  have cD1_w23 := KH_w23.out.at (b := wr.heap.size) (o := 1) (v := .int .i64 q.ra) (by simp)
                  have fD1_w23 := KH_w23.out.free (b := wr.heap.size) (o := 1) (v := .int .i64 q.ra) (by simp)
                  have cD2_w23 := KH_w23.out.at (b := wr.heap.size) (o := 2) (v := .int .u64 q.si) (by simp)
                  have fD2_w23 := KH_w23.out.free (b := wr.heap.size) (o := 2) (v := .int .u64 q.si) (by simp)
                  go_wp2_with fail
                  with_reducible refine (window29c P x _ q dq _ (HL.out.below (by go_grown)) ok OKQ.out HDQ.out).mono ?_
                  rintro e w24 ⟨rfl, hb_w24⟩
                  have K_w24 := (KH_w23.out.step (by omega) (by go_grown)).step (by omega) hb_w24
                  clear hb_w24
                  have KH_w24 := Lib.hid K_w24
                  have hw_w24 := K_w24.below
                  have hz_w24 := K_w24.size
                  have lD_w24 : wr.heap.size < w24.heap.size := by omega
                  clear lD_w23 cD0_w23 fD0_w23 cD1_w23 fD1_w23 cD2_w23 fD2_w23
                  clear K_w24
                  have g4_w24 : w24.cell? ⟨P, 4, none⟩ = Option.some (.slice (some ⟨b1, o1, none⟩) x.l.length c1) := (hw_w24.cell (p := ⟨P, 4, none⟩) hP).trans C4
                  have gi0_w24 : w24.cell? ⟨b1, o1 + i * 3, none⟩ = Option.some (.int .i64 p.id) := (hw_w24.cell (p := ⟨b1, o1 + i * 3, none⟩) hb1).trans ei0
                  have gi1_w24 : w24.cell? ⟨b1, o1 + i * 3 + 1, none⟩ = Option.some (.int .i64 p.ra) := (hw_w24.cell (p := ⟨b1, o1 + i * 3 + 1, none⟩) hb1).trans ei1
                  have gi2_w24 : w24.cell? ⟨b1, o1 + i * 3 + 2, none⟩ = Option.some (.int .u64 p.si) := (hw_w24.cell (p := ⟨b1, o1 + i * 3 + 2, none⟩) hb1).trans ei2
                  have gk0_w24 : w24.cell? ⟨b1, o1 + k * 3, none⟩ = Option.some (.int .i64 q.id) := (hw_w24.cell (p := ⟨b1, o1 + k * 3, none⟩) hb1).trans ek0
                  have gk1_w24 : w24.cell? ⟨b1, o1 + k * 3 + 1, none⟩ = Option.some (.int .i64 q.ra) := (hw_w24.cell (p := ⟨b1, o1 + k * 3 + 1, none⟩) hb1).trans ek1
                  have gk2_w24 : w24.cell? ⟨b1, o1 + k * 3 + 2, none⟩ = Option.some (.int .u64 q.si) := (hw_w24.cell (p := ⟨b1, o1 + k * 3 + 2, none⟩) hb1).trans ek2
                  have gt_w24 : w24.cell? ⟨b2, o2 + k, none⟩ = Option.some (.bool false) := (hw_w24.cell (p := ⟨b2, o2 + k, none⟩) hb2).trans et
                  have cD0_w24 := KH_w24.out.at (b := wr.heap.size) (o := 0) (v := .int .i64 q.id) (by simp)
                  have fD0_w24 := KH_w24.out.free (b := wr.heap.size) (o := 0) (v := .int .i64 q.id) (by simp)
                  have cD1_w24 := KH_w24.out.at (b := wr.heap.size) (o := 1) (v := .int .i64 q.ra) (by simp)
                  have fD1_w24 := KH_w24.out.free (b := wr.heap.size) (o := 1) (v := .int .i64 q.ra) (by simp)
                  have cD2_w24 := KH_w24.out.at (b := wr.heap.size) (o := 2) (v := .int .u64 q.si) (by simp)
                  have fD2_w24 := KH_w24.out.free (b := wr.heap.size) (o := 2) (v := .int .u64 q.si) (by simp)
                  go_wp2_with fail
                  clear gi0_w24 gi1_w24 gi2_w24 gk0_w24 gk1_w24 gk2_w24 g4_w24 gt_w24
                  refine rg27_7 (w0 := w) (B := w.heap.size) (n := wr.heap.size + 1) (L := [(wr.heap.size, 0, .int .i64 q.id), (wr.heap.size, 1, .int .i64 q.ra), (wr.heap.size, 2, .int .u64 q.si)]) (E := fun _ => True) (F := fun _ => True) (by kernel_rfl) (by kernel_rfl) (KH_w24.out.step (by omega) (by go_grown)) trivial (fun _ _ _ _ => trivial) trivial (fun _ _ _ _ => trivial) (fun w25 K_w25 E_w25 F_w25 => ?_)
                  have _ne : Nonempty (KX (w.heap.size) w (wr.heap.size + 1) [(wr.heap.size, 0, .int .i64 q.id), (wr.heap.size, 1, .int .i64 q.ra), (wr.heap.size, 2, .int .u64 q.si)] (fun _ => True)) := ⟨⟨_, K_w25, E_w25⟩⟩
                  repeat (go_big_quiet_step (fail))
                  refine wpQuiet_nil ?_
                  have rD0 : ∀ s : KX (w.heap.size) w (wr.heap.size + 1) [(wr.heap.size, 0, .int .i64 q.id), (wr.heap.size, 1, .int .i64 q.ra), (wr.heap.size, 2, .int .u64 q.si)] (fun _ => True), s.val.cell? ⟨wr.heap.size, 0, none⟩ = some (.int .i64 q.id) := fun s => s.kept.at (by simp)
                  have rD1 : ∀ s : KX (w.heap.size) w (wr.heap.size + 1) [(wr.heap.size, 0, .int .i64 q.id), (wr.heap.size, 1, .int .i64 q.ra), (wr.heap.size, 2, .int .u64 q.si)] (fun _ => True), s.val.cell? ⟨wr.heap.size, 1, none⟩ = some (.int .i64 q.ra) := fun s => s.kept.at (by simp)
                  have rD2 : ∀ s : KX (w.heap.size) w (wr.heap.size + 1) [(wr.heap.size, 0, .int .i64 q.id), (wr.heap.size, 1, .int .i64 q.ra), (wr.heap.size, 2, .int .u64 q.si)] (fun _ => True), s.val.cell? ⟨wr.heap.size, 2, none⟩ = some (.int .u64 q.si) := fun s => s.kept.at (by simp)
                  have r4 : ∀ s : KX (w.heap.size) w (wr.heap.size + 1) [(wr.heap.size, 0, .int .i64 q.id), (wr.heap.size, 1, .int .i64 q.ra), (wr.heap.size, 2, .int .u64 q.si)] (fun _ => True), s.val.cell? ⟨P, 4, none⟩ = some ((.slice (some ⟨b1, o1, none⟩) x.l.length c1)) := fun s => (s.kept.below.cell (p := ⟨P, 4, none⟩) hP).trans C4
                  have ri0 : ∀ s : KX (w.heap.size) w (wr.heap.size + 1) [(wr.heap.size, 0, .int .i64 q.id), (wr.heap.size, 1, .int .i64 q.ra), (wr.heap.size, 2, .int .u64 q.si)] (fun _ => True), s.val.cell? ⟨b1, o1 + i * 3, none⟩ = some (.int .i64 p.id) := fun s => (s.kept.below.cell (p := ⟨b1, o1 + i * 3, none⟩) hb1).trans ei0
                  have ri1 : ∀ s : KX (w.heap.size) w (wr.heap.size + 1) [(wr.heap.size, 0, .int .i64 q.id), (wr.heap.size, 1, .int .i64 q.ra), (wr.heap.size, 2, .int .u64 q.si)] (fun _ => True), s.val.cell? ⟨b1, o1 + i * 3 + 1, none⟩ = some (.int .i64 p.ra) := fun s => (s.kept.below.cell (p := ⟨b1, o1 + i * 3 + 1, none⟩) hb1).trans ei1
                  have ri2 : ∀ s : KX (w.heap.size) w (wr.heap.size + 1) [(wr.heap.size, 0, .int .i64 q.id), (wr.heap.size, 1, .int .i64 q.ra), (wr.heap.size, 2, .int .u64 q.si)] (fun _ => True), s.val.cell? ⟨b1, o1 + i * 3 + 2, none⟩ = some (.int .u64 p.si) := fun s => (s.kept.below.cell (p := ⟨b1, o1 + i * 3 + 2, none⟩) hb1).trans ei2
                  have rk0 : ∀ s : KX (w.heap.size) w (wr.heap.size + 1) [(wr.heap.size, 0, .int .i64 q.id), (wr.heap.size, 1, .int .i64 q.ra), (wr.heap.size, 2, .int .u64 q.si)] (fun _ => True), s.val.cell? ⟨b1, o1 + k * 3, none⟩ = some (.int .i64 q.id) := fun s => (s.kept.below.cell (p := ⟨b1, o1 + k * 3, none⟩) hb1).trans ek0
                  have rk1 : ∀ s : KX (w.heap.size) w (wr.heap.size + 1) [(wr.heap.size, 0, .int .i64 q.id), (wr.heap.size, 1, .int .i64 q.ra), (wr.heap.size, 2, .int .u64 q.si)] (fun _ => True), s.val.cell? ⟨b1, o1 + k * 3 + 1, none⟩ = some (.int .i64 q.ra) := fun s => (s.kept.below.cell (p := ⟨b1, o1 + k * 3 + 1, none⟩) hb1).trans ek1
                  have rk2 : ∀ s : KX (w.heap.size) w (wr.heap.size + 1) [(wr.heap.size, 0, .int .i64 q.id), (wr.heap.size, 1, .int .i64 q.ra), (wr.heap.size, 2, .int .u64 q.si)] (fun _ => True), s.val.cell? ⟨b1, o1 + k * 3 + 2, none⟩ = some (.int .u64 q.si) := fun s => (s.kept.below.cell (p := ⟨b1, o1 + k * 3 + 2, none⟩) hb1).trans ek2
                  have rb0 : ∀ s : KX (w.heap.size) w (wr.heap.size + 1) [(wr.heap.size, 0, .int .i64 q.id), (wr.heap.size, 1, .int .i64 q.ra), (wr.heap.size, 2, .int .u64 q.si)] (fun _ => True), s.val.cell? ⟨b1, o1 + n * 3, none⟩ = some (.int .i64 z.id) := fun s => (s.kept.below.cell (p := ⟨b1, o1 + n * 3, none⟩) hb1).trans eb0
                  have rb1 : ∀ s : KX (w.heap.size) w (wr.heap.size + 1) [(wr.heap.size, 0, .int .i64 q.id), (wr.heap.size, 1, .int .i64 q.ra), (wr.heap.size, 2, .int .u64 q.si)] (fun _ => True), s.val.cell? ⟨b1, o1 + n * 3 + 1, none⟩ = some (.int .i64 z.ra) := fun s => (s.kept.below.cell (p := ⟨b1, o1 + n * 3 + 1, none⟩) hb1).trans eb1
                  have rb2 : ∀ s : KX (w.heap.size) w (wr.heap.size + 1) [(wr.heap.size, 0, .int .i64 q.id), (wr.heap.size, 1, .int .i64 q.ra), (wr.heap.size, 2, .int .u64 q.si)] (fun _ => True), s.val.cell? ⟨b1, o1 + n * 3 + 2, none⟩ = some (.int .u64 z.si) := fun s => (s.kept.below.cell (p := ⟨b1, o1 + n * 3 + 2, none⟩) hb1).trans eb2
                  repeat (go_big_quiet_step (fail))
                  refine wpQuiet_nil ?_
                  clear rD0 rD1 rD2 r4 ri0 ri1 ri2 rk0 rk1 rk2 rb0 rb1 rb2
                  repeat (go_big_quiet_step (fail))
                  refine wpQuiet_nil ?_
                  have rD0 : ∀ s : KX (w.heap.size) w (wr.heap.size + 1) [(wr.heap.size, 0, .int .i64 q.id), (wr.heap.size, 1, .int .i64 q.ra), (wr.heap.size, 2, .int .u64 q.si)] (fun _ => True), s.val.cell? ⟨wr.heap.size, 0, none⟩ = some (.int .i64 q.id) := fun s => s.kept.at (by simp)
                  have rD1 : ∀ s : KX (w.heap.size) w (wr.heap.size + 1) [(wr.heap.size, 0, .int .i64 q.id), (wr.heap.size, 1, .int .i64 q.ra), (wr.heap.size, 2, .int .u64 q.si)] (fun _ => True), s.val.cell? ⟨wr.heap.size, 1, none⟩ = some (.int .i64 q.ra) := fun s => s.kept.at (by simp)
                  have rD2 : ∀ s : KX (w.heap.size) w (wr.heap.size + 1) [(wr.heap.size, 0, .int .i64 q.id), (wr.heap.size, 1, .int .i64 q.ra), (wr.heap.size, 2, .int .u64 q.si)] (fun _ => True), s.val.cell? ⟨wr.heap.size, 2, none⟩ = some (.int .u64 q.si) := fun s => s.kept.at (by simp)
                  have r4 : ∀ s : KX (w.heap.size) w (wr.heap.size + 1) [(wr.heap.size, 0, .int .i64 q.id), (wr.heap.size, 1, .int .i64 q.ra), (wr.heap.size, 2, .int .u64 q.si)] (fun _ => True), s.val.cell? ⟨P, 4, none⟩ = some ((.slice (some ⟨b1, o1, none⟩) x.l.length c1)) := fun s => (s.kept.below.cell (p := ⟨P, 4, none⟩) hP).trans C4
                  have ri0 : ∀ s : KX (w.heap.size) w (wr.heap.size + 1) [(wr.heap.size, 0, .int .i64 q.id), (wr.heap.size, 1, .int .i64 q.ra), (wr.heap.size, 2, .int .u64 q.si)] (fun _ => True), s.val.cell? ⟨b1, o1 + i * 3, none⟩ = some (.int .i64 p.id) := fun s => (s.kept.below.cell (p := ⟨b1, o1 + i * 3, none⟩) hb1).trans ei0
                  have ri1 : ∀ s : KX (w.heap.size) w (wr.heap.size + 1) [(wr.heap.size, 0, .int .i64 q.id), (wr.heap.size, 1, .int .i64 q.ra), (wr.heap.size, 2, .int .u64 q.si)] (fun _ => True), s.val.cell? ⟨b1, o1 + i * 3 + 1, none⟩ = some (.int .i64 p.ra) := fun s => (s.kept.below.cell (p := ⟨b1, o1 + i * 3 + 1, none⟩) hb1).trans ei1
                  have ri2 : ∀ s : KX (w.heap.size) w (wr.heap.size + 1) [(wr.heap.size, 0, .int .i64 q.id), (wr.heap.size, 1, .int .i64 q.ra), (wr.heap.size, 2, .int .u64 q.si)] (fun _ => True), s.val.cell? ⟨b1, o1 + i * 3 + 2, none⟩ = some (.int .u64 p.si) := fun s => (s.kept.below.cell (p := ⟨b1, o1 + i * 3 + 2, none⟩) hb1).trans ei2
                  have rk0 : ∀ s : KX (w.heap.size) w (wr.heap.size + 1) [(wr.heap.size, 0, .int .i64 q.id), (wr.heap.size, 1, .int .i64 q.ra), (wr.heap.size, 2, .int .u64 q.si)] (fun _ => True), s.val.cell? ⟨b1, o1 + k * 3, none⟩ = some (.int .i64 q.id) := fun s => (s.kept.below.cell (p := ⟨b1, o1 + k * 3, none⟩) hb1).trans ek0
                  have rk1 : ∀ s : KX (w.heap.size) w (wr.heap.size + 1) [(wr.heap.size, 0, .int .i64 q.id), (wr.heap.size, 1, .int .i64 q.ra), (wr.heap.size, 2, .int .u64 q.si)] (fun _ => True), s.val.cell? ⟨b1, o1 + k * 3 + 1, none⟩ = some (.int .i64 q.ra) := fun s => (s.kept.below.cell (p := ⟨b1, o1 + k * 3 + 1, none⟩) hb1).trans ek1
                  have rk2 : ∀ s : KX (w.heap.size) w (wr.heap.size + 1) [(wr.heap.size, 0, .int .i64 q.id), (wr.heap.size, 1, .int .i64 q.ra), (wr.heap.size, 2, .int .u64 q.si)] (fun _ => True), s.val.cell? ⟨b1, o1 + k * 3 + 2, none⟩ = some (.int .u64 q.si) := fun s => (s.kept.below.cell (p := ⟨b1, o1 + k * 3 + 2, none⟩) hb1).trans ek2
                  have rb0 : ∀ s : KX (w.heap.size) w (wr.heap.size + 1) [(wr.heap.size, 0, .int .i64 q.id), (wr.heap.size, 1, .int .i64 q.ra), (wr.heap.size, 2, .int .u64 q.si)] (fun _ => True), s.val.cell? ⟨b1, o1 + n * 3, none⟩ = some (.int .i64 z.id) := fun s => (s.kept.below.cell (p := ⟨b1, o1 + n * 3, none⟩) hb1).trans eb0
                  have rb1 : ∀ s : KX (w.heap.size) w (wr.heap.size + 1) [(wr.heap.size, 0, .int .i64 q.id), (wr.heap.size, 1, .int .i64 q.ra), (wr.heap.size, 2, .int .u64 q.si)] (fun _ => True), s.val.cell? ⟨b1, o1 + n * 3 + 1, none⟩ = some (.int .i64 z.ra) := fun s => (s.kept.below.cell (p := ⟨b1, o1 + n * 3 + 1, none⟩) hb1).trans eb1
                  have rb2 : ∀ s : KX (w.heap.size) w (wr.heap.size + 1) [(wr.heap.size, 0, .int .i64 q.id), (wr.heap.size, 1, .int .i64 q.ra), (wr.heap.size, 2, .int .u64 q.si)] (fun _ => True), s.val.cell? ⟨b1, o1 + n * 3 + 2, none⟩ = some (.int .u64 z.si) := fun s => (s.kept.below.cell (p := ⟨b1, o1 + n * 3 + 2, none⟩) hb1).trans eb2
                  repeat (go_big_quiet_step (fail))
                  refine wpQuiet_nil ?_
                  clear rD0 rD1 rD2 r4 ri0 ri1 ri2 rk0 rk1 rk2 rb0 rb1 rb2
                  repeat (go_big_quiet_step (fail))
                  refine wpQuiet_nil ?_
                  have rD0 : ∀ s : KX (w.heap.size) w (wr.heap.size + 1) [(wr.heap.size, 0, .int .i64 q.id), (wr.heap.size, 1, .int .i64 q.ra), (wr.heap.size, 2, .int .u64 q.si)] (fun _ => True), s.val.cell? ⟨wr.heap.size, 0, none⟩ = some (.int .i64 q.id) := fun s => s.kept.at (by simp)
                  have rD1 : ∀ s : KX (w.heap.size) w (wr.heap.size + 1) [(wr.heap.size, 0, .int .i64 q.id), (wr.heap.size, 1, .int .i64 q.ra), (wr.heap.size, 2, .int .u64 q.si)] (fun _ => True), s.val.cell? ⟨wr.heap.size, 1, none⟩ = some (.int .i64 q.ra) := fun s => s.kept.at (by simp)
                  have rD2 : ∀ s : KX (w.heap.size) w (wr.heap.size + 1) [(wr.heap.size, 0, .int .i64 q.id), (wr.heap.size, 1, .int .i64 q.ra), (wr.heap.size, 2, .int .u64 q.si)] (fun _ => True), s.val.cell? ⟨wr.heap.size, 2, none⟩ = some (.int .u64 q.si) := fun s => s.kept.at (by simp)
                  have r4 : ∀ s : KX (w.heap.size) w (wr.heap.size + 1) [(wr.heap.size, 0, .int .i64 q.id), (wr.heap.size, 1, .int .i64 q.ra), (wr.heap.size, 2, .int .u64 q.si)] (fun _ => True), s.val.cell? ⟨P, 4, none⟩ = some ((.slice (some ⟨b1, o1, none⟩) x.l.length c1)) := fun s => (s.kept.below.cell (p := ⟨P, 4, none⟩) hP).trans C4
                  have ri0 : ∀ s : KX (w.heap.size) w (wr.heap.size + 1) [(wr.heap.size, 0, .int .i64 q.id), (wr.heap.size, 1, .int .i64 q.ra), (wr.heap.size, 2, .int .u64 q.si)] (fun _ => True), s.val.cell? ⟨b1, o1 + i * 3, none⟩ = some (.int .i64 p.id) := fun s => (s.kept.below.cell (p := ⟨b1, o1 + i * 3, none⟩) hb1).trans ei0
                  have ri1 : ∀ s : KX (w.heap.size) w (wr.heap.size + 1) [(wr.heap.size, 0, .int .i64 q.id), (wr.heap.size, 1, .int .i64 q.ra), (wr.heap.size, 2, .int .u64 q.si)] (fun _ => True), s.val.cell? ⟨b1, o1 + i * 3 + 1, none⟩ = some (.int .i64 p.ra) := fun s => (s.kept.below.cell (p := ⟨b1, o1 + i * 3 + 1, none⟩) hb1).trans ei1
                  have ri2 : ∀ s : KX (w.heap.size) w (wr.heap.size + 1) [(wr.heap.size, 0, .int .i64 q.id), (wr.heap.size, 1, .int .i64 q.ra), (wr.heap.size, 2, .int .u64 q.si)] (fun _ => True), s.val.cell? ⟨b1, o1 + i * 3 + 2, none⟩ = some (.int .u64 p.si) := fun s => (s.kept.below.cell (p := ⟨b1, o1 + i * 3 + 2, none⟩) hb1).trans ei2
                  have rk0 : ∀ s : KX (w.heap.size) w (wr.heap.size + 1) [(wr.heap.size, 0, .int .i64 q.id), (wr.heap.size, 1, .int .i64 q.ra), (wr.heap.size, 2, .int .u64 q.si)] (fun _ => True), s.val.cell? ⟨b1, o1 + k * 3, none⟩ = some (.int .i64 q.id) := fun s => (s.kept.below.cell (p := ⟨b1, o1 + k * 3, none⟩) hb1).trans ek0
                  have rk1 : ∀ s : KX (w.heap.size) w (wr.heap.size + 1) [(wr.heap.size, 0, .int .i64 q.id), (wr.heap.size, 1, .int .i64 q.ra), (wr.heap.size, 2, .int .u64 q.si)] (fun _ => True), s.val.cell? ⟨b1, o1 + k * 3 + 1, none⟩ = some (.int .i64 q.ra) := fun s => (s.kept.below.cell (p := ⟨b1, o1 + k * 3 + 1, none⟩) hb1).trans ek1
                  have rk2 : ∀ s : KX (w.heap.size) w (wr.heap.size + 1) [(wr.heap.size, 0, .int .i64 q.id), (wr.heap.size, 1, .int .i64 q.ra), (wr.heap.size, 2, .int .u64 q.si)] (fun _ => True), s.val.cell? ⟨b1, o1 + k * 3 + 2, none⟩ = some (.int .u64 q.si) := fun s => (s.kept.below.cell (p := ⟨b1, o1 + k * 3 + 2, none⟩) hb1).trans ek2
                  have rb0 : ∀ s : KX (w.heap.size) w (wr.heap.size + 1) [(wr.heap.size, 0, .int .i64 q.id), (wr.heap.size, 1, .int .i64 q.ra), (wr.heap.size, 2, .int .u64 q.si)] (fun _ => True), s.val.cell? ⟨b1, o1 + n * 3, none⟩ = some (.int .i64 z.id) := fun s => (s.kept.below.cell (p := ⟨b1, o1 + n * 3, none⟩) hb1).trans eb0
                  have rb1 : ∀ s : KX (w.heap.size) w (wr.heap.size + 1) [(wr.heap.size, 0, .int .i64 q.id), (wr.heap.size, 1, .int .i64 q.ra), (wr.heap.size, 2, .int .u64 q.si)] (fun _ => True), s.val.cell? ⟨b1, o1 + n * 3 + 1, none⟩ = some (.int .i64 z.ra) := fun s => (s.kept.below.cell (p := ⟨b1, o1 + n * 3 + 1, none⟩) hb1).trans eb1
                  have rb2 : ∀ s : KX (w.heap.size) w (wr.heap.size + 1) [(wr.heap.size, 0, .int .i64 q.id), (wr.heap.size, 1, .int .i64 q.ra), (wr.heap.size, 2, .int .u64 q.si)] (fun _ => True), s.val.cell? ⟨b1, o1 + n * 3 + 2, none⟩ = some (.int .u64 z.si) := fun s => (s.kept.below.cell (p := ⟨b1, o1 + n * 3 + 2, none⟩) hb1).trans eb2
                  repeat (go_big_quiet_step (fail))
                  refine wpQuiet_nil ?_
                  clear rD0 rD1 rD2 r4 ri0 ri1 ri2 rk0 rk1 rk2 rb0 rb1 rb2
                  have KH_w25 := Lib.hid K_w25
                  have hw_w25 := K_w25.below
                  have hz_w25 := K_w25.size
                  have lD_w25 : wr.heap.size < w25.heap.size := by omega
                  clear lD_w24 cD0_w24 fD0_w24 cD1_w24 fD1_w24 cD2_w24 fD2_w24
                  clear K_w25
                  clear E_w25 F_w25
                  refine ⟨fun K hK0 => ?_, trivial⟩
                  have hK := Lib.hid hK0
                  clear hK0
                  go_wp2_with fail
                  with_reducible refine (apart37c p z x.now db _ OKP.out OKZ.out HDB.out).mono ?_
                  rintro e w26 ⟨rfl, hb_w26⟩
                  have K_w26 := (KH_w25.out.step (by omega) (by go_grown)).step (by omega) hb_w26
                  clear hb_w26
                  have KH_w26 := Lib.hid K_w26
                  have hw_w26 := K_w26.below
                  have hz_w26 := K_w26.size
                  have lD_w26 : wr.heap.size < w26.heap.size := by omega
                  clear lD_w25
                  clear K_w26
                  go_wp2_with fail
                  first | (refine ⟨rfl, hK.out _ _ ?_⟩; clear hK K) | (refine hK.out _ _ ?_; clear hK K)
                  repeat (go_big_quiet_step (fail))
                  refine wpQuiet_nil ?_
                  clear _ne
                  go_wp2_with fail
                  go_roundw
                  case rel => exact ⟨k + 1, by omega, by go_num, by rw [HPA.out], by go_grown⟩
                  case measure => simp [intOf]; omega
    · obtain rfl : k = x.l.length := by omega
      go_wp2_with fail
      go_returns
      exact ⟨rfl, hw_wr⟩
end Go.Proofs.Ytonaidjdkejoeaa
