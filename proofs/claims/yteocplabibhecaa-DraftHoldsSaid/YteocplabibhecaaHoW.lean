/- DraftHolds: the walk. -/
import Derived.Test.YteocplabibhecaaTr
import Derived.Test.YteocplabibhecaaSeg
import Derived.LoopTactic
namespace Go.Proofs.Yteocplabibhecaa
open Go.RowKit Plain
set_option linter.unusedVariables false
set_option linter.unusedSimpArgs false

theorem rg5_7 {P : Program} {B n : Nat} {w0 : World} {L : List (Nat × Nat × Value)} {E F : World → Prop} {id : Nat} {Q : Exit → Act → World → Prop} {a : Act} {w : World} {o0 o1 o2 o3 o4 o5 o6 o7 o8 o9 o10 o11 : Oper} (hm : P.follows .mixedOrders = true)
    (hB : (Region.noSelect [o0, o1, o2, o3, o4, o5, o6, o7, o8, o9, o10, o11].toArray && Scr.ok .any [o0, o1, o2, o3, o4, o5, o6, o7, o8, o9, o10, o11].toArray [2, 6, 8] [0, 1, 3, 4, 5, 7, 9, 10, 11] (.free 0 (.free 1 (.free 4 (.free 5 (.read 2 (.free 3 (.free 10 (.read 6 (.free 7 (.read 8 (.free 9 (.free 11 .done)))))))))))) true true [o0, o1, o2, o3, o4, o5, o6, o7, o8, o9, o10, o11].toArray.size (Array.replicate [o0, o1, o2, o3, o4, o5, o6, o7, o8, o9, o10, o11].toArray.size false)) = true)
    (k : Kept B w0 n L w) (he : E w) (hE : ∀ W W', E W → Below W.heap.size W W' → E W') (hf : F w) (hF : ∀ W W', F W → Below W.heap.size W W' → F W')
    (h : ∀ wk, Kept B w0 n L wk → E wk → F wk → wpQuiet P [o0, o1, o2, o3, o4, o5, o6, o7, o8, o9, o10, o11].toArray (fun _ => True) (fun a0 => wpQuiet P [o0, o1, o2, o3, o4, o5, o6, o7, o8, o9, o10, o11].toArray (fun w' => ∃ s : KX B w0 n L E, w' = s.val) (fun a1 => wpQuiet P [o0, o1, o2, o3, o4, o5, o6, o7, o8, o9, o10, o11].toArray (fun _ => True) (fun a2 => wpQuiet P [o0, o1, o2, o3, o4, o5, o6, o7, o8, o9, o10, o11].toArray (fun w' => ∃ s : KX B w0 n L E, w' = s.val) (fun a3 => wpQuiet P [o0, o1, o2, o3, o4, o5, o6, o7, o8, o9, o10, o11].toArray (fun _ => True) (fun a4 => wpQuiet P [o0, o1, o2, o3, o4, o5, o6, o7, o8, o9, o10, o11].toArray (fun w' => ∃ s : KX B w0 n L E, w' = s.val) (fun a5 => wpQuiet P [o0, o1, o2, o3, o4, o5, o6, o7, o8, o9, o10, o11].toArray (fun _ => True) (fun a6 => Q .normal a6 wk) [o9, o11] a5) [o8] a4) [o7] a3) [o6] a2) [o3, o10] a1) [o2] a0) [o0, o1, o4, o5] a) : (Code.region id [o0, o1, o2, o3, o4, o5, o6, o7, o8, o9, o10, o11].toArray true).wp P Q a w := by
  have e1 : E w.drew := hE _ _ he ((Below.refl _ _).drew)
  have g := h _ k.drew e1 (hF _ _ hf ((Below.refl _ _).drew))
  exact wp_region_scr (U := (fun w' => ∃ s : KX B w0 n L E, w' = s.val)) (ops := [o0, o1, o2, o3, o4, o5, o6, o7, o8, o9, o10, o11].toArray) (.free 0 (.free 1 (.free 4 (.free 5 (.read 2 (.free 3 (.free 10 (.read 6 (.free 7 (.read 8 (.free 9 (.free 11 .done)))))))))))) [2, 6, 8] [0, 1, 3, 4, 5, 7, 9, 10, 11] hm hB ⟨⟨_, k.drew, e1⟩, rfl⟩ (Scr.of_free rfl g (fun _ g0 => Scr.of_free rfl g0 (fun _ g1 => Scr.of_free rfl g1 (fun _ g2 => Scr.of_free rfl g2 (fun _ g3 => Scr.of_read rfl g3 (fun _ g4 => Scr.of_free rfl g4 (fun _ g5 => Scr.of_free rfl g5 (fun _ g6 => Scr.of_read rfl g6 (fun _ g7 => Scr.of_free rfl g7 (fun _ g8 => Scr.of_read rfl g8 (fun _ g9 => Scr.of_free rfl g9 (fun _ g10 => Scr.of_free rfl g10 (fun _ g11 => g11)))))))))))))
theorem rg5_19 {P : Program} {B n : Nat} {w0 : World} {L : List (Nat × Nat × Value)} {E F : World → Prop} {id : Nat} {Q : Exit → Act → World → Prop} {a : Act} {w : World} {o0 o1 o2 o3 o4 o5 o6 o7 o8 o9 o10 o11 o12 o13 o14 o15 o16 o17 o18 o19 o20 o21 : Oper} (hm : P.follows .mixedOrders = true)
    (hB : (Region.noSelect [o0, o1, o2, o3, o4, o5, o6, o7, o8, o9, o10, o11, o12, o13, o14, o15, o16, o17, o18, o19, o20, o21].toArray && Scr.ok .any [o0, o1, o2, o3, o4, o5, o6, o7, o8, o9, o10, o11, o12, o13, o14, o15, o16, o17, o18, o19, o20, o21].toArray [] [0, 2, 3, 5, 6, 7, 9, 10, 11, 12, 13, 14, 15, 17, 18, 19, 20, 21] (.free 0 (.altc 1 (.free 2 (.free 3 (.altc 4 (.free 5 (.free 6 (.free 7 (.free 9 (.free 10 (.free 11 (.altc 8 (.free 12 (.free 13 (.free 14 (.free 15 (.free 17 (.free 18 (.free 19 (.altc 16 (.free 20 (.free 21 .done)) .stop)))))))) .stop))))))) .stop))) .stop)) true true [o0, o1, o2, o3, o4, o5, o6, o7, o8, o9, o10, o11, o12, o13, o14, o15, o16, o17, o18, o19, o20, o21].toArray.size (Array.replicate [o0, o1, o2, o3, o4, o5, o6, o7, o8, o9, o10, o11, o12, o13, o14, o15, o16, o17, o18, o19, o20, o21].toArray.size false)) = true)
    (k : Kept B w0 n L w) (he : E w) (hE : ∀ W W', E W → Below W.heap.size W W' → E W') (hf : F w) (hF : ∀ W W', F W → Below W.heap.size W W' → F W')
    (h : ∀ wk, Kept B w0 n L wk → E wk → F wk → wpQuiet P [o0, o1, o2, o3, o4, o5, o6, o7, o8, o9, o10, o11, o12, o13, o14, o15, o16, o17, o18, o19, o20, o21].toArray (fun _ => True) (fun a0 => ((∀ K1 : Act → World → Prop, (∀ a1 w1, wpQuiet P [o0, o1, o2, o3, o4, o5, o6, o7, o8, o9, o10, o11, o12, o13, o14, o15, o16, o17, o18, o19, o20, o21].toArray (fun _ => True) (fun a2 => ((∀ K3 : Act → World → Prop, (∀ a3 w3, wpQuiet P [o0, o1, o2, o3, o4, o5, o6, o7, o8, o9, o10, o11, o12, o13, o14, o15, o16, o17, o18, o19, o20, o21].toArray (fun _ => True) (fun a4 => ((∀ K5 : Act → World → Prop, (∀ a5 w5, wpQuiet P [o0, o1, o2, o3, o4, o5, o6, o7, o8, o9, o10, o11, o12, o13, o14, o15, o16, o17, o18, o19, o20, o21].toArray (fun _ => True) (fun a6 => ((∀ K7 : Act → World → Prop, (∀ a7 w7, wpQuiet P [o0, o1, o2, o3, o4, o5, o6, o7, o8, o9, o10, o11, o12, o13, o14, o15, o16, o17, o18, o19, o20, o21].toArray (fun _ => True) (fun a8 => Q .normal a8 w7) [o20, o21] a7 → K7 a7 w7) → wpList P [o0, o1, o2, o3, o4, o5, o6, o7, o8, o9, o10, o11, o12, o13, o14, o15, o16, o17, o18, o19, o20, o21].toArray (fun e a7 w7 => e = .normal ∧ K7 a7 w7) [o16] a6 w5) ∧ True)) [o12, o13, o14, o15, o17, o18, o19] a5 → K5 a5 w5) → wpList P [o0, o1, o2, o3, o4, o5, o6, o7, o8, o9, o10, o11, o12, o13, o14, o15, o16, o17, o18, o19, o20, o21].toArray (fun e a5 w5 => e = .normal ∧ K5 a5 w5) [o8] a4 w3) ∧ True)) [o5, o6, o7, o9, o10, o11] a3 → K3 a3 w3) → wpList P [o0, o1, o2, o3, o4, o5, o6, o7, o8, o9, o10, o11, o12, o13, o14, o15, o16, o17, o18, o19, o20, o21].toArray (fun e a3 w3 => e = .normal ∧ K3 a3 w3) [o4] a2 w1) ∧ True)) [o2, o3] a1 → K1 a1 w1) → wpList P [o0, o1, o2, o3, o4, o5, o6, o7, o8, o9, o10, o11, o12, o13, o14, o15, o16, o17, o18, o19, o20, o21].toArray (fun e a1 w1 => e = .normal ∧ K1 a1 w1) [o1] a0 wk) ∧ True)) [o0] a) : (Code.region id [o0, o1, o2, o3, o4, o5, o6, o7, o8, o9, o10, o11, o12, o13, o14, o15, o16, o17, o18, o19, o20, o21].toArray true).wp P Q a w := by
  have e1 : E w.drew := hE _ _ he ((Below.refl _ _).drew)
  have g := h _ k.drew e1 (hF _ _ hf ((Below.refl _ _).drew))
  exact wp_region_scr (U := (fun w' => ∃ s : KX B w0 n L E, w' = s.val)) (ops := [o0, o1, o2, o3, o4, o5, o6, o7, o8, o9, o10, o11, o12, o13, o14, o15, o16, o17, o18, o19, o20, o21].toArray) (.free 0 (.altc 1 (.free 2 (.free 3 (.altc 4 (.free 5 (.free 6 (.free 7 (.free 9 (.free 10 (.free 11 (.altc 8 (.free 12 (.free 13 (.free 14 (.free 15 (.free 17 (.free 18 (.free 19 (.altc 16 (.free 20 (.free 21 .done)) .stop)))))))) .stop))))))) .stop))) .stop)) [] [0, 2, 3, 5, 6, 7, 9, 10, 11, 12, 13, 14, 15, 17, 18, 19, 20, 21] hm hB ⟨⟨_, k.drew, e1⟩, rfl⟩ (Scr.of_free rfl g (fun _ g0 => (Scr.of_altc rfl (g0.1 _ (fun _ _ g => g)) (fun _ _ g1 => Scr.of_free rfl g1 (fun _ g2 => Scr.of_free rfl g2 (fun _ g3 => (Scr.of_altc rfl (g3.1 _ (fun _ _ g => g)) (fun _ _ g4 => Scr.of_free rfl g4 (fun _ g5 => Scr.of_free rfl g5 (fun _ g6 => Scr.of_free rfl g6 (fun _ g7 => Scr.of_free rfl g7 (fun _ g8 => Scr.of_free rfl g8 (fun _ g9 => Scr.of_free rfl g9 (fun _ g10 => (Scr.of_altc rfl (g10.1 _ (fun _ _ g => g)) (fun _ _ g11 => Scr.of_free rfl g11 (fun _ g12 => Scr.of_free rfl g12 (fun _ g13 => Scr.of_free rfl g13 (fun _ g14 => Scr.of_free rfl g14 (fun _ g15 => Scr.of_free rfl g15 (fun _ g16 => Scr.of_free rfl g16 (fun _ g17 => Scr.of_free rfl g17 (fun _ g18 => (Scr.of_altc rfl (g18.1 _ (fun _ _ g => g)) (fun _ _ g19 => Scr.of_free rfl g19 (fun _ g20 => Scr.of_free rfl g20 (fun _ g21 => g21))) trivial))))))))) trivial)))))))) trivial)))) trivial)))
theorem DrAt.base {w : World} {B B' : Nat} {S : List Nat} {P : Nat} {d : Dr} (h : DrAt w B S P d) (hb : B' ≤ B) : DrAt w B' S P d := by
  obtain ⟨so, st, sm, rvs, vss, h2⟩ := h
  exact ⟨so, st, sm, rvs, vss, h2.hp, h2.out, h2.rows, h2.mat, h2.mov, h2.inP, h2.ino, h2.inm, h2.inr, h2.ini, fun b hb' => ⟨Nat.le_trans hb (h2.new b hb').1, (h2.new b hb').2⟩⟩
theorem right_rows {ls : List (List (List Int))} (h : right ls = true) : ∃ r0 p0, ls[0]? = some r0 ∧ r0[0]? = some p0 ∧ 1 ≤ ls.length ∧ ls.length ≤ 4 ∧ 2 ≤ r0.length ∧ r0.length ≤ 8 ∧ 1 ≤ p0.length ∧ p0.length ≤ 15 ∧ (∀ (i : Nat) r, ls[i]? = some r → r.length = r0.length ∧ ∀ (k : Nat) p, r[k]? = some p → p.length = p0.length) := by
  unfold right at h
  split at h
  · cases h
  · split at h
    · cases h
    · rename_i h1 h2
      have h0 : 0 < ls.length := by omega
      have e0 := List.getElem?_eq_getElem h0
      obtain ⟨r0, hr0⟩ : ∃ r, ls[0]? = some r := ⟨_, e0⟩
      have er : ls.getD 0 [] = r0 := getD_lt hr0
      rw [er] at h h2
      have h3 : 0 < r0.length := by omega
      obtain ⟨p0, hp0⟩ : ∃ p, r0[0]? = some p := ⟨_, List.getElem?_eq_getElem h3⟩
      have ep : r0.getD 0 [] = p0 := getD_lt hp0
      rw [ep] at h
      simp only [Bool.and_eq_true, decide_eq_true_eq, List.all_eq_true] at h
      obtain ⟨h4, h5, h6⟩ := h
      refine ⟨r0, p0, hr0, hp0, by omega, by omega, by omega, by omega, h5, h6, fun i r hr => ?_⟩
      have h7 := h4 r (List.mem_of_getElem? hr)
      unfold okR at h7
      simp only [Bool.and_eq_true, beq_iff_eq, List.all_eq_true] at h7
      refine ⟨h7.1, fun k p hp => ?_⟩
      have h8 := h7.2 p (List.mem_of_getElem? hp)
      unfold okP at h8
      simp only [Bool.and_eq_true, beq_iff_eq] at h8
      exact h8.1
def AlRel (w : World) (P Q : Nat) (ls : List (List (List Int))) (s i : Value) (wr : World) : Prop := ∃ (k : Nat) (al : List Int), k ≤ ls.length ∧ i = .int .i64 k ∧ (∀ x, al.count x = cnt2 x (ls.take k)) ∧ al.length ≤ 120 * k ∧ Tri wr w.heap.size P Q (Dr.init ls) (Dr.init ls) s (.slice none 0 0) al [] ∧ Below w.heap.size w wr
def AkRel (w : World) (P Q : Nat) (ls : List (List (List Int))) (i : Nat) (r : List (List Int)) (s j : Value) (wr : World) : Prop := ∃ (k : Nat) (al : List Int), k ≤ r.length ∧ j = .int .i64 k ∧ (∀ x, al.count x = cnt2 x (ls.take i) + cnt1 x (r.take k)) ∧ al.length ≤ 120 * i + 15 * k ∧ Tri wr w.heap.size P Q (Dr.init ls) (Dr.init ls) s (.slice none 0 0) al [] ∧ Below w.heap.size w wr
/-- at the beginning of a turn -/
structure Bt (ls : List (List (List Int))) (n c t : Nat) (d : Dr) (al : List Int) : Prop where
  inv : d.Inv c
  t : d.rd * c + d.tn = t
  mv : ∀ p, d.mvd p = false
  n : d.n = n
  rl : d.rs.length = ls.length
  lf : Lft al d.rs
  al : al.length ≤ 480
def MRel (w : World) (P Q : Nat) (ls : List (List (List Int))) (n c T : Nat) (s i : Value) (wr : World) : Prop := ∃ (t : Nat) (d : Dr) (al : List Int), t ≤ T ∧ i = .int .i64 t ∧ Bt ls n c t d al ∧ Tri wr w.heap.size P Q d d s (.slice none 0 0) al [] ∧ Below w.heap.size w wr
def AtRel (w : World) (P Q : Nat) (d : Dr) (n : Nat) (va : Value) (al : List Int) (s i : Value) (wr : World) : Prop := ∃ (p : Nat) (tl : List Int), p ≤ n ∧ i = .int .i64 p ∧ tl.length = p ∧ (∀ q, q < p → ∃ a : Nat, tl[q]? = some (a : Int) ∧ a < (d.pk q).length) ∧ Tri wr w.heap.size P Q d d va s al tl ∧ Below w.heap.size w wr
def LaRel (w : World) (P Q : Nat) (d : Dr) (a : Nat → Nat) (n : Nat) (vt : Value) (tl : List Int) (s i : Value) (wr : World) : Prop := ∃ (p : Nat) (al : List Int), p ≤ n ∧ i = .int .i64 p ∧ Lft al (tst d a (up n) p).rs ∧ al.length ≤ 480 ∧ Tri wr w.heap.size P Q (tst d a (up n) p) d s vt al tl ∧ Below w.heap.size w wr
def LbRel (w : World) (P Q : Nat) (d d' : Dr) (a : Nat → Nat) (n : Nat) (va vt : Value) (al tl : List Int) (i : Value) (wr : World) : Prop := ∃ (p : Nat), p ≤ n ∧ i = .int .i64 ((n : Int) - 1 - p) ∧ Tri wr w.heap.size P Q d' (tst d a (dn n) p) va vt al tl ∧ Below w.heap.size w wr
def LcRel (w : World) (P Q : Nat) (d' : Dr) (n : Nat) (va vt : Value) (al tl : List Int) (i : Value) (wr : World) : Prop := ∃ (p : Nat), p ≤ n ∧ i = .int .i64 p ∧ Tri wr w.heap.size P Q d' d' va vt al tl ∧ Below w.heap.size w wr
theorem below_onl {w W W' : World} {S : List Nat} (h : Below w.heap.size w W) (ho : Onl S W W') (hs : ∀ b ∈ S, w.heap.size ≤ b) : Below w.heap.size w W' :=
  ⟨ho.os.trans h.os, ho.tape.trans h.tape, ho.output.trans h.output, Nat.le_trans h.size ho.size, fun k hk => (ho.block k (Nat.lt_of_lt_of_le hk h.size) (fun hm => by have := hs k hm; omega)).trans (h.block k hk)⟩
theorem Bt.lt {ls : List (List (List Int))} {n c t : Nat} {d : Dr} {al : List Int} (h : Bt ls n c t d al) (ht : t < ls.length * c) : d.rd < d.rs.length ∧ t / c = d.rd ∧ t % c = d.tn := by
  have hi := h.inv
  have h1 : d.rd < d.rs.length := by
    rcases Nat.lt_or_ge d.rd d.rs.length with h1 | h1
    · exact h1
    · exfalso
      have h2 : d.rd = d.rs.length := Nat.le_antisymm hi.rd h1
      have h3 := (hi.ov h2).1
      have h4 := h.t
      rw [h2, h3, h.rl] at h4
      omega
  have h2 := hi.tn h1
  have h3 := h.t
  have hc := hi.c1
  refine ⟨h1, ?_, ?_⟩
  · rw [← h3, Nat.mul_comm, Nat.mul_add_div hc, Nat.div_eq_of_lt h2, Nat.add_zero]
  · rw [← h3, Nat.mul_comm, Nat.mul_add_mod, Nat.mod_eq_of_lt h2]
theorem Bt.fin {ls : List (List (List Int))} {n c t : Nat} {d : Dr} {al : List Int} (h : Bt ls n c t d al) (ht : t = ls.length * c) : d.rd = d.rs.length := by
  rcases Nat.lt_or_ge d.rd d.rs.length with h1 | h1
  · exfalso
    have h2 := h.inv.tn h1
    have h3 := h.t
    have h4 : (d.rd + 1) * c ≤ d.rs.length * c := Nat.mul_le_mul_right c h1
    rw [Nat.succ_mul, h.rl] at h4
    omega
  · exact Nat.le_antisymm h.inv.rd h1
theorem bt_init {ls : List (List (List Int))} {r0 : List (List Int)} {p0 al : List Int} {n c : Nat} (h : right ls = true) (h0 : ls[0]? = some r0) (h1 : r0[0]? = some p0) (hn : r0.length = n) (hc : p0.length = c) (hl : Lft al ls) (ha : al.length ≤ 480) : Bt ls n c 0 (Dr.init ls) al := by
  have e0 : ls.getD 0 [] = r0 := getD_lt h0
  have e1 : r0.getD 0 [] = p0 := getD_lt h1
  have hi := init_inv h
  rw [e0, e1, hc] at hi
  refine ⟨hi, by simp [Dr.init], fun p => ?_, by rw [init_n h0]; exact hn, rfl, hl, ha⟩
  show (List.replicate _ false).getD p false = false
  simp only [List.getD_eq_getElem?_getD, List.getElem?_replicate]
  split <;> rfl
set_option maxRecDepth 100000 in
set_option maxHeartbeats 8000000 in
theorem holds5_ok (v : Value) (ls : List (List (List Int))) (a1 : Option Addr) (c1 : Nat) (zs : List Int) (w : World) (HS : Hid (Rw3 w v ls)) (HPK : Hid (Seg w .u8 (.slice a1 zs.length c1) zs)) (HPW : Hid (∀ z ∈ zs, 0 ≤ z ∧ z ≤ 255)) (HSM : Hid (small ls = true)) (HRT : Hid (right ls = true)) (h300 : zs.length ≤ 300) : Calls Try.prog 5 #[v, .slice a1 zs.length c1] w fun e w' => e = .returned (.bool true) ∧ Below w.heap.size w w' := by
  obtain ⟨r0, p0, hr0, hp0, hR1, hR4, hn2, hn8, hc1, hc15, hlen⟩ := right_rows HRT.out
  obtain ⟨m1, a0, c0, rfl, f1⟩ := HS.out.at
  have F1 := Lib.hid f1
  have HR0 := Lib.hid hr0
  have HP0 := Lib.hid hp0
  have HLEN := Lib.hid hlen
  have q300 : decide ((zs.length : Int) > 300) = false := by simp; omega
  clear f1 hr0 hp0 hlen
  go_enter Try.func5, Try.ntmps5
  go_wp2_with fail
  with_reducible refine (small8c _ ls true _ HS.out HSM.out).mono ?_
  rintro e w0 ⟨rfl, hb0⟩
  have HB0 := Lib.hid hb0
  clear hb0
  go_wp2_with fail
  with_reducible refine (right13c _ ls true _ (HS.out.below HB0.out) HRT.out).mono ?_
  rintro e w1 ⟨rfl, hb1⟩
  have HB1 := Lib.hid (below_via HB0.out hb1)
  clear hb1 HB0
  go_wp2_with fail
  with_reducible refine (own10 _ ls _ (HS.out.below HB1.out) HSM.out).mono ?_
  rintro e wo1 ⟨so, rvs, vss, he, hmx, hbo⟩
  have hse : so.v = .slice so.a ls.length so.c := by
    have h := oe_slice hmx.out
    rw [hmx.rows.len, hmx.mat.len] at h
    exact h
  rw [hse] at he
  subst he
  have HR3 : Hid (Rw3 wo1 (.slice so.a ls.length so.c) ls) := Lib.hid (by rw [← hse]; exact hmx.rw3)
  have HBO1 := Lib.hid hbo
  clear hmx hse hbo
  go_wp2_with fail
  with_reducible refine (new11 _ ls _ HR3.out HRT.out).mono ?_
  rintro e wn1 ⟨P1, S1, rfl, hd, hbn⟩
  have HD1 := Lib.hid hd
  have HBN1 := Lib.hid hbn
  clear hd hbn HR3
  go_wp2_with fail
  have HB1n := Lib.hid (below_via (below_via HB1.out HBO1.out) HBN1.out)
  with_reducible refine (own10 _ ls _ (HS.out.below HB1n.out) HSM.out).mono ?_
  rintro e wo2 ⟨so, rvs, vss, he, hmx, hbo⟩
  have hse : so.v = .slice so.a ls.length so.c := by
    have h := oe_slice hmx.out
    rw [hmx.rows.len, hmx.mat.len] at h
    exact h
  rw [hse] at he
  subst he
  have HR3 : Hid (Rw3 wo2 (.slice so.a ls.length so.c) ls) := Lib.hid (by rw [← hse]; exact hmx.rw3)
  have HBO2 := Lib.hid hbo
  clear hmx hse hbo
  go_wp2_with fail
  with_reducible refine (new11 _ ls _ HR3.out HRT.out).mono ?_
  rintro e wn2 ⟨P2, S2, rfl, hd, hbn⟩
  have HD2 := Lib.hid hd
  have HBN2 := Lib.hid hbn
  clear hd hbn HR3
  go_wp2_with fail
  clear HB1n
  have HT0 : Hid (Tri wn2 w.heap.size P1 P2 (Dr.init ls) (Dr.init ls) (.slice none 0 0) (.slice none 0 0) [] []) := Lib.hid (by
    have h1 := HD1.out.newB
    have h2 := HD2.out.newB
    have s1 := HB1.out.size
    have s2 := HBO1.out.size
    have s4 := HBO2.out.size
    refine ⟨S1, S2, DrAt.base ((HD1.out.below HBO2.out).below HBN2.out) (by omega), DrAt.base HD2.out (by have := HBN1.out.size; omega), fun b hb hm => ?_, Oe.nil _ _, Oe.nil _ _, fun k hk => by simp [blk, Value.ownBlock] at hk, fun k hk => by simp [blk, Value.ownBlock] at hk⟩
    have h3 := (h1 b hb).2
    have h4 := (h2 b hm).1
    omega)
  have HBM : Hid (Below w.heap.size w wn2) := Lib.hid (below_via (below_via (below_via (below_via HB1.out HBO1.out) HBN1.out) HBO2.out) HBN2.out)
  clear HD1 HD2 HBO1 HBN1 HBO2 HBN2 HB1
  obtain ⟨b1, o1, rfl, hb1, hc1⟩ := F1.out (by omega)
  obtain ⟨a2, c2, e1, hr2⟩ := hc1 0 r0 HR0.out
  obtain ⟨m2, f2⟩ := hr2.fm
  obtain ⟨b2, o2, rfl, hb2, hc2⟩ := f2 (by omega)
  obtain ⟨a3, c3, e2, hp2⟩ := hc2 0 p0 HP0.out
  rw [Nat.add_zero] at e1 e2
  have e1 := (HBM.out.cell (p := ⟨b1, o1, none⟩) hb1).trans e1
  have e2 := (HBM.out.cell (p := ⟨b2, o2, none⟩) hb2).trans e2
  have hb1n : b1 < wn2.heap.size := by have := HBM.out.size; omega
  have hb2n : b2 < wn2.heap.size := by have := HBM.out.size; omega
  have HC1 := Lib.hid hc1
  clear hc1 hr2 f2 hc2 hp2
  go_upto_region 7 with fail
  refine rg5_7 (w0 := wn2) (B := wn2.heap.size) (n := wn2.heap.size) (L := []) (E := fun _ => True) (F := fun _ => True) (by kernel_rfl) (by kernel_rfl) ⟨by go_grown, by go_size, (by simp [go_sem] <;> omega)⟩ trivial (fun _ _ _ _ => trivial) trivial (fun _ _ _ _ => trivial) (fun w51 K_w51 E_w51 F_w51 => ?_)
  have _ne : Nonempty (KX (wn2.heap.size) wn2 (wn2.heap.size) [] (fun _ => True)) := ⟨⟨_, K_w51, E_w51⟩⟩
  repeat (go_big_quiet_step (fail))
  refine wpQuiet_nil ?_
  have ra : ∀ s : KX (wn2.heap.size) wn2 (wn2.heap.size) [] (fun _ => True), s.val.cell? ⟨b1, o1, none⟩ = some (.slice (some ⟨b2, o2, none⟩) r0.length c2) := fun s => (s.kept.below.cell (p := ⟨b1, o1, none⟩) hb1n).trans e1
  have rb : ∀ s : KX (wn2.heap.size) wn2 (wn2.heap.size) [] (fun _ => True), s.val.cell? ⟨b2, o2, none⟩ = some (.slice a3 p0.length c3) := fun s => (s.kept.below.cell (p := ⟨b2, o2, none⟩) hb2n).trans e2
  repeat (go_big_quiet_step (fail))
  refine wpQuiet_nil ?_
  clear ra rb
  repeat (go_big_quiet_step (fail))
  refine wpQuiet_nil ?_
  have ra : ∀ s : KX (wn2.heap.size) wn2 (wn2.heap.size) [] (fun _ => True), s.val.cell? ⟨b1, o1, none⟩ = some (.slice (some ⟨b2, o2, none⟩) r0.length c2) := fun s => (s.kept.below.cell (p := ⟨b1, o1, none⟩) hb1n).trans e1
  have rb : ∀ s : KX (wn2.heap.size) wn2 (wn2.heap.size) [] (fun _ => True), s.val.cell? ⟨b2, o2, none⟩ = some (.slice a3 p0.length c3) := fun s => (s.kept.below.cell (p := ⟨b2, o2, none⟩) hb2n).trans e2
  repeat (go_big_quiet_step (fail))
  refine wpQuiet_nil ?_
  clear ra rb
  repeat (go_big_quiet_step (fail))
  refine wpQuiet_nil ?_
  have ra : ∀ s : KX (wn2.heap.size) wn2 (wn2.heap.size) [] (fun _ => True), s.val.cell? ⟨b1, o1, none⟩ = some (.slice (some ⟨b2, o2, none⟩) r0.length c2) := fun s => (s.kept.below.cell (p := ⟨b1, o1, none⟩) hb1n).trans e1
  have rb : ∀ s : KX (wn2.heap.size) wn2 (wn2.heap.size) [] (fun _ => True), s.val.cell? ⟨b2, o2, none⟩ = some (.slice a3 p0.length c3) := fun s => (s.kept.below.cell (p := ⟨b2, o2, none⟩) hb2n).trans e2
  repeat (go_big_quiet_step (fail))
  refine wpQuiet_nil ?_
  clear ra rb
  repeat (go_big_quiet_step (fail))
  refine wpQuiet_nil ?_
  clear _ne
  have KH_w51 := Lib.hid K_w51
  have hw_w51 := K_w51.below
  have hz_w51 := K_w51.size
  clear K_w51
  clear E_w51 F_w51
  have HT1 := Lib.hid (HT0.out.below hw_w51)
  have HBA : Hid (Below w.heap.size w w51) := Lib.hid (below_via HBM.out hw_w51)
  obtain ⟨wa, rfl⟩ : ∃ W, W = w51 := ⟨_, rfl⟩
  clear HT0 HBM e1 e2 hw_w51 KH_w51 hb1n hb2n
  obtain ⟨n, hn⟩ : ∃ n, r0.length = n := ⟨_, rfl⟩
  obtain ⟨c, hc⟩ : ∃ c, p0.length = c := ⟨_, rfl⟩
  rw [hn] at hn2 hn8 HLEN ⊢
  rw [hc] at hc1 hc15 HLEN ⊢
  have HN := Lib.hid hn
  have HCC := Lib.hid hc
  clear hn hc
  go_wp2_with fail
  go_loopw [11, 12] (fun s i wr => AlRel w P1 P2 ls s i wr) (fun _ i _ => ls.length - (intOf i).toNat)
  case atStart => exact ⟨0, [], Nat.zero_le _, rfl, fun x => by simp [cnt2], by simp, HT1.out, HBA.out⟩
  case round =>
    clear HT1 HBA
    obtain ⟨i, al, hi, rfl, hcnt, hal, htri, hbw⟩ := hrel
    have HBI := Lib.hid hbw
    have HTI := Lib.hid htri
    have HCNT := Lib.hid hcnt
    have hzz := hbw.size
    clear hcnt htri hbw
    by_cases hil : i < ls.length
    · obtain ⟨r, hr⟩ : ∃ r, ls[i]? = some r := ⟨_, List.getElem?_eq_getElem hil⟩
      have HR := Lib.hid hr
      have hrl : r.length = n := (HLEN.out i r hr).1
      obtain ⟨a2, c2, e1, hr2⟩ := HC1.out i r hr
      obtain ⟨m2, f2⟩ := hr2.fm
      have F2 := Lib.hid f2
      have E1 := Lib.hid e1
      have i1 : (0 : Int) ≤ (i : Int) := by omega
      have i2 : (i : Int) < (ls.length : Int) := by omega
      obtain ⟨wo, rfl⟩ : ∃ wo, wo = wr := ⟨_, rfl⟩
      clear hr e1 hr2 f2
      go_wp2_with fail
      go_loopw [11, 13] (fun s j wr => AkRel w P1 P2 ls i r s j wr) (fun _ j _ => r.length - (intOf j).toNat)
      case atStart => exact ⟨0, al, Nat.zero_le _, rfl, fun x => by simp [cnt1, HCNT.out x], by omega, HTI.out, HBI.out⟩
      case round =>
        clear HBI HTI HCNT hzz hal
        obtain ⟨k, al, hk, rfl, hcnt, hal, htri, hbw⟩ := hrel
        have HBK := Lib.hid hbw
        have HTK := Lib.hid htri
        have HCNT := Lib.hid hcnt
        have hzz := hbw.size
        clear hcnt htri hbw
        by_cases hkl : k < r.length
        · obtain ⟨p, hp⟩ : ∃ p, r[k]? = some p := ⟨_, List.getElem?_eq_getElem hkl⟩
          obtain ⟨b2, o2, rfl, hb2, hc2⟩ := F2.out (by omega)
          obtain ⟨a3, c3, e2, hp2⟩ := hc2 k p hp
          have HP := Lib.hid hp
          have hpl : p.length = c := (HLEN.out i r HR.out).2 k p hp
          have e1 := (HBK.out.cell (p := ⟨b1, o1 + i, none⟩) hb1).trans E1.out
          have e2 := (HBK.out.cell (p := ⟨b2, o2 + k, none⟩) hb2).trans e2
          have HPR : Hid (Rw ic 1 wr (.slice a3 c c3) p) := Lib.hid (by
            have h := hp2.below HBK.out
            rwa [hpl] at h)
          have j1 : (0 : Int) ≤ (k : Int) := by omega
          have j2 : (k : Int) < (r.length : Int) := by omega
          have j3 : k < n := by omega
          have HOA : Hid (Oe ic 3 wr u11 al ∧ ∀ b, blk u11 = some b → w.heap.size ≤ b) := Lib.hid (by
            obtain ⟨S, T, h⟩ := HTK.out
            exact ⟨h.oa, fun b hb => (h.vaN b hb).1⟩)
          obtain ⟨a5, c5, hu5⟩ := HOA.out.1.form
          subst hu5
          clear hp hc2 hp2
          go_wp2_with (at_builtin; refine wpList_append_ow (f := ic) (sz := 1) rfl _ _ 32 rfl 0 3 (.int .i64 0) 8 Try.underlying32 info3 rfl (by decide) _ al rfl HOA.out.1 ic_ok _ p rfl HPR.out ?ca ?cb (Nat.zero_le _) ?_)
          case ca => simp only [maxLen]; omega
          case cb => omega
          intro v1 wg hown hgrow hnew
          have HT2 := Lib.hid (HTK.out.growA hzz hgrow hown hnew)
          have HB2 : Hid (Below w.heap.size w wg) := Lib.hid (HBK.out.grown hgrow hzz (fun q hq => HOA.out.2 q hq))
          clear hown hgrow hnew HOA
          go_wp2_with fail
          go_roundw
          case rel =>
            exact ⟨k + 1, al ++ p, by omega, by go_num, fun x => by
              have h := HCNT.out x
              rw [List.take_add_one, HP.out, Option.toList_some, cnt1_append, List.count_append, h]
              omega, by rw [List.length_append]; omega, HT2.out, HB2.out⟩
          case measure => simp [intOf]; omega
        · obtain rfl : k = r.length := by omega
          have hkn : ¬ r.length < n := by omega
          go_wp2_with fail
          go_roundw
          case rel =>
            exact ⟨i + 1, al, by omega, by go_num, fun x => by
              have h := HCNT.out x
              rw [List.take_length] at h
              rw [List.take_add_one, HR.out, Option.toList_some, cnt2_append, h], by omega, HTK.out, HBK.out⟩
          case measure => simp [intOf]; omega
    · obtain rfl : i = ls.length := by omega
      have HBT : Hid (Bt ls n c 0 (Dr.init ls) al) := Lib.hid (bt_init HRT.out HR0.out HP0.out HN.out HCC.out (fun x => by
        have h := HCNT.out x
        rw [List.take_length] at h
        exact h) (by omega))
      obtain ⟨T, hT⟩ : ∃ T, ls.length * c = T := ⟨_, rfl⟩
      have hTi : (ls.length : Int) * (c : Int) = (T : Int) := by rw [← hT]; exact (Int.natCast_mul _ _).symm
      have hT60 : T ≤ 60 := by rw [← hT]; exact Nat.mul_le_mul hR4 hc15
      have HTE := Lib.hid hT
      obtain ⟨wo, rfl⟩ : ∃ wo, wo = wr := ⟨_, rfl⟩
      have hc0 : ((c : Int) == 0) = false := by simp; omega
      have hc0' : ¬ (c : Int) = 0 := by omega
      clear hT hi hil HCNT hal
      go_wp2_with fail
      go_loopw [11, 14] (fun s i wr => MRel w P1 P2 ls n c T s i wr) (fun _ i _ => T - (intOf i).toNat)
      case atStart => exact ⟨0, Dr.init ls, al, Nat.zero_le _, rfl, HBT.out, HTI.out, HBI.out⟩
      case round =>
        clear HBT HTI HBI hzz al
        obtain ⟨t, d, al, ht, rfl, hbt, htri, hbw⟩ := hrel
        have HBT := Lib.hid hbt
        have HBW := Lib.hid hbw
        have hzz := hbw.size
        by_cases htT : t < T
        · obtain ⟨hrd, hq1, hq2⟩ := hbt.lt (by rw [HTE.out]; exact htT)
          have HTRI := Lib.hid htri
          obtain ⟨S, T', htm⟩ := htri
          have HTM := Lib.hid htm
          have hr4 := hbt.inv.r4
          have htc := hbt.inv.tn hrd
          have HRD := Lib.hid hrd
          have HOV : Hid (d.over = false) := Lib.hid (by unfold Dr.over; simp; omega)
          have e1 : (t : Int).tdiv (c : Int) = (d.rd : Int) := by rw [← hq1]; exact (Int.tdiv_eq_ediv_of_nonneg (by omega)).trans (Int.natCast_ediv _ _).symm
          have e2 : (t : Int).tmod (c : Int) = (d.tn : Int) := by rw [← hq2]; exact (Int.tmod_eq_emod_of_nonneg (by omega)).trans (Int.natCast_emod _ _).symm
          have hdn : d.n = n := hbt.n
          have HDN := Lib.hid hdn
          have hlt : t < T := htT
          clear hbt hbw htm hq1 hq2 hdn
          go_wp2_with fail
          refine rg5_19 (w0 := wr) (B := wr.heap.size) (n := wr.heap.size) (L := []) (E := fun _ => True) (F := fun _ => True) (by kernel_rfl) (by kernel_rfl) ⟨by go_grown, by go_size, (by simp [go_sem] <;> omega)⟩ trivial (fun _ _ _ _ => trivial) trivial (fun _ _ _ _ => trivial) (fun w20 K_w20 E_w20 F_w20 => ?_)
          have _ne : Nonempty (KX (wr.heap.size) wr (wr.heap.size) [] (fun _ => True)) := ⟨⟨_, K_w20, E_w20⟩⟩
          repeat (go_big_quiet_step (fail))
          refine wpQuiet_nil ?_
          have KH_w20 := Lib.hid K_w20
          have hw_w20 := K_w20.below
          have hz_w20 := K_w20.size
          clear K_w20
          clear E_w20 F_w20
          refine ⟨fun K hK0 => ?_, trivial⟩
          have hK := Lib.hid hK0
          clear hK0
          go_wp2_with fail
          with_reducible refine (done18c P1 _ c S d false _ (HTM.out.a.below hw_w20) HBT.out.inv HOV.out).mono ?_
          rintro e w21 ⟨rfl, hb_w21⟩
          have K_w21 := KH_w20.out.step (by omega) hb_w21
          have KH_w21 := Lib.hid K_w21
          have hw_w21 := K_w21.below
          have hz_w21 := K_w21.size
          clear K_w21 hb_w21
          go_wp2_with fail
          first | (refine ⟨rfl, hK.out _ _ ?_⟩; clear hK K) | (refine hK.out _ _ ?_; clear hK K)
          repeat (go_big_quiet_step (fail))
          refine wpQuiet_nil ?_
          refine ⟨fun K hK0 => ?_, trivial⟩
          have hK := Lib.hid hK0
          clear hK0
          go_wp2_with fail
          with_reducible refine (done18c P2 _ c T' d false _ (HTM.out.b.below hw_w21) HBT.out.inv HOV.out).mono ?_
          rintro e w22 ⟨rfl, hb_w22⟩
          have K_w22 := KH_w21.out.step (by omega) hb_w22
          have KH_w22 := Lib.hid K_w22
          have hw_w22 := K_w22.below
          have hz_w22 := K_w22.size
          clear K_w22 hb_w22
          go_wp2_with fail
          first | (refine ⟨rfl, hK.out _ _ ?_⟩; clear hK K) | (refine hK.out _ _ ?_; clear hK K)
          repeat (go_big_quiet_step (fail))
          refine wpQuiet_nil ?_
          refine ⟨fun K hK0 => ?_, trivial⟩
          have hK := Lib.hid hK0
          clear hK0
          go_wp2_with fail
          with_reducible refine (round19 P1 _ c S d _ (HTM.out.a.below hw_w22) HBT.out.inv).mono ?_
          rintro e w22 ⟨rfl, rfl⟩
          go_wp2_with fail
          first | (refine ⟨rfl, hK.out _ _ ?_⟩; clear hK K) | (refine hK.out _ _ ?_; clear hK K)
          repeat (go_big_quiet_step (fail))
          refine wpQuiet_nil ?_
          refine ⟨fun K hK0 => ?_, trivial⟩
          have hK := Lib.hid hK0
          clear hK0
          go_wp2_with fail
          with_reducible refine (turn20 P1 _ c S d _ (HTM.out.a.below hw_w22) HBT.out.inv).mono ?_
          rintro e w22 ⟨rfl, rfl⟩
          go_wp2_with fail
          first | (refine ⟨rfl, hK.out _ _ ?_⟩; clear hK K) | (refine hK.out _ _ ?_; clear hK K)
          repeat (go_big_quiet_step (fail))
          refine wpQuiet_nil ?_
          clear _ne
          have HB19 : Hid (Below w.heap.size w w22) := Lib.hid (below_via HBW.out hw_w22)
          have HT19 : Hid (Tri w22 w.heap.size P1 P2 d d u11 (.slice none 0 0) al []) := Lib.hid (HTRI.out.below hw_w22)
          have HBI := Lib.hid HBT.out
          clear HTRI HTM hw_w22 KH_w22 HBW hzz
          obtain ⟨wm, rfl⟩ : ∃ W, W = w22 := ⟨_, rfl⟩
          go_wp2_with fail
          go_loopw [15, 16] (fun s i wr => AtRel w P1 P2 d n u11 al s i wr) (fun _ i _ => n - (intOf i).toNat)
          case atStart => exact ⟨0, [], Nat.zero_le _, rfl, rfl, fun q hq => absurd hq (Nat.not_lt_zero _), HT19.out, HB19.out⟩
          case round =>
            clear HT19 HB19
            obtain ⟨p, tl, hp, rfl, htl, hat, htri, hbw⟩ := hrel
            have HAT := Lib.hid hat
            have HTL := Lib.hid htl
            clear htl
            have HTRI := Lib.hid htri
            have HBW := Lib.hid hbw
            have hzz := hbw.size
            clear hat hbw
            by_cases hpn : p < n
            · obtain ⟨S2, T2, htm⟩ := htri
              have hak : d.ask p = d.pk p ∧ d.askE p = 0 := by
                have h := ask_in d (p := p) (by rw [HDN.out]; exact hpn)
                rw [HOV.out, HBT.out.mv p] at h
                exact h
              obtain ⟨l, hl⟩ : ∃ l, d.pk p = l := ⟨_, rfl⟩
              have hll : l.length + d.tn = c := by
                have h := HBT.out.inv.now p (by rw [HDN.out]; exact hpn) HRD.out
                rw [HBT.out.mv p, hl] at h
                simpa using h
              have e3 : (c : Int) - (d.tn : Int) = (l.length : Int) := by omega
              have HPK' := Lib.hid (pack21 P1 _ c S2 d p _ htm.a HBT.out.inv)
              rw [hak.1, hak.2, hl] at HPK'
              have HL := Lib.hid hl
              clear hl hak htm
              go_wp2_with fail
              with_reducible refine HPK'.out.mono ?_
              rintro e w2 ⟨v2, rfl, hov, hb2⟩
              obtain ⟨a2, k2, rfl⟩ := hov.form
              have HB2 := Lib.hid (below_via HBW.out hb2)
              have HT2 := Lib.hid (HTRI.out.below hb2)
              have hz2 := HB2.out.size
              clear hb2 hov HPK' HTRI HBW hzz
              obtain ⟨tn2, htn2⟩ : ∃ x, t * n = x := ⟨_, rfl⟩
              have m1 : (t : Int) * (n : Int) = (tn2 : Int) := by rw [← htn2]; exact (Int.natCast_mul _ _).symm
              have htn3 : tn2 ≤ 480 := by rw [← htn2]; exact Nat.mul_le_mul (show t ≤ 60 by omega) hn8
              clear htn2
              have hl0 : ((l.length : Int) == 0) = false := beq_false_of_ne (by omega)
              have hl0' : ¬ (l.length : Int) = 0 := by omega
              by_cases hzl : zs.length = 0
              · have q1 : decide ((zs.length : Int) > 0) = false := decide_eq_false (by omega)
                have hkl : 0 < l.length := by omega
                have q2 : ¬ zs.length > 0 := by omega
                have q3 : decide (zs.length > 0) = false := decide_eq_false q2
                have q4 : ¬ (zs.length : Int) > 0 := by omega
                clear hzl
                go_upto_region 31 with fail
                have HOT : Hid (Oe ic 3 w2 u15 tl ∧ ∀ b, blk u15 = some b → w.heap.size ≤ b) := Lib.hid (by
                  obtain ⟨S3, T3, h⟩ := HT2.out
                  exact ⟨h.ot, fun b hb => (h.vtN b hb).1⟩)
                obtain ⟨a5, c5, hu5⟩ := HOT.out.1.form
                subst hu5
                go_wp2_with (at_builtin; refine wpList_append_ow (f := ic) (sz := 1) rfl _ _ 32 rfl 0 3 (.int .i64 0) 8 Try.underlying32 info3 rfl (by decide) _ tl rfl (HOT.out.1.below ((Below.refl _ _).alloc (Nat.le_refl _) _)) ic_ok _ [(0 : Int)] rfl (Rw.one2 _ _ (0 : Int) _ rfl _ _ (by simp)) ?ca1 ?cb1 (Nat.zero_le _) ?_)
                case ca1 => have := HTL.out; simp [maxLen]; omega
                case cb1 => have := HTL.out; simp; omega
                intro v3 wg hown hgrow hnew
                have HTA := Lib.hid (HT2.out.below ((Below.refl w2.heap.size w2).alloc (Nat.le_refl _) (.cells #[.int .i64 (0 : Int)] 3)))
                have HT3 := Lib.hid (HTA.out.growT (by simp; omega) hgrow hown (by simpa using hnew))
                have HB3 : Hid (Below w.heap.size w wg) := Lib.hid ((HB2.out.alloc hz2 _).grown hgrow (by simp; omega) (fun q hq => HOT.out.2 q hq))
                clear hown hgrow hnew HTA HOT HT2 HB2
                go_wp2_with fail
                go_roundw
                case rel =>
                  exact ⟨p + 1, tl ++ [(0 : Int)], by omega, by go_num, by simp [HTL.out], fun q hq => by
                    by_cases h : q < p
                    · obtain ⟨x, h1, h2⟩ := HAT.out q h
                      exact ⟨x, by rw [List.getElem?_append_left (by rw [HTL.out]; exact h)]; exact h1, h2⟩
                    · obtain rfl : q = p := by omega
                      exact ⟨0, by rw [List.getElem?_append_right (by have := HTL.out; omega), HTL.out, Nat.sub_self]; rfl, by rw [HL.out]; exact hkl⟩, HT3.out, HB3.out⟩
                case measure => simp [intOf]; omega
              · have q1 : decide ((zs.length : Int) > 0) = true := decide_eq_true (by omega)
                obtain ⟨b4, o4, c4, hv4, hb4, hc4⟩ := (HPK.out.some (by intro e; rw [e] at hzl; exact hzl rfl)).2
                simp only [Value.slice.injEq, true_and] at hv4
                obtain ⟨rfl, rfl⟩ := hv4
                obtain ⟨q, hq⟩ : ∃ q, (tn2 + p) % zs.length = q := ⟨_, rfl⟩
                have hql : q < zs.length := by rw [← hq]; exact Nat.mod_lt _ (by omega)
                have m2 : ((tn2 : Int) + (p : Int)).tmod (zs.length : Int) = (q : Int) := by
                  rw [← hq]
                  exact (Int.tmod_eq_emod_of_nonneg (by omega)).trans (by rw [Int.natCast_emod, Int.natCast_add])
                obtain ⟨z, hz⟩ : ∃ z, zs[q]? = some z := ⟨_, List.getElem?_eq_getElem hql⟩
                have e4 : w2.cell? ⟨b4, o4 + q, none⟩ = some (.int .u8 z) := (HB2.out.cell (p := ⟨b4, o4 + q, none⟩) hb4).trans (hc4 q z hz)
                obtain ⟨hz0, hz255⟩ := HPW.out z (List.mem_of_getElem? hz)
                obtain ⟨y, rfl⟩ : ∃ y : Nat, z = y := ⟨z.toNat, by omega⟩
                have m3 : (y : Int).tmod 15 = ((y % 15 : Nat) : Int) := (Int.tmod_eq_emod_of_nonneg (by omega)).trans (Int.natCast_emod _ _).symm
                have m3l : y % 15 < 15 := Nat.mod_lt _ (by omega)
                obtain ⟨y15, hy15⟩ : ∃ x, y % 15 = x := ⟨_, rfl⟩
                rw [hy15] at m3 m3l
                obtain ⟨k, hk⟩ : ∃ k, y15 % l.length = k := ⟨_, rfl⟩
                have hkl : k < l.length := by rw [← hk]; exact Nat.mod_lt _ (by omega)
                have m4 : (y15 : Int).tmod (l.length : Int) = (k : Int) := by
                  rw [← hk]
                  exact (Int.tmod_eq_emod_of_nonneg (by omega)).trans (Int.natCast_emod _ _).symm
                have hz0' : ((zs.length : Int) == 0) = false := beq_false_of_ne (by omega)
                have hz0'' : ¬ (zs.length : Int) = 0 := by omega
                have j1 : (0 : Int) ≤ (q : Int) := by omega
                have j2 : (q : Int) < (zs.length : Int) := by omega
                clear hc4 hz hq hk hy15
                go_upto_region 31 with fail
                have HOT : Hid (Oe ic 3 w2 u15 tl ∧ ∀ b, blk u15 = some b → w.heap.size ≤ b) := Lib.hid (by
                  obtain ⟨S3, T3, h⟩ := HT2.out
                  exact ⟨h.ot, fun b hb => (h.vtN b hb).1⟩)
                obtain ⟨a5, c5, hu5⟩ := HOT.out.1.form
                subst hu5
                go_wp2_with (at_builtin; refine wpList_append_ow (f := ic) (sz := 1) rfl _ _ 32 rfl 0 3 (.int .i64 0) 8 Try.underlying32 info3 rfl (by decide) _ tl rfl (HOT.out.1.below ((Below.refl _ _).alloc (Nat.le_refl _) _)) ic_ok _ [(k : Int)] rfl (Rw.one2 _ _ (k : Int) _ rfl _ _ (by simp)) ?ca2 ?cb2 (Nat.zero_le _) ?_)
                case ca2 => have := HTL.out; simp [maxLen]; omega
                case cb2 => have := HTL.out; simp; omega
                intro v3 wg hown hgrow hnew
                have HTA := Lib.hid (HT2.out.below ((Below.refl w2.heap.size w2).alloc (Nat.le_refl _) (.cells #[.int .i64 (k : Int)] 3)))
                have HT3 := Lib.hid (HTA.out.growT (by simp; omega) hgrow hown (by simpa using hnew))
                have HB3 : Hid (Below w.heap.size w wg) := Lib.hid ((HB2.out.alloc hz2 _).grown hgrow (by simp; omega) (fun q hq => HOT.out.2 q hq))
                clear hown hgrow hnew HTA HOT HT2 HB2
                go_wp2_with fail
                go_roundw
                case rel =>
                  exact ⟨p + 1, tl ++ [(k : Int)], by omega, by go_num, by simp [HTL.out], fun q hq => by
                    by_cases h : q < p
                    · obtain ⟨x, h1, h2⟩ := HAT.out q h
                      exact ⟨x, by rw [List.getElem?_append_left (by rw [HTL.out]; exact h)]; exact h1, h2⟩
                    · obtain rfl : q = p := by omega
                      exact ⟨k, by rw [List.getElem?_append_right (by have := HTL.out; omega), HTL.out, Nat.sub_self]; rfl, by rw [HL.out]; exact hkl⟩, HT3.out, HB3.out⟩
                case measure => simp [intOf]; omega
            · obtain rfl : n = p := by omega
              obtain ⟨a, ha⟩ : ∃ a : Nat → Nat, ∀ q, q < n → tl[q]? = some ((a q : Nat) : Int) ∧ a q < (d.pk q).length := ⟨fun q => (tl.getD q 0).toNat, fun q hq => by
                obtain ⟨x, h1, h2⟩ := HAT.out q hq
                show tl[q]? = some (((tl.getD q 0).toNat : Nat) : Int) ∧ (tl.getD q 0).toNat < _
                rw [getD_lt h1]
                exact ⟨by simpa using h1, by simpa using h2⟩⟩
              have HA := Lib.hid ha
              have HTU : Hid (Turn c d a) := Lib.hid ⟨HBT.out.inv, HRD.out, HBT.out.mv, fun q hq => (ha q (by rw [← HDN.out]; exact hq)).2⟩
              clear ha htri HAT
              go_wp2_with fail
              obtain ⟨ta, tc, rfl⟩ : ∃ a c, u15 = (⟨a, n, c⟩ : Sl).v := by
                obtain ⟨S3, T3, h⟩ := HTRI.out
                obtain ⟨a, c, h2⟩ := h.ot.form
                exact ⟨a, c, by rw [h2, HTL.out]; rfl⟩
              have HUP : Hid (Perm d.n (up n)) := Lib.hid (by rw [HDN.out]; exact up_perm n)
              have HDP : Hid (Perm d.n (dn n)) := Lib.hid (by rw [HDN.out]; exact dn_perm n)
              have hul : (up n).length = n := (up_perm n).len
              have hdl : (dn n).length = n := (dn_perm n).len
              have HUL := Lib.hid hul
              have HDL := Lib.hid hdl
              clear hul hdl
              go_loopw [11, 20] (fun s i wr => LaRel w P1 P2 d a n (⟨ta, n, tc⟩ : Sl).v tl s i wr) (fun _ i _ => n - (intOf i).toNat)
              case atStart =>
                have h0 : tst d a (up n) 0 = d := tst_zero (by rw [HUL.out]; omega)
                exact ⟨0, al, Nat.zero_le _, rfl, by rw [h0]; exact HBT.out.lf, HBT.out.al, by rw [h0]; exact HTRI.out, HBW.out⟩
              case round =>
                clear HTRI HBW hzz
                obtain ⟨p, al, hp, rfl, hlf, hal, htri, hbw⟩ := hrel
                have HLF := Lib.hid hlf
                have HTRI := Lib.hid htri
                have HBW := Lib.hid hbw
                have hzz := hbw.size
                clear hlf hbw
                by_cases hpn : p < n
                · obtain ⟨x, hx⟩ : ∃ x, tst d a (up n) p = x := ⟨_, rfl⟩
                  have hiv : x.Inv c := by rw [← hx]; exact HTU.out.invs HUP.out p (by rw [HUL.out]; exact hp)
                  have hst := HTU.out.step HUP.out (up_at hpn) (by rw [hx]; exact hiv)
                  have hmem := Lft.take HTU.out (p := p) (l := al) (by rw [HDN.out]; exact hpn) (by rw [HDN.out]; exact HLF.out)
                  rw [HDN.out] at hmem
                  obtain ⟨cd, hcd⟩ : ∃ z, (d.pk p).getD (a p) 0 = z := ⟨_, rfl⟩
                  obtain ⟨x', hx'⟩ : ∃ x, tst d a (up n) (p + 1) = x := ⟨_, rfl⟩
                  rw [hx, hx', hcd] at hst
                  rw [hcd, hx'] at hmem
                  rw [hx] at htri
                  obtain ⟨S2, T2, htm⟩ := htri
                  have HTM := Lib.hid htm
                  have hot := htm.ot
                  obtain ⟨g, hga, y1, y2, hgl, y3, hgc, y4⟩ := Oe.cell1 (s := ⟨ta, n, tc⟩) ic1 hot (HA.out p hpn).1
                  change ta = _ at hga
                  subst hga
                  clear y1 y2 y3 y4
                  obtain ⟨ap, hap⟩ : ∃ k, a p = k := ⟨_, rfl⟩
                  have HTK := Lib.hid (take22 P1 _ c S2 x (p : Int) (a p : Int) _ htm.a hiv)
                  rw [hst.1, hst.2.1, hst.2.2.1, hap] at HTK
                  rw [hap] at hgc
                  have HX' := Lib.hid hx'
                  have HMEM := Lib.hid hmem
                  have HSL : Hid (∀ b ∈ S2, w.heap.size ≤ b) := Lib.hid (fun b hb => (htm.a.newB b hb).1)
                  have j1 : (0 : Int) ≤ (p : Int) := by omega
                  have j2 : (p : Int) < (n : Int) := by omega
                  clear hst hmem hx hcd hot hap htm hx' hiv HTRI HLF
                  unfold Sl.v
                  go_wp2_with fail
                  with_reducible refine HTK.out.mono ?_
                  rintro e w2 ⟨S3, rfl, hd2, hs2, _, ho2⟩
                  have HT2 : Hid (Tri w2 w.heap.size P1 P2 x' d u11 (⟨some ⟨g, 0, none⟩, n, tc⟩ : Sl).v al tl) := Lib.hid (HTM.out.takeA hd2 hs2 ho2)
                  have HB2 : Hid (Below w.heap.size w w2) := Lib.hid (below_onl HBW.out ho2 HSL.out)
                  have HOA : Hid (Ow ic 1 3 w2 0 u11 al) := Lib.hid (by
                    obtain ⟨S4, T4, h⟩ := HT2.out
                    exact h.oa)
                  have hz2 := HB2.out.size
                  clear hd2 hs2 ho2 HTM HTK hgc hgl HSL HBW hzz
                  go_wp2_with fail
                  with_reducible refine (out23 _ al cd _ HOA.out HMEM.out.1 (by omega)).mono ?_
                  rintro e w3 ⟨v3, rfl, hv3, hb3⟩
                  have HT3 := Lib.hid (HT2.out.setA hb3 hz2 hv3)
                  have HB3 := Lib.hid (below_via HB2.out hb3)
                  clear hv3 hb3 HT2 HB2 HOA
                  go_wp2_with fail
                  go_roundw
                  case rel => exact ⟨p + 1, al.erase cd, by omega, by go_num, by rw [HX'.out]; exact HMEM.out.2, Nat.le_trans (List.length_erase_le) hal, by rw [HX'.out]; exact HT3.out, HB3.out⟩
                  case measure => simp [intOf]; omega
                · obtain rfl : n = p := by omega
                  obtain ⟨d', hd'⟩ : ∃ x, tst d a (up n) n = x := ⟨_, rfl⟩
                  rw [hd'] at htri
                  have HLF2 := Lib.hid HLF.out
                  clear HLF HTRI
                  rw [hd'] at HLF2
                  have HTRI := Lib.hid htri
                  have HND : Hid (tst d a (dn n) n = d' ∧ d'.Inv c ∧ d'.rd * c + d'.tn = d.rd * c + d.tn + 1 ∧ (∀ p, d'.mvd p = false) ∧ d'.n = d.n ∧ d'.rs.length = d.rs.length) := Lib.hid (by
                    have h1 := HTU.out.same
                    have h2 := HTU.out.next
                    have h3 := HTU.out.invs HUP.out n (by rw [HUL.out]; exact Nat.le_refl _)
                    rw [HDN.out, hd'] at h1
                    rw [HDN.out, hd'] at h2
                    rw [hd'] at h3
                    exact ⟨h1, h3, h2.1, h2.2.1, by rw [h2.2.2.1, HDN.out], h2.2.2.2.1⟩)
                  clear htri hd'
                  have hnm : (n : Int) - 1 ≤ 9223372036854775807 := by omega
                  unfold Sl.v
                  go_wp2_with fail
                  go_loopw [25] (fun i wr => LbRel w P1 P2 d d' a n u11 (⟨ta, n, tc⟩ : Sl).v al tl i wr) (fun i _ => (intOf i + 1).toNat)
                  case atStart => exact ⟨0, Nat.zero_le _, by simp, by rw [tst_zero (by rw [HDL.out]; omega)]; exact HTRI.out, HBW.out⟩
                  case round =>
                    clear HTRI HBW hzz
                    obtain ⟨p, hp, rfl, htri, hbw⟩ := hrel
                    have HTRI := Lib.hid htri
                    have HBW := Lib.hid hbw
                    have hzz := hbw.size
                    clear hbw
                    by_cases hpn : p < n
                    · obtain ⟨q, hq⟩ : ∃ q, n - 1 - p = q := ⟨_, rfl⟩
                      have hqi : (n : Int) - 1 - (p : Int) = (q : Int) := by omega
                      have hqn : q < n := by omega
                      rw [hqi]
                      obtain ⟨x, hx⟩ : ∃ x, tst d a (dn n) p = x := ⟨_, rfl⟩
                      have hiv : x.Inv c := by rw [← hx]; exact HTU.out.invs HDP.out p (by rw [HDL.out]; exact hp)
                      have hst := HTU.out.step HDP.out (p := q) (by rw [← hq]; exact dn_at hpn) (by rw [hx]; exact hiv)
                      obtain ⟨x', hx'⟩ : ∃ x, tst d a (dn n) (p + 1) = x := ⟨_, rfl⟩
                      rw [hx, hx'] at hst
                      rw [hx] at htri
                      obtain ⟨S2, T2, htm⟩ := htri
                      have HTM := Lib.hid htm
                      have hot := htm.ot
                      obtain ⟨g, hga, y1, y2, hgl, y3, hgc, y4⟩ := Oe.cell1 (s := ⟨ta, n, tc⟩) ic1 hot (HA.out q hqn).1
                      change ta = _ at hga
                      subst hga
                      clear y1 y2 y3 y4
                      obtain ⟨ap, hap⟩ : ∃ k, a q = k := ⟨_, rfl⟩
                      obtain ⟨cd, hcd⟩ : ∃ k, (d.pk q).getD (a q) 0 = k := ⟨_, rfl⟩
                      have HTK := Lib.hid (take22 P2 _ c T2 x (q : Int) (a q : Int) _ htm.b hiv)
                      rw [hst.1, hst.2.1, hst.2.2.1, hcd, hap] at HTK
                      rw [hap] at hgc
                      have HX' := Lib.hid hx'
                      have HSL : Hid (∀ b ∈ T2, w.heap.size ≤ b) := Lib.hid (fun b hb => (htm.b.newB b hb).1)
                      have j0 : decide ((q : Int) ≥ 0) = true := by simp
                      have j1 : (0 : Int) ≤ (q : Int) := by omega
                      have j2 : (q : Int) < (n : Int) := by omega
                      clear hst hx hot hap htm hx' hiv HTRI hcd
                      unfold Sl.v
                      go_wp2_with fail
                      with_reducible refine HTK.out.mono ?_
                      rintro e w2 ⟨S3, rfl, hd2, hs2, _, ho2⟩
                      have HT2 : Hid (Tri w2 w.heap.size P1 P2 d' x' u11 (⟨some ⟨g, 0, none⟩, n, tc⟩ : Sl).v al tl) := Lib.hid (HTM.out.takeB hd2 hs2 ho2)
                      have HB2 : Hid (Below w.heap.size w w2) := Lib.hid (below_onl HBW.out ho2 HSL.out)
                      clear hd2 hs2 ho2 HTM HTK hgc hgl HSL HBW hzz
                      go_wp2_with fail
                      go_roundw
                      case rel => exact ⟨p + 1, by omega, by simp; omega, by rw [HX'.out]; exact HT2.out, HB2.out⟩
                      case measure => simp [intOf] <;> omega
                    · obtain rfl : n = p := by omega
                      have hqi : (n : Int) - 1 - (n : Int) = -1 := by omega
                      rw [hqi]
                      rw [HND.out.1] at htri
                      have HT3 := Lib.hid htri
                      clear htri HTRI
                      go_wp2_with fail
                      go_loopw [28] (fun i wr => LcRel w P1 P2 d' n u11 (⟨ta, n, tc⟩ : Sl).v al tl i wr) (fun i _ => n - (intOf i).toNat)
                      case atStart => exact ⟨0, Nat.zero_le _, rfl, HT3.out, HBW.out⟩
                      case round =>
                        clear HT3 HBW hzz
                        obtain ⟨p, hp, rfl, htri, hbw⟩ := hrel
                        have HTRI := Lib.hid htri
                        have HBW := Lib.hid hbw
                        have hzz := hbw.size
                        clear hbw
                        by_cases hpn : p < n
                        · obtain ⟨S2, T2, htm⟩ := htri
                          have HTM := Lib.hid htm
                          have hpd : p < d'.n := by rw [HND.out.2.2.2.2.1, HDN.out]; exact hpn
                          obtain ⟨l, hl⟩ : ∃ l, d'.tkn p = l := ⟨_, rfl⟩
                          have hlen : l.length = t + 1 := by
                            have h := HND.out.2.1.tkl p hpd
                            rw [HND.out.2.2.2.1 p, ← tkn_in d' hpd, hl] at h
                            have h2 := HND.out.2.2.1
                            have h3 := HBT.out.t
                            simp only [Bool.false_eq_true, if_false] at h
                            omega
                          have hle : (l.length : Int) = (t : Int) + 1 := by omega
                          clear hlen
                          have h1 := HND.out.2.1
                          have HK1 := Lib.hid (taken24 P1 _ c S2 d' (p : Int) _ htm.a h1)
                          rw [hl, (ask_in d' hpd).2] at HK1
                          have HK2 : Hid (∀ W, Below wr.heap.size wr W → Calls Try.prog 24 #[.pointer (some ⟨P2, 0, none⟩), .int .i64 p] W (PairAt W l 0)) := Lib.hid (fun W hW => by
                            have h2 := taken24 P2 _ c T2 d' (p : Int) W (HTM.out.b.below hW) h1
                            rwa [hl, (ask_in d' hpd).2] at h2)
                          clear htm h1 hl hpd
                          go_wp2_with fail
                          with_reducible refine HK1.out.mono ?_
                          rintro e w2 ⟨v2, rfl, hv2, hb2⟩
                          obtain ⟨a2, c2, rfl⟩ := hv2.form
                          have HV2 := Lib.hid (hv2.rw ic_len)
                          have HB2 := Lib.hid hb2
                          clear hv2 hb2 HK1
                          go_wp2_with fail
                          with_reducible refine (HK2.out _ HB2.out).mono ?_
                          rintro e w3 ⟨v3, rfl, hv3, hb3⟩
                          obtain ⟨a3, c3, rfl⟩ := hv3.form
                          have HV3 := Lib.hid (hv3.rw ic_len)
                          have HV2' := Lib.hid (HV2.out.below hb3)
                          have HB3 := Lib.hid (below_via HB2.out hb3)
                          clear hv3 hb3 HK2 HV2
                          go_wp2_with fail
                          with_reducible refine (ints12c _ _ l l _ HV2'.out HV3.out rfl).mono ?_
                          rintro e w4 ⟨rfl, hb4⟩
                          have HB4 := Lib.hid (below_via HB3.out hb4)
                          clear hb4
                          go_wp2_with fail
                          go_roundw
                          case rel => exact ⟨p + 1, by omega, by go_num, HTRI.out.below HB4.out, below_via HBW.out HB4.out⟩
                          case measure => simp [intOf]; omega
                        · obtain rfl : n = p := by omega
                          go_wp2_with fail
                          go_roundw
                          case rel =>
                            exact ⟨t + 1, d', al, by omega, by go_num, ⟨HND.out.2.1, by rw [HND.out.2.2.1, HBT.out.t], HND.out.2.2.2.1, by rw [HND.out.2.2.2.2.1, HDN.out], by rw [HND.out.2.2.2.2.2, HBT.out.rl], HLF2.out, hal⟩, HTRI.out.setT, HBW.out⟩
                          case measure => simp [intOf]; omega
        · obtain rfl : T = t := by omega
          have HEND := Lib.hid (hbt.fin HTE.out.symm)
          have HAL : Hid (al = []) := Lib.hid (Lft.done hbt.inv HEND.out hbt.lf)
          clear hbt hbw
          obtain ⟨S, T', htm⟩ := htri
          have HTM := Lib.hid htm
          obtain ⟨va, vc', hva⟩ := htm.oa.form
          subst hva
          have hal0 : al.length = 0 := by rw [HAL.out]; rfl
          have HOV : Hid (d.over = true) := Lib.hid ((over_iff d).2 HEND.out)
          clear htm
          rw [hal0]
          go_wp2_with fail
          with_reducible refine (done18c P1 _ c S d true _ HTM.out.a HBT.out.inv HOV.out).mono ?_
          rintro e w2 ⟨rfl, hb2⟩
          have HB2 := Lib.hid hb2
          clear hb2
          go_wp2_with fail
          with_reducible refine (done18c P2 _ c T' d true _ (HTM.out.b.below HB2.out) HBT.out.inv HOV.out).mono ?_
          rintro e w3 ⟨rfl, hb3⟩
          have HB3 := Lib.hid (below_via HB2.out hb3)
          clear hb3
          go_wp2_with fail
          with_reducible refine (known _).mono ?_
          rintro e w4 ⟨rfl, hb4⟩
          have HB4 := Lib.hid (below_via HBW.out (below_via HB3.out hb4))
          clear hb4
          go_wp2_with fail
          go_returns
          exact ⟨rfl, HB4.out⟩
set_option maxRecDepth 100000 in
set_option maxHeartbeats 2000000 in
theorem holds5_big (v : Value) (ls : List (List (List Int))) (a1 : Option Addr) (c1 : Nat) (zs : List Int) (w : World) (HS : Hid (Rw3 w v ls)) (HSM : Hid (small ls = false)) : Calls Try.prog 5 #[v, .slice a1 zs.length c1] w fun e w' => e = .returned (.bool true) ∧ Below w.heap.size w w' := by
  go_enter Try.func5, Try.ntmps5
  go_wp2_with fail
  with_reducible refine (small8c _ ls false _ HS.out HSM.out).mono ?_
  rintro e w0 ⟨rfl, hb0⟩
  go_wp2_with fail
  with_reducible refine (known _).mono ?_
  rintro e w9 ⟨rfl, hb9⟩
  go_wp2_with fail
  go_returns
  exact ⟨rfl, below_via hb0 hb9⟩
set_option maxRecDepth 100000 in
set_option maxHeartbeats 2000000 in
theorem holds5_bad (v : Value) (ls : List (List (List Int))) (a1 : Option Addr) (c1 : Nat) (zs : List Int) (w : World) (HS : Hid (Rw3 w v ls)) (HSM : Hid (small ls = true)) (HRT : Hid (right ls = false)) : Calls Try.prog 5 #[v, .slice a1 zs.length c1] w fun e w' => e = .returned (.bool true) ∧ Below w.heap.size w w' := by
  go_enter Try.func5, Try.ntmps5
  go_wp2_with fail
  with_reducible refine (small8c _ ls true _ HS.out HSM.out).mono ?_
  rintro e w0 ⟨rfl, hb0⟩
  have HB0 := Lib.hid hb0
  clear hb0
  go_wp2_with fail
  with_reducible refine (right13c _ ls false _ (HS.out.below HB0.out) HRT.out).mono ?_
  rintro e w1 ⟨rfl, hb1⟩
  go_wp2_with fail
  with_reducible refine (known _).mono ?_
  rintro e w9 ⟨rfl, hb9⟩
  go_wp2_with fail
  go_returns
  exact ⟨rfl, below_via HB0.out (below_via hb1 hb9)⟩
set_option maxRecDepth 100000 in
set_option maxHeartbeats 2000000 in
theorem holds5_long (v : Value) (ls : List (List (List Int))) (a1 : Option Addr) (c1 : Nat) (zs : List Int) (w : World) (HS : Hid (Rw3 w v ls)) (HSM : Hid (small ls = true)) (HRT : Hid (right ls = true)) (h300 : ¬ zs.length ≤ 300) : Calls Try.prog 5 #[v, .slice a1 zs.length c1] w fun e w' => e = .returned (.bool true) ∧ Below w.heap.size w w' := by
  have q300 : decide ((zs.length : Int) > 300) = true := decide_eq_true (by omega)
  go_enter Try.func5, Try.ntmps5
  go_wp2_with fail
  with_reducible refine (small8c _ ls true _ HS.out HSM.out).mono ?_
  rintro e w0 ⟨rfl, hb0⟩
  have HB0 := Lib.hid hb0
  clear hb0
  go_wp2_with fail
  with_reducible refine (right13c _ ls true _ (HS.out.below HB0.out) HRT.out).mono ?_
  rintro e w1 ⟨rfl, hb1⟩
  go_wp2_with fail
  with_reducible refine (known _).mono ?_
  rintro e w9 ⟨rfl, hb9⟩
  go_wp2_with fail
  go_returns
  exact ⟨rfl, below_via HB0.out (below_via hb1 hb9)⟩
theorem holds5 (v : Value) (ls : List (List (List Int))) (a1 : Option Addr) (c1 : Nat) (zs : List Int) (w : World) (hs : Rw3 w v ls) (hp : Seg w .u8 (.slice a1 zs.length c1) zs) (hw : ∀ z ∈ zs, 0 ≤ z ∧ z ≤ 255) : Calls Try.prog 5 #[v, .slice a1 zs.length c1] w fun e w' => e = .returned (.bool true) ∧ Below w.heap.size w w' := by
  cases hsm : small ls
  · exact holds5_big v ls a1 c1 zs w (Lib.hid hs) (Lib.hid hsm)
  · cases hrt : right ls
    · exact holds5_bad v ls a1 c1 zs w (Lib.hid hs) (Lib.hid hsm) (Lib.hid hrt)
    · by_cases h3 : zs.length ≤ 300
      · exact holds5_ok v ls a1 c1 zs w (Lib.hid hs) (Lib.hid hp) (Lib.hid hw) (Lib.hid hsm) (Lib.hid hrt) h3
      · exact holds5_long v ls a1 c1 zs w (Lib.hid hs) (Lib.hid hsm) (Lib.hid hrt) h3
end Go.Proofs.Yteocplabibhecaa
