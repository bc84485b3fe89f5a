/- Clone and Clip of what was shown; the copy of a stand. A board is shown. What is to be seen. -/
import Derived.Test.YteoeahmnonolmaaSG
import Derived.Test.YteoeahmnonolmaaSCp
import Derived.Deep.DeepCutAuto
import Derived.LoopTactic
import Derived.Deep.MidRow
import Derived.ArgAppend
import Derived.Great.BuildSlice
namespace Go.Proofs.Yteoeahmnonolmaa
open Go.RowKit Plain
set_option linter.unusedVariables false
set_option linter.unusedSimpArgs false

theorem infoS : (Try.prog.info? 93).map (fun i => (i.zero, i.size, i.bytes)) = some (some (.agg #[.int .i64 0, .int .i64 0, .int .i64 0, .int .i64 0, .int .i64 0, .int .i64 0, .int .i64 0, .slice none 0 0, .slice none 0 0, .bool false, .bool false, .bool false, .int .i64 0, .int .i64 0, .int .i64 0, .int .i64 0, .int .i64 0, .int .i64 0, .int .i64 0, .int .i64 0, .int .i64 0, .slice none 0 0, .slice none 0 0, .bool false, .bool false, .bool false, .int .i64 0, .int .i64 0, .slice none 0 0, .slice none 0 0, .slice none 0 0, .slice none 0 0, .int .i64 0, .int .i64 0, .int .i64 0, .int .i64 0, .int .i64 0, .int .u64 0]), 38, 400) := by kernel_rfl
set_option maxRecDepth 100000 in
set_option maxHeartbeats 4000000 in
theorem cloneS {l : List ((Pu × Ps) × Int)} (v : Value) (w : World) (hs : Rw shc 38 w v l) (hl : l.length ≤ 1000) : Calls Try.prog 42 #[v] w (ClA shc 38 93 w l) := by
  have qT : ∀ (w : World) (a : Option Addr) (n c : Nat), (binOp .eql 71 (.slice a n c) (.slice none 0 0)).run Try.prog w = .ok (.bool a.isNone) w := fun w a n c => Lib.run_eql_slice_nil w 71 93 a n c 0 0 Try.underlying71
  have HS := Lib.hid hs
  obtain ⟨m1, a1, c1, rfl, _⟩ := hs.form
  clear hs
  cases a1 with
  | none =>
    have h0 : l = [] := by
      rcases HS.out with ⟨h, _⟩ | ⟨_, _, _, _, _, h, _⟩
      · exact h
      · cases h
    subst h0
    go_enter Try.func42, Try.ntmps42
    go_wp2_with fail
    go_returns
    exact ClA.of (Ow.nil _ _ _) (Below.refl _ _)
  | some a1 =>
    go_enter Try.func42, Try.ntmps42
    go_wp2_with (at_builtin; refine wpList_append_ow (f := shc) (sz := 38) rfl _ _ 71 rfl w.heap.size 93 (.agg #[.int .i64 0, .int .i64 0, .int .i64 0, .int .i64 0, .int .i64 0, .int .i64 0, .int .i64 0, .slice none 0 0, .slice none 0 0, .bool false, .bool false, .bool false, .int .i64 0, .int .i64 0, .int .i64 0, .int .i64 0, .int .i64 0, .int .i64 0, .int .i64 0, .int .i64 0, .int .i64 0, .slice none 0 0, .slice none 0 0, .bool false, .bool false, .bool false, .int .i64 0, .int .i64 0, .slice none 0 0, .slice none 0 0, .slice none 0 0, .slice none 0 0, .int .i64 0, .int .i64 0, .int .i64 0, .int .i64 0, .int .i64 0, .int .u64 0]) 400 Try.underlying71 infoS rfl (by decide) _ [] rfl (Ow.lit w 93 [] #[] rfl (by simp) _ (Nat.le_refl _) (by simp)) shc_ok _ l rfl (HS.out.below (by go_grown)) ?c2 ?c3 (by simp) ?_)
    case c2 => simp [maxLen]; omega
    case c3 => simp; omega
    intro v' w1 hown hgrow _
    have hb1 : Below w.heap.size w w1 := ((Below.refl _ w).alloc (Nat.le_refl _) _).grown hgrow (by simp) (fun k hk => by simp [Value.ownBlock] at hk; omega)
    obtain ⟨a', c', rfl⟩ := hown.form
    have HO : Hid (Ow shc 38 93 w1 w.heap.size (.slice a' ([] ++ l).length c') l) := Lib.hid hown
    clear hown hgrow
    go_wp2_with fail
    go_returns
    exact ClA.of HO.out hb1
set_option maxRecDepth 100000 in
set_option maxHeartbeats 4000000 in
theorem clip (a : Option Addr) (n c : Nat) (w : World) (hc : n ≤ c) (ha : a = none → n = 0 ∧ c = 0) (hm : n ≤ 9223372036854775807) : Calls Try.prog 32 #[.slice a n c] w fun e w' => e = .returned (.slice a n n) ∧ w = w' := by
  cases a with
  | none =>
    obtain ⟨rfl, rfl⟩ := ha rfl
    go_enter Try.func32, Try.ntmps32
    go_wp2
    go_returns
    exact ⟨rfl, rfl⟩
  | some p =>
    obtain ⟨b, off, sp⟩ := p
    clear ha
    go_enter Try.func32, Try.ntmps32
    go_wp2
    go_returns
    exact ⟨rfl, rfl⟩
theorem Ow.cap {α : Type} {f : α → List Value} {sz : Nat} {e : TypeId} {w : World} {base : Nat} {a : Option Addr} {n c : Nat} {l : List α} (h : Ow f sz e w base (.slice a n c) l) : n ≤ c := by
  rcases h.2 with ⟨h1, h2⟩ | ⟨g, cap, cur, h1, hb, hg, hn, hcap, hsz, ht⟩
  · cases h1; exact Nat.le_refl _
  · cases h1; omega
theorem ShR.own {w : World} {base : Nat} {a : Option Addr} {n c : Nat} {l' : List ((Pu × Ps) × Int)} (h : Ow shc 38 93 w base (.slice a n c) l') (hp : ∀ x ∈ l', PuO 0 w.heap.size w x.1.2 x.1.1) : ShR w (.slice a n c) (l'.map (fun x => (x.1.1, x.2))) :=
  ⟨l', rfl, h.rw (fun x _ => (shc_ok x).1), hp, fun b hb => (h.typ b hb).2.2, fun a' n' c' e => by cases e; exact h.cap⟩
set_option maxRecDepth 100000 in
set_option maxHeartbeats 4000000 in
theorem scopy_ok (P : Nat) (s : Sd) (v : Sl) (w : World) (h : SdAt w P s v) (hl : s.l.length ≤ 1000) : Calls Try.prog 19 #[.pointer (some ⟨P, 0, none⟩)] w fun e w' => ∃ Q v', e = .returned (.pointer (some ⟨Q, 0, none⟩)) ∧ w.heap.size ≤ Q ∧ SdAt w' Q s v' ∧ Below w.heap.size w w' := by
  have HS := Lib.hid h
  have hlen := h.len
  obtain ⟨va, vn, vc⟩ := v
  change vn = s.l.length at hlen
  subst hlen
  have c0 : w.cell? ⟨P, 0, none⟩ = some (.bool true) := cell_of_row _ _ 0 _ 73 (0, 0) h.blk
  have c1 : w.cell? ⟨P, 1, none⟩ = some (.int .u64 s.dl) := cell_of_row _ _ 1 _ 73 (0, 0) h.blk
  have c2 : w.cell? ⟨P, 2, none⟩ = some (.int .u64 s.nw) := cell_of_row _ _ 2 _ 73 (0, 0) h.blk
  have c3 : w.cell? ⟨P, 3, none⟩ = some (.slice va s.l.length vc) := cell_of_row _ _ 3 _ 73 (0, 0) h.blk
  have lp := h.lt
  have HL := Lib.hid hl
  clear h hl
  go_enter Try.func19, Try.ntmps19
  go_wp2_with fail
  with_reducible refine (none_ok P s ⟨va, s.l.length, vc⟩ _ HS.out).mono ?_
  rintro e w2 ⟨rfl, rfl⟩
  go_upto_region 4 with fail
  obtain ⟨w1, hw1⟩ : ∃ W, W = w.alloc (.cells #[.bool true, .int .u64 s.dl, .int .u64 s.nw, .slice va s.l.length vc] 73) := ⟨_, rfl⟩
  rw [← hw1]
  have hb1 : Below w.heap.size w w1 := by rw [hw1]; exact (Below.refl _ _).alloc (Nat.le_refl _) _
  have HN : Hid (w1.heap[w.heap.size]? = some (.cells #[.bool true, .int .u64 s.dl, .int .u64 s.nw, .slice va s.l.length vc] 73 (0, 0))) := Lib.hid (by rw [hw1]; exact heap_alloc_new _ _)
  replace HS := Lib.hid (HS.out.below hb1)
  have HB1 := Lib.hid hb1
  have d3 : w1.cell? ⟨P, 3, none⟩ = some (.slice va s.l.length vc) := cell_of_row _ _ 3 _ 73 (0, 0) HS.out.blk
  obtain ⟨l', hl', hrw, hpu, hty, hcap⟩ := HS.out.list
  have hll : l'.length = s.l.length := by rw [← hl', List.length_map]
  replace hl' : l'.map (fun x => (x.1.1, x.2)) = s.l := hl'
  have HLL := Lib.hid hl'
  have HPU := Lib.hid hpu
  have HRW : Hid (Rw shc 38 w1 (.slice va s.l.length vc) l') := Lib.hid hrw
  have HLE : Hid (l'.length = s.l.length) := Lib.hid hll
  clear hw1 hb1 c0 c1 c2 c3 lp hl' hrw hpu hty hcap hll
  go_wp2_with fail
  with_reducible refine (cloneS (l := l') _ _ HRW.out (by rw [HLE.out]; exact HL.out)).mono ?_
  rintro e w2 ⟨qa, qc, rfl, ho, hb2⟩
  have hn2 : w2.heap[w.heap.size]? = some (.cells #[.bool true, .int .u64 s.dl, .int .u64 s.nw, .slice va s.l.length vc] 73 (0, 0)) := (hb2.block _ (Array.getElem?_eq_some_iff.1 HN.out).1).trans HN.out
  have e3 : w2.cell? ⟨w.heap.size, 3, none⟩ = some (.slice va s.l.length vc) := cell_of_row _ _ 3 _ 73 (0, 0) hn2
  have f3 : w2.frozen? ⟨w.heap.size, 3, none⟩ = false := by unfold World.frozen?; rw [hn2]; simp
  have HPOST : Hid (∃ Q v', Ending.returned (.pointer (some ⟨w.heap.size, 0, none⟩)) = .returned (.pointer (some ⟨Q, 0, none⟩)) ∧ w.heap.size ≤ Q ∧ SdAt (w2.setCell ⟨w.heap.size, 3, none⟩ (.slice qa l'.length qc)) Q s v' ∧ Below w.heap.size w (w2.setCell ⟨w.heap.size, 3, none⟩ (.slice qa l'.length qc))) := Lib.hid (by
    have hsh : ShR w2 (.slice qa l'.length qc) s.l := by
      rw [← HLL.out]
      exact ShR.own ho.1 (fun x hx => ((HPU.out x hx).below hb2).mono (Nat.le_refl _) hb2.size)
    have hS0 : SdAt w2 w.heap.size ⟨s.dl, s.nw, s.l⟩ ⟨va, s.l.length, vc⟩ := ⟨hn2, HS.out.list.below hb2, HS.out.dl, HS.out.nw, HS.out.at'⟩
    have hp := hS0.put 3 (.slice qa l'.length qc) s ⟨qa, l'.length, qc⟩ rfl hsh HS.out.dl HS.out.nw HS.out.at'
    exact ⟨_, _, rfl, Nat.le_refl _, hp.1, belowOnl (below_via HB1.out hb2) hp.2 (by simp) (below_via HB1.out hb2).size⟩)
  clear hn2 ho hb2 d3
  go_wp2_with fail
  go_returns
  exact HPOST.out
end Go.Proofs.Yteoeahmnonolmaa
namespace Go.Proofs.Yteoeahmnonolmaa
open Go.RowKit Plain
set_option linter.unusedVariables false
set_option linter.unusedSimpArgs false

theorem rg11_9 {P : Program} {B n : Nat} {w0 : World} {L : List (Nat × Nat × Value)} {E F : World → Prop} {id : Nat} {Q : Exit → Act → World → Prop} {a : Act} {w : World} {o0 o1 o2 o3 o4 o5 o6 o7 o8 o9 o10 o11 o12 o13 o14 o15 o16 : Oper} (hm : P.follows .mixedOrders = true)
    (hB : (Region.noSelect [o0, o1, o2, o3, o4, o5, o6, o7, o8, o9, o10, o11, o12, o13, o14, o15, o16].toArray && Scr.ok .any [o0, o1, o2, o3, o4, o5, o6, o7, o8, o9, o10, o11, o12, o13, o14, o15, o16].toArray [4, 6, 10] [0, 1, 2, 3, 7, 8, 9, 11, 14, 15] (.free 0 (.free 1 (.free 2 (.free 3 (.free 7 (.free 8 (.free 9 (.read 4 (.read 6 (.read 10 (.free 11 (.alt 5 (.alt 12 (.altc 13 (.free 14 (.free 15 (.altc 16 .done .stop))) .stop) .stop) (.alt 12 (.alt 5 (.altc 13 (.free 14 (.free 15 (.altc 16 .done .stop))) .stop) .stop) .stop))))))))))))) true true [o0, o1, o2, o3, o4, o5, o6, o7, o8, o9, o10, o11, o12, o13, o14, o15, o16].toArray.size (Array.replicate [o0, o1, o2, o3, o4, o5, o6, o7, o8, o9, o10, o11, o12, o13, o14, o15, o16].toArray.size false)) = true)
    (k : Kept B w0 n L w) (he : E w) (hE : ∀ W W', E W → Below W.heap.size W W' → E W') (hf : F w) (hF : ∀ W W', F W → Below W.heap.size W W' → F W')
    (h : ∀ wk, Kept B w0 n L wk → E wk → F wk → wpQuiet P [o0, o1, o2, o3, o4, o5, o6, o7, o8, o9, o10, o11, o12, o13, o14, o15, o16].toArray (fun _ => True) (fun a0 => wpQuiet P [o0, o1, o2, o3, o4, o5, o6, o7, o8, o9, o10, o11, o12, o13, o14, o15, o16].toArray (fun w' => ∃ s : KX B w0 n L E, w' = s.val) (fun a1 => wpQuiet P [o0, o1, o2, o3, o4, o5, o6, o7, o8, o9, o10, o11, o12, o13, o14, o15, o16].toArray (fun _ => True) (fun a2 => ((∀ K3 : Act → World → Prop, (∀ a3 w3, ((∀ K4 : Act → World → Prop, (∀ a4 w4, ((∀ K5 : Act → World → Prop, (∀ a5 w5, wpQuiet P [o0, o1, o2, o3, o4, o5, o6, o7, o8, o9, o10, o11, o12, o13, o14, o15, o16].toArray (fun _ => True) (fun a6 => ((∀ K7 : Act → World → Prop, (∀ a7 w7, Q .normal a7 w7 → K7 a7 w7) → wpList P [o0, o1, o2, o3, o4, o5, o6, o7, o8, o9, o10, o11, o12, o13, o14, o15, o16].toArray (fun e a7 w7 => e = .normal ∧ K7 a7 w7) [o16] a6 w5) ∧ True)) [o14, o15] a5 → K5 a5 w5) → wpList P [o0, o1, o2, o3, o4, o5, o6, o7, o8, o9, o10, o11, o12, o13, o14, o15, o16].toArray (fun e a5 w5 => e = .normal ∧ K5 a5 w5) [o13] a4 w4) ∧ True) → K4 a4 w4) → wpList P [o0, o1, o2, o3, o4, o5, o6, o7, o8, o9, o10, o11, o12, o13, o14, o15, o16].toArray (fun e a4 w4 => e = .normal ∧ (∃ s : KX B w0 n L E, w4 = s.val) ∧ K4 a4 w4) [o12] a3 w3) ∧ True) → K3 a3 w3) → wpList P [o0, o1, o2, o3, o4, o5, o6, o7, o8, o9, o10, o11, o12, o13, o14, o15, o16].toArray (fun e a3 w3 => e = .normal ∧ (∃ s : KX B w0 n L E, w3 = s.val) ∧ K3 a3 w3) [o5] a2 wk) ∧ (∀ K3 : Act → World → Prop, (∀ a3 w3, ((∀ K4 : Act → World → Prop, (∀ a4 w4, ((∀ K5 : Act → World → Prop, (∀ a5 w5, wpQuiet P [o0, o1, o2, o3, o4, o5, o6, o7, o8, o9, o10, o11, o12, o13, o14, o15, o16].toArray (fun _ => True) (fun a6 => ((∀ K7 : Act → World → Prop, (∀ a7 w7, Q .normal a7 w7 → K7 a7 w7) → wpList P [o0, o1, o2, o3, o4, o5, o6, o7, o8, o9, o10, o11, o12, o13, o14, o15, o16].toArray (fun e a7 w7 => e = .normal ∧ K7 a7 w7) [o16] a6 w5) ∧ True)) [o14, o15] a5 → K5 a5 w5) → wpList P [o0, o1, o2, o3, o4, o5, o6, o7, o8, o9, o10, o11, o12, o13, o14, o15, o16].toArray (fun e a5 w5 => e = .normal ∧ K5 a5 w5) [o13] a4 w4) ∧ True) → K4 a4 w4) → wpList P [o0, o1, o2, o3, o4, o5, o6, o7, o8, o9, o10, o11, o12, o13, o14, o15, o16].toArray (fun e a4 w4 => e = .normal ∧ (∃ s : KX B w0 n L E, w4 = s.val) ∧ K4 a4 w4) [o5] a3 w3) ∧ True) → K3 a3 w3) → wpList P [o0, o1, o2, o3, o4, o5, o6, o7, o8, o9, o10, o11, o12, o13, o14, o15, o16].toArray (fun e a3 w3 => e = .normal ∧ (∃ s : KX B w0 n L E, w3 = s.val) ∧ K3 a3 w3) [o12] a2 wk) ∧ True)) [o11] a1) [o4, o6, o10] a0) [o0, o1, o2, o3, o7, o8, o9] a) : (Code.region id [o0, o1, o2, o3, o4, o5, o6, o7, o8, o9, o10, o11, o12, o13, o14, o15, o16].toArray true).wp P Q a w := by
  have e1 : E w.drew := hE _ _ he ((Below.refl _ _).drew)
  have g := h _ k.drew e1 (hF _ _ hf ((Below.refl _ _).drew))
  exact wp_region_scr (U := (fun w' => ∃ s : KX B w0 n L E, w' = s.val)) (ops := [o0, o1, o2, o3, o4, o5, o6, o7, o8, o9, o10, o11, o12, o13, o14, o15, o16].toArray) (.free 0 (.free 1 (.free 2 (.free 3 (.free 7 (.free 8 (.free 9 (.read 4 (.read 6 (.read 10 (.free 11 (.alt 5 (.alt 12 (.altc 13 (.free 14 (.free 15 (.altc 16 .done .stop))) .stop) .stop) (.alt 12 (.alt 5 (.altc 13 (.free 14 (.free 15 (.altc 16 .done .stop))) .stop) .stop) .stop))))))))))))) [4, 6, 10] [0, 1, 2, 3, 7, 8, 9, 11, 14, 15] hm hB ⟨⟨_, k.drew, e1⟩, rfl⟩ (Scr.of_free rfl g (fun _ g0 => Scr.of_free rfl g0 (fun _ g1 => Scr.of_free rfl g1 (fun _ g2 => Scr.of_free rfl g2 (fun _ g3 => Scr.of_free rfl g3 (fun _ g4 => Scr.of_free rfl g4 (fun _ g5 => Scr.of_free rfl g5 (fun _ g6 => Scr.of_read rfl g6 (fun _ g7 => Scr.of_read rfl g7 (fun _ g8 => Scr.of_read rfl g8 (fun _ g9 => Scr.of_free rfl g9 (fun _ g10 => (Scr.of_alt rfl (g10.1 _ (fun _ _ g => g)) (fun _ _ g11 => (Scr.of_alt rfl (g11.1 _ (fun _ _ g => g)) (fun _ _ g12 => (Scr.of_altc rfl (g12.1 _ (fun _ _ g => g)) (fun _ _ g13 => Scr.of_free rfl g13 (fun _ g14 => Scr.of_free rfl g14 (fun _ g15 => (Scr.of_altc rfl (g15.1 _ (fun _ _ g => g)) (fun _ _ g16 => g16) trivial)))) trivial)) trivial)) (Scr.of_alt rfl (g10.2.1 _ (fun _ _ g => g)) (fun _ _ g11 => (Scr.of_alt rfl (g11.1 _ (fun _ _ g => g)) (fun _ _ g12 => (Scr.of_altc rfl (g12.1 _ (fun _ _ g => g)) (fun _ _ g13 => Scr.of_free rfl g13 (fun _ g14 => Scr.of_free rfl g14 (fun _ g15 => (Scr.of_altc rfl (g15.1 _ (fun _ _ g => g)) (fun _ _ g16 => g16) trivial)))) trivial)) trivial)) trivial))))))))))))))
theorem Rw.none0 {α : Type} {f : α → List Value} {sz : Nat} {w : World} {n c : Nat} {l : List α} (h : Rw f sz w (.slice none n c) l) : n = 0 ∧ c = 0 := by
  rcases h with ⟨_, h | ⟨a, cap, h⟩⟩ | ⟨_, _, b, off, cap, h, _⟩
  · cases h; exact ⟨rfl, rfl⟩
  · cases h
  · cases h
theorem ShR.cap {w : World} {a : Option Addr} {n c : Nat} {l : List (Pu × Int)} (h : ShR w (.slice a n c) l) : n ≤ c := by
  obtain ⟨_, _, _, _, _, h⟩ := h
  exact h a n c rfl
theorem ShR.none0 {w : World} {n c : Nat} {l : List (Pu × Int)} (h : ShR w (.slice none n c) l) : n = 0 ∧ c = 0 := by
  obtain ⟨_, _, h, _⟩ := h
  exact Rw.none0 h
/-- append onto a slice without room -/
theorem wpList_append_full {α : Type} {f : α → List Value} {sz : Nat} {P : Program} {w : World} {ops : Array Oper} {rest : List Oper} {o : Oper} {a : Act} {Q : Exit → Act → World → Prop} (hgd : o.guard = none) (s x : Operand) (t : TypeId)
    (ho : o.op = .call { callee := .builtin .append, args := #[s, x], argTypes := #[t, t] })
    (e : TypeId) (z : Value) (bytes : Nat) (ht : P.underlying t = some (.slice e)) (hi : (P.info? e).map (fun i => (i.zero, i.size, i.bytes)) = some (some z, sz, bytes))
    (hzs : z.cells.size = sz) (hsz : 0 < sz) (ao : Option Addr) (l : List α) (hs : a.eval s = .slice ao l.length l.length) (hr : Rw f sz w (.slice ao l.length l.length) l) (hf : ∀ x, (f x).length = sz ∧ ∀ u ∈ f x, u.oneCell' = true)
    (u : Value) (y : α) (hx : a.eval x = u) (hm : Rw f sz w u [y]) (h63 : l.length + 1 ≤ maxLen) (hbytes : (l.length + 1) * bytes ≤ 140737488355328)
    (h : ∀ v' w', Ow f sz e w' w.heap.size v' (l ++ [y]) → w.grownBy w' none → wpList P ops Q rest (a.put o.dst v') w') : wpList P ops Q (o :: rest) a w := by
  obtain ⟨i, hi2, hz, hsize, hby⟩ : ∃ i, P.info? e = some i ∧ i.zero = some z ∧ i.size = sz ∧ i.bytes = bytes := by
    cases hi0 : P.info? e with
    | none => rw [hi0] at hi; simp at hi
    | some i =>
      rw [hi0] at hi
      simp at hi
      exact ⟨i, rfl, hi.1, hi.2.1, hi.2.2⟩
  rcases hm with ⟨h0, _⟩ | ⟨_, _, b2, o2, c2, rfl, hlt2, hc2⟩
  · cases h0
  have hcells : ∀ b, ao = some b → ∀ j u, (l.flatMap f)[j]? = some u → w.cell? (b.add j) = some u := by
    intro b hb j u hj
    obtain ⟨i, j', q, h2, h3, rfl⟩ := flat_of (fun x _ => (hf x).1) hj
    rcases hr with ⟨h0, _⟩ | ⟨_, _, b', off, cap, hv, hlt, hc⟩
    · rw [h0] at h2; simp at h2
    · cases hv
      cases hb
      rw [WideShapes.add_plain]
      exact hc i q h2 j' u h3
  refine wpList_append_grows w hgd s x t ho e i z sz bytes ht hi2 hz hsize hby hzs hsz ao l.length l.length (l.flatMap f) hs (fun hn => ?_) (flat_length (fun x _ => (hf x).1)) hcells ⟨b2, o2, none⟩ 1 c2 (f y) hx (by rw [(hf y).1]; omega) ?_ (hf y).2 (by omega) h63 hbytes ?_
  · subst hn; exact Rw.none0 hr
  · intro j u hj
    rw [WideShapes.add_plain]
    have := hc2 0 y rfl j u hj
    rwa [Nat.zero_mul, Nat.zero_add] at this
  · intro v' w' h1 h2
    refine h v' w' ?_ h2
    unfold Ow
    rw [List.length_append, List.flatMap_append]
    simpa using h1
set_option maxRecDepth 100000 in
set_option maxHeartbeats 4000000 in
theorem wpList_bs_sh {ops : Array Oper} {rest : List Oper} {op : Oper} {a : Act} {w : World} {Q : Exit → Act → World → Prop} (hgd : op.guard = none) (P : Pu) (s : Ps) (n : Int) (y : Operand) (ho : op.op = .buildSlice 71 1 #[(0, y)]) (hy : a.eval y = .agg (shc ((P, s), n)).toArray)
    (hK : ∀ w', Hid (w' = w.alloc (.cells (shc ((P, s), n)).toArray 93)) → wpList Try.prog ops Q rest (a.put op.dst (.slice (some ⟨w.heap.size, 0, none⟩) 1 1)) w') : wpList Try.prog ops Q (op :: rest) a w := by
  obtain ⟨i, hi2, hz, hsize, hby⟩ : ∃ i, Try.prog.info? 93 = some i ∧ i.zero = some (.agg #[.int .i64 0, .int .i64 0, .int .i64 0, .int .i64 0, .int .i64 0, .int .i64 0, .int .i64 0, .slice none 0 0, .slice none 0 0, .bool false, .bool false, .bool false, .int .i64 0, .int .i64 0, .int .i64 0, .int .i64 0, .int .i64 0, .int .i64 0, .int .i64 0, .int .i64 0, .int .i64 0, .slice none 0 0, .slice none 0 0, .bool false, .bool false, .bool false, .int .i64 0, .int .i64 0, .slice none 0 0, .slice none 0 0, .slice none 0 0, .slice none 0 0, .int .i64 0, .int .i64 0, .int .i64 0, .int .i64 0, .int .i64 0, .int .u64 0]) ∧ i.size = 38 ∧ i.bytes = 400 := by
    have hi := infoS
    cases hi0 : Try.prog.info? 93 with
    | none => rw [hi0] at hi; simp at hi
    | some i =>
      rw [hi0] at hi
      simp at hi
      exact ⟨i, rfl, hi.1, hi.2.1, hi.2.2⟩
  refine wpList_buildSlice hgd 71 93 1 #[(0, y)] ho (shc ((P, s), n)).toArray i _ Try.underlying71 hi2 hz (by rw [hsize]; decide) (by rw [hsize]; decide) ?_ (hK _ (Lib.hid rfl))
  rw [hsize]
  have e : (#[(0, y)].map fun (i, x) => (i, a.eval x)).toList = [(0, .agg (shc ((P, s), n)).toArray)] := by simp [hy]
  rw [e]
  have hl : (shc ((P, s), n)).length = 38 := (shc_ok _).1
  have := Great.fill_whole (s := 38) (by omega) [.agg (shc ((P, s), n)).toArray] ((Array.range (1 * 38)).map fun k => ((.agg #[.int .i64 0, .int .i64 0, .int .i64 0, .int .i64 0, .int .i64 0, .int .i64 0, .int .i64 0, .slice none 0 0, .slice none 0 0, .bool false, .bool false, .bool false, .int .i64 0, .int .i64 0, .int .i64 0, .int .i64 0, .int .i64 0, .int .i64 0, .int .i64 0, .int .i64 0, .int .i64 0, .slice none 0 0, .slice none 0 0, .bool false, .bool false, .bool false, .int .i64 0, .int .i64 0, .slice none 0 0, .slice none 0 0, .slice none 0 0, .slice none 0 0, .int .i64 0, .int .i64 0, .int .i64 0, .int .i64 0, .int .i64 0, .int .u64 0] : Value).cells[k % (.agg #[.int .i64 0, .int .i64 0, .int .i64 0, .int .i64 0, .int .i64 0, .int .i64 0, .int .i64 0, .slice none 0 0, .slice none 0 0, .bool false, .bool false, .bool false, .int .i64 0, .int .i64 0, .int .i64 0, .int .i64 0, .int .i64 0, .int .i64 0, .int .i64 0, .int .i64 0, .int .i64 0, .slice none 0 0, .slice none 0 0, .bool false, .bool false, .bool false, .int .i64 0, .int .i64 0, .slice none 0 0, .slice none 0 0, .slice none 0 0, .slice none 0 0, .int .i64 0, .int .i64 0, .int .i64 0, .int .i64 0, .int .i64 0, .int .u64 0] : Value).cells.size]!)) (fun v hv => by simp at hv; subst hv; simpa [Value.cells] using hl) (by simp)
  have e2 : (([.agg (shc ((P, s), n)).toArray] : List Value).flatMap fun v => v.cells.toList).toArray = (shc ((P, s), n)).toArray := by simp [Value.cells]
  rw [e2] at this
  exact this
set_option maxRecDepth 100000 in
theorem build_sh (P : Pu) (s : Ps) (n : Int) (w : World) : (Instr.build 93 #[(0, pv s P), (1, .int .u64 n)]).run Try.prog w = .ok (.agg (shc ((P, s), n)).toArray) w := run_build w 93 _ _ (by kernel_rfl)
theorem quiet_build_sh {C : World → Prop} {K : Act → Prop} {a a' : Act} {op : Oper} {P : Pu} {s : Ps} {n : Int} (x y : Operand) (ho : op.op = .build 93 #[(0, x), (1, y)]) (hx : a.eval x = pv s P) (hy : a.eval y = .int .u64 n) (ha : a.put op.dst (.agg (shc ((P, s), n)).toArray) = a') (hk : K a') : op.quiet Try.prog a C K := by
  subst ha
  refine ⟨.agg (shc ((P, s), n)).toArray, fun w hw => ?_, hk⟩
  have r : (execOp a.eval op).run Try.prog w = .ok (.value (.agg (shc ((P, s), n)).toArray)) w := by
    unfold execOp
    rw [ho]
    have e : (#[(0, x), (1, y)].map fun (i, x) => (i, a.eval x)) = #[(0, pv s P), (1, .int .u64 n)] := by simp [hx, hy]
    show (Bind.bind (Instr.build 93 (#[(0, x), (1, y)].map fun (i, x) => (i, a.eval x))) (fun v => pure (Next.value v)) : Sem Next).run Try.prog w = _
    rw [e, Sem.run_bind, build_sh]
    rfl
  unfold Oper.quietAt
  rw [r]
  exact ⟨rfl, rfl⟩
set_option maxRecDepth 100000 in
set_option maxHeartbeats 4000000 in
/-- a whole row is read, in a region that draws its order -/
theorem quiet_load_g {C : World → Prop} {K : Act → Prop} {a a' : Act} {op : Oper} {b o : Nat} {T : TypeId} {cs : List Value} {d : TypeDesc} (p : Operand) (ho : op.op = .load T p) (hx : a.eval p = .pointer (some ⟨b, o, none⟩)) (h : ∀ w, C w → w.rangeAt b o cs) (hu : Try.prog.underlying T = some d) (hd : d.isRow = true) (hi : (Try.prog.info? T).map (·.size) = some cs.length) (ha : a.put op.dst (.agg cs.toArray) = a') (hk : K a') : op.quiet Try.prog a C K := by
  subst ha
  refine ⟨.agg cs.toArray, fun w hw => ?_, hk⟩
  have e := run_loadAt_mid (P := Try.prog) w b o T cs _ (h w hw) hu hd hi
  have r : (execOp a.eval op).run Try.prog w = .ok (.value (.agg cs.toArray)) w := by
    unfold execOp
    rw [ho]
    show (Bind.bind (Instr.loadAt T (a.eval p)) (fun v => pure (Next.value v)) : Sem Next).run Try.prog w = _
    rw [hx, Sem.run_bind, e]
    rfl
  unfold Oper.quietAt
  rw [r]
  exact ⟨rfl, rfl⟩
theorem quiet_load_px {C : World → Prop} {K : Act → Prop} {a a' : Act} {op : Oper} {b : Nat} {s : Ps} {P : Pu} (p : Operand) (ho : op.op = .load 49 p) (hx : a.eval p = .pointer (some ⟨b, 0, none⟩)) (h : ∀ w, C w → Px w b s P) (ha : a.put op.dst (pv s P) = a') (hk : K a') : op.quiet Try.prog a C K :=
  quiet_load_g (cs := (pcells s P).toList) p ho hx (fun w hw => (h w hw).all) Try.underlying49 rfl (by kernel_rfl) (by rw [Array.toArray_toList]; exact ha) hk
set_option maxRecDepth 100000 in
set_option maxHeartbeats 4000000 in
theorem show_nil (s' : Bs) (B : Bd) (t : Int) (w : World) : Calls Try.prog 11 #[.pointer none, .int .u64 t, bv s' B] w fun e w' => e = .returned (.int .i64 1) ∧ Below w.heap.size w w' := by
  go_enter Try.func11, Try.ntmps11
  go_upto_region 1 with fail
  change Code.wp Try.prog _ _ _ (w.alloc (.cells (bcells s' B) 34))
  obtain ⟨wz, hwz⟩ : ∃ W, W = w.alloc (.cells (bcells s' B) 34) := ⟨_, rfl⟩
  have hb : Below w.heap.size w wz := by rw [hwz]; exact (Below.refl _ _).alloc (Nat.le_refl _) _
  have HB := Lib.hid hb
  rw [← hwz]
  clear hwz hb
  go_wp2_with fail
  with_reducible refine (none_nil _).mono ?_
  rintro e w2 ⟨rfl, rfl⟩
  go_wp2_with fail
  go_returns
  exact ⟨rfl, HB.out⟩
set_option maxRecDepth 100000 in
set_option maxHeartbeats 4000000 in
theorem show_zero (P : Nat) (s' : Bs) (B : Bd) (t : Int) (w : World) (h : ZeroAt w P) : Calls Try.prog 11 #[.pointer (some ⟨P, 0, none⟩), .int .u64 t, bv s' B] w fun e w' => e = .returned (.int .i64 1) ∧ Below w.heap.size w w' := by
  have HZ := Lib.hid h
  clear h
  go_enter Try.func11, Try.ntmps11
  go_upto_region 1 with fail
  change Code.wp Try.prog _ _ _ (w.alloc (.cells (bcells s' B) 34))
  obtain ⟨wz, hwz⟩ : ∃ W, W = w.alloc (.cells (bcells s' B) 34) := ⟨_, rfl⟩
  have hb : Below w.heap.size w wz := by rw [hwz]; exact (Below.refl _ _).alloc (Nat.le_refl _) _
  have HB := Lib.hid hb
  replace HZ : Hid (ZeroAt wz P) := Lib.hid ((hb.block P (Array.getElem?_eq_some_iff.1 HZ.out).1).trans HZ.out)
  rw [← hwz]
  clear hwz hb
  go_wp2_with fail
  with_reducible refine (none_zero P _ HZ.out).mono ?_
  rintro e w2 ⟨rfl, rfl⟩
  go_wp2_with fail
  go_returns
  exact ⟨rfl, HB.out⟩
set_option maxRecDepth 100000 in
set_option maxHeartbeats 4000000 in
theorem show_bad (P : Nat) (s : Sd) (v : Sl) (s' : Bs) (B : Bd) (t : Int) (w : World) (h : SdAt w P s v) (hr : BdR w s' B) (hi : B.I) (hsm : B.Sm) (hv : ¬ VB B) : Calls Try.prog 11 #[.pointer (some ⟨P, 0, none⟩), .int .u64 t, bv s' B] w fun e w' => e = .returned (.int .i64 2) ∧ Below w.heap.size w w' := by
  have HS := Lib.hid h
  have HR := Lib.hid hr
  have HI := Lib.hid hi
  have HSM := Lib.hid hsm
  have HV := Lib.hid hv
  clear h hr hi hsm hv
  go_enter Try.func11, Try.ntmps11
  go_upto_region 1 with fail
  change Code.wp Try.prog _ _ _ (w.alloc (.cells (bcells s' B) 34))
  obtain ⟨wz, hwz⟩ : ∃ W, W = w.alloc (.cells (bcells s' B) 34) := ⟨_, rfl⟩
  have hb : Below w.heap.size w wz := by rw [hwz]; exact (Below.refl _ _).alloc (Nat.le_refl _) _
  have HB := Lib.hid hb
  have HX : Hid (Bx wz w.heap.size s' B) := Lib.hid (by rw [hwz]; exact heap_alloc_new _ _)
  replace HS := Lib.hid (HS.out.below hb)
  replace HR := Lib.hid (HR.out.below hb)
  rw [← hwz]
  clear hwz hb
  go_wp2_with fail
  with_reducible refine (none_ok P s v _ HS.out).mono ?_
  rintro e w2 ⟨rfl, rfl⟩
  go_wp2_with (refine wpList_load_bx _ rfl rfl HX.out (by kernel_rfl) ?_)
  with_reducible refine (sof_bad s' B _ HR.out HI.out HSM.out HV.out).mono ?_
  rintro e w3 ⟨sp, rfl, ho, hb⟩
  replace HB := Lib.hid (below_via HB.out hb)
  clear ho hb HX HS HR
  go_wp2_with (refine wpList_store_ph (s := sp) (P := zeroPu) rfl _ _ rfl rfl rfl (heap_alloc_new _ _) rfl ?_; intro w9 hw9)
  have HB9 := Lib.hid (below_via HB.out (pboxed hw9.out).1)
  clear hw9
  go_wp2_with fail
  go_returns
  exact ⟨rfl, HB9.out⟩
set_option maxRecDepth 100000 in
set_option maxHeartbeats 4000000 in
theorem show_full (P : Nat) (s : Sd) (v : Sl) (s' : Bs) (B : Bd) (t : Int) (w : World) (h : SdAt w P s v) (hr : BdR w s' B) (hi : B.I) (hsm : B.Sm) (hv : VB B) (hu : U t) (hln : 100 ≤ (s.go t).l.length) : Calls Try.prog 11 #[.pointer (some ⟨P, 0, none⟩), .int .u64 t, bv s' B] w fun e w' => e = .returned (.int .i64 7) ∧ (∃ v', SdAt w' P (s.go t) v') ∧ Onl [P] w w' := by
  have HS := Lib.hid h
  have HR := Lib.hid hr
  have HI := Lib.hid hi
  have HSM := Lib.hid hsm
  have HV := Lib.hid hv
  have HU : Hid (U t) := Lib.hid hu
  have HP0 : Hid (P < w.heap.size) := Lib.hid h.lt
  clear h hr hi hsm hv hu
  go_enter Try.func11, Try.ntmps11
  go_upto_region 1 with fail
  change Code.wp Try.prog _ _ _ (w.alloc (.cells (bcells s' B) 34))
  obtain ⟨wz, hwz⟩ : ∃ W, W = w.alloc (.cells (bcells s' B) 34) := ⟨_, rfl⟩
  have hb : Below w.heap.size w wz := by rw [hwz]; exact (Below.refl _ _).alloc (Nat.le_refl _) _
  have HB := Lib.hid hb
  have HX : Hid (Bx wz w.heap.size s' B) := Lib.hid (by rw [hwz]; exact heap_alloc_new _ _)
  replace HS := Lib.hid (HS.out.below hb)
  replace HR := Lib.hid (HR.out.below hb)
  rw [← hwz]
  clear hwz hb
  go_wp2_with fail
  with_reducible refine (none_ok P s v _ HS.out).mono ?_
  rintro e w2 ⟨rfl, rfl⟩
  go_wp2_with (refine wpList_load_bx _ rfl rfl HX.out (by kernel_rfl) ?_)
  with_reducible refine (sof_ok s' B _ HR.out HI.out HSM.out HV.out).mono ?_
  rintro e w3 ⟨sp, rfl, ho, hb⟩
  have HB3 := Lib.hid (below_via HB.out hb)
  replace HB := Lib.hid (below_via HB.out hb)
  replace HS := Lib.hid (HS.out.below hb)
  have HO := Lib.hid (ho.mono (Nat.zero_le _) (Nat.le_refl _))
  clear ho hb HX HR
  go_wp2_with (refine wpList_store_ph (s := sp) (P := puB B) rfl _ _ rfl rfl rfl (heap_alloc_new _ _) rfl ?_; intro w9 hw9)
  have hb9 := (pboxed hw9.out).1
  have HPX := Lib.hid (pboxed hw9.out).2
  replace HB := Lib.hid (below_via HB.out hb9)
  replace HS := Lib.hid (HS.out.below hb9)
  replace HO : Hid (PuO 0 w9.heap.size w9 sp (puB B)) := Lib.hid ((HO.out.below hb9).mono (Nat.le_refl _) hb9.size)
  have HLT : Hid (P < w3.heap.size) := Lib.hid (by have h1 := HP0.out; have h2 := HB3.out.size; omega)
  clear hw9 hb9
  obtain ⟨q, hq⟩ : ∃ q, q = w3.heap.size := ⟨_, rfl⟩
  rw [← hq] at HPX HLT ⊢
  clear hq
  go_wp2_with fail
  with_reducible refine (goOn P s v t _ HS.out HU.out).mono ?_
  rintro e w4 ⟨rfl, v4, hs4, ho4⟩
  replace HPX := Lib.hid (HPX.out.onl ho4 (by have := HLT.out; simp; omega))
  replace HO : Hid (PuO 0 w4.heap.size w4 sp (puB B)) := Lib.hid ((PuO.onlT HO.out ho4 HS.out.blk (by decide)).mono (Nat.le_refl _) ho4.size)
  have HON : Hid (Onl [P] w w4) := Lib.hid ((Onl.of HB.out).trans ho4)
  obtain ⟨g, hg⟩ : ∃ g, s.go t = g := ⟨_, rfl⟩
  rw [hg] at hs4
  have HG := Lib.hid hg
  replace HS := Lib.hid hs4
  have hlen := hs4.len
  obtain ⟨va, vn, vc⟩ := v4
  change vn = g.l.length at hlen
  subst hlen
  have c3 : w4.cell? ⟨P, 3, none⟩ = some (.slice va g.l.length vc) := cell_of_row _ _ 3 _ 73 (0, 0) hs4.blk
  have tl : decide ((g.l.length : Int) ≥ 100) = true := by rw [hg] at hln; simp; omega
  clear hg ho4 hs4 HB
  go_wp2_with fail
  go_returns
  exact ⟨rfl, ⟨_, by rw [HG.out]; exact HS.out⟩, HON.out⟩
/-- a board is shown -/
def Plain.Sd.shw (s : Sd) (t : Int) (p : Pu) : Sd := Sd.go { s.go t with l := (s.go t).l ++ [(p, (s.go t).nw)] } t
set_option maxRecDepth 100000 in
set_option maxHeartbeats 4000000 in
theorem show_ok (P : Nat) (s : Sd) (v : Sl) (s' : Bs) (B : Bd) (t : Int) (w : World) (h : SdAt w P s v) (hr : BdR w s' B) (hi : B.I) (hsm : B.Sm) (hv : VB B) (hu : U t) (hln : (s.go t).l.length < 100) : Calls Try.prog 11 #[.pointer (some ⟨P, 0, none⟩), .int .u64 t, bv s' B] w fun e w' => e = .returned (.int .i64 0) ∧ (∃ v', SdAt w' P (s.shw t (puB B)) v') ∧ Onl [P] w w' := by
  have HS := Lib.hid h
  have HR := Lib.hid hr
  have HI := Lib.hid hi
  have HSM := Lib.hid hsm
  have HV := Lib.hid hv
  have HU : Hid (U t) := Lib.hid hu
  have HP0 : Hid (P < w.heap.size) := Lib.hid h.lt
  clear h hr hi hsm hv hu
  go_enter Try.func11, Try.ntmps11
  go_upto_region 1 with fail
  change Code.wp Try.prog _ _ _ (w.alloc (.cells (bcells s' B) 34))
  obtain ⟨wz, hwz⟩ : ∃ W, W = w.alloc (.cells (bcells s' B) 34) := ⟨_, rfl⟩
  have hb : Below w.heap.size w wz := by rw [hwz]; exact (Below.refl _ _).alloc (Nat.le_refl _) _
  have HB := Lib.hid hb
  have HX : Hid (Bx wz w.heap.size s' B) := Lib.hid (by rw [hwz]; exact heap_alloc_new _ _)
  replace HS := Lib.hid (HS.out.below hb)
  replace HR := Lib.hid (HR.out.below hb)
  rw [← hwz]
  clear hwz hb
  go_wp2_with fail
  with_reducible refine (none_ok P s v _ HS.out).mono ?_
  rintro e w2 ⟨rfl, rfl⟩
  go_wp2_with (refine wpList_load_bx _ rfl rfl HX.out (by kernel_rfl) ?_)
  with_reducible refine (sof_ok s' B _ HR.out HI.out HSM.out HV.out).mono ?_
  rintro e w3 ⟨sp, rfl, ho, hb⟩
  have HB3 := Lib.hid (below_via HB.out hb)
  replace HB := Lib.hid (below_via HB.out hb)
  replace HS := Lib.hid (HS.out.below hb)
  have HO := Lib.hid (ho.mono (Nat.zero_le _) (Nat.le_refl _))
  clear ho hb HX HR
  go_wp2_with (refine wpList_store_ph (s := sp) (P := puB B) rfl _ _ rfl rfl rfl (heap_alloc_new _ _) rfl ?_; intro w9 hw9)
  have hb9 := (pboxed hw9.out).1
  have HPX := Lib.hid (pboxed hw9.out).2
  replace HB := Lib.hid (below_via HB.out hb9)
  replace HS := Lib.hid (HS.out.below hb9)
  replace HO : Hid (PuO 0 w9.heap.size w9 sp (puB B)) := Lib.hid ((HO.out.below hb9).mono (Nat.le_refl _) hb9.size)
  have HLT : Hid (P < w3.heap.size) := Lib.hid (by have h1 := HP0.out; have h2 := HB3.out.size; omega)
  clear hw9 hb9
  obtain ⟨q, hq⟩ : ∃ q, q = w3.heap.size := ⟨_, rfl⟩
  rw [← hq] at HPX HLT ⊢
  clear hq
  go_wp2_with fail
  with_reducible refine (goOn P s v t _ HS.out HU.out).mono ?_
  rintro e w4 ⟨rfl, v4, hs4, ho4⟩
  replace HPX := Lib.hid (HPX.out.onl ho4 (by have := HLT.out; simp; omega))
  replace HO : Hid (PuO 0 w4.heap.size w4 sp (puB B)) := Lib.hid ((PuO.onlT HO.out ho4 HS.out.blk (by decide)).mono (Nat.le_refl _) ho4.size)
  have HON : Hid (Onl [P] w w4) := Lib.hid ((Onl.of HB.out).trans ho4)
  obtain ⟨g, hg⟩ : ∃ g, s.go t = g := ⟨_, rfl⟩
  rw [hg] at hs4
  have HG := Lib.hid hg
  replace HS := Lib.hid hs4
  have hlen := hs4.len
  obtain ⟨va, vn, vc⟩ := v4
  change vn = g.l.length at hlen
  subst hlen
  have c3 : w4.cell? ⟨P, 3, none⟩ = some (.slice va g.l.length vc) := cell_of_row _ _ 3 _ 73 (0, 0) hs4.blk
  have tl : decide ((g.l.length : Int) ≥ 100) = false := by rw [hg] at hln; simp; omega
  clear hg ho4 hs4 HB
  have HLN : Hid (g.l.length < 100) := Lib.hid (by rw [← HG.out]; exact hln)
  have HLM : Hid (g.l.length ≤ 9223372036854775807) := Lib.hid (by have := HLN.out; omega)
  clear hln
  go_upto_region 9 with fail
  clear tl
  refine rg11_9 (w0 := w4) (B := w4.heap.size) (n := w4.heap.size) (L := []) (E := fun W => SdAt W P g ⟨va, g.l.length, vc⟩ ∧ Px W q sp (puB B)) (F := fun _ => True) (by kernel_rfl) (by kernel_rfl) ⟨by go_grown, by go_size, (by simp [go_sem] <;> omega)⟩ ⟨HS.out, HPX.out⟩ (fun _ _ h hb => ⟨h.1.below hb, h.2.below hb⟩) trivial (fun _ _ _ _ => trivial) (fun w31 K_w31 E_w31 F_w31 => ?_)
  have _ne : Nonempty (KX (w4.heap.size) w4 (w4.heap.size) [] (fun W => SdAt W P g ⟨va, g.l.length, vc⟩ ∧ Px W q sp (puB B))) := ⟨⟨_, K_w31, E_w31⟩⟩
  have qp : ∀ W', (∃ s' : KX (w4.heap.size) w4 (w4.heap.size) [] (fun W => SdAt W P g ⟨va, g.l.length, vc⟩ ∧ Px W q sp (puB B)), W' = s'.val) → Px W' q sp (puB B) := by rintro _ ⟨s', rfl⟩; exact s'.ex.2
  repeat (first | (go_big_quiet_want; (first | apply quiet_load_px _ rfl rfl qp | apply quiet_build_sh _ _ rfl rfl rfl); (focus (simp [go_sem]; rfl)); go_big_quiet_on) | go_big_quiet_step (fail))
  refine wpQuiet_nil ?_
  have r3 : ∀ s : KX (w4.heap.size) w4 (w4.heap.size) [] (fun W => SdAt W P g ⟨va, g.l.length, vc⟩ ∧ Px W q sp (puB B)), s.val.cell? ⟨P, 3, none⟩ = some (.slice va g.l.length vc) := fun s => cell_of_row _ _ 3 _ 73 (0, 0) s.ex.1.blk
  have r2 : ∀ s : KX (w4.heap.size) w4 (w4.heap.size) [] (fun W => SdAt W P g ⟨va, g.l.length, vc⟩ ∧ Px W q sp (puB B)), s.val.cell? ⟨P, 2, none⟩ = some (.int .u64 g.nw) := fun s => cell_of_row _ _ 2 _ 73 (0, 0) s.ex.1.blk
  repeat (first | (go_big_quiet_want; (first | apply quiet_load_px _ rfl rfl qp | apply quiet_build_sh _ _ rfl rfl rfl); (focus (simp [go_sem]; rfl)); go_big_quiet_on) | go_big_quiet_step (fail))
  refine wpQuiet_nil ?_
  clear r3 r2
  repeat (first | (go_big_quiet_want; (first | apply quiet_load_px _ rfl rfl qp | apply quiet_build_sh _ _ rfl rfl rfl); (focus (simp [go_sem]; rfl)); go_big_quiet_on) | go_big_quiet_step (fail))
  refine wpQuiet_nil ?_
  have KH_w31 := Lib.hid K_w31
  have hw_w31 := K_w31.below
  have hz_w31 := K_w31.size
  clear K_w31
  have HE1 := Lib.hid E_w31
  clear E_w31 F_w31
  refine ⟨fun K hK0 => ?_, fun K hK0 => ?_, trivial⟩
  · skip
    have hK := Lib.hid hK0
    clear hK0
    have HBW : Hid (Below w4.heap.size w4 w31) := Lib.hid KH_w31.out.below
    replace HS := Lib.hid HE1.out.1
    replace HPX := Lib.hid HE1.out.2
    replace HO : Hid (PuO 0 w31.heap.size w31 sp (puB B)) := Lib.hid ((HO.out.below HBW.out).mono (Nat.le_refl _) HBW.out.size)
    clear HE1
    go_wp2_with fail
    with_reducible refine (clip va g.l.length vc w31 (ShR.cap HS.out.list) (fun e => by subst e; exact ShR.none0 HS.out.list) HLM.out).mono ?_
    rintro e w99 ⟨rfl, rfl⟩
    go_wp2_with fail
    first | (refine ⟨rfl, ⟨⟨_, (⟨HBW.out, HBW.out.size, by simp⟩ : Kept w4.heap.size w4 (w4.heap.size) [] w31), HS.out, HPX.out⟩, rfl⟩, hK.out _ _ ?_⟩; clear hK K) | (refine ⟨⟨⟨_, (⟨HBW.out, HBW.out.size, by simp⟩ : Kept w4.heap.size w4 (w4.heap.size) [] w31), HS.out, HPX.out⟩, rfl⟩, hK.out _ _ ?_⟩; clear hK K)
    refine ⟨fun K hK0 => ?_, trivial⟩
    have hK := Lib.hid hK0
    clear hK0
    go_wp2_with (refine wpList_bs_sh rfl (puB B) sp g.nw _ rfl rfl ?_)
    intro u1 hw0
    have hb : Below w31.heap.size w31 u1 := by rw [hw0.out]; exact (Below.refl _ _).alloc (Nat.le_refl _) _
    have HRO : Hid (u1.heap[w31.heap.size]? = some (.cells (shc ((puB B, sp), g.nw)).toArray 93 (0, 0))) := Lib.hid (by rw [hw0.out]; exact heap_alloc_new _ _)
    obtain ⟨rb, hrb⟩ : ∃ n, n = w31.heap.size := ⟨_, rfl⟩
    rw [← hrb] at HRO ⊢
    replace HS := Lib.hid (HS.out.below hb)
    replace HPX := Lib.hid (HPX.out.below hb)
    replace HO : Hid (PuO 0 u1.heap.size u1 sp (puB B)) := Lib.hid ((HO.out.below hb).mono (Nat.le_refl _) hb.size)
    replace HBW := Lib.hid (below_via HBW.out hb)
    clear hw0 hb hrb
    go_wp2_with fail
    first | (refine ⟨rfl, ⟨⟨_, (⟨HBW.out, HBW.out.size, by simp⟩ : Kept w4.heap.size w4 (w4.heap.size) [] u1), HS.out, HPX.out⟩, rfl⟩, hK.out _ _ ?_⟩; clear hK K) | (refine ⟨⟨⟨_, (⟨HBW.out, HBW.out.size, by simp⟩ : Kept w4.heap.size w4 (w4.heap.size) [] u1), HS.out, HPX.out⟩, rfl⟩, hK.out _ _ ?_⟩; clear hK K)
    refine ⟨fun K hK0 => ?_, trivial⟩
    have hK := Lib.hid hK0
    clear hK0
    obtain ⟨l', hl', hrw, hpu, hty, hcap⟩ := HS.out.list
    have hll : l'.length = g.l.length := by rw [← hl', List.length_map]
    replace hl' : l'.map (fun x => (x.1.1, x.2)) = g.l := hl'
    replace hrw : Rw shc 38 u1 (.slice va g.l.length vc) l' := hrw
    have HRW : Hid (Rw shc 38 u1 (.slice va l'.length l'.length) l') := Lib.hid (by
      have h := Rw.take hrw (k := g.l.length) (Nat.le_refl _) l'.length (fun e => by
        subst e
        have := Rw.none0 hrw
        omega)
      rw [← hll, List.take_length] at h
      exact h)
    have HR1 : Hid (Rw shc 38 u1 (.slice (some ⟨rb, 0, none⟩) 1 1) [((puB B, sp), g.nw)]) := Lib.hid (.inr ⟨by simp, by simp [maxLen], rb, 0, 1, rfl, (Array.getElem?_eq_some_iff.1 HRO.out).1, fun i y hi j u hu => by
      have hi0 : i = 0 := by have := (List.getElem?_eq_some_iff.1 hi).1; simp at this; omega
      subst hi0
      simp at hi
      subst hi
      rw [show 0 + (0 * 38 + j) = j by omega, cell_of_row _ _ j _ 93 (0, 0) HRO.out, ← Array.getElem?_toList]
      exact hu⟩)
    have HPU := Lib.hid hpu
    have HLL := Lib.hid hl'
    have HLE := Lib.hid hll
    clear hrw hpu hty hcap hl'
    rw [← hll]
    clear hll
    go_wp2_with (at_builtin; refine wpList_append_full (f := shc) (sz := 38) rfl _ _ 71 rfl 93 (.agg #[.int .i64 0, .int .i64 0, .int .i64 0, .int .i64 0, .int .i64 0, .int .i64 0, .int .i64 0, .slice none 0 0, .slice none 0 0, .bool false, .bool false, .bool false, .int .i64 0, .int .i64 0, .int .i64 0, .int .i64 0, .int .i64 0, .int .i64 0, .int .i64 0, .int .i64 0, .int .i64 0, .slice none 0 0, .slice none 0 0, .bool false, .bool false, .bool false, .int .i64 0, .int .i64 0, .slice none 0 0, .slice none 0 0, .slice none 0 0, .slice none 0 0, .int .i64 0, .int .i64 0, .int .i64 0, .int .i64 0, .int .i64 0, .int .u64 0]) 400 Try.underlying71 infoS rfl (by decide) va l' rfl HRW.out shc_ok _ ((puB B, sp), g.nw) rfl HR1.out ?ca ?cb ?_)
    case ca => have h1 := HLE.out; have h2 := HLN.out; simp [maxLen]; omega
    case cb => have h1 := HLE.out; have h2 := HLN.out; omega
    intro vv u2 hown hgrow
    obtain ⟨na, nc, rfl⟩ := hown.form
    have hb : Below u1.heap.size u1 u2 := (Below.refl _ _).grown hgrow (Nat.le_refl _) (fun k hk => by cases hk)
    have HSH : Hid (ShR u2 (.slice na (l' ++ [((puB B, sp), g.nw)]).length nc) (g.l ++ [(puB B, g.nw)])) := Lib.hid (by
      have := ShR.own hown (fun x hx => by
        rcases List.mem_append.1 hx with h | h
        · exact ((HPU.out x h).below hb).mono (Nat.le_refl _) hb.size
        · simp at h; subst h; exact (HO.out.below hb).mono (Nat.le_refl _) hb.size)
      rw [List.map_append, HLL.out] at this
      exact this)
    have HLV : Hid ((l' ++ [((puB B, sp), g.nw)]).length = g.l.length + 1) := Lib.hid (by rw [List.length_append, HLE.out]; rfl)
    rw [HLV.out] at HSH ⊢
    replace HS := Lib.hid (HS.out.below hb)
    replace HBW := Lib.hid (below_via HBW.out hb)
    clear hown hgrow hb HRW HR1 HPU HRO HPX HO
    go_wp2_with fail
    first | (refine ⟨rfl, hK.out _ _ ?_⟩; clear hK K) | (refine hK.out _ _ ?_; clear hK K)
    repeat (first | (go_big_quiet_want; (first | apply quiet_load_px _ rfl rfl qp | apply quiet_build_sh _ _ rfl rfl rfl); (focus (simp [go_sem]; rfl)); go_big_quiet_on) | go_big_quiet_step (fail))
    refine wpQuiet_nil ?_
    refine ⟨fun K hK0 => ?_, trivial⟩
    have hK := Lib.hid hK0
    clear hK0
    have cc : u2.cell? ⟨P, 3, none⟩ = some (.slice va g.l.length vc) := cell_of_row _ _ 3 _ 73 (0, 0) HS.out.blk
    have fc : u2.frozen? ⟨P, 3, none⟩ = false := by unfold World.frozen?; rw [HS.out.blk]; simp
    have hp := HS.out.put 3 (.slice na (g.l.length + 1) nc) ⟨g.dl, g.nw, g.l ++ [(puB B, g.nw)]⟩ ⟨na, g.l.length + 1, nc⟩ rfl HSH.out HS.out.dl HS.out.nw (fun x hx => by
      rcases List.mem_append.1 hx with h | h
      · exact HS.out.at' x h
      · simp at h; subst h; exact HS.out.nw)
    have HPT := Lib.hid hp
    clear hp
    go_wp2_with fail
    clear cc fc
    obtain ⟨u3, hV⟩ : ∃ X, X = u2.setCell ⟨P, 3, none⟩ (.slice na (g.l.length + 1) nc) := ⟨_, rfl⟩
    rw [← hV] at HPT ⊢
    clear hV HSH
    replace HS := Lib.hid HPT.out.1
    have HON2 : Hid (Onl [P] w u3) := Lib.hid ((HON.out.trans (Onl.of HBW.out)).trans HPT.out.2)
    clear HPT
    first | (refine ⟨rfl, hK.out _ _ ?_⟩; clear hK K) | (refine hK.out _ _ ?_; clear hK K)
    clear _ne
    go_wp2_with fail
    with_reducible refine (goOn P _ _ t _ HS.out HU.out).mono ?_
    rintro e w8 ⟨rfl, v8, hs8, ho8⟩
    have HS8 := Lib.hid hs8
    have HO8 := Lib.hid (HON2.out.trans ho8)
    clear hs8 ho8
    go_wp2_with fail
    go_returns
    exact ⟨rfl, ⟨_, by rw [Sd.shw, HG.out]; exact HS8.out⟩, HO8.out⟩
  · skip
    have hK := Lib.hid hK0
    clear hK0
    have HBW : Hid (Below w4.heap.size w4 w31) := Lib.hid KH_w31.out.below
    replace HS := Lib.hid HE1.out.1
    replace HPX := Lib.hid HE1.out.2
    replace HO : Hid (PuO 0 w31.heap.size w31 sp (puB B)) := Lib.hid ((HO.out.below HBW.out).mono (Nat.le_refl _) HBW.out.size)
    clear HE1
    go_wp2_with (refine wpList_bs_sh rfl (puB B) sp g.nw _ rfl rfl ?_)
    intro u1 hw0
    have hb : Below w31.heap.size w31 u1 := by rw [hw0.out]; exact (Below.refl _ _).alloc (Nat.le_refl _) _
    have HRO : Hid (u1.heap[w31.heap.size]? = some (.cells (shc ((puB B, sp), g.nw)).toArray 93 (0, 0))) := Lib.hid (by rw [hw0.out]; exact heap_alloc_new _ _)
    obtain ⟨rb, hrb⟩ : ∃ n, n = w31.heap.size := ⟨_, rfl⟩
    rw [← hrb] at HRO ⊢
    replace HS := Lib.hid (HS.out.below hb)
    replace HPX := Lib.hid (HPX.out.below hb)
    replace HO : Hid (PuO 0 u1.heap.size u1 sp (puB B)) := Lib.hid ((HO.out.below hb).mono (Nat.le_refl _) hb.size)
    replace HBW := Lib.hid (below_via HBW.out hb)
    clear hw0 hb hrb
    go_wp2_with fail
    first | (refine ⟨rfl, ⟨⟨_, (⟨HBW.out, HBW.out.size, by simp⟩ : Kept w4.heap.size w4 (w4.heap.size) [] u1), HS.out, HPX.out⟩, rfl⟩, hK.out _ _ ?_⟩; clear hK K) | (refine ⟨⟨⟨_, (⟨HBW.out, HBW.out.size, by simp⟩ : Kept w4.heap.size w4 (w4.heap.size) [] u1), HS.out, HPX.out⟩, rfl⟩, hK.out _ _ ?_⟩; clear hK K)
    refine ⟨fun K hK0 => ?_, trivial⟩
    have hK := Lib.hid hK0
    clear hK0
    go_wp2_with fail
    with_reducible refine (clip va g.l.length vc u1 (ShR.cap HS.out.list) (fun e => by subst e; exact ShR.none0 HS.out.list) HLM.out).mono ?_
    rintro e w99 ⟨rfl, rfl⟩
    go_wp2_with fail
    first | (refine ⟨rfl, ⟨⟨_, (⟨HBW.out, HBW.out.size, by simp⟩ : Kept w4.heap.size w4 (w4.heap.size) [] u1), HS.out, HPX.out⟩, rfl⟩, hK.out _ _ ?_⟩; clear hK K) | (refine ⟨⟨⟨_, (⟨HBW.out, HBW.out.size, by simp⟩ : Kept w4.heap.size w4 (w4.heap.size) [] u1), HS.out, HPX.out⟩, rfl⟩, hK.out _ _ ?_⟩; clear hK K)
    refine ⟨fun K hK0 => ?_, trivial⟩
    have hK := Lib.hid hK0
    clear hK0
    obtain ⟨l', hl', hrw, hpu, hty, hcap⟩ := HS.out.list
    have hll : l'.length = g.l.length := by rw [← hl', List.length_map]
    replace hl' : l'.map (fun x => (x.1.1, x.2)) = g.l := hl'
    replace hrw : Rw shc 38 u1 (.slice va g.l.length vc) l' := hrw
    have HRW : Hid (Rw shc 38 u1 (.slice va l'.length l'.length) l') := Lib.hid (by
      have h := Rw.take hrw (k := g.l.length) (Nat.le_refl _) l'.length (fun e => by
        subst e
        have := Rw.none0 hrw
        omega)
      rw [← hll, List.take_length] at h
      exact h)
    have HR1 : Hid (Rw shc 38 u1 (.slice (some ⟨rb, 0, none⟩) 1 1) [((puB B, sp), g.nw)]) := Lib.hid (.inr ⟨by simp, by simp [maxLen], rb, 0, 1, rfl, (Array.getElem?_eq_some_iff.1 HRO.out).1, fun i y hi j u hu => by
      have hi0 : i = 0 := by have := (List.getElem?_eq_some_iff.1 hi).1; simp at this; omega
      subst hi0
      simp at hi
      subst hi
      rw [show 0 + (0 * 38 + j) = j by omega, cell_of_row _ _ j _ 93 (0, 0) HRO.out, ← Array.getElem?_toList]
      exact hu⟩)
    have HPU := Lib.hid hpu
    have HLL := Lib.hid hl'
    have HLE := Lib.hid hll
    clear hrw hpu hty hcap hl'
    rw [← hll]
    clear hll
    go_wp2_with (at_builtin; refine wpList_append_full (f := shc) (sz := 38) rfl _ _ 71 rfl 93 (.agg #[.int .i64 0, .int .i64 0, .int .i64 0, .int .i64 0, .int .i64 0, .int .i64 0, .int .i64 0, .slice none 0 0, .slice none 0 0, .bool false, .bool false, .bool false, .int .i64 0, .int .i64 0, .int .i64 0, .int .i64 0, .int .i64 0, .int .i64 0, .int .i64 0, .int .i64 0, .int .i64 0, .slice none 0 0, .slice none 0 0, .bool false, .bool false, .bool false, .int .i64 0, .int .i64 0, .slice none 0 0, .slice none 0 0, .slice none 0 0, .slice none 0 0, .int .i64 0, .int .i64 0, .int .i64 0, .int .i64 0, .int .i64 0, .int .u64 0]) 400 Try.underlying71 infoS rfl (by decide) va l' rfl HRW.out shc_ok _ ((puB B, sp), g.nw) rfl HR1.out ?ca ?cb ?_)
    case ca => have h1 := HLE.out; have h2 := HLN.out; simp [maxLen]; omega
    case cb => have h1 := HLE.out; have h2 := HLN.out; omega
    intro vv u2 hown hgrow
    obtain ⟨na, nc, rfl⟩ := hown.form
    have hb : Below u1.heap.size u1 u2 := (Below.refl _ _).grown hgrow (Nat.le_refl _) (fun k hk => by cases hk)
    have HSH : Hid (ShR u2 (.slice na (l' ++ [((puB B, sp), g.nw)]).length nc) (g.l ++ [(puB B, g.nw)])) := Lib.hid (by
      have := ShR.own hown (fun x hx => by
        rcases List.mem_append.1 hx with h | h
        · exact ((HPU.out x h).below hb).mono (Nat.le_refl _) hb.size
        · simp at h; subst h; exact (HO.out.below hb).mono (Nat.le_refl _) hb.size)
      rw [List.map_append, HLL.out] at this
      exact this)
    have HLV : Hid ((l' ++ [((puB B, sp), g.nw)]).length = g.l.length + 1) := Lib.hid (by rw [List.length_append, HLE.out]; rfl)
    rw [HLV.out] at HSH ⊢
    replace HS := Lib.hid (HS.out.below hb)
    replace HBW := Lib.hid (below_via HBW.out hb)
    clear hown hgrow hb HRW HR1 HPU HRO HPX HO
    go_wp2_with fail
    first | (refine ⟨rfl, hK.out _ _ ?_⟩; clear hK K) | (refine hK.out _ _ ?_; clear hK K)
    repeat (first | (go_big_quiet_want; (first | apply quiet_load_px _ rfl rfl qp | apply quiet_build_sh _ _ rfl rfl rfl); (focus (simp [go_sem]; rfl)); go_big_quiet_on) | go_big_quiet_step (fail))
    refine wpQuiet_nil ?_
    refine ⟨fun K hK0 => ?_, trivial⟩
    have hK := Lib.hid hK0
    clear hK0
    have cc : u2.cell? ⟨P, 3, none⟩ = some (.slice va g.l.length vc) := cell_of_row _ _ 3 _ 73 (0, 0) HS.out.blk
    have fc : u2.frozen? ⟨P, 3, none⟩ = false := by unfold World.frozen?; rw [HS.out.blk]; simp
    have hp := HS.out.put 3 (.slice na (g.l.length + 1) nc) ⟨g.dl, g.nw, g.l ++ [(puB B, g.nw)]⟩ ⟨na, g.l.length + 1, nc⟩ rfl HSH.out HS.out.dl HS.out.nw (fun x hx => by
      rcases List.mem_append.1 hx with h | h
      · exact HS.out.at' x h
      · simp at h; subst h; exact HS.out.nw)
    have HPT := Lib.hid hp
    clear hp
    go_wp2_with fail
    clear cc fc
    obtain ⟨u3, hV⟩ : ∃ X, X = u2.setCell ⟨P, 3, none⟩ (.slice na (g.l.length + 1) nc) := ⟨_, rfl⟩
    rw [← hV] at HPT ⊢
    clear hV HSH
    replace HS := Lib.hid HPT.out.1
    have HON2 : Hid (Onl [P] w u3) := Lib.hid ((HON.out.trans (Onl.of HBW.out)).trans HPT.out.2)
    clear HPT
    first | (refine ⟨rfl, hK.out _ _ ?_⟩; clear hK K) | (refine hK.out _ _ ?_; clear hK K)
    clear _ne
    go_wp2_with fail
    with_reducible refine (goOn P _ _ t _ HS.out HU.out).mono ?_
    rintro e w8 ⟨rfl, v8, hs8, ho8⟩
    have HS8 := Lib.hid hs8
    have HO8 := Lib.hid (HON2.out.trans ho8)
    clear hs8 ho8
    go_wp2_with fail
    go_returns
    exact ⟨rfl, ⟨_, by rw [Sd.shw, HG.out]; exact HS8.out⟩, HO8.out⟩
end Go.Proofs.Yteoeahmnonolmaa
namespace Go.Proofs.Yteoeahmnonolmaa
open Go.RowKit Plain
set_option linter.unusedVariables false
set_option linter.unusedSimpArgs false

theorem rg12_6 {P : Program} {B n : Nat} {w0 : World} {L : List (Nat × Nat × Value)} {E F : World → Prop} {id : Nat} {Q : Exit → Act → World → Prop} {a : Act} {w : World} {o0 o1 o2 o3 o4 o5 o6 o7 o8 o9 o10 o11 o12 o13 o14 o15 o16 o17 : Oper} (hm : P.follows .mixedOrders = true)
    (hB : (Region.noSelect [o0, o1, o2, o3, o4, o5, o6, o7, o8, o9, o10, o11, o12, o13, o14, o15, o16, o17].toArray && Scr.ok .any [o0, o1, o2, o3, o4, o5, o6, o7, o8, o9, o10, o11, o12, o13, o14, o15, o16, o17].toArray [3, 6, 11, 14] [0, 1, 2, 4, 5, 8, 9, 10, 12, 13, 16, 17] (.free 0 (.free 1 (.free 2 (.free 8 (.free 9 (.free 10 (.read 3 (.free 4 (.free 5 (.read 6 (.read 11 (.free 12 (.free 13 (.read 14 (.alt 7 (.alt 15 (.free 16 (.free 17 .done)) .stop) .stop))))))))))))))) true true [o0, o1, o2, o3, o4, o5, o6, o7, o8, o9, o10, o11, o12, o13, o14, o15, o16, o17].toArray.size (Array.replicate [o0, o1, o2, o3, o4, o5, o6, o7, o8, o9, o10, o11, o12, o13, o14, o15, o16, o17].toArray.size false)) = true)
    (k : Kept B w0 n L w) (he : E w) (hE : ∀ W W', E W → Below W.heap.size W W' → E W') (hf : F w) (hF : ∀ W W', F W → Below W.heap.size W W' → F W')
    (h : ∀ wk, Kept B w0 n L wk → E wk → F wk → wpQuiet P [o0, o1, o2, o3, o4, o5, o6, o7, o8, o9, o10, o11, o12, o13, o14, o15, o16, o17].toArray (fun _ => True) (fun a0 => wpQuiet P [o0, o1, o2, o3, o4, o5, o6, o7, o8, o9, o10, o11, o12, o13, o14, o15, o16, o17].toArray (fun w' => ∃ s : KX B w0 n L E, w' = s.val) (fun a1 => wpQuiet P [o0, o1, o2, o3, o4, o5, o6, o7, o8, o9, o10, o11, o12, o13, o14, o15, o16, o17].toArray (fun _ => True) (fun a2 => wpQuiet P [o0, o1, o2, o3, o4, o5, o6, o7, o8, o9, o10, o11, o12, o13, o14, o15, o16, o17].toArray (fun w' => ∃ s : KX B w0 n L E, w' = s.val) (fun a3 => wpQuiet P [o0, o1, o2, o3, o4, o5, o6, o7, o8, o9, o10, o11, o12, o13, o14, o15, o16, o17].toArray (fun _ => True) (fun a4 => wpQuiet P [o0, o1, o2, o3, o4, o5, o6, o7, o8, o9, o10, o11, o12, o13, o14, o15, o16, o17].toArray (fun w' => ∃ s : KX B w0 n L E, w' = s.val) (fun a5 => ((∀ K6 : Act → World → Prop, (∀ a6 w6, ((∀ K7 : Act → World → Prop, (∀ a7 w7, wpQuiet P [o0, o1, o2, o3, o4, o5, o6, o7, o8, o9, o10, o11, o12, o13, o14, o15, o16, o17].toArray (fun _ => True) (fun a8 => Q .normal a8 w7) [o16, o17] a7 → K7 a7 w7) → wpList P [o0, o1, o2, o3, o4, o5, o6, o7, o8, o9, o10, o11, o12, o13, o14, o15, o16, o17].toArray (fun e a7 w7 => e = .normal ∧ (∃ s : KX B w0 n L E, w7 = s.val) ∧ K7 a7 w7) [o15] a6 w6) ∧ True) → K6 a6 w6) → wpList P [o0, o1, o2, o3, o4, o5, o6, o7, o8, o9, o10, o11, o12, o13, o14, o15, o16, o17].toArray (fun e a6 w6 => e = .normal ∧ (∃ s : KX B w0 n L E, w6 = s.val) ∧ K6 a6 w6) [o7] a5 wk) ∧ True)) [o14] a4) [o12, o13] a3) [o6, o11] a2) [o4, o5] a1) [o3] a0) [o0, o1, o2, o8, o9, o10] a) : (Code.region id [o0, o1, o2, o3, o4, o5, o6, o7, o8, o9, o10, o11, o12, o13, o14, o15, o16, o17].toArray true).wp P Q a w := by
  have e1 : E w.drew := hE _ _ he ((Below.refl _ _).drew)
  have g := h _ k.drew e1 (hF _ _ hf ((Below.refl _ _).drew))
  exact wp_region_scr (U := (fun w' => ∃ s : KX B w0 n L E, w' = s.val)) (ops := [o0, o1, o2, o3, o4, o5, o6, o7, o8, o9, o10, o11, o12, o13, o14, o15, o16, o17].toArray) (.free 0 (.free 1 (.free 2 (.free 8 (.free 9 (.free 10 (.read 3 (.free 4 (.free 5 (.read 6 (.read 11 (.free 12 (.free 13 (.read 14 (.alt 7 (.alt 15 (.free 16 (.free 17 .done)) .stop) .stop))))))))))))))) [3, 6, 11, 14] [0, 1, 2, 4, 5, 8, 9, 10, 12, 13, 16, 17] hm hB ⟨⟨_, k.drew, e1⟩, rfl⟩ (Scr.of_free rfl g (fun _ g0 => Scr.of_free rfl g0 (fun _ g1 => Scr.of_free rfl g1 (fun _ g2 => Scr.of_free rfl g2 (fun _ g3 => Scr.of_free rfl g3 (fun _ g4 => Scr.of_free rfl g4 (fun _ g5 => Scr.of_read rfl g5 (fun _ g6 => Scr.of_free rfl g6 (fun _ g7 => Scr.of_free rfl g7 (fun _ g8 => Scr.of_read rfl g8 (fun _ g9 => Scr.of_read rfl g9 (fun _ g10 => Scr.of_free rfl g10 (fun _ g11 => Scr.of_free rfl g11 (fun _ g12 => Scr.of_read rfl g12 (fun _ g13 => (Scr.of_alt rfl (g13.1 _ (fun _ _ g => g)) (fun _ _ g14 => (Scr.of_alt rfl (g14.1 _ (fun _ _ g => g)) (fun _ _ g15 => Scr.of_free rfl g15 (fun _ g16 => Scr.of_free rfl g16 (fun _ g17 => g17))) trivial)) trivial))))))))))))))))
/-- what is to be seen -/
def Plain.Sd.see (s : Sd) : Option (Pu × Int) := match s.l with
  | [] => none
  | x :: _ => if dueT s.dl s.nw x.2 = true then some x else none
theorem results_p2 {fn : Func} {p u v : Tmp} (h : fn.results = #[.cell p 49, .tmp u, .tmp v]) (tmps : Array Value) (w : World) {Q : Nat} {s : Ps} {P : Pu} {y z : Value} (hx : Px w Q s P) (hp : tmps.getD p undef = .pointer (some ⟨Q, 0, none⟩)) (hy : tmps.getD u undef = y) (hz : tmps.getD v undef = z) : (results fn tmps).run Try.prog w = .ok (.tuple #[pv s P, y, z]) w := by
  have hl : (loadVar 49 ⟨Q, 0, none⟩).run Try.prog w = .ok (pv s P) w := run_loadVar_row w Q 49 49 _ (0, 0) _ hx Try.underlying49 rfl (by kernel_rfl)
  have hp' : tmps[p]?.getD undef = .pointer (some ⟨Q, 0, none⟩) := by simpa using hp
  have hy' : tmps[u]?.getD undef = y := by simpa using hy
  have hz' : tmps[v]?.getD undef = z := by simpa using hz
  simp only [results, h]
  simp [Sem.run_bind, Result.andThen, asAddr, hl, hp', hy', hz']
/-- behind See: memory of its own; of what was there only block P has changed -/
def SeA (w : World) (S : List Nat) (P : Pu) (at' no : Int) (e : Ending) (w' : World) : Prop := ∃ s', e = .returned (.tuple #[pv s' P, .int .u64 at', .int .i64 no]) ∧ PuO w.heap.size w'.heap.size w' s' P ∧ Onl S w w'
set_option maxRecDepth 100000 in
set_option maxHeartbeats 4000000 in
theorem see_nil (t : Int) (w : World) : Calls Try.prog 12 #[.pointer none, .int .u64 t] w (SeA w [] zeroPu 0 1) := by
  go_enter Try.func12, Try.ntmps12
  go_upto_region 1 with fail
  change Code.wp Try.prog _ _ _ (w.alloc (.cells (pcells nilPs zeroPu) 49))
  obtain ⟨wz, hwz⟩ : ∃ W, W = w.alloc (.cells (pcells nilPs zeroPu) 49) := ⟨_, rfl⟩
  have hb : Below w.heap.size w wz := by rw [hwz]; exact (Below.refl _ _).alloc (Nat.le_refl _) _
  have HB := Lib.hid hb
  have HZP : Hid (Px wz w.heap.size nilPs zeroPu) := Lib.hid (by rw [hwz]; exact heap_alloc_new _ _)
  rw [← hwz]
  clear hwz hb
  go_wp2_with fail
  with_reducible refine (none_nil _).mono ?_
  rintro e w2 ⟨rfl, rfl⟩
  go_wp2_with (refine wpList_store_ph (s := nilPs) (P := zeroPu) rfl _ _ rfl rfl rfl HZP.out rfl ?_; intro w9 hw9)
  have hg9 : Px w9 w.heap.size nilPs zeroPu := by rw [hw9.out]; exact Px.row HZP.out _ _
  have ho9 : Onl [w.heap.size] wz w9 := by rw [hw9.out]; exact Onl.setRow (Onl.refl _ _) (.inl (by simp)) _
  have HG9 := Lib.hid hg9
  have hon : Onl [] w w9 := ⟨ho9.os.trans HB.out.os, ho9.tape.trans HB.out.tape, ho9.output.trans HB.out.output, Nat.le_trans HB.out.size ho9.size, fun k hk hn => (ho9.block k (Nat.lt_of_lt_of_le hk HB.out.size) (by simp; omega)).trans (HB.out.block k hk)⟩
  have HPOST : Hid (SeA w [] zeroPu 0 1 (.returned (.tuple #[pv nilPs zeroPu, .int .u64 0, .int .i64 1])) w9) := Lib.hid ⟨nilPs, rfl, PuO.zero _ _ _, hon⟩
  clear hw9 hg9
  clear ho9 hon
  go_wp2_with fail
  exact bodyPost_ret (v := .tuple #[pv nilPs zeroPu, .int .u64 0, .int .i64 1]) (results_p2 Try.results12 _ _ HG9.out rfl rfl rfl) rfl HPOST.out
set_option maxRecDepth 100000 in
set_option maxHeartbeats 4000000 in
theorem see_zero (P : Nat) (t : Int) (w : World) (h : ZeroAt w P) : Calls Try.prog 12 #[.pointer (some ⟨P, 0, none⟩), .int .u64 t] w (SeA w [] zeroPu 0 1) := by
  have HZ := Lib.hid h
  clear h
  go_enter Try.func12, Try.ntmps12
  go_upto_region 1 with fail
  change Code.wp Try.prog _ _ _ (w.alloc (.cells (pcells nilPs zeroPu) 49))
  obtain ⟨wz, hwz⟩ : ∃ W, W = w.alloc (.cells (pcells nilPs zeroPu) 49) := ⟨_, rfl⟩
  have hb : Below w.heap.size w wz := by rw [hwz]; exact (Below.refl _ _).alloc (Nat.le_refl _) _
  have HB := Lib.hid hb
  have HZP : Hid (Px wz w.heap.size nilPs zeroPu) := Lib.hid (by rw [hwz]; exact heap_alloc_new _ _)
  replace HZ : Hid (ZeroAt wz P) := Lib.hid ((hb.block P (Array.getElem?_eq_some_iff.1 HZ.out).1).trans HZ.out)
  rw [← hwz]
  clear hwz hb
  go_wp2_with fail
  with_reducible refine (none_zero P _ HZ.out).mono ?_
  rintro e w2 ⟨rfl, rfl⟩
  go_wp2_with (refine wpList_store_ph (s := nilPs) (P := zeroPu) rfl _ _ rfl rfl rfl HZP.out rfl ?_; intro w9 hw9)
  have hg9 : Px w9 w.heap.size nilPs zeroPu := by rw [hw9.out]; exact Px.row HZP.out _ _
  have ho9 : Onl [w.heap.size] wz w9 := by rw [hw9.out]; exact Onl.setRow (Onl.refl _ _) (.inl (by simp)) _
  have HG9 := Lib.hid hg9
  have hon : Onl [] w w9 := ⟨ho9.os.trans HB.out.os, ho9.tape.trans HB.out.tape, ho9.output.trans HB.out.output, Nat.le_trans HB.out.size ho9.size, fun k hk hn => (ho9.block k (Nat.lt_of_lt_of_le hk HB.out.size) (by simp; omega)).trans (HB.out.block k hk)⟩
  have HPOST : Hid (SeA w [] zeroPu 0 1 (.returned (.tuple #[pv nilPs zeroPu, .int .u64 0, .int .i64 1])) w9) := Lib.hid ⟨nilPs, rfl, PuO.zero _ _ _, hon⟩
  clear hw9 hg9
  clear ho9 hon
  go_wp2_with fail
  exact bodyPost_ret (v := .tuple #[pv nilPs zeroPu, .int .u64 0, .int .i64 1]) (results_p2 Try.results12 _ _ HG9.out rfl rfl rfl) rfl HPOST.out
/-- another block of what is public is written -/
theorem ShR.onlP {w w' : World} {v : Value} {l : List (Pu × Int)} {g : Nat} {s : Ps} {P : Pu} (h : ShR w v l) (ho : Onl [g] w w') (hg : Px w g s P) : ShR w' v l := by
  obtain ⟨l', h1, h2, h3, h4, h5⟩ := h
  have ne : ∀ b, v.ownBlock = some b → b ∉ [g] := fun b hv hm => by
    obtain ⟨c, hc⟩ := h4 b hv
    simp at hm
    subst hm
    rw [show w.heap[b]? = _ from hg] at hc
    simp at hc
  exact ⟨l', h1, h2.onl ho ne, fun x hx => (PuO.onlT (h3 x hx) ho hg (by decide)).mono (Nat.le_refl _) ho.size, fun b hv => by
    obtain ⟨c, hc⟩ := h4 b hv
    exact ⟨c, (ho.block b (Array.getElem?_eq_some_iff.1 hc).1 (ne b hv)).trans hc⟩, h5⟩
theorem see_cases {s : Sd} (h : s.see = none) : s.l = [] ∨ ∃ x xs, s.l = x :: xs ∧ dueT s.dl s.nw x.2 = false := by
  unfold Sd.see at h
  split at h
  · exact .inl ‹_›
  · rename_i x xs e
    split at h
    · cases h
    · rename_i h2
      exact .inr ⟨x, xs, e, by simpa using h2⟩
theorem see_some {s : Sd} {x : Pu × Int} (h : s.see = some x) : ∃ xs, s.l = x :: xs ∧ dueT s.dl s.nw x.2 = true := by
  unfold Sd.see at h
  split at h
  · cases h
  · rename_i y xs e
    split at h
    · rename_i h2
      cases h
      exact ⟨xs, e, h2⟩
    · cases h
set_option maxRecDepth 100000 in
set_option maxHeartbeats 4000000 in
theorem see_none (P : Nat) (s : Sd) (v : Sl) (t : Int) (w : World) (h : SdAt w P s v) (hu : U t) (hse : (s.go t).see = none) : Calls Try.prog 12 #[.pointer (some ⟨P, 0, none⟩), .int .u64 t] w fun e w' => SeA w [P] zeroPu 0 9 e w' ∧ ∃ v', SdAt w' P (s.go t) v' := by
  have HS := Lib.hid h
  have HU : Hid (U t) := Lib.hid hu
  have HP0 : Hid (P < w.heap.size) := Lib.hid h.lt
  clear h hu
  go_enter Try.func12, Try.ntmps12
  go_upto_region 1 with fail
  change Code.wp Try.prog _ _ _ (w.alloc (.cells (pcells nilPs zeroPu) 49))
  obtain ⟨wz, hwz⟩ : ∃ W, W = w.alloc (.cells (pcells nilPs zeroPu) 49) := ⟨_, rfl⟩
  have hb : Below w.heap.size w wz := by rw [hwz]; exact (Below.refl _ _).alloc (Nat.le_refl _) _
  have HB := Lib.hid hb
  have HZP : Hid (Px wz w.heap.size nilPs zeroPu) := Lib.hid (by rw [hwz]; exact heap_alloc_new _ _)
  replace HS := Lib.hid (HS.out.below hb)
  rw [← hwz]
  clear hwz hb
  go_wp2_with fail
  with_reducible refine (none_ok P s v _ HS.out).mono ?_
  rintro e w2 ⟨rfl, rfl⟩
  go_wp2_with fail
  with_reducible refine (goOn P s v t _ HS.out HU.out).mono ?_
  rintro e w4 ⟨rfl, v4, hs4, ho4⟩
  have HON : Hid (Onl [P] w w4) := Lib.hid ((Onl.of HB.out).trans ho4)
  replace HZP : Hid (Px w4 w.heap.size nilPs zeroPu) := Lib.hid (HZP.out.onl ho4 (by have := HP0.out; simp; omega))
  obtain ⟨g, hg⟩ : ∃ g, s.go t = g := ⟨_, rfl⟩
  rw [hg] at hs4 hse
  have HG := Lib.hid hg
  replace HS := Lib.hid hs4
  have hlen := hs4.len
  obtain ⟨va, vn, vc⟩ := v4
  change vn = g.l.length at hlen
  subst hlen
  have HS4 := HS
  have c3 : w4.cell? ⟨P, 3, none⟩ = some (.slice va g.l.length vc) := cell_of_row _ _ 3 _ 73 (0, 0) hs4.blk
  clear hg ho4 hs4 HB
  rcases see_cases hse with hgl | ⟨x, xs, hgl, hdx⟩
  · have te : ((g.l.length : Int) == 0) = true := by rw [hgl]; rfl
    clear hgl hse
    go_wp2_with (refine wpList_store_ph (s := nilPs) (P := zeroPu) rfl _ _ rfl rfl rfl HZP.out rfl ?_; intro w9 hw9)
    have hg9 : Px w9 w.heap.size nilPs zeroPu := by rw [hw9.out]; exact Px.row HZP.out _ _
    have ho9 : Onl [w.heap.size] w4 w9 := by rw [hw9.out]; exact Onl.setRow (Onl.refl _ _) (.inl (by simp)) _
    have HG9 := Lib.hid hg9
    have hon : Onl [P] w w9 := ⟨ho9.os.trans HON.out.os, ho9.tape.trans HON.out.tape, ho9.output.trans HON.out.output, Nat.le_trans HON.out.size ho9.size, fun k hk hn => (ho9.block k (Nat.lt_of_lt_of_le hk HON.out.size) (by simp; omega)).trans (HON.out.block k hk hn)⟩
    have HPOST : Hid (SeA w [P] zeroPu 0 9 (.returned (.tuple #[pv nilPs zeroPu, .int .u64 0, .int .i64 9])) w9 ∧ ∃ v', SdAt w9 P (s.go t) v') := Lib.hid ⟨⟨nilPs, rfl, PuO.zero _ _ _, hon⟩, _, by rw [HG.out]; exact ⟨(ho9.block P HS.out.lt (by have := HP0.out; simp; omega)).trans HS.out.blk, ShR.onlP HS.out.list ho9 HZP.out, HS.out.dl, HS.out.nw, HS.out.at'⟩⟩
    clear hw9 hg9
    clear ho9 hon
    go_wp2_with fail
    exact bodyPost_ret (v := .tuple #[pv nilPs zeroPu, .int .u64 0, .int .i64 9]) (results_p2 Try.results12 _ _ HG9.out rfl rfl rfl) rfl HPOST.out
  · clear hse
    obtain ⟨l', hl', hrw, hpu, _⟩ := HS.out.list
    replace hl' : l'.map (fun x => (x.1.1, x.2)) = g.l := hl'
    replace hrw : Rw shc 38 w4 (.slice va g.l.length vc) l' := hrw
    have hll : l'.length = g.l.length := by rw [← hl', List.length_map]
    obtain ⟨y, r, hlr⟩ : ∃ y r, l' = y :: r := by
      cases l' with
      | nil => simp at hll; rw [hgl] at hll; simp at hll
      | cons y r => exact ⟨y, r, rfl⟩
    subst hlr
    have hy : (y.1.1, y.2) = x ∧ r.map (fun x => (x.1.1, x.2)) = xs := by
      rw [hgl] at hl'
      simpa using hl'
    have HY := Lib.hid hy.1
    have hpos : 0 < g.l.length := by rw [hgl]; simp
    obtain ⟨_, _, _, hv, hc⟩ := hrw.form
    rw [hll] at hv
    obtain ⟨b, off, rfl, hb, hc2⟩ := hc (by simp)
    simp only [Value.slice.injEq] at hv
    obtain ⟨rfl, hz1, rfl⟩ := hv
    clear hz1
    have HQ : Hid (w4.rangeAt b off (shc y)) := Lib.hid (fun j u hu => by
      have := hc2 0 y rfl j u hu
      rwa [Nat.zero_mul, Nat.zero_add] at this)
    have HUY : Hid (U y.2 ∧ U g.dl) := Lib.hid ⟨HS.out.at' (y.1.1, y.2) (by rw [hgl, hy.1]; simp), HS.out.dl⟩
    have HPU : Hid (PuO 0 w4.heap.size w4 y.1.2 y.1.1) := Lib.hid (hpu y (by simp))
    have HLB : Hid (b < w4.heap.size) := Lib.hid hb
    have te : ((g.l.length : Int) == 0) = false := by simp only [beq_eq_false_iff_ne, ne_eq]; omega
    have i0 : (0 : Int) < (g.l.length : Int) := by omega
    have lp := HS.out.lt
    have c1 : w4.cell? ⟨P, 1, none⟩ = some (.int .u64 g.dl) := cell_of_row _ _ 1 _ 73 (0, 0) HS.out.blk
    have c2 : w4.cell? ⟨P, 2, none⟩ = some (.int .u64 g.nw) := cell_of_row _ _ 2 _ 73 (0, 0) HS.out.blk
    clear hrw hpu hc hc2 hl' hll hy hpos hb hgl
    go_wp2_with (refine wpList_load_g _ rfl rfl HQ.out Try.underlying93 rfl rfl (by kernel_rfl) ?_)
    with_reducible refine (sdue P g.dl g.nw y _ lp c1 c2 HUY.out.1 HUY.out.2).mono ?_
    rintro e w5 ⟨rfl, hb5⟩
    replace HZP := Lib.hid (HZP.out.below hb5)
    replace HS := Lib.hid (HS.out.below hb5)
    replace HON := Lib.hid (HON.out.grow hb5)
    clear c1 c2 lp
    have hd : dueT g.dl g.nw y.2 = false := by have := HY.out; rw [← hdx, ← this]
    rw [hd]
    clear hd hdx hb5
    go_wp2_with (refine wpList_store_ph (s := nilPs) (P := zeroPu) rfl _ _ rfl rfl rfl HZP.out rfl ?_; intro w9 hw9)
    have hg9 : Px w9 w.heap.size nilPs zeroPu := by rw [hw9.out]; exact Px.row HZP.out _ _
    have ho9 : Onl [w.heap.size] w5 w9 := by rw [hw9.out]; exact Onl.setRow (Onl.refl _ _) (.inl (by simp)) _
    have HG9 := Lib.hid hg9
    have hon : Onl [P] w w9 := ⟨ho9.os.trans HON.out.os, ho9.tape.trans HON.out.tape, ho9.output.trans HON.out.output, Nat.le_trans HON.out.size ho9.size, fun k hk hn => (ho9.block k (Nat.lt_of_lt_of_le hk HON.out.size) (by simp; omega)).trans (HON.out.block k hk hn)⟩
    have HPOST : Hid (SeA w [P] zeroPu 0 9 (.returned (.tuple #[pv nilPs zeroPu, .int .u64 0, .int .i64 9])) w9 ∧ ∃ v', SdAt w9 P (s.go t) v') := Lib.hid ⟨⟨nilPs, rfl, PuO.zero _ _ _, hon⟩, _, by rw [HG.out]; exact ⟨(ho9.block P HS.out.lt (by have := HP0.out; simp; omega)).trans HS.out.blk, ShR.onlP HS.out.list ho9 HZP.out, HS.out.dl, HS.out.nw, HS.out.at'⟩⟩
    clear hw9 hg9
    clear ho9 hon
    go_wp2_with fail
    exact bodyPost_ret (v := .tuple #[pv nilPs zeroPu, .int .u64 0, .int .i64 9]) (results_p2 Try.results12 _ _ HG9.out rfl rfl rfl) rfl HPOST.out
theorem scopiedA (s : Ps) (P : Pu) (w : World) (h : PuR w s P) (hsm : P.Sm) : Calls Try.prog 34 #[.agg (pcells s P)] w (PcA w P) := scopied s P w h hsm
theorem shc_at (y : (Pu × Ps) × Int) : (shc y)[37]? = some (.int .u64 y.2) := rfl
theorem shc_pub {y : (Pu × Ps) × Int} {j : Nat} {u : Value} (h : (pcells y.1.2 y.1.1).toList[j]? = some u) : (shc y)[j]? = some u := by
  unfold shc
  rw [List.getElem?_append_left (List.getElem?_eq_some_iff.1 h).1]
  exact h
/-- the stand, and its first board, while it is copied -/
def SeE (P : Nat) (g : Sd) (v : Sl) (b off : Nat) (y : (Pu × Ps) × Int) (W : World) : Prop := SdAt W P g v ∧ W.rangeAt b off (shc y) ∧ ∃ cur, W.heap[b]? = some (.cells cur 93 (0, 0))
theorem SeE.below {P : Nat} {g : Sd} {v : Sl} {b off : Nat} {y : (Pu × Ps) × Int} {W W' : World} (h : SeE P g v b off y W) (hb : Below W.heap.size W W') : SeE P g v b off y W' := by
  obtain ⟨h1, h2, cur, h3⟩ := h
  have hl := (Array.getElem?_eq_some_iff.1 h3).1
  exact ⟨h1.below hb, fun j u hu => (hb.cell (p := ⟨b, off + j, none⟩) hl).trans (h2 j u hu), cur, (hb.block b hl).trans h3⟩
theorem SeE.put {P : Nat} {g : Sd} {v : Sl} {b off : Nat} {y : (Pu × Ps) × Int} {W W' : World} {q : Nat} {s : Ps} {X : Pu} (h : SeE P g v b off y W) (ho : Onl [q] W W') (hq : Px W q s X) (hP : P ≠ q) : SeE P g v b off y W' := by
  obtain ⟨h1, h2, cur, h3⟩ := h
  have hl := (Array.getElem?_eq_some_iff.1 h3).1
  have hn : b ∉ [q] := fun hm => by
    simp at hm
    subst hm
    rw [show W.heap[b]? = _ from hq] at h3
    simp at h3
  refine ⟨⟨(ho.block P h1.lt (by simpa using hP)).trans h1.blk, ShR.onlP h1.list ho hq, h1.dl, h1.nw, h1.at'⟩, fun j u hu => (ho.cell (b := b) hl hn).trans (h2 j u hu), cur, (ho.block b hl hn).trans h3⟩
set_option maxRecDepth 100000 in
set_option maxHeartbeats 4000000 in
theorem see_ok (P : Nat) (s : Sd) (v : Sl) (t : Int) (w : World) (h : SdAt w P s v) (hu : U t) (x : Pu × Int) (hse : (s.go t).see = some x) (hsm : x.1.Sm) : Calls Try.prog 12 #[.pointer (some ⟨P, 0, none⟩), .int .u64 t] w fun e w' => SeA w [P] x.1 x.2 0 e w' ∧ ∃ v', SdAt w' P (s.go t) v' := by
  have HS := Lib.hid h
  have HU : Hid (U t) := Lib.hid hu
  have HP0 : Hid (P < w.heap.size) := Lib.hid h.lt
  clear h hu
  go_enter Try.func12, Try.ntmps12
  go_upto_region 1 with fail
  change Code.wp Try.prog _ _ _ (w.alloc (.cells (pcells nilPs zeroPu) 49))
  obtain ⟨wz, hwz⟩ : ∃ W, W = w.alloc (.cells (pcells nilPs zeroPu) 49) := ⟨_, rfl⟩
  have hb : Below w.heap.size w wz := by rw [hwz]; exact (Below.refl _ _).alloc (Nat.le_refl _) _
  have HB := Lib.hid hb
  have HZP : Hid (Px wz w.heap.size nilPs zeroPu) := Lib.hid (by rw [hwz]; exact heap_alloc_new _ _)
  replace HS := Lib.hid (HS.out.below hb)
  rw [← hwz]
  clear hwz hb
  go_wp2_with fail
  with_reducible refine (none_ok P s v _ HS.out).mono ?_
  rintro e w2 ⟨rfl, rfl⟩
  go_wp2_with fail
  with_reducible refine (goOn P s v t _ HS.out HU.out).mono ?_
  rintro e w4 ⟨rfl, v4, hs4, ho4⟩
  have HON : Hid (Onl [P] w w4) := Lib.hid ((Onl.of HB.out).trans ho4)
  replace HZP : Hid (Px w4 w.heap.size nilPs zeroPu) := Lib.hid (HZP.out.onl ho4 (by have := HP0.out; simp; omega))
  obtain ⟨g, hg⟩ : ∃ g, s.go t = g := ⟨_, rfl⟩
  rw [hg] at hs4 hse
  have HG := Lib.hid hg
  replace HS := Lib.hid hs4
  have hlen := hs4.len
  obtain ⟨va, vn, vc⟩ := v4
  change vn = g.l.length at hlen
  subst hlen
  have HS4 := HS
  have c3 : w4.cell? ⟨P, 3, none⟩ = some (.slice va g.l.length vc) := cell_of_row _ _ 3 _ 73 (0, 0) hs4.blk
  clear hg ho4 hs4 HB
  obtain ⟨xs, hgl, hdx⟩ := see_some hse
  clear hse
  obtain ⟨l', hl', hrw, hpu, hty, _⟩ := HS.out.list
  replace hl' : l'.map (fun x => (x.1.1, x.2)) = g.l := hl'
  replace hrw : Rw shc 38 w4 (.slice va g.l.length vc) l' := hrw
  have hll : l'.length = g.l.length := by rw [← hl', List.length_map]
  obtain ⟨y, r, hlr⟩ : ∃ y r, l' = y :: r := by
    cases l' with
    | nil => simp at hll; rw [hgl] at hll; simp at hll
    | cons y r => exact ⟨y, r, rfl⟩
  subst hlr
  have hy : (y.1.1, y.2) = x ∧ r.map (fun x => (x.1.1, x.2)) = xs := by
    rw [hgl] at hl'
    simpa using hl'
  have HY := Lib.hid hy.1
  have hpos : 0 < g.l.length := by rw [hgl]; simp
  obtain ⟨_, _, _, hv, hc⟩ := hrw.form
  rw [hll] at hv
  obtain ⟨b, off, rfl, hb, hc2⟩ := hc (by simp)
  simp only [Value.slice.injEq] at hv
  obtain ⟨rfl, hz1, rfl⟩ := hv
  clear hz1
  have HQ : Hid (w4.rangeAt b off (shc y)) := Lib.hid (fun j u hu => by
    have := hc2 0 y rfl j u hu
    rwa [Nat.zero_mul, Nat.zero_add] at this)
  have HUY : Hid (U y.2 ∧ U g.dl) := Lib.hid ⟨HS.out.at' (y.1.1, y.2) (by rw [hgl, hy.1]; simp), HS.out.dl⟩
  have HPU : Hid (PuO 0 w4.heap.size w4 y.1.2 y.1.1) := Lib.hid (hpu y (by simp))
  have HT5 : Hid (∃ cur, w4.heap[b]? = some (.cells cur 93 (0, 0))) := Lib.hid (hty b rfl)
  have HLB : Hid (b < w4.heap.size) := Lib.hid hb
  have te : ((g.l.length : Int) == 0) = false := by simp only [beq_eq_false_iff_ne, ne_eq]; omega
  have i0 : (0 : Int) < (g.l.length : Int) := by omega
  have lp := HS.out.lt
  have c1 : w4.cell? ⟨P, 1, none⟩ = some (.int .u64 g.dl) := cell_of_row _ _ 1 _ 73 (0, 0) HS.out.blk
  have c2 : w4.cell? ⟨P, 2, none⟩ = some (.int .u64 g.nw) := cell_of_row _ _ 2 _ 73 (0, 0) HS.out.blk
  clear hrw hpu hty hc hc2 hl' hll hy hpos hb hgl
  go_wp2_with (refine wpList_load_g _ rfl rfl HQ.out Try.underlying93 rfl rfl (by kernel_rfl) ?_)
  with_reducible refine (sdue P g.dl g.nw y _ lp c1 c2 HUY.out.1 HUY.out.2).mono ?_
  rintro e w5 ⟨rfl, hb5⟩
  replace HZP := Lib.hid (HZP.out.below hb5)
  replace HS := Lib.hid (HS.out.below hb5)
  replace HON := Lib.hid (HON.out.grow hb5)
  clear c1 c2 lp
  have hd : dueT g.dl g.nw y.2 = true := by have := HY.out; rw [← hdx, ← this]
  rw [hd]
  have HSE : Hid (SeE P g ⟨some ⟨b, off, none⟩, g.l.length, vc⟩ b off y w5) := Lib.hid (SeE.below ⟨HS4.out, HQ.out, HT5.out⟩ hb5)
  have hyx : y.1.1 = x.1 ∧ y.2 = x.2 := by have := HY.out; rw [← this]; exact ⟨rfl, rfl⟩
  have HSM : Hid (y.1.1.Sm) := Lib.hid (by rw [hyx.1]; exact hsm)
  have HYX := Lib.hid hyx
  replace HPU : Hid (PuO 0 w5.heap.size w5 y.1.2 y.1.1) := Lib.hid ((HPU.out.below hb5).mono (Nat.le_refl _) hb5.size)
  have HSZ : Hid (w.heap.size ≤ w5.heap.size) := Lib.hid HON.out.size
  have KH0 := Lib.hid (⟨Below.refl _ _, HSZ.out, by simp⟩ : Kept w.heap.size w5 (w.heap.size) [] w5)
  clear hd hdx hb5 hyx hsm HS HQ HT5 HLB
  go_upto_region 6 with fail
  clear c3 te
  refine rg12_6 (w0 := w5) (B := w.heap.size) (n := w.heap.size) (L := []) (E := SeE P g ⟨some ⟨b, off, none⟩, g.l.length, vc⟩ b off y) (F := fun W => Px W w.heap.size nilPs zeroPu ∧ Below w5.heap.size w5 W) (by kernel_rfl) (by kernel_rfl) (KH0.out.step (by omega) (by go_grown)) HSE.out (fun _ _ h hb => h.below hb) ⟨HZP.out, Below.refl _ _⟩ (fun _ _ h hb => ⟨h.1.below hb, below_via h.2 hb⟩) (fun w31 K_w31 E_w31 F_w31 => ?_)
  have _ne : Nonempty (KX (w.heap.size) w5 (w.heap.size) [] (SeE P g ⟨some ⟨b, off, none⟩, g.l.length, vc⟩ b off y)) := ⟨⟨_, K_w31, E_w31⟩⟩
  have qp : ∀ W', (∃ s' : KX (w.heap.size) w5 (w.heap.size) [] (SeE P g ⟨some ⟨b, off, none⟩, g.l.length, vc⟩ b off y), W' = s'.val) → W'.rangeAt b off (pcells y.1.2 y.1.1).toList := by rintro _ ⟨s', rfl⟩; exact fun j u hu => s'.ex.2.1 j u (shc_pub hu)
  repeat (first | (go_big_quiet_want; apply quiet_load_g _ rfl rfl qp Try.underlying49 rfl (by kernel_rfl); (focus (simp only [Array.toArray_toList]; simp [go_sem]; rfl)); go_big_quiet_on) | go_big_quiet_step (fail))
  refine wpQuiet_nil ?_
  have r3 : ∀ s : KX (w.heap.size) w5 (w.heap.size) [] (SeE P g ⟨some ⟨b, off, none⟩, g.l.length, vc⟩ b off y), s.val.cell? ⟨P, 3, none⟩ = some (.slice (some ⟨b, off, none⟩) g.l.length vc) := fun s => cell_of_row _ _ 3 _ 73 (0, 0) s.ex.1.blk
  have r37 : ∀ s : KX (w.heap.size) w5 (w.heap.size) [] (SeE P g ⟨some ⟨b, off, none⟩, g.l.length, vc⟩ b off y), s.val.cell? ⟨b, off + 37, none⟩ = some (.int .u64 y.2) := fun s => s.ex.2.1 37 _ (shc_at y)
  repeat (first | (go_big_quiet_want; apply quiet_load_g _ rfl rfl qp Try.underlying49 rfl (by kernel_rfl); (focus (simp only [Array.toArray_toList]; simp [go_sem]; rfl)); go_big_quiet_on) | go_big_quiet_step (fail))
  refine wpQuiet_nil ?_
  repeat (first | (go_big_quiet_want; apply quiet_load_g _ rfl rfl qp Try.underlying49 rfl (by kernel_rfl); (focus (simp only [Array.toArray_toList]; simp [go_sem]; rfl)); go_big_quiet_on) | go_big_quiet_step (fail))
  refine wpQuiet_nil ?_
  repeat (first | (go_big_quiet_want; apply quiet_load_g _ rfl rfl qp Try.underlying49 rfl (by kernel_rfl); (focus (simp only [Array.toArray_toList]; simp [go_sem]; rfl)); go_big_quiet_on) | go_big_quiet_step (fail))
  refine wpQuiet_nil ?_
  repeat (first | (go_big_quiet_want; apply quiet_load_g _ rfl rfl qp Try.underlying49 rfl (by kernel_rfl); (focus (simp only [Array.toArray_toList]; simp [go_sem]; rfl)); go_big_quiet_on) | go_big_quiet_step (fail))
  refine wpQuiet_nil ?_
  repeat (first | (go_big_quiet_want; apply quiet_load_g _ rfl rfl qp Try.underlying49 rfl (by kernel_rfl); (focus (simp only [Array.toArray_toList]; simp [go_sem]; rfl)); go_big_quiet_on) | go_big_quiet_step (fail))
  refine wpQuiet_nil ?_
  have KH_w31 := Lib.hid K_w31
  have hw_w31 := K_w31.below
  have hz_w31 := K_w31.size
  clear K_w31
  have HE1 := Lib.hid E_w31
  have HF1 := Lib.hid (F_w31.1)
  have HG1 := Lib.hid (F_w31.2)
  clear E_w31 F_w31
  refine ⟨fun K hK0 => ?_, trivial⟩
  have hK := Lib.hid hK0
  clear hK0
  replace HZP := HF1
  replace HSE := HE1
  have HBW : Hid (Below w5.heap.size w5 w31) := HG1
  clear HE1 HF1 HG1
  go_wp2_with fail
  with_reducible refine (scopiedA y.1.2 y.1.1 w31 ((HPU.out.below HBW.out).rd) HSM.out).mono ?_
  rintro e u1 ⟨s', rfl, ho, hb⟩
  have HO : Hid (PuO w.heap.size u1.heap.size u1 s' y.1.1) := Lib.hid (ho.mono (by have h1 := HBW.out.size; have h2 := HON.out.size; omega) (Nat.le_refl _))
  replace HSE := Lib.hid (HSE.out.below hb)
  replace HZP := Lib.hid (HZP.out.below hb)
  replace HBW := Lib.hid (below_via HBW.out hb)
  clear ho hb
  go_wp2_with fail
  first | (refine ⟨rfl, ⟨⟨_, (⟨HBW.out.mono HSZ.out, Nat.le_trans HSZ.out HBW.out.size, by simp⟩ : Kept w.heap.size w5 (w.heap.size) [] u1), HSE.out⟩, rfl⟩, hK.out _ _ ?_⟩; clear hK K) | (refine ⟨⟨⟨_, (⟨HBW.out.mono HSZ.out, Nat.le_trans HSZ.out HBW.out.size, by simp⟩ : Kept w.heap.size w5 (w.heap.size) [] u1), HSE.out⟩, rfl⟩, hK.out _ _ ?_⟩; clear hK K)
  refine ⟨fun K hK0 => ?_, trivial⟩
  have hK := Lib.hid hK0
  clear hK0
  go_wp2_with (refine wpList_store_ph (s := s') (P := y.1.1) rfl _ _ rfl rfl rfl HZP.out rfl ?_)
  intro u2 hw0
  have ho : Onl [w.heap.size] u1 u2 := by rw [hw0.out]; exact Onl.setRow (Onl.refl _ _) (.inl (by simp)) _
  have HG9 : Hid (Px u2 w.heap.size s' y.1.1) := Lib.hid (by rw [hw0.out]; exact Px.row HZP.out _ _)
  replace HSE := Lib.hid (HSE.out.put ho HZP.out (by have := HP0.out; omega))
  replace HO : Hid (PuO w.heap.size u2.heap.size u2 s' y.1.1) := Lib.hid ((PuO.onlT HO.out ho HZP.out (by decide)).mono (Nat.le_refl _) ho.size)
  have HBX : Hid (Below w.heap.size w5 u2) := Lib.hid (belowOnl (HBW.out.mono HSZ.out) ho (by simp) (Nat.le_trans HSZ.out HBW.out.size))
  have HOX : Hid (Onl [P] w u2) := Lib.hid ⟨HBX.out.os.trans HON.out.os, HBX.out.tape.trans HON.out.tape, HBX.out.output.trans HON.out.output, Nat.le_trans HON.out.size HBX.out.size, fun k hk hn => (HBX.out.block k hk).trans (HON.out.block k hk hn)⟩
  clear hw0 ho
  go_wp2_with fail
  first | (refine ⟨rfl, ⟨⟨_, (⟨HBX.out, Nat.le_trans HSZ.out HBX.out.size, by simp⟩ : Kept w.heap.size w5 (w.heap.size) [] u2), HSE.out⟩, rfl⟩, hK.out _ _ ?_⟩; clear hK K) | (refine ⟨⟨⟨_, (⟨HBX.out, Nat.le_trans HSZ.out HBX.out.size, by simp⟩ : Kept w.heap.size w5 (w.heap.size) [] u2), HSE.out⟩, rfl⟩, hK.out _ _ ?_⟩; clear hK K)
  repeat (first | (go_big_quiet_want; apply quiet_load_g _ rfl rfl qp Try.underlying49 rfl (by kernel_rfl); (focus (simp only [Array.toArray_toList]; simp [go_sem]; rfl)); go_big_quiet_on) | go_big_quiet_step (fail))
  refine wpQuiet_nil ?_
  clear r3 r37
  clear _ne
  have HPOST : Hid (SeA w [P] x.1 x.2 0 (.returned (.tuple #[pv s' y.1.1, .int .u64 y.2, .int .i64 0])) u2 ∧ ∃ v', SdAt u2 P (s.go t) v') := Lib.hid ⟨⟨s', by rw [HYX.out.2, HYX.out.1], by rw [← HYX.out.1]; exact HO.out, HOX.out⟩, _, by rw [HG.out]; exact HSE.out.1⟩
  go_wp2_with fail
  exact bodyPost_ret (v := .tuple #[pv s' y.1.1, .int .u64 y.2, .int .i64 0]) (results_p2 Try.results12 _ _ HG9.out rfl rfl rfl) rfl HPOST.out
end Go.Proofs.Yteoeahmnonolmaa
