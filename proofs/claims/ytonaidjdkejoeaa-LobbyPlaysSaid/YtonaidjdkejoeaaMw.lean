/- The model's find, without, enter, leave. -/
import Derived.Test.YtonaidjdkejoeaaMo
import Derived.Test.YtonaidjdkejoeaaPlC
import Derived.LoopTactic
namespace Go.Proofs.Ytonaidjdkejoeaa
open Go.RowKit Plain
set_option linter.unusedVariables false
set_option linter.unusedSimpArgs false

set_option maxRecDepth 100000 in
set_option maxHeartbeats 2000000 in
theorem mfind38 (M : Nat) (x : Lb) (v : Value) (id : Int) (w : World) (hl : ModAt w M x v) : Calls Try.prog 38 #[.pointer (some ⟨M, 0, none⟩), .int .i64 id] w fun e w' => e = .returned (.int .i64 (fnd x.l id)) ∧ Below w.heap.size w w' := by
  have hM := hl.lt
  obtain ⟨m1, a1, c1, e1, f1⟩ := hl.rw.form
  subst e1
  have F1 := Lib.hid f1
  have C4 : w.cell? ⟨M, 4, none⟩ = some (.slice a1 x.l.length c1) := hl.cell 4
  clear hl f1
  go_enter Try.func38, Try.ntmps38
  go_wp2_with fail
  go_loopw [5] (fun i wr => FindRel w x.l id i wr) (fun i _ => x.l.length - (intOf i).toNat)
  case atStart => exact ⟨0, Nat.zero_le _, rfl, Nat.zero_le _, Below.refl _ _⟩
  case round =>
    obtain ⟨k, hk, rfl, htk, hb⟩ := hrel
    have HT := Lib.hid htk
    have E4 := (hb.cell (p := ⟨M, 4, none⟩) hM).trans C4
    clear htk
    by_cases hkl : k < x.l.length
    · obtain ⟨b1, o1, rfl, hb1, hc1⟩ := F1.out (by omega)
      obtain ⟨p, hp⟩ : ∃ p, x.l[k]? = some p := ⟨x.l[k], List.getElem?_eq_getElem hkl⟩
      have q0 : wr.cell? ⟨b1, o1 + k * 3, none⟩ = some (.int .i64 p.id) := (hb.cell (p := ⟨b1, o1 + k * 3, none⟩) hb1).trans (hc1 k p hp 0 _ rfl)
      have i1 : (0 : Int) ≤ (k : Int) := by omega
      have i2 : (k : Int) < (x.l.length : Int) := by omega
      have HP := Lib.hid hp
      clear hc1 hp
      cases hv : (p.id == id)
      · have HV := Lib.hid hv
        go_wp2_with fail
        go_roundw
        case rel => exact ⟨k + 1, by omega, by go_num, fi_next HT.out HP.out HV.out, hb⟩
        case measure => simp [intOf]; omega
      · have HV := Lib.hid hv
        go_wp2_with fail
        go_returns
        exact ⟨ret_int (fnd_hit HT.out HP.out (by simpa using HV.out)).symm, hb⟩
    · go_wp2_with fail
      go_returns
      exact ⟨ret_int (fnd_none (Nat.le_trans (by omega) HT.out)).symm, hb⟩
theorem mfind38c (M : Nat) (x : Lb) (v : Value) (id n : Int) (w : World) (hl : ModAt w M x v) (hn : fnd x.l id = n) : Calls Try.prog 38 #[.pointer (some ⟨M, 0, none⟩), .int .i64 id] w fun e w' => e = .returned (.int .i64 n) ∧ Below w.heap.size w w' := by
  subst hn
  exact mfind38 M x v id w hl
theorem info76 : (Try.prog.info? 76).map (fun i => (i.zero, i.size, i.bytes)) = some (some (.agg #[.int .i64 0, .int .i64 0, .int .u64 0]), 3, 24) := by kernel_rfl
def WoAt (w : World) (l : List Pl) (e : Ending) (w' : World) : Prop := ∃ v, e = .returned v ∧ Ow plc 3 76 w' w.heap.size v l ∧ Below w.heap.size w w'
theorem rg39_1 {P : Program} {B n : Nat} {w0 : World} {L : List (Nat × Nat × Value)} {E F : World → Prop} {id : Nat} {Q : Exit → Act → World → Prop} {a : Act} {w : World} {o0 o1 o2 o3 o4 o5 o6 o7 o8 o9 : Oper} (hm : P.follows .mixedOrders = true)
    (hB : (Region.noSelect [o0, o1, o2, o3, o4, o5, o6, o7, o8, o9].toArray && Scr.ok .any [o0, o1, o2, o3, o4, o5, o6, o7, o8, o9].toArray [] [0, 1, 2, 4, 5, 6, 7, 9] (.free 0 (.free 1 (.free 2 (.free 4 (.free 5 (.free 6 (.free 7 (.altc 3 (.altc 8 (.free 9 .done) .stop) .stop)))))))) true true [o0, o1, o2, o3, o4, o5, o6, o7, o8, o9].toArray.size (Array.replicate [o0, o1, o2, o3, o4, o5, o6, o7, o8, o9].toArray.size false)) = true)
    (k : Kept B w0 n L w) (he : E w) (hE : ∀ W W', E W → Below W.heap.size W W' → E W') (hf : F w) (hF : ∀ W W', F W → Below W.heap.size W W' → F W')
    (h : ∀ wk, Kept B w0 n L wk → E wk → F wk → wpQuiet P [o0, o1, o2, o3, o4, o5, o6, o7, o8, o9].toArray (fun _ => True) (fun a0 => ((∀ K1 : Act → World → Prop, (∀ a1 w1, ((∀ K2 : Act → World → Prop, (∀ a2 w2, wpQuiet P [o0, o1, o2, o3, o4, o5, o6, o7, o8, o9].toArray (fun _ => True) (fun a3 => Q .normal a3 w2) [o9] a2 → K2 a2 w2) → wpList P [o0, o1, o2, o3, o4, o5, o6, o7, o8, o9].toArray (fun e a2 w2 => e = .normal ∧ K2 a2 w2) [o8] a1 w1) ∧ True) → K1 a1 w1) → wpList P [o0, o1, o2, o3, o4, o5, o6, o7, o8, o9].toArray (fun e a1 w1 => e = .normal ∧ K1 a1 w1) [o3] a0 wk) ∧ True)) [o0, o1, o2, o4, o5, o6, o7] a) : (Code.region id [o0, o1, o2, o3, o4, o5, o6, o7, o8, o9].toArray true).wp P Q a w := by
  have e1 : E w.drew := hE _ _ he ((Below.refl _ _).drew)
  have g := h _ k.drew e1 (hF _ _ hf ((Below.refl _ _).drew))
  exact wp_region_scr (U := (fun w' => ∃ s : KX B w0 n L E, w' = s.val)) (ops := [o0, o1, o2, o3, o4, o5, o6, o7, o8, o9].toArray) (.free 0 (.free 1 (.free 2 (.free 4 (.free 5 (.free 6 (.free 7 (.altc 3 (.altc 8 (.free 9 .done) .stop) .stop)))))))) [] [0, 1, 2, 4, 5, 6, 7, 9] hm hB ⟨⟨_, k.drew, e1⟩, rfl⟩ (Scr.of_free rfl g (fun _ g0 => Scr.of_free rfl g0 (fun _ g1 => Scr.of_free rfl g1 (fun _ g2 => Scr.of_free rfl g2 (fun _ g3 => Scr.of_free rfl g3 (fun _ g4 => Scr.of_free rfl g4 (fun _ g5 => Scr.of_free rfl g5 (fun _ g6 => (Scr.of_altc rfl (g6.1 _ (fun _ _ g => g)) (fun _ _ g7 => (Scr.of_altc rfl (g7.1 _ (fun _ _ g => g)) (fun _ _ g8 => Scr.of_free rfl g8 (fun _ g9 => g9)) trivial)) trivial)))))))))
set_option maxRecDepth 100000 in
set_option maxHeartbeats 4000000 in
theorem without39 (v : Value) (l : List Pl) (i : Nat) (w : World) (hv : Ow plc 3 76 w 0 v l) (hi : i < l.length) (h200 : l.length ≤ 200) : Calls Try.prog 39 #[v, .int .i64 i] w (WoAt w (l.eraseIdx i)) := by
  obtain ⟨g, cap, cur, rfl, _, hg, hn, hcap, _⟩ : ∃ g cap cur, v = .slice (some ⟨g, 0, none⟩) l.length cap ∧ 0 ≤ g ∧ w.heap[g]? = some (.cells cur 76 (0, 0)) ∧ l.length ≤ cap ∧ cap ≤ maxLen ∧ True := by
    rcases hv.2 with ⟨_, h2⟩ | ⟨g, cap, cur, h1, h2, h3, h4, h5, _⟩
    · omega
    · exact ⟨g, cap, cur, h1, h2, h3, h4, h5, trivial⟩
  have hrw := hv.rw (fun p _ => (plc_ok p).1)
  obtain ⟨o', hA, hA2⟩ : ∃ o' : Nat, (if cap = i + 1 then (some (⟨g, 0, none⟩ : Addr)) else some ⟨g, (i + 1) * 3, none⟩) = some ⟨g, o', none⟩ ∧ (i + 1 < l.length → o' = 0 + (i + 1) * 3) := by
    by_cases h : cap = i + 1
    · exact ⟨0, by rw [if_pos h], fun h2 => by omega⟩
    · exact ⟨(i + 1) * 3, by rw [if_neg h], fun _ => by omega⟩
  have HT : Hid (Rw plc 3 w (.slice (some ⟨g, 0, none⟩) i cap) (l.take i)) := Lib.hid (hrw.take (by omega) cap (fun h => by cases h))
  have HDR : Hid (Rw plc 3 w (.slice (some ⟨g, o', none⟩) (l.length - (i + 1)) (cap - (i + 1))) (l.drop (i + 1))) := Lib.hid (hrw.drop (by omega) _ _ hA2)
  have HLT := Lib.hid h200
  unfold maxLen at hcap
  have k1 : i ≤ cap := by omega
  have k2 : i + 1 ≤ l.length := by omega
  have k3 : l.length ≤ 9223372036854775807 := by omega
  clear hv hrw hA2 hg h200
  go_enter Try.func39, Try.ntmps39
  go_wp2_with fail
  refine rg39_1 (w0 := w) (B := w.heap.size) (n := w.heap.size) (L := []) (E := fun _ => True) (F := fun _ => True) (by kernel_rfl) (by kernel_rfl) ⟨by go_grown, by go_size, (by simp [go_sem] <;> omega)⟩ trivial (fun _ _ _ _ => trivial) trivial (fun _ _ _ _ => trivial) (fun w1 K_w1 E_w1 F_w1 => ?_)
  have _ne : Nonempty (KX (w.heap.size) w (w.heap.size) [] (fun _ => True)) := ⟨⟨_, K_w1, E_w1⟩⟩
  repeat (go_big_quiet_step (fail))
  refine wpQuiet_nil ?_
  have KH_w1 := Lib.hid K_w1
  have hw_w1 := K_w1.below
  have hz_w1 := K_w1.size
  clear K_w1
  clear E_w1 F_w1
  refine ⟨fun K hK0 => ?_, trivial⟩
  have hK := Lib.hid hK0
  clear hK0
  go_wp2_with (at_builtin; refine wpList_append_ow (f := plc) (sz := 3) rfl _ _ 41 rfl w.heap.size 76 (.agg #[.int .i64 0, .int .i64 0, .int .u64 0]) 24 Try.underlying41 info76 rfl (by decide) _ [] rfl (Ow.nil _ _ _) plc_ok _ (l.take i) rfl (HT.out.below hw_w1) ?d1 ?d2 hw_w1.size ?_)
  case d1 => have := HLT.out; simp [maxLen]; omega
  case d2 => have := HLT.out; simp; omega
  intro v1 w2 hown hgrow hwh
  have HA : Hid (Ow plc 3 76 w2 w.heap.size v1 (l.take i)) := Lib.hid hown
  have hw_w2 : Below w.heap.size w w2 := hw_w1.grown hgrow hw_w1.size (by simp [Value.ownBlock])
  clear hown hgrow hwh
  go_wp2_with fail
  first | (refine ⟨rfl, hK.out _ _ ?_⟩; clear hK K) | (refine hK.out _ _ ?_; clear hK K)
  refine ⟨fun K hK0 => ?_, trivial⟩
  have hK := Lib.hid hK0
  clear hK0
  go_wp2_with (at_builtin; refine wpList_append_ow (f := plc) (sz := 3) rfl _ _ 41 rfl w.heap.size 76 (.agg #[.int .i64 0, .int .i64 0, .int .u64 0]) 24 Try.underlying41 info76 rfl (by decide) _ (l.take i) rfl HA.out plc_ok _ (l.drop (i + 1)) rfl (HDR.out.below hw_w2) ?d3 ?d4 hw_w2.size ?_)
  case d3 => have := HLT.out; simp [maxLen]; omega
  case d4 => have := HLT.out; simp; omega
  intro v2 w3 hown hgrow hwh
  have HB : Hid (Ow plc 3 76 w3 w.heap.size v2 (l.eraseIdx i)) := Lib.hid (by rw [List.eraseIdx_eq_take_drop_succ]; exact hown)
  have hw_w3 : Below w.heap.size w w3 := hw_w2.grown hgrow hw_w2.size (fun q hq => (HA.out.typ q hq).1)
  clear hown hgrow hwh
  go_wp2_with fail
  first | (refine ⟨rfl, hK.out _ _ ?_⟩; clear hK K) | (refine hK.out _ _ ?_; clear hK K)
  repeat (go_big_quiet_step (fail))
  refine wpQuiet_nil ?_
  clear _ne
  go_wp2_with fail
  go_returns
  exact ⟨_, rfl, HB.out, hw_w3⟩

/-- a call that changes the model in block M into x' -/
def MMut (M : Nat) (w : World) (r : Ending) (x' : Lb) (e : Ending) (w' : World) : Prop := ∃ lv', e = r ∧ ModAt w' M x' lv' ∧ Onl [M] w w'
theorem MMut.same {M : Nat} {v : Value} {w w' : World} {r : Ending} {x : Lb} (h : ModAt w M x v) (hb : Below w.heap.size w w') : MMut M w r x r w' := ⟨v, rfl, h.below hb, .of hb⟩
theorem ModAt.ne {w : World} {M : Nat} {x : Lb} {v v' : Value} {l : List Pl} {base : Nat} (h : w.heap[M]? = some (.cells (lbc x v) 43 (0, 0))) (hr : Ow plc 3 76 w base v' l) : ∀ b, v'.ownBlock = some b → b ≠ M := by
  rintro b hb rfl
  obtain ⟨_, _, cur, hc⟩ := hr.typ b hb
  rw [h] at hc
  simp at hc
theorem mod_put {w : World} {M base : Nat} {x : Lb} {v v' : Value} {l : List Pl} (h : w.heap[M]? = some (.cells (lbc x v) 43 (0, 0))) (hr : Ow plc 3 76 w base v' l) : ModAt (w.setCell ⟨M, 4, none⟩ v') M { x with l := l } v' := by
  refine ⟨?_, (hr.base (fun b _ => Nat.zero_le b)).onl ((Onl.refl [M] w).setCell (q := ⟨M, 4, none⟩) (.inl (by simp)) v') (fun b hb => by simpa using ModAt.ne h hr b hb)⟩
  rw [heap_setCell_same w M 4 _ 43 v' h]
  rfl
theorem mod_now {w : World} {M : Nat} {x : Lb} {v : Value} (h : ModAt w M x v) (m : Int) : ModAt (w.setCell ⟨M, 3, none⟩ (.int .u64 m)) M { x with now := m } v := by
  refine ⟨?_, h.row.onl ((Onl.refl [M] w).setCell (q := ⟨M, 3, none⟩) (.inl (by simp)) _) (fun b hb => by simpa using ModAt.ne h.blk h.row b hb)⟩
  rw [heap_setCell_same w M 3 _ 43 _ h.blk]
  rfl
theorem mod_grown {w w' : World} {M base : Nat} {x : Lb} {v v' : Value} {l : List Pl} (h : w.heap[M]? = some (.cells (lbc x v) 43 (0, 0))) (hr : Ow plc 3 76 w base v' l) (hg : w.grownBy w' v'.ownBlock) : w'.heap[M]? = some (.cells (lbc x v) 43 (0, 0)) :=
  (hg.block M (Array.getElem?_eq_some_iff.1 h).1 (fun e => ModAt.ne h hr M e.symm rfl)).trans h
theorem rg30_8 {P : Program} {B n : Nat} {w0 : World} {L : List (Nat × Nat × Value)} {E F : World → Prop} {id : Nat} {Q : Exit → Act → World → Prop} {a : Act} {w : World} {o0 o1 o2 o3 o4 o5 o6 o7 o8 o9 o10 o11 o12 o13 o14 o15 o16 o17 : Oper} (hm : P.follows .mixedOrders = true)
    (hB : (Region.noSelect [o0, o1, o2, o3, o4, o5, o6, o7, o8, o9, o10, o11, o12, o13, o14, o15, o16, o17].toArray && Scr.ok .any [o0, o1, o2, o3, o4, o5, o6, o7, o8, o9, o10, o11, o12, o13, o14, o15, o16, o17].toArray [4, 11] [0, 1, 2, 3, 6, 7, 8, 9, 10, 12, 15, 16] (.free 0 (.free 1 (.free 2 (.free 3 (.free 6 (.free 7 (.free 8 (.free 9 (.free 10 (.read 4 (.read 11 (.free 12 (.alt 5 (.alt 13 (.altc 14 (.free 15 (.free 16 (.altc 17 .done .stop))) .stop) .stop) (.alt 13 (.alt 5 (.altc 14 (.free 15 (.free 16 (.altc 17 .done .stop))) .stop) .stop) .stop)))))))))))))) true true [o0, o1, o2, o3, o4, o5, o6, o7, o8, o9, o10, o11, o12, o13, o14, o15, o16, o17].toArray.size (Array.replicate [o0, o1, o2, o3, o4, o5, o6, o7, o8, o9, o10, o11, o12, o13, o14, o15, o16, o17].toArray.size false)) = true)
    (k : Kept B w0 n L w) (he : E w) (hE : ∀ W W', E W → Below W.heap.size W W' → E W') (hf : F w) (hF : ∀ W W', F W → Below W.heap.size W W' → F W')
    (h : ∀ wk, Kept B w0 n L wk → E wk → F wk → wpQuiet P [o0, o1, o2, o3, o4, o5, o6, o7, o8, o9, o10, o11, o12, o13, o14, o15, o16, o17].toArray (fun _ => True) (fun a0 => wpQuiet P [o0, o1, o2, o3, o4, o5, o6, o7, o8, o9, o10, o11, o12, o13, o14, o15, o16, o17].toArray (fun w' => ∃ s : KX B w0 n L E, w' = s.val) (fun a1 => wpQuiet P [o0, o1, o2, o3, o4, o5, o6, o7, o8, o9, o10, o11, o12, o13, o14, o15, o16, o17].toArray (fun _ => True) (fun a2 => ((∀ K3 : Act → World → Prop, (∀ a3 w3, ((∀ K4 : Act → World → Prop, (∀ a4 w4, ((∀ K5 : Act → World → Prop, (∀ a5 w5, wpQuiet P [o0, o1, o2, o3, o4, o5, o6, o7, o8, o9, o10, o11, o12, o13, o14, o15, o16, o17].toArray (fun _ => True) (fun a6 => ((∀ K7 : Act → World → Prop, (∀ a7 w7, Q .normal a7 w7 → K7 a7 w7) → wpList P [o0, o1, o2, o3, o4, o5, o6, o7, o8, o9, o10, o11, o12, o13, o14, o15, o16, o17].toArray (fun e a7 w7 => e = .normal ∧ K7 a7 w7) [o17] a6 w5) ∧ True)) [o15, o16] a5 → K5 a5 w5) → wpList P [o0, o1, o2, o3, o4, o5, o6, o7, o8, o9, o10, o11, o12, o13, o14, o15, o16, o17].toArray (fun e a5 w5 => e = .normal ∧ K5 a5 w5) [o14] a4 w4) ∧ True) → K4 a4 w4) → wpList P [o0, o1, o2, o3, o4, o5, o6, o7, o8, o9, o10, o11, o12, o13, o14, o15, o16, o17].toArray (fun e a4 w4 => e = .normal ∧ (∃ s : KX B w0 n L E, w4 = s.val) ∧ K4 a4 w4) [o13] a3 w3) ∧ True) → K3 a3 w3) → wpList P [o0, o1, o2, o3, o4, o5, o6, o7, o8, o9, o10, o11, o12, o13, o14, o15, o16, o17].toArray (fun e a3 w3 => e = .normal ∧ (∃ s : KX B w0 n L E, w3 = s.val) ∧ K3 a3 w3) [o5] a2 wk) ∧ (∀ K3 : Act → World → Prop, (∀ a3 w3, ((∀ K4 : Act → World → Prop, (∀ a4 w4, ((∀ K5 : Act → World → Prop, (∀ a5 w5, wpQuiet P [o0, o1, o2, o3, o4, o5, o6, o7, o8, o9, o10, o11, o12, o13, o14, o15, o16, o17].toArray (fun _ => True) (fun a6 => ((∀ K7 : Act → World → Prop, (∀ a7 w7, Q .normal a7 w7 → K7 a7 w7) → wpList P [o0, o1, o2, o3, o4, o5, o6, o7, o8, o9, o10, o11, o12, o13, o14, o15, o16, o17].toArray (fun e a7 w7 => e = .normal ∧ K7 a7 w7) [o17] a6 w5) ∧ True)) [o15, o16] a5 → K5 a5 w5) → wpList P [o0, o1, o2, o3, o4, o5, o6, o7, o8, o9, o10, o11, o12, o13, o14, o15, o16, o17].toArray (fun e a5 w5 => e = .normal ∧ K5 a5 w5) [o14] a4 w4) ∧ True) → K4 a4 w4) → wpList P [o0, o1, o2, o3, o4, o5, o6, o7, o8, o9, o10, o11, o12, o13, o14, o15, o16, o17].toArray (fun e a4 w4 => e = .normal ∧ (∃ s : KX B w0 n L E, w4 = s.val) ∧ K4 a4 w4) [o5] a3 w3) ∧ True) → K3 a3 w3) → wpList P [o0, o1, o2, o3, o4, o5, o6, o7, o8, o9, o10, o11, o12, o13, o14, o15, o16, o17].toArray (fun e a3 w3 => e = .normal ∧ (∃ s : KX B w0 n L E, w3 = s.val) ∧ K3 a3 w3) [o13] a2 wk) ∧ True)) [o12] a1) [o4, o11] a0) [o0, o1, o2, o3, o6, o7, o8, o9, o10] a) : (Code.region id [o0, o1, o2, o3, o4, o5, o6, o7, o8, o9, o10, o11, o12, o13, o14, o15, o16, o17].toArray true).wp P Q a w := by
  have e1 : E w.drew := hE _ _ he ((Below.refl _ _).drew)
  have g := h _ k.drew e1 (hF _ _ hf ((Below.refl _ _).drew))
  exact wp_region_scr (U := (fun w' => ∃ s : KX B w0 n L E, w' = s.val)) (ops := [o0, o1, o2, o3, o4, o5, o6, o7, o8, o9, o10, o11, o12, o13, o14, o15, o16, o17].toArray) (.free 0 (.free 1 (.free 2 (.free 3 (.free 6 (.free 7 (.free 8 (.free 9 (.free 10 (.read 4 (.read 11 (.free 12 (.alt 5 (.alt 13 (.altc 14 (.free 15 (.free 16 (.altc 17 .done .stop))) .stop) .stop) (.alt 13 (.alt 5 (.altc 14 (.free 15 (.free 16 (.altc 17 .done .stop))) .stop) .stop) .stop)))))))))))))) [4, 11] [0, 1, 2, 3, 6, 7, 8, 9, 10, 12, 15, 16] hm hB ⟨⟨_, k.drew, e1⟩, rfl⟩ (Scr.of_free rfl g (fun _ g0 => Scr.of_free rfl g0 (fun _ g1 => Scr.of_free rfl g1 (fun _ g2 => Scr.of_free rfl g2 (fun _ g3 => Scr.of_free rfl g3 (fun _ g4 => Scr.of_free rfl g4 (fun _ g5 => Scr.of_free rfl g5 (fun _ g6 => Scr.of_free rfl g6 (fun _ g7 => Scr.of_free rfl g7 (fun _ g8 => Scr.of_read rfl g8 (fun _ g9 => Scr.of_read rfl g9 (fun _ g10 => Scr.of_free rfl g10 (fun _ g11 => (Scr.of_alt rfl (g11.1 _ (fun _ _ g => g)) (fun _ _ g12 => (Scr.of_alt rfl (g12.1 _ (fun _ _ g => g)) (fun _ _ g13 => (Scr.of_altc rfl (g13.1 _ (fun _ _ g => g)) (fun _ _ g14 => Scr.of_free rfl g14 (fun _ g15 => Scr.of_free rfl g15 (fun _ g16 => (Scr.of_altc rfl (g16.1 _ (fun _ _ g => g)) (fun _ _ g17 => g17) trivial)))) trivial)) trivial)) (Scr.of_alt rfl (g11.2.1 _ (fun _ _ g => g)) (fun _ _ g12 => (Scr.of_alt rfl (g12.1 _ (fun _ _ g => g)) (fun _ _ g13 => (Scr.of_altc rfl (g13.1 _ (fun _ _ g => g)) (fun _ _ g14 => Scr.of_free rfl g14 (fun _ g15 => Scr.of_free rfl g15 (fun _ g16 => (Scr.of_altc rfl (g16.1 _ (fun _ _ g => g)) (fun _ _ g17 => g17) trivial)))) trivial)) trivial)) trivial)))))))))))))))
set_option maxRecDepth 100000 in
set_option maxHeartbeats 4000000 in
theorem menter30 (M : Nat) (x : Lb) (v : Value) (t id ra : Int) (w : World) (hl : ModAt w M x v) (ok : x.Ok) (ht : U t) : Calls Try.prog 30 #[.pointer (some ⟨M, 0, none⟩), .int .u64 t, .int .i64 id, .int .i64 ra] w (MMut M w (.returned (.int .i64 (enE x id ra))) (enX x t id ra)) := by
  have h1 := ok.o0
  have h200 := ok.len
  have HL0 := Lib.hid hl
  obtain ⟨av, cv, v_eq⟩ := hl.row.form
  subst v_eq
  have HL := HL0
  clear HL0
  have X1 : ∀ e, enE x id ra = e → e ≠ 0 → enX x t id ra = x := fun e h1 h2 => by unfold enX; rw [if_neg (by omega)]
  clear hl
  by_cases g1 : id < 0
  · have E0 : Hid (enE x id ra = 2) := Lib.hid (by unfold enE; rw [if_pos (.inl g1)])
    have X0 := Lib.hid (X1 _ E0.out (by decide))
    clear X1
    go_enter Try.func30, Try.ntmps30
    go_wp2_with fail
    go_returns
    rw [E0.out, X0.out]
    exact MMut.same HL.out (by go_grown)
  by_cases g2 : 1000000 < id
  · have E0 : Hid (enE x id ra = 2) := Lib.hid (by unfold enE; rw [if_pos (.inr (.inl g2))])
    have X0 := Lib.hid (X1 _ E0.out (by decide))
    clear X1
    go_enter Try.func30, Try.ntmps30
    go_wp2_with fail
    go_returns
    rw [E0.out, X0.out]
    exact MMut.same HL.out (by go_grown)
  by_cases g3 : ra < 0
  · have E0 : Hid (enE x id ra = 2) := Lib.hid (by unfold enE; rw [if_pos (.inr (.inr (by omega)))])
    have X0 := Lib.hid (X1 _ E0.out (by decide))
    clear X1
    go_enter Try.func30, Try.ntmps30
    go_wp2_with fail
    go_returns
    rw [E0.out, X0.out]
    exact MMut.same HL.out (by go_grown)
  by_cases g3b : 4000 < ra
  · have E0 : Hid (enE x id ra = 2) := Lib.hid (by unfold enE; rw [if_pos (.inr (.inr (by omega)))])
    have X0 := Lib.hid (X1 _ E0.out (by decide))
    clear X1
    go_enter Try.func30, Try.ntmps30
    go_wp2_with fail
    go_returns
    rw [E0.out, X0.out]
    exact MMut.same HL.out (by go_grown)
  obtain ⟨n, hn⟩ : ∃ n, fnd x.l id = n := ⟨_, rfl⟩
  have HN := Lib.hid hn
  by_cases g4 : 0 ≤ n
  · have E0 : Hid (enE x id ra = 11) := Lib.hid (by unfold enE; rw [if_neg (by omega), hn, if_pos g4])
    have X0 := Lib.hid (X1 _ E0.out (by decide))
    clear X1 hn
    go_enter Try.func30, Try.ntmps30
    go_wp2_with fail
    with_reducible refine (mfind38c M x _ id n _ HL.out HN.out).mono ?_
    rintro e w1 ⟨rfl, hb⟩
    have hb1 := hb
    have HL1 := Lib.hid (HL.out.below hb)
    have hM1 : M < w1.heap.size := HL1.out.lt
    have c3_1 : w1.cell? ⟨M, 3, none⟩ = Option.some (.int .u64 x.now) := HL1.out.cell 3
    have c4_1 : w1.cell? ⟨M, 4, none⟩ = Option.some (.slice av x.l.length cv) := HL1.out.cell 4
    have f3_1 : w1.frozen? ⟨M, 3, none⟩ = false := HL1.out.free 3
    have f4_1 : w1.frozen? ⟨M, 4, none⟩ = false := HL1.out.free 4
    go_wp2_with fail
    go_returns
    rw [E0.out, X0.out]
    exact MMut.same HL.out hb1
  by_cases g5 : 200 ≤ x.l.length
  · have E0 : Hid (enE x id ra = 7) := Lib.hid (by unfold enE; rw [if_neg (by omega), hn, if_neg g4, if_pos g5])
    have X0 := Lib.hid (X1 _ E0.out (by decide))
    have q5 : decide ((200 : Int) ≤ (x.l.length : Int)) = true := by simp; omega
    clear X1 hn
    go_enter Try.func30, Try.ntmps30
    go_wp2_with fail
    with_reducible refine (mfind38c M x _ id n _ HL.out HN.out).mono ?_
    rintro e w1 ⟨rfl, hb⟩
    have hb1 := hb
    have HL1 := Lib.hid (HL.out.below hb)
    have hM1 : M < w1.heap.size := HL1.out.lt
    have c3_1 : w1.cell? ⟨M, 3, none⟩ = Option.some (.int .u64 x.now) := HL1.out.cell 3
    have c4_1 : w1.cell? ⟨M, 4, none⟩ = Option.some (.slice av x.l.length cv) := HL1.out.cell 4
    have f3_1 : w1.frozen? ⟨M, 3, none⟩ = false := HL1.out.free 3
    have f4_1 : w1.frozen? ⟨M, 4, none⟩ = false := HL1.out.free 4
    go_wp2_with fail
    go_returns
    rw [E0.out, X0.out]
    exact MMut.same HL.out hb1
  have e0 : enE x id ra = 0 := by unfold enE; rw [if_neg (by omega), hn, if_neg g4, if_neg g5]
  have E0 := Lib.hid e0
  have q5 : decide ((200 : Int) ≤ (x.l.length : Int)) = false := by simp; omega
  by_cases g6 : t ≤ x.now
  · have X0 : Hid (enX x t id ra = { x with now := x.now, l := x.l ++ [⟨id, ra, x.now⟩] }) := Lib.hid (by unfold enX; rw [if_pos e0, show max x.now t = x.now from by omega])
    clear X1 hn e0
    go_enter Try.func30, Try.ntmps30
    go_wp2_with fail
    with_reducible refine (mfind38c M x _ id n _ HL.out HN.out).mono ?_
    rintro e w1 ⟨rfl, hb⟩
    have hb1 := hb
    have HL1 := Lib.hid (HL.out.below hb)
    have hM1 : M < w1.heap.size := HL1.out.lt
    have c3_1 : w1.cell? ⟨M, 3, none⟩ = Option.some (.int .u64 x.now) := HL1.out.cell 3
    have c4_1 : w1.cell? ⟨M, 4, none⟩ = Option.some (.slice av x.l.length cv) := HL1.out.cell 4
    have f3_1 : w1.frozen? ⟨M, 3, none⟩ = false := HL1.out.free 3
    have f4_1 : w1.frozen? ⟨M, 4, none⟩ = false := HL1.out.free 4
    go_wp2_with fail
    refine rg30_8 (w0 := w1) (B := 0) (n := w1.heap.size) (L := []) (E := fun W => ModAt W M { x with now := x.now } (.slice av x.l.length cv) ∧ Onl [M] w1 W) (F := fun _ => True) (by kernel_rfl) (by kernel_rfl) ⟨by go_grown, by go_size, (by simp [go_sem] <;> omega)⟩ ⟨mod_now HL1.out _, (Onl.refl _ _).setCell (q := ⟨M, 3, none⟩) (.inl (by simp)) _⟩ (fun _ _ h hb => ⟨h.1.below hb, h.2.grow hb⟩) trivial (fun _ _ _ _ => trivial) (fun w11 K_w11 E_w11 F_w11 => ?_)
    have _ne : Nonempty (KX (0) w1 (w1.heap.size) [] (fun W => ModAt W M { x with now := x.now } (.slice av x.l.length cv) ∧ Onl [M] w1 W)) := ⟨⟨_, K_w11, E_w11⟩⟩
    repeat (go_big_quiet_step (fail))
    refine wpQuiet_nil ?_
    have r3 : ∀ s : KX (0) w1 (w1.heap.size) [] (fun W => ModAt W M { x with now := x.now } (.slice av x.l.length cv) ∧ Onl [M] w1 W), s.val.cell? ⟨M, 3, none⟩ = some (.int .u64 x.now) := fun s => s.ex.1.cell 3
    have r4 : ∀ s : KX (0) w1 (w1.heap.size) [] (fun W => ModAt W M { x with now := x.now } (.slice av x.l.length cv) ∧ Onl [M] w1 W), s.val.cell? ⟨M, 4, none⟩ = some ((.slice av x.l.length cv)) := fun s => s.ex.1.cell 4
    repeat (go_big_quiet_step (fail))
    refine wpQuiet_nil ?_
    clear r3 r4
    repeat (go_big_quiet_step (fail))
    refine wpQuiet_nil ?_
    have KH_w11 := Lib.hid K_w11
    have hw_w11 := K_w11.below
    have hz_w11 := K_w11.size
    clear K_w11
    have HE := Lib.hid E_w11
    clear E_w11 F_w11
    refine ⟨fun K hK0 => ?_, fun K hK0 => ?_, trivial⟩
    · skip
      have hK := Lib.hid hK0
      clear hK0
      go_wp2_with (at_builtin; refine wpList_append_ow (f := plc) (sz := 3) rfl _ _ 41 rfl w1.heap.size 76 (.agg #[.int .i64 0, .int .i64 0, .int .u64 0]) 24 Try.underlying41 info76 rfl (by decide) _ [] rfl (Ow.nil _ _ _) plc_ok _ x.l rfl (HE.out.1.rw.below (Below.refl _ _)) ?e1_1 ?e2_1 (by have := hz_w11; first | omega | (simp; omega)) ?_)
      case e1_1 => simp [maxLen]; omega
      case e2_1 => simp; omega
      intro v1 w12 hown hgrow hwh
      have HA : Hid (Ow plc 3 76 w12 w1.heap.size v1 x.l) := Lib.hid hown
      have hb_w12 := (Below.refl _ _).grown hgrow (Nat.le_refl _) (by simp [Value.ownBlock])
      have hq_w12 : Below w11.heap.size w11 w12 := hb_w12
      have HE2 := Lib.hid (show _ ∧ _ from ⟨HE.out.1.below hq_w12, HE.out.2.grow hq_w12⟩)
      have K_w12 := KH_w11.out.step (by omega) hq_w12
      have KH_w12 := Lib.hid K_w12
      have hz_w12 := K_w12.size
      have hw_w12 := K_w12.below
      clear K_w12 hb_w12 hq_w12 hown hgrow hwh
      go_wp2_with fail
      first | (refine ⟨rfl, ⟨⟨_, KH_w12.out, HE2.out⟩, rfl⟩, hK.out _ _ ?_⟩; clear hK K) | (refine ⟨⟨⟨_, KH_w12.out, HE2.out⟩, rfl⟩, hK.out _ _ ?_⟩; clear hK K)
      refine ⟨fun K hK0 => ?_, trivial⟩
      have hK := Lib.hid hK0
      clear hK0
      go_wp2_with fail
      first | (refine ⟨rfl, ⟨⟨_, KH_w12.out.step (by omega) ((Below.refl _ _).alloc (Nat.le_refl _) _), ⟨HE2.out.1.below ((Below.refl _ _).alloc (Nat.le_refl _) _), HE2.out.2.grow ((Below.refl _ _).alloc (Nat.le_refl _) _)⟩⟩, rfl⟩, hK.out _ _ ?_⟩; clear hK K) | (refine ⟨⟨⟨_, KH_w12.out.step (by omega) ((Below.refl _ _).alloc (Nat.le_refl _) _), ⟨HE2.out.1.below ((Below.refl _ _).alloc (Nat.le_refl _) _), HE2.out.2.grow ((Below.refl _ _).alloc (Nat.le_refl _) _)⟩⟩, rfl⟩, hK.out _ _ ?_⟩; clear hK K)
      refine ⟨fun K hK0 => ?_, trivial⟩
      have hK := Lib.hid hK0
      clear hK0
      go_wp2_with (at_builtin; refine wpList_append_ow (f := plc) (sz := 3) rfl _ _ 41 rfl w1.heap.size 76 (.agg #[.int .i64 0, .int .i64 0, .int .u64 0]) 24 Try.underlying41 info76 rfl (by decide) _ x.l rfl (HA.out.below ((Below.refl _ _).alloc (Nat.le_refl _) _)) plc_ok _ [(⟨id, ra, x.now⟩ : Pl)] rfl (Rw.one2 (f := plc) (sz := 3) _ _ (⟨id, ra, x.now⟩ : Pl) #[.int .i64 id, .int .i64 ra, .int .u64 x.now] rfl _ _ (by simp)) ?e3_2 ?e4_2 (by have := hz_w12; first | omega | (simp; omega)) ?_)
      case e3_2 => simp [maxLen]; omega
      case e4_2 => simp; omega
      intro v2 wB hown hgrow hwh
      have hbB := mod_grown (HE2.out.1.below ((Below.refl _ _).alloc (Nat.le_refl _) _)).blk (HA.out.below ((Below.refl _ _).alloc (Nat.le_refl _) _)) hgrow
      have hOB : Onl [M] w1 wB := (HE2.out.2.grow ((Below.refl _ _).alloc (Nat.le_refl _) _)).grown hgrow (fun q hq => .inr (HA.out.typ q hq).1)
      have hfB : wB.frozen? ⟨M, 4, none⟩ = false := frozen_of_row wB M 4 _ 43 hbB
      have hcB : wB.cell? ⟨M, 4, none⟩ = Option.some (.slice av x.l.length cv) := cell_of_row wB M 4 _ 43 (0, 0) hbB
      obtain ⟨a', c', hv'⟩ := hown.form
      rw [List.length_append, List.length_singleton] at hv'
      subst hv'
      have HB := Lib.hid (mod_put hbB hown)
      have HOB := Lib.hid hOB
      clear hbB hown hgrow hwh hOB
      go_wp2_with fail
      first | (refine ⟨rfl, hK.out _ _ ?_⟩; clear hK K) | (refine hK.out _ _ ?_; clear hK K)
      repeat (go_big_quiet_step (fail))
      refine wpQuiet_nil ?_
      refine ⟨fun K hK0 => ?_, trivial⟩
      have hK := Lib.hid hK0
      clear hK0
      go_wp2_with fail
      first | (refine ⟨rfl, hK.out _ _ ?_⟩; clear hK K) | (refine hK.out _ _ ?_; clear hK K)
      clear _ne
      go_wp2_with fail
      go_returns
      rw [E0.out, X0.out]
      exact ⟨_, rfl, HB.out, (Onl.of hb1).trans (HOB.out.setCell (q := ⟨M, 4, none⟩) (.inl (by simp)) _)⟩
    · skip
      have hK := Lib.hid hK0
      clear hK0
      go_wp2_with fail
      first | (refine ⟨rfl, ⟨⟨_, KH_w11.out.step (by omega) ((Below.refl _ _).alloc (Nat.le_refl _) _), ⟨HE.out.1.below ((Below.refl _ _).alloc (Nat.le_refl _) _), HE.out.2.grow ((Below.refl _ _).alloc (Nat.le_refl _) _)⟩⟩, rfl⟩, hK.out _ _ ?_⟩; clear hK K) | (refine ⟨⟨⟨_, KH_w11.out.step (by omega) ((Below.refl _ _).alloc (Nat.le_refl _) _), ⟨HE.out.1.below ((Below.refl _ _).alloc (Nat.le_refl _) _), HE.out.2.grow ((Below.refl _ _).alloc (Nat.le_refl _) _)⟩⟩, rfl⟩, hK.out _ _ ?_⟩; clear hK K)
      refine ⟨fun K hK0 => ?_, trivial⟩
      have hK := Lib.hid hK0
      clear hK0
      go_wp2_with (at_builtin; refine wpList_append_ow (f := plc) (sz := 3) rfl _ _ 41 rfl w1.heap.size 76 (.agg #[.int .i64 0, .int .i64 0, .int .u64 0]) 24 Try.underlying41 info76 rfl (by decide) _ [] rfl (Ow.nil _ _ _) plc_ok _ x.l rfl (HE.out.1.rw.below ((Below.refl _ _).alloc (Nat.le_refl _) _)) ?e1_3 ?e2_3 (by have := hz_w11; first | omega | (simp; omega)) ?_)
      case e1_3 => simp [maxLen]; omega
      case e2_3 => simp; omega
      intro v1 w12 hown hgrow hwh
      have HA : Hid (Ow plc 3 76 w12 w1.heap.size v1 x.l) := Lib.hid hown
      have hb_w12 := (Below.refl _ _).grown hgrow (Nat.le_refl _) (by simp [Value.ownBlock])
      have hq_w12 : Below w11.heap.size w11 w12 := below_via ((Below.refl _ _).alloc (Nat.le_refl _) _) hb_w12
      have HSL : Hid (Rw plc 3 w12 (.slice (some ⟨w11.heap.size, 0, none⟩) 1 1) [(⟨id, ra, x.now⟩ : Pl)]) := Lib.hid ((Rw.one2 (f := plc) (sz := 3) w11 76 (⟨id, ra, x.now⟩ : Pl) #[.int .i64 id, .int .i64 ra, .int .u64 x.now] rfl 1 _ rfl).below hb_w12)
      have HE2 := Lib.hid (show _ ∧ _ from ⟨HE.out.1.below hq_w12, HE.out.2.grow hq_w12⟩)
      have K_w12 := KH_w11.out.step (by omega) hq_w12
      have KH_w12 := Lib.hid K_w12
      have hz_w12 := K_w12.size
      have hw_w12 := K_w12.below
      clear K_w12 hb_w12 hq_w12 hown hgrow hwh
      go_wp2_with fail
      first | (refine ⟨rfl, ⟨⟨_, KH_w12.out, HE2.out⟩, rfl⟩, hK.out _ _ ?_⟩; clear hK K) | (refine ⟨⟨⟨_, KH_w12.out, HE2.out⟩, rfl⟩, hK.out _ _ ?_⟩; clear hK K)
      refine ⟨fun K hK0 => ?_, trivial⟩
      have hK := Lib.hid hK0
      clear hK0
      go_wp2_with (at_builtin; refine wpList_append_ow (f := plc) (sz := 3) rfl _ _ 41 rfl w1.heap.size 76 (.agg #[.int .i64 0, .int .i64 0, .int .u64 0]) 24 Try.underlying41 info76 rfl (by decide) _ x.l rfl (HA.out.below (Below.refl _ _)) plc_ok _ [(⟨id, ra, x.now⟩ : Pl)] rfl HSL.out ?e3_4 ?e4_4 (by have := hz_w12; first | omega | (simp; omega)) ?_)
      case e3_4 => simp [maxLen]; omega
      case e4_4 => simp; omega
      intro v2 wB hown hgrow hwh
      have hbB := mod_grown (HE2.out.1.below (Below.refl _ _)).blk (HA.out.below (Below.refl _ _)) hgrow
      have hOB : Onl [M] w1 wB := (HE2.out.2.grow (Below.refl _ _)).grown hgrow (fun q hq => .inr (HA.out.typ q hq).1)
      have hfB : wB.frozen? ⟨M, 4, none⟩ = false := frozen_of_row wB M 4 _ 43 hbB
      have hcB : wB.cell? ⟨M, 4, none⟩ = Option.some (.slice av x.l.length cv) := cell_of_row wB M 4 _ 43 (0, 0) hbB
      obtain ⟨a', c', hv'⟩ := hown.form
      rw [List.length_append, List.length_singleton] at hv'
      subst hv'
      have HB := Lib.hid (mod_put hbB hown)
      have HOB := Lib.hid hOB
      clear hbB hown hgrow hwh hOB
      go_wp2_with fail
      first | (refine ⟨rfl, hK.out _ _ ?_⟩; clear hK K) | (refine hK.out _ _ ?_; clear hK K)
      repeat (go_big_quiet_step (fail))
      refine wpQuiet_nil ?_
      refine ⟨fun K hK0 => ?_, trivial⟩
      have hK := Lib.hid hK0
      clear hK0
      go_wp2_with fail
      first | (refine ⟨rfl, hK.out _ _ ?_⟩; clear hK K) | (refine hK.out _ _ ?_; clear hK K)
      clear _ne
      go_wp2_with fail
      go_returns
      rw [E0.out, X0.out]
      exact ⟨_, rfl, HB.out, (Onl.of hb1).trans (HOB.out.setCell (q := ⟨M, 4, none⟩) (.inl (by simp)) _)⟩
  · have X0 : Hid (enX x t id ra = { x with now := t, l := x.l ++ [⟨id, ra, t⟩] }) := Lib.hid (by unfold enX; rw [if_pos e0, show max x.now t = t from by omega])
    have g7 : x.now < t := by omega
    clear X1 hn e0
    go_enter Try.func30, Try.ntmps30
    go_wp2_with fail
    with_reducible refine (mfind38c M x _ id n _ HL.out HN.out).mono ?_
    rintro e w1 ⟨rfl, hb⟩
    have hb1 := hb
    have HL1 := Lib.hid (HL.out.below hb)
    have hM1 : M < w1.heap.size := HL1.out.lt
    have c3_1 : w1.cell? ⟨M, 3, none⟩ = Option.some (.int .u64 x.now) := HL1.out.cell 3
    have c4_1 : w1.cell? ⟨M, 4, none⟩ = Option.some (.slice av x.l.length cv) := HL1.out.cell 4
    have f3_1 : w1.frozen? ⟨M, 3, none⟩ = false := HL1.out.free 3
    have f4_1 : w1.frozen? ⟨M, 4, none⟩ = false := HL1.out.free 4
    go_wp2_with fail
    refine rg30_8 (w0 := w1) (B := 0) (n := w1.heap.size) (L := []) (E := fun W => ModAt W M { x with now := t } (.slice av x.l.length cv) ∧ Onl [M] w1 W) (F := fun _ => True) (by kernel_rfl) (by kernel_rfl) ⟨by go_grown, by go_size, (by simp [go_sem] <;> omega)⟩ ⟨mod_now HL1.out _, (Onl.refl _ _).setCell (q := ⟨M, 3, none⟩) (.inl (by simp)) _⟩ (fun _ _ h hb => ⟨h.1.below hb, h.2.grow hb⟩) trivial (fun _ _ _ _ => trivial) (fun w11 K_w11 E_w11 F_w11 => ?_)
    have _ne : Nonempty (KX (0) w1 (w1.heap.size) [] (fun W => ModAt W M { x with now := t } (.slice av x.l.length cv) ∧ Onl [M] w1 W)) := ⟨⟨_, K_w11, E_w11⟩⟩
    repeat (go_big_quiet_step (fail))
    refine wpQuiet_nil ?_
    have r3 : ∀ s : KX (0) w1 (w1.heap.size) [] (fun W => ModAt W M { x with now := t } (.slice av x.l.length cv) ∧ Onl [M] w1 W), s.val.cell? ⟨M, 3, none⟩ = some (.int .u64 t) := fun s => s.ex.1.cell 3
    have r4 : ∀ s : KX (0) w1 (w1.heap.size) [] (fun W => ModAt W M { x with now := t } (.slice av x.l.length cv) ∧ Onl [M] w1 W), s.val.cell? ⟨M, 4, none⟩ = some ((.slice av x.l.length cv)) := fun s => s.ex.1.cell 4
    repeat (go_big_quiet_step (fail))
    refine wpQuiet_nil ?_
    clear r3 r4
    repeat (go_big_quiet_step (fail))
    refine wpQuiet_nil ?_
    have KH_w11 := Lib.hid K_w11
    have hw_w11 := K_w11.below
    have hz_w11 := K_w11.size
    clear K_w11
    have HE := Lib.hid E_w11
    clear E_w11 F_w11
    refine ⟨fun K hK0 => ?_, fun K hK0 => ?_, trivial⟩
    · skip
      have hK := Lib.hid hK0
      clear hK0
      go_wp2_with (at_builtin; refine wpList_append_ow (f := plc) (sz := 3) rfl _ _ 41 rfl w1.heap.size 76 (.agg #[.int .i64 0, .int .i64 0, .int .u64 0]) 24 Try.underlying41 info76 rfl (by decide) _ [] rfl (Ow.nil _ _ _) plc_ok _ x.l rfl (HE.out.1.rw.below (Below.refl _ _)) ?e1_1 ?e2_1 (by have := hz_w11; first | omega | (simp; omega)) ?_)
      case e1_1 => simp [maxLen]; omega
      case e2_1 => simp; omega
      intro v1 w12 hown hgrow hwh
      have HA : Hid (Ow plc 3 76 w12 w1.heap.size v1 x.l) := Lib.hid hown
      have hb_w12 := (Below.refl _ _).grown hgrow (Nat.le_refl _) (by simp [Value.ownBlock])
      have hq_w12 : Below w11.heap.size w11 w12 := hb_w12
      have HE2 := Lib.hid (show _ ∧ _ from ⟨HE.out.1.below hq_w12, HE.out.2.grow hq_w12⟩)
      have K_w12 := KH_w11.out.step (by omega) hq_w12
      have KH_w12 := Lib.hid K_w12
      have hz_w12 := K_w12.size
      have hw_w12 := K_w12.below
      clear K_w12 hb_w12 hq_w12 hown hgrow hwh
      go_wp2_with fail
      first | (refine ⟨rfl, ⟨⟨_, KH_w12.out, HE2.out⟩, rfl⟩, hK.out _ _ ?_⟩; clear hK K) | (refine ⟨⟨⟨_, KH_w12.out, HE2.out⟩, rfl⟩, hK.out _ _ ?_⟩; clear hK K)
      refine ⟨fun K hK0 => ?_, trivial⟩
      have hK := Lib.hid hK0
      clear hK0
      go_wp2_with fail
      first | (refine ⟨rfl, ⟨⟨_, KH_w12.out.step (by omega) ((Below.refl _ _).alloc (Nat.le_refl _) _), ⟨HE2.out.1.below ((Below.refl _ _).alloc (Nat.le_refl _) _), HE2.out.2.grow ((Below.refl _ _).alloc (Nat.le_refl _) _)⟩⟩, rfl⟩, hK.out _ _ ?_⟩; clear hK K) | (refine ⟨⟨⟨_, KH_w12.out.step (by omega) ((Below.refl _ _).alloc (Nat.le_refl _) _), ⟨HE2.out.1.below ((Below.refl _ _).alloc (Nat.le_refl _) _), HE2.out.2.grow ((Below.refl _ _).alloc (Nat.le_refl _) _)⟩⟩, rfl⟩, hK.out _ _ ?_⟩; clear hK K)
      refine ⟨fun K hK0 => ?_, trivial⟩
      have hK := Lib.hid hK0
      clear hK0
      go_wp2_with (at_builtin; refine wpList_append_ow (f := plc) (sz := 3) rfl _ _ 41 rfl w1.heap.size 76 (.agg #[.int .i64 0, .int .i64 0, .int .u64 0]) 24 Try.underlying41 info76 rfl (by decide) _ x.l rfl (HA.out.below ((Below.refl _ _).alloc (Nat.le_refl _) _)) plc_ok _ [(⟨id, ra, t⟩ : Pl)] rfl (Rw.one2 (f := plc) (sz := 3) _ _ (⟨id, ra, t⟩ : Pl) #[.int .i64 id, .int .i64 ra, .int .u64 t] rfl _ _ (by simp)) ?e3_2 ?e4_2 (by have := hz_w12; first | omega | (simp; omega)) ?_)
      case e3_2 => simp [maxLen]; omega
      case e4_2 => simp; omega
      intro v2 wB hown hgrow hwh
      have hbB := mod_grown (HE2.out.1.below ((Below.refl _ _).alloc (Nat.le_refl _) _)).blk (HA.out.below ((Below.refl _ _).alloc (Nat.le_refl _) _)) hgrow
      have hOB : Onl [M] w1 wB := (HE2.out.2.grow ((Below.refl _ _).alloc (Nat.le_refl _) _)).grown hgrow (fun q hq => .inr (HA.out.typ q hq).1)
      have hfB : wB.frozen? ⟨M, 4, none⟩ = false := frozen_of_row wB M 4 _ 43 hbB
      have hcB : wB.cell? ⟨M, 4, none⟩ = Option.some (.slice av x.l.length cv) := cell_of_row wB M 4 _ 43 (0, 0) hbB
      obtain ⟨a', c', hv'⟩ := hown.form
      rw [List.length_append, List.length_singleton] at hv'
      subst hv'
      have HB := Lib.hid (mod_put hbB hown)
      have HOB := Lib.hid hOB
      clear hbB hown hgrow hwh hOB
      go_wp2_with fail
      first | (refine ⟨rfl, hK.out _ _ ?_⟩; clear hK K) | (refine hK.out _ _ ?_; clear hK K)
      repeat (go_big_quiet_step (fail))
      refine wpQuiet_nil ?_
      refine ⟨fun K hK0 => ?_, trivial⟩
      have hK := Lib.hid hK0
      clear hK0
      go_wp2_with fail
      first | (refine ⟨rfl, hK.out _ _ ?_⟩; clear hK K) | (refine hK.out _ _ ?_; clear hK K)
      clear _ne
      go_wp2_with fail
      go_returns
      rw [E0.out, X0.out]
      exact ⟨_, rfl, HB.out, (Onl.of hb1).trans (HOB.out.setCell (q := ⟨M, 4, none⟩) (.inl (by simp)) _)⟩
    · skip
      have hK := Lib.hid hK0
      clear hK0
      go_wp2_with fail
      first | (refine ⟨rfl, ⟨⟨_, KH_w11.out.step (by omega) ((Below.refl _ _).alloc (Nat.le_refl _) _), ⟨HE.out.1.below ((Below.refl _ _).alloc (Nat.le_refl _) _), HE.out.2.grow ((Below.refl _ _).alloc (Nat.le_refl _) _)⟩⟩, rfl⟩, hK.out _ _ ?_⟩; clear hK K) | (refine ⟨⟨⟨_, KH_w11.out.step (by omega) ((Below.refl _ _).alloc (Nat.le_refl _) _), ⟨HE.out.1.below ((Below.refl _ _).alloc (Nat.le_refl _) _), HE.out.2.grow ((Below.refl _ _).alloc (Nat.le_refl _) _)⟩⟩, rfl⟩, hK.out _ _ ?_⟩; clear hK K)
      refine ⟨fun K hK0 => ?_, trivial⟩
      have hK := Lib.hid hK0
      clear hK0
      go_wp2_with (at_builtin; refine wpList_append_ow (f := plc) (sz := 3) rfl _ _ 41 rfl w1.heap.size 76 (.agg #[.int .i64 0, .int .i64 0, .int .u64 0]) 24 Try.underlying41 info76 rfl (by decide) _ [] rfl (Ow.nil _ _ _) plc_ok _ x.l rfl (HE.out.1.rw.below ((Below.refl _ _).alloc (Nat.le_refl _) _)) ?e1_3 ?e2_3 (by have := hz_w11; first | omega | (simp; omega)) ?_)
      case e1_3 => simp [maxLen]; omega
      case e2_3 => simp; omega
      intro v1 w12 hown hgrow hwh
      have HA : Hid (Ow plc 3 76 w12 w1.heap.size v1 x.l) := Lib.hid hown
      have hb_w12 := (Below.refl _ _).grown hgrow (Nat.le_refl _) (by simp [Value.ownBlock])
      have hq_w12 : Below w11.heap.size w11 w12 := below_via ((Below.refl _ _).alloc (Nat.le_refl _) _) hb_w12
      have HSL : Hid (Rw plc 3 w12 (.slice (some ⟨w11.heap.size, 0, none⟩) 1 1) [(⟨id, ra, t⟩ : Pl)]) := Lib.hid ((Rw.one2 (f := plc) (sz := 3) w11 76 (⟨id, ra, t⟩ : Pl) #[.int .i64 id, .int .i64 ra, .int .u64 t] rfl 1 _ rfl).below hb_w12)
      have HE2 := Lib.hid (show _ ∧ _ from ⟨HE.out.1.below hq_w12, HE.out.2.grow hq_w12⟩)
      have K_w12 := KH_w11.out.step (by omega) hq_w12
      have KH_w12 := Lib.hid K_w12
      have hz_w12 := K_w12.size
      have hw_w12 := K_w12.below
      clear K_w12 hb_w12 hq_w12 hown hgrow hwh
      go_wp2_with fail
      first | (refine ⟨rfl, ⟨⟨_, KH_w12.out, HE2.out⟩, rfl⟩, hK.out _ _ ?_⟩; clear hK K) | (refine ⟨⟨⟨_, KH_w12.out, HE2.out⟩, rfl⟩, hK.out _ _ ?_⟩; clear hK K)
      refine ⟨fun K hK0 => ?_, trivial⟩
      have hK := Lib.hid hK0
      clear hK0
      go_wp2_with (at_builtin; refine wpList_append_ow (f := plc) (sz := 3) rfl _ _ 41 rfl w1.heap.size 76 (.agg #[.int .i64 0, .int .i64 0, .int .u64 0]) 24 Try.underlying41 info76 rfl (by decide) _ x.l rfl (HA.out.below (Below.refl _ _)) plc_ok _ [(⟨id, ra, t⟩ : Pl)] rfl HSL.out ?e3_4 ?e4_4 (by have := hz_w12; first | omega | (simp; omega)) ?_)
      case e3_4 => simp [maxLen]; omega
      case e4_4 => simp; omega
      intro v2 wB hown hgrow hwh
      have hbB := mod_grown (HE2.out.1.below (Below.refl _ _)).blk (HA.out.below (Below.refl _ _)) hgrow
      have hOB : Onl [M] w1 wB := (HE2.out.2.grow (Below.refl _ _)).grown hgrow (fun q hq => .inr (HA.out.typ q hq).1)
      have hfB : wB.frozen? ⟨M, 4, none⟩ = false := frozen_of_row wB M 4 _ 43 hbB
      have hcB : wB.cell? ⟨M, 4, none⟩ = Option.some (.slice av x.l.length cv) := cell_of_row wB M 4 _ 43 (0, 0) hbB
      obtain ⟨a', c', hv'⟩ := hown.form
      rw [List.length_append, List.length_singleton] at hv'
      subst hv'
      have HB := Lib.hid (mod_put hbB hown)
      have HOB := Lib.hid hOB
      clear hbB hown hgrow hwh hOB
      go_wp2_with fail
      first | (refine ⟨rfl, hK.out _ _ ?_⟩; clear hK K) | (refine hK.out _ _ ?_; clear hK K)
      repeat (go_big_quiet_step (fail))
      refine wpQuiet_nil ?_
      refine ⟨fun K hK0 => ?_, trivial⟩
      have hK := Lib.hid hK0
      clear hK0
      go_wp2_with fail
      first | (refine ⟨rfl, hK.out _ _ ?_⟩; clear hK K) | (refine hK.out _ _ ?_; clear hK K)
      clear _ne
      go_wp2_with fail
      go_returns
      rw [E0.out, X0.out]
      exact ⟨_, rfl, HB.out, (Onl.of hb1).trans (HOB.out.setCell (q := ⟨M, 4, none⟩) (.inl (by simp)) _)⟩

set_option maxRecDepth 100000 in
set_option maxHeartbeats 2000000 in
theorem mleave31 (M : Nat) (x : Lb) (v : Value) (id : Int) (w : World) (hl : ModAt w M x v) (ok : x.Ok) : Calls Try.prog 31 #[.pointer (some ⟨M, 0, none⟩), .int .i64 id] w (MMut M w (.returned (.int .i64 (leE x id))) (leX x id)) := by
  obtain ⟨av, cv, v_eq⟩ := hl.row.form
  subst v_eq
  have HL := Lib.hid hl
  obtain ⟨n, hn⟩ : ∃ n, fnd x.l id = n := ⟨_, rfl⟩
  have HN := Lib.hid hn
  have hbd := fnd_bd x.l id
  rw [hn] at hbd
  obtain ⟨hb1, hb2, _⟩ := hbd
  clear hl
  by_cases h0 : n < 0
  · have E0 : Hid (leE x id = 9) := Lib.hid (by unfold leE; rw [hn, if_neg (by omega)])
    have X0 : Hid (leX x id = x) := Lib.hid (by unfold leX; rw [hn, if_neg (by omega)])
    clear hn
    go_enter Try.func31, Try.ntmps31
    go_wp2_with fail
    with_reducible refine (mfind38c M x _ id _ _ HL.out HN.out).mono ?_
    rintro e w1 ⟨rfl, hb⟩
    have HL1 := Lib.hid (HL.out.below hb)
    go_wp2_with fail
    go_returns
    rw [E0.out, X0.out]
    exact MMut.same HL.out hb
  · have E0 : Hid (leE x id = 0) := Lib.hid (by unfold leE; rw [hn, if_pos (by omega)])
    have X1 : leX x id = { x with l := x.l.eraseIdx n.toNat } := by unfold leX; rw [hn, if_pos (by omega)]
    obtain ⟨k, rfl⟩ : ∃ k : Nat, n = k := ⟨n.toNat, by omega⟩
    rw [Int.toNat_natCast] at X1
    have X0 := Lib.hid X1
    have HK : Hid (k < x.l.length) := Lib.hid (by omega)
    clear X1 hn hb1 hb2 h0
    go_enter Try.func31, Try.ntmps31
    go_wp2_with fail
    with_reducible refine (mfind38c M x _ id _ _ HL.out HN.out).mono ?_
    rintro e w1 ⟨rfl, hb⟩
    have HL1 := Lib.hid (HL.out.below hb)
    have c4_1 : w1.cell? ⟨M, 4, none⟩ = Option.some (.slice av x.l.length cv) := HL1.out.cell 4
    go_wp2_with fail
    with_reducible refine (without39 _ x.l k _ HL1.out.row HK.out ok.len).mono ?_
    rintro e w2 ⟨v2, rfl, h2, hb2⟩
    have hB2 := (HL1.out.below hb2).blk
    have c4_2 : w2.cell? ⟨M, 4, none⟩ = Option.some (.slice av x.l.length cv) := cell_of_row w2 M 4 _ 43 (0, 0) hB2
    have f4_2 : w2.frozen? ⟨M, 4, none⟩ = false := frozen_of_row w2 M 4 _ 43 hB2
    obtain ⟨a', c', hv'⟩ := h2.form
    obtain ⟨n', hn'⟩ : ∃ n, (x.l.eraseIdx k).length = n := ⟨_, rfl⟩
    rw [hn'] at hv'
    subst hv'
    have HB := Lib.hid (mod_put hB2 h2)
    have HO2 := Lib.hid (Onl.of (S := [M]) (below_via hb hb2))
    clear hB2 h2 hb2 hn'
    go_wp2_with fail
    go_returns
    rw [E0.out, X0.out]
    exact ⟨_, rfl, HB.out, HO2.out.setCell (q := ⟨M, 4, none⟩) (.inl (by simp)) _⟩

end Go.Proofs.Ytonaidjdkejoeaa
