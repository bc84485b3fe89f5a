/- Copy of a window; New of the reference; Accept whatever comes. -/
import Derived.Test.YthibagfmglnejaaRefD
import Derived.Laws.OwnMore
namespace Go.Proofs.Ythibagfmglnejaa
open Go.RowKit Plain
set_option linter.unusedVariables false
set_option linter.unusedSimpArgs false

theorem rg23_3 {P : Program} {B n : Nat} {w0 : World} {L : List (Nat × Nat × Value)} {E F : World → Prop} {id : Nat} {Q : Exit → Act → World → Prop} {a : Act} {w : World} {o0 o1 o2 o3 o4 o5 o6 o7 o8 o9 o10 o11 : Oper} (hm : P.follows .mixedOrders = true)
    (hB : (Region.noSelect [o0, o1, o2, o3, o4, o5, o6, o7, o8, o9, o10, o11].toArray && Scr.ok .any [o0, o1, o2, o3, o4, o5, o6, o7, o8, o9, o10, o11].toArray [3, 7] [0, 1, 2, 4, 5, 6, 11] (.free 0 (.free 1 (.free 2 (.free 4 (.free 5 (.free 6 (.read 3 (.read 7 (.alt 8 (.altc 9 (.altc 10 (.free 11 .done) .stop) .stop) .stop))))))))) true true [o0, o1, o2, o3, o4, o5, o6, o7, o8, o9, o10, o11].toArray.size (Array.replicate [o0, o1, o2, o3, o4, o5, o6, o7, o8, o9, o10, o11].toArray.size false)) = true)
    (k : Kept B w0 n L w) (he : E w) (hE : ∀ W W', E W → Below W.heap.size W W' → E W') (hf : F w) (hF : ∀ W W', F W → Below W.heap.size W W' → F W')
    (h : ∀ wk, Kept B w0 n L wk → E wk → F wk → wpQuiet P [o0, o1, o2, o3, o4, o5, o6, o7, o8, o9, o10, o11].toArray (fun _ => True) (fun a0 => wpQuiet P [o0, o1, o2, o3, o4, o5, o6, o7, o8, o9, o10, o11].toArray (fun w' => ∃ s : KX B w0 n L E, w' = s.val) (fun a1 => ((∀ K2 : Act → World → Prop, (∀ a2 w2, ((∀ K3 : Act → World → Prop, (∀ a3 w3, ((∀ K4 : Act → World → Prop, (∀ a4 w4, wpQuiet P [o0, o1, o2, o3, o4, o5, o6, o7, o8, o9, o10, o11].toArray (fun _ => True) (fun a5 => Q .normal a5 w4) [o11] a4 → K4 a4 w4) → wpList P [o0, o1, o2, o3, o4, o5, o6, o7, o8, o9, o10, o11].toArray (fun e a4 w4 => e = .normal ∧ K4 a4 w4) [o10] a3 w3) ∧ True) → K3 a3 w3) → wpList P [o0, o1, o2, o3, o4, o5, o6, o7, o8, o9, o10, o11].toArray (fun e a3 w3 => e = .normal ∧ K3 a3 w3) [o9] a2 w2) ∧ True) → K2 a2 w2) → wpList P [o0, o1, o2, o3, o4, o5, o6, o7, o8, o9, o10, o11].toArray (fun e a2 w2 => e = .normal ∧ (∃ s : KX B w0 n L E, w2 = s.val) ∧ K2 a2 w2) [o8] a1 wk) ∧ True)) [o3, o7] a0) [o0, o1, o2, o4, o5, o6] a) : (Code.region id [o0, o1, o2, o3, o4, o5, o6, o7, o8, o9, o10, o11].toArray true).wp P Q a w := by
  have e1 : E w.drew := hE _ _ he ((Below.refl _ _).drew)
  have g := h _ k.drew e1 (hF _ _ hf ((Below.refl _ _).drew))
  exact wp_region_scr (U := (fun w' => ∃ s : KX B w0 n L E, w' = s.val)) (ops := [o0, o1, o2, o3, o4, o5, o6, o7, o8, o9, o10, o11].toArray) (.free 0 (.free 1 (.free 2 (.free 4 (.free 5 (.free 6 (.read 3 (.read 7 (.alt 8 (.altc 9 (.altc 10 (.free 11 .done) .stop) .stop) .stop))))))))) [3, 7] [0, 1, 2, 4, 5, 6, 11] hm hB ⟨⟨_, k.drew, e1⟩, rfl⟩ (Scr.of_free rfl g (fun _ g0 => Scr.of_free rfl g0 (fun _ g1 => Scr.of_free rfl g1 (fun _ g2 => Scr.of_free rfl g2 (fun _ g3 => Scr.of_free rfl g3 (fun _ g4 => Scr.of_free rfl g4 (fun _ g5 => Scr.of_read rfl g5 (fun _ g6 => Scr.of_read rfl g6 (fun _ g7 => (Scr.of_alt rfl (g7.1 _ (fun _ _ g => g)) (fun _ _ g8 => (Scr.of_altc rfl (g8.1 _ (fun _ _ g => g)) (fun _ _ g9 => (Scr.of_altc rfl (g9.1 _ (fun _ _ g => g)) (fun _ _ g10 => Scr.of_free rfl g10 (fun _ g11 => g11)) trivial)) trivial)) trivial))))))))))

theorem info4 : (Try.prog.info? 4).map (fun i => (i.zero, i.size, i.bytes)) = some (some (.bool false), 1, 1) := by kernel_rfl
def CloneB (w : World) (l : List Bool) (e : Ending) (w' : World) : Prop := ∃ v, e = .returned v ∧ w'.ownsRow w.heap.size 4 1 v l.length (l.map Value.bool) ∧ Below w.heap.size w w'
set_option maxRecDepth 100000 in
set_option maxHeartbeats 2000000 in
theorem clone29 (D : Nat) (l : List Bool) (cap : Nat) (ex : List Value) (w : World) (hd : DAt w D l ex) (hl1 : 1 ≤ l.length) (hl2 : l.length ≤ 1024) : Calls Try.prog 29 #[.slice (some ⟨D, 0, none⟩) l.length cap] w (CloneB w l) := by
  obtain ⟨i4, hi4, z1, z2, z3⟩ := info_parts info4
  have HD := Lib.hid hd
  clear hd
  have qT : ∀ (w : World) (a : Option Addr) (n c : Nat), (binOp .eql 48 (.slice a n c) (.slice none 0 0)).run Try.prog w = .ok (.bool a.isNone) w := fun w a n c => Lib.run_eql_slice_nil w 48 4 a n c 0 0 Try.underlying48
  go_enter Try.func29, Try.ntmps29
  go_wp2_with (at_builtin; refine wpList_append_own _ rfl _ _ 48 rfl w.heap.size 4 i4 (.bool false) 1 1 Try.underlying48 hi4 z1 z2 z3 rfl (by decide) _ 0 [] rfl (World.ownsRow_lit w #[] 0 (Nat.le_refl _) (by simp) (by simp)) ⟨D, 0, none⟩ l.length cap (l.map Value.bool) rfl (by simp) ?c1 ?c2 ?c3 ?c4 (by simp) ?_)
  case c1 =>
    intro j u hj
    rw [List.getElem?_map] at hj
    cases hz : l[j]? with
    | none => rw [hz] at hj; simp at hj
    | some z =>
      rw [hz] at hj
      simp at hj
      subst hj
      rw [WideShapes.add_plain, Nat.zero_add]
      exact Lib.cell?_alloc_some _ (HD.out.cell hz)
  case c2 => exact fun v hv => bool_one hv
  case c3 => unfold maxLen; simp <;> omega
  case c4 => simp <;> omega
  intro v' w1 hown' hgrow _
  have hb1 : Below w.heap.size w w1 := ((Below.refl _ w).alloc (Nat.le_refl _) _).grown hgrow (by simp) (fun k hk => by simp [Value.ownBlock] at hk; omega)
  have HO : Hid (w1.ownsRow w.heap.size 4 1 v' l.length (l.map Value.bool)) := Lib.hid (by simpa using hown')
  clear hown' hgrow
  go_wp2_with fail
  go_returns
  exact ⟨_, rfl, HO.out, hb1⟩
set_option maxRecDepth 100000 in
set_option maxHeartbeats 2000000 in
theorem copy23 (P D : Nat) (f : Int) (l : List Bool) (cap : Nat) (ex : List Value) (w : World) (hw : WinAt w P D f l cap ex) : Calls Try.prog 23 #[.pointer (some ⟨P, 0, none⟩)] w (CopyAt w f l) := by
  have k0 := hw.cell0
  have k1 := hw.cell1
  have hl1 := hw.l1
  have hl2 := hw.l2
  have hf := hw.f0
  have HW := Lib.hid hw
  clear hw
  go_enter Try.func23, Try.ntmps23
  go_wp2_with fail
  with_reducible refine (zero26 P D l cap _ k1 hl1).mono ?_
  rintro e w' ⟨rfl, rfl⟩
  go_wp2_with fail
  refine rg23_3 (w0 := w) (B := w.heap.size) (n := w.heap.size) (L := []) (E := fun W => WinAt W P D f l cap ex) (F := fun _ => True) (by kernel_rfl) (by kernel_rfl) ⟨by go_grown, by go_size, (by simp [go_sem] <;> omega)⟩ HW.out (fun _ _ h hb => h.below hb) trivial (fun _ _ _ _ => trivial) (fun w1 K_w1 E_w1 F_w1 => ?_)
  have _ne : Nonempty (KX (w.heap.size) w (w.heap.size) [] (fun W => WinAt W P D f l cap ex)) := ⟨⟨_, K_w1, E_w1⟩⟩
  repeat (go_big_quiet_step (fail))
  refine wpQuiet_nil ?_
  have r0 : ∀ s : KX (w.heap.size) w (w.heap.size) [] (fun W => WinAt W P D f l cap ex), s.val.cell? ⟨P, 0, none⟩ = some (.int .u16 f) := fun s => s.ex.cell0
  have r1 : ∀ s : KX (w.heap.size) w (w.heap.size) [] (fun W => WinAt W P D f l cap ex), s.val.cell? ⟨P, 1, none⟩ = some (.slice (some ⟨D, 0, none⟩) l.length cap) := fun s => s.ex.cell1
  repeat (go_big_quiet_step (fail))
  refine wpQuiet_nil ?_
  clear r0 r1
  have KH_w1 := Lib.hid K_w1
  have hw_w1 := K_w1.below
  have hz_w1 := K_w1.size
  clear K_w1
  have HWW := Lib.hid E_w1
  clear E_w1 F_w1
  refine ⟨fun K hK0 => ?_, trivial⟩
  have hK := Lib.hid hK0
  clear hK0
  go_wp2_with fail
  with_reducible refine (clone29 D l cap ex _ HWW.out.d hl1 hl2).mono ?_
  rintro e w5 ⟨v5, rfl, hown5, hb_w5⟩
  have KH_w5 := Lib.hid (Kept.step KH_w1.out (Nat.le_refl _) hb_w5)
  replace HWW := Lib.hid (HWW.out.below hb_w5)
  have HO5 := Lib.hid (hown5.mono hz_w1)
  obtain ⟨a5, c5, rfl⟩ := owns_form hown5
  clear hown5 hb_w5
  have hz_w5 := KH_w5.out.size
  have hw_w5 := KH_w5.out.below
  go_wp2_with fail
  first | (refine ⟨rfl, ⟨⟨_, KH_w5.out, HWW.out⟩, rfl⟩, hK.out _ _ ?_⟩; clear hK K) | (refine ⟨⟨⟨_, KH_w5.out, HWW.out⟩, rfl⟩, hK.out _ _ ?_⟩; clear hK K)
  refine ⟨fun K hK0 => ?_, trivial⟩
  have hK := Lib.hid hK0
  clear hK0
  go_wp2_with fail
  first | (refine ⟨rfl, hK.out _ _ ?_⟩; clear hK K) | (refine hK.out _ _ ?_; clear hK K)
  refine ⟨fun K hK0 => ?_, trivial⟩
  have hK := Lib.hid hK0
  clear hK0
  go_wp2_with fail
  first | (refine ⟨rfl, hK.out _ _ ?_⟩; clear hK K) | (refine hK.out _ _ ?_; clear hK K)
  repeat (go_big_quiet_step (fail))
  refine wpQuiet_nil ?_
  clear _ne
  go_wp2_with fail
  go_returns
  obtain ⟨_, ⟨_, hn⟩ | ⟨g, cp, cur, hv, hg, hgg, hnc, hcm, hsz, htk⟩⟩ := HO5.out
  · omega
  · simp at hv
    obtain ⟨rfl, rfl⟩ := hv
    refine ⟨w5.heap.size, g, c5, cur.toList.drop l.length, hz_w5, hg, rfl, ⟨?_, ?_, ?_, hl1, hl2, hf, hnc, hcm⟩, by go_grown⟩
    · exact heap_alloc_new _ _
    · unfold DAt
      rw [Below.heap_alloc _ _ _ (Array.getElem?_eq_some_iff.1 hgg).1, hgg]
      rw [Nat.mul_one] at htk
      rw [← htk, List.take_append_drop]
    · have := (Array.getElem?_eq_some_iff.1 hgg).1
      omega

set_option maxRecDepth 100000 in
set_option maxHeartbeats 2000000 in
theorem new22_bad (f n : Int) (w : World) (h : n < 1 ∨ 1024 < n) : Calls Try.prog 22 #[.int .u16 f, .int .i64 n] w fun e w' => e = .returned (.tuple #[.agg #[.int .u16 0, .int .i64 0, .slice none 0 0], .int .i64 2]) ∧ Below w.heap.size w w' := by
  by_cases h1 : n < 1
  · have q : decide (n < 1) = true := by simpa using h1
    clear h
    go_enter Try.func22, Try.ntmps22
    go_wp2_with fail
    exact bodyPost_ret (v := .tuple #[.agg #[.int .u16 0, .int .i64 0, .slice none 0 0], .int .i64 2]) (by simp [results, Try.results22, go_sem]) rfl ⟨rfl, by go_grown⟩
  · have q : decide (n < 1) = false := by simp; omega
    have h2 : 1024 < n := by omega
    clear h
    go_enter Try.func22, Try.ntmps22
    go_wp2_with fail
    exact bodyPost_ret (v := .tuple #[.agg #[.int .u16 0, .int .i64 0, .slice none 0 0], .int .i64 2]) (by simp [results, Try.results22, go_sem]) rfl ⟨rfl, by go_grown⟩
set_option maxRecDepth 100000 in
set_option maxHeartbeats 2000000 in
theorem new22 (f n : Int) (w : World) (h1 : 1 ≤ n) (h2 : n ≤ 1024) : Calls Try.prog 22 #[.int .u16 f, .int .i64 n] w fun e w' => e = .returned (.tuple #[.agg #[.int .u16 f, .int .i64 n, .slice none 0 0], .int .i64 0]) ∧ Below w.heap.size w w' := by
  have q : decide (n < 1) = false := by simp; omega
  have q2 : decide (1024 < n) = false := by simp; omega
  go_enter Try.func22, Try.ntmps22
  go_wp2_with fail
  exact bodyPost_ret (v := .tuple #[.agg #[.int .u16 f, .int .i64 n, .slice none 0 0], .int .i64 0]) (by simp [results, Try.results22, go_sem]) rfl ⟨rfl, by go_grown⟩
/-- Accept, whatever it says -/
def AnyAcc (w : World) (P D cap : Nat) (ex : List Value) (e : Ending) (w' : World) : Prop := ∃ (r f2 : Int) (l2 : List Bool), e = .returned (.int .i64 r) ∧ WinAt w' P D f2 l2 cap ex ∧ Onl [P, D] w w'
theorem accept17_any (P D : Nat) (f : Int) (l : List Bool) (cap : Nat) (ex : List Value) (w : World) (hw : WinAt w P D f l cap ex) (n : Int) (hn : U16 n) : Calls Try.prog 17 #[.pointer (some ⟨P, 0, none⟩), .int .u16 n] w (AnyAcc w P D cap ex) := by
  have hb := dist_bd f n
  have hd : Hid (dist f n = (((dist f n).toNat : Nat) : Int)) := Lib.hid (by omega)
  cases hv : hasN l (dist f n).toNat with
  | true => exact (accept17_stale P D f l cap ex w hw n _ hn hd (Lib.hid hv)).mono fun e w' ⟨h1, h2⟩ => ⟨_, f, l, h1, hw.below h2, Onl.of h2⟩
  | false =>
    rcases Nat.lt_or_ge (dist f n).toNat l.length with h | h
    · exact (accept17_ok P D f l cap ex w hw n _ hn hd (Lib.hid hv) h).mono fun e w' ⟨h1, h2, h3⟩ => ⟨_, _, _, h1, h2, h3⟩
    · exact (accept17_range P D f l cap ex w hw n _ hn hd (Lib.hid hv) h).mono fun e w' ⟨h1, h2⟩ => ⟨_, f, l, h1, hw.below h2, Onl.of h2⟩
end Go.Proofs.Ythibagfmglnejaa
