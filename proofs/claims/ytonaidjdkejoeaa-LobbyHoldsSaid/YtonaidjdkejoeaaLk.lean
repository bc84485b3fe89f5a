/- New lobbies; the law's own looks. -/
import Derived.Test.YtonaidjdkejoeaaMa
import Derived.LoopTactic
import Derived.Deep.OwnRows
namespace Go.Proofs.Ytonaidjdkejoeaa
open Go.RowKit Plain
set_option linter.unusedVariables false
set_option linter.unusedSimpArgs false

set_option maxRecDepth 100000 in
set_option maxHeartbeats 2000000 in
theorem allowed13 (ba st to' : Int) (w : World) : Calls Try.prog 13 #[.agg #[.int .i64 ba, .int .i64 st, .int .u64 to']] w fun e w' => e = .returned (.bool (vC ba st to')) ∧ Below w.heap.size w w' := by
  by_cases b0 : 0 ≤ ba
  case neg =>
    have hv : vC ba st to' = false := by unfold vC; exact decide_eq_false (by omega)
    have HV := Lib.hid hv
    clear hv
    go_enter Try.func13, Try.ntmps13
    go_wp2_with fail
    go_returns
    exact ⟨ret_bool HV.out.symm, by go_grown⟩
  by_cases b1 : ba ≤ 4000
  case neg =>
    have hv : vC ba st to' = false := by unfold vC; exact decide_eq_false (by omega)
    have HV := Lib.hid hv
    clear hv
    go_enter Try.func13, Try.ntmps13
    go_wp2_with fail
    go_returns
    exact ⟨ret_bool HV.out.symm, by go_grown⟩
  by_cases s0 : 0 ≤ st
  case neg =>
    have hv : vC ba st to' = false := by unfold vC; exact decide_eq_false (by omega)
    have HV := Lib.hid hv
    clear hv
    go_enter Try.func13, Try.ntmps13
    go_wp2_with fail
    go_returns
    exact ⟨ret_bool HV.out.symm, by go_grown⟩
  by_cases s1 : st ≤ 100
  case neg =>
    have hv : vC ba st to' = false := by unfold vC; exact decide_eq_false (by omega)
    have HV := Lib.hid hv
    clear hv
    go_enter Try.func13, Try.ntmps13
    go_wp2_with fail
    go_returns
    exact ⟨ret_bool HV.out.symm, by go_grown⟩
  by_cases o0 : 1 ≤ to'
  case neg =>
    have hv : vC ba st to' = false := by unfold vC; exact decide_eq_false (by omega)
    have HV := Lib.hid hv
    clear hv
    go_enter Try.func13, Try.ntmps13
    go_wp2_with fail
    go_returns
    exact ⟨ret_bool HV.out.symm, by go_grown⟩
  by_cases o1 : to' ≤ 4294967296
  case neg =>
    have hv : vC ba st to' = false := by unfold vC; exact decide_eq_false (by omega)
    have HV := Lib.hid hv
    clear hv
    go_enter Try.func13, Try.ntmps13
    go_wp2_with fail
    go_returns
    exact ⟨ret_bool HV.out.symm, by go_grown⟩
  have hv : vC ba st to' = true := by unfold vC; exact decide_eq_true (by omega)
  have HV := Lib.hid hv
  clear hv
  go_enter Try.func13, Try.ntmps13
  go_wp2_with fail
  go_returns
  exact ⟨ret_bool HV.out.symm, by go_grown⟩

theorem allowed13c (ba st to' : Int) (b : Bool) (w : World) (h : vC ba st to' = b) : Calls Try.prog 13 #[.agg #[.int .i64 ba, .int .i64 st, .int .u64 to']] w fun e w' => e = .returned (.bool b) ∧ Below w.heap.size w w' := by
  subst h
  exact allowed13 ba st to' w
/-- a new lobby and no error -/
def New9 (w : World) (x : Lb) (e : Ending) (w' : World) : Prop := ∃ P, e = .returned (.tuple #[.pointer (some ⟨P, 0, none⟩), .int .i64 0]) ∧ w.heap.size ≤ P ∧ LobAt w' P x (.slice none 0 0) ∧ Below w.heap.size w w'
set_option maxRecDepth 100000 in
set_option maxHeartbeats 2000000 in
theorem new9 (ba st to' : Int) (w : World) (h : vC ba st to' = true) : Calls Try.prog 9 #[.agg #[.int .i64 ba, .int .i64 st, .int .u64 to']] w (New9 w ⟨ba, st, to', 0, []⟩) := by
  by_cases b0 : 0 ≤ ba
  case neg =>
    have hv : vC ba st to' = false := by unfold vC; exact decide_eq_false (by omega)
    exfalso
    rw [hv] at h
    cases h
  by_cases b1 : ba ≤ 4000
  case neg =>
    have hv : vC ba st to' = false := by unfold vC; exact decide_eq_false (by omega)
    exfalso
    rw [hv] at h
    cases h
  by_cases s0 : 0 ≤ st
  case neg =>
    have hv : vC ba st to' = false := by unfold vC; exact decide_eq_false (by omega)
    exfalso
    rw [hv] at h
    cases h
  by_cases s1 : st ≤ 100
  case neg =>
    have hv : vC ba st to' = false := by unfold vC; exact decide_eq_false (by omega)
    exfalso
    rw [hv] at h
    cases h
  by_cases o0 : 1 ≤ to'
  case neg =>
    have hv : vC ba st to' = false := by unfold vC; exact decide_eq_false (by omega)
    exfalso
    rw [hv] at h
    cases h
  by_cases o1 : to' ≤ 4294967296
  case neg =>
    have hv : vC ba st to' = false := by unfold vC; exact decide_eq_false (by omega)
    exfalso
    rw [hv] at h
    cases h
  have hv : vC ba st to' = true := by unfold vC; exact decide_eq_true (by omega)
  clear hv h
  go_enter Try.func9, Try.ntmps9
  go_wp2_with fail
  refine bodyPost_ret (v := .tuple #[.pointer (some ⟨w.heap.size + 1, 0, none⟩), .int .i64 0]) (by simp [results, Try.results9, go_sem]) rfl ⟨w.heap.size + 1, rfl, by omega, ⟨?_, Ow.nil _ _ _⟩, by go_grown⟩
  simpa [lbc] using heap_alloc_new (w.alloc (.cells #[.int .i64 ba, .int .i64 st, .int .u64 to'] 30)) (.cells #[.int .i64 ba, .int .i64 st, .int .u64 to', .int .u64 0, .slice none 0 0] 61)

set_option maxRecDepth 100000 in
set_option maxHeartbeats 2000000 in
theorem new9_no (ba st to' : Int) (w : World) (h : vC ba st to' = false) : Calls Try.prog 9 #[.agg #[.int .i64 ba, .int .i64 st, .int .u64 to']] w fun e w' => e = .returned (.tuple #[.pointer none, .int .i64 2]) ∧ Below w.heap.size w w' := by
  by_cases b0 : 0 ≤ ba
  case neg =>
    have hv : vC ba st to' = false := by unfold vC; exact decide_eq_false (by omega)
    clear hv h
    go_enter Try.func9, Try.ntmps9
    go_wp2_with fail
    exact bodyPost_ret (v := .tuple #[.pointer none, .int .i64 2]) (by simp [results, Try.results9, go_sem]) rfl ⟨rfl, by go_grown⟩
  by_cases b1 : ba ≤ 4000
  case neg =>
    have hv : vC ba st to' = false := by unfold vC; exact decide_eq_false (by omega)
    clear hv h
    go_enter Try.func9, Try.ntmps9
    go_wp2_with fail
    exact bodyPost_ret (v := .tuple #[.pointer none, .int .i64 2]) (by simp [results, Try.results9, go_sem]) rfl ⟨rfl, by go_grown⟩
  by_cases s0 : 0 ≤ st
  case neg =>
    have hv : vC ba st to' = false := by unfold vC; exact decide_eq_false (by omega)
    clear hv h
    go_enter Try.func9, Try.ntmps9
    go_wp2_with fail
    exact bodyPost_ret (v := .tuple #[.pointer none, .int .i64 2]) (by simp [results, Try.results9, go_sem]) rfl ⟨rfl, by go_grown⟩
  by_cases s1 : st ≤ 100
  case neg =>
    have hv : vC ba st to' = false := by unfold vC; exact decide_eq_false (by omega)
    clear hv h
    go_enter Try.func9, Try.ntmps9
    go_wp2_with fail
    exact bodyPost_ret (v := .tuple #[.pointer none, .int .i64 2]) (by simp [results, Try.results9, go_sem]) rfl ⟨rfl, by go_grown⟩
  by_cases o0 : 1 ≤ to'
  case neg =>
    have hv : vC ba st to' = false := by unfold vC; exact decide_eq_false (by omega)
    clear hv h
    go_enter Try.func9, Try.ntmps9
    go_wp2_with fail
    exact bodyPost_ret (v := .tuple #[.pointer none, .int .i64 2]) (by simp [results, Try.results9, go_sem]) rfl ⟨rfl, by go_grown⟩
  by_cases o1 : to' ≤ 4294967296
  case neg =>
    have hv : vC ba st to' = false := by unfold vC; exact decide_eq_false (by omega)
    clear hv h
    go_enter Try.func9, Try.ntmps9
    go_wp2_with fail
    exact bodyPost_ret (v := .tuple #[.pointer none, .int .i64 2]) (by simp [results, Try.results9, go_sem]) rfl ⟨rfl, by go_grown⟩
  have hv : vC ba st to' = true := by unfold vC; exact decide_eq_true (by omega)
  exfalso
  rw [hv] at h
  cases h

theorem rg22_6 {P : Program} {B n : Nat} {w0 : World} {L : List (Nat × Nat × Value)} {E F : World → Prop} {id : Nat} {Q : Exit → Act → World → Prop} {a : Act} {w : World} {o0 o1 o2 o3 o4 o5 o6 o7 o8 : Oper} (hm : P.follows .mixedOrders = true)
    (hB : (Region.noSelect [o0, o1, o2, o3, o4, o5, o6, o7, o8].toArray && Scr.ok .any [o0, o1, o2, o3, o4, o5, o6, o7, o8].toArray [3, 7] [0, 1, 2, 4, 5, 6, 8] (.free 0 (.free 1 (.free 2 (.free 4 (.free 5 (.free 6 (.read 3 (.read 7 (.free 8 .done))))))))) true true [o0, o1, o2, o3, o4, o5, o6, o7, o8].toArray.size (Array.replicate [o0, o1, o2, o3, o4, o5, o6, o7, o8].toArray.size false)) = true)
    (k : Kept B w0 n L w) (he : E w) (hE : ∀ W W', E W → Below W.heap.size W W' → E W') (hf : F w) (hF : ∀ W W', F W → Below W.heap.size W W' → F W')
    (h : ∀ wk, Kept B w0 n L wk → E wk → F wk → wpQuiet P [o0, o1, o2, o3, o4, o5, o6, o7, o8].toArray (fun _ => True) (fun a0 => wpQuiet P [o0, o1, o2, o3, o4, o5, o6, o7, o8].toArray (fun w' => ∃ s : KX B w0 n L E, w' = s.val) (fun a1 => wpQuiet P [o0, o1, o2, o3, o4, o5, o6, o7, o8].toArray (fun _ => True) (fun a2 => Q .normal a2 wk) [o8] a1) [o3, o7] a0) [o0, o1, o2, o4, o5, o6] a) : (Code.region id [o0, o1, o2, o3, o4, o5, o6, o7, o8].toArray true).wp P Q a w := by
  have e1 : E w.drew := hE _ _ he ((Below.refl _ _).drew)
  have g := h _ k.drew e1 (hF _ _ hf ((Below.refl _ _).drew))
  exact wp_region_scr (U := (fun w' => ∃ s : KX B w0 n L E, w' = s.val)) (ops := [o0, o1, o2, o3, o4, o5, o6, o7, o8].toArray) (.free 0 (.free 1 (.free 2 (.free 4 (.free 5 (.free 6 (.read 3 (.read 7 (.free 8 .done))))))))) [3, 7] [0, 1, 2, 4, 5, 6, 8] hm hB ⟨⟨_, k.drew, e1⟩, rfl⟩ (Scr.of_free rfl g (fun _ g0 => Scr.of_free rfl g0 (fun _ g1 => Scr.of_free rfl g1 (fun _ g2 => Scr.of_free rfl g2 (fun _ g3 => Scr.of_free rfl g3 (fun _ g4 => Scr.of_free rfl g4 (fun _ g5 => Scr.of_read rfl g5 (fun _ g6 => Scr.of_read rfl g6 (fun _ g7 => Scr.of_free rfl g7 (fun _ g8 => g8))))))))))
theorem take_same {zs ys : List Int} {k : Nat} {z : Int} (h : zs.take k = ys.take k) (h1 : zs[k]? = some z) (h2 : ys[k]? = some z) : zs.take (k + 1) = ys.take (k + 1) := by
  rw [List.take_add_one, List.take_add_one, h, h1, h2]
def SameRel (w : World) (zs ys : List Int) (i : Value) (wr : World) : Prop := ∃ k : Nat, k ≤ zs.length ∧ i = .int .i64 k ∧ zs.take k = ys.take k ∧ Below w.heap.size w wr
set_option maxRecDepth 100000 in
set_option maxHeartbeats 2000000 in
theorem ints22 (v u : Value) (zs ys : List Int) (w : World) (hs : Rw ic 1 w v zs) (ht : Rw ic 1 w u ys) : Calls Try.prog 22 #[v, u] w fun e w' => e = .returned (.bool (decide (zs = ys))) ∧ Below w.heap.size w w' := by
  obtain ⟨m1, a1, c1, rfl, f1⟩ := hs.form
  obtain ⟨m2, a2, c2, rfl, f2⟩ := ht.form
  have F1 := Lib.hid f1
  have F2 := Lib.hid f2
  clear hs ht f1 f2
  by_cases hl : zs.length = ys.length
  · have HL := Lib.hid hl
    have hne : ((zs.length : Int) != (ys.length : Int)) = false := by simp [hl]
    have hle : zs.length ≤ ys.length := by omega
    clear hl
    go_enter Try.func22, Try.ntmps22
    go_wp2_with fail
    go_loopw [5] (fun i wr => SameRel w zs ys i wr) (fun i _ => zs.length - (intOf i).toNat)
    case atStart => exact ⟨0, Nat.zero_le _, rfl, by simp, Below.refl _ _⟩
    case round =>
      obtain ⟨k, hk, rfl, htk, hb⟩ := hrel
      have HT := Lib.hid htk
      have hzz := hb.size
      clear htk
      by_cases hlt : k < zs.length
      · obtain ⟨b1, o1, rfl, hb1, hc1⟩ := F1.out (by omega)
        obtain ⟨b2, o2, rfl, hb2, hc2⟩ := F2.out (by omega)
        obtain ⟨z, hz⟩ : ∃ z, zs[k]? = some z := ⟨zs[k], List.getElem?_eq_getElem hlt⟩
        obtain ⟨y, hy⟩ : ∃ y, ys[k]? = some y := ⟨ys[k]'(by omega), List.getElem?_eq_getElem (by omega)⟩
        have e1 : wr.cell? ⟨b1, o1 + k, none⟩ = some (.int .i64 z) := (hb.cell (p := ⟨b1, o1 + k, none⟩) hb1).trans (by have := hc1 k z hz 0 _ rfl; rwa [Nat.mul_one, Nat.add_zero] at this)
        have e2 : wr.cell? ⟨b2, o2 + k, none⟩ = some (.int .i64 y) := (hb.cell (p := ⟨b2, o2 + k, none⟩) hb2).trans (by have := hc2 k y hy 0 _ rfl; rwa [Nat.mul_one, Nat.add_zero] at this)
        have hb1r : b1 < wr.heap.size := by omega
        have hb2r : b2 < wr.heap.size := by omega
        have i1 : (0 : Int) ≤ (k : Int) := by omega
        have i2 : (k : Int) < (zs.length : Int) := by omega
        have i3 : (k : Int) < (ys.length : Int) := by omega
        have HZ := Lib.hid hz
        have HY := Lib.hid hy
        clear hc1 hc2 hz hy
        by_cases hzy : z = y
        · subst hzy
          go_wp2_with fail
          refine rg22_6 (w0 := wr) (B := wr.heap.size) (n := wr.heap.size) (L := []) (E := fun _ => True) (F := fun _ => True) (by kernel_rfl) (by kernel_rfl) ⟨by go_grown, by go_size, (by simp [go_sem] <;> omega)⟩ trivial (fun _ _ _ _ => trivial) trivial (fun _ _ _ _ => trivial) (fun w21 K_w21 E_w21 F_w21 => ?_)
          have _ne : Nonempty (KX (wr.heap.size) wr (wr.heap.size) [] (fun _ => True)) := ⟨⟨_, K_w21, E_w21⟩⟩
          repeat (go_big_quiet_step (fail))
          refine wpQuiet_nil ?_
          have ra : ∀ s : KX (wr.heap.size) wr (wr.heap.size) [] (fun _ => True), s.val.cell? ⟨b1, o1 + k, none⟩ = some (.int .i64 z) := fun s => (s.kept.below.cell (p := ⟨b1, o1 + k, none⟩) hb1r).trans e1
          have rb : ∀ s : KX (wr.heap.size) wr (wr.heap.size) [] (fun _ => True), s.val.cell? ⟨b2, o2 + k, none⟩ = some (.int .i64 z) := fun s => (s.kept.below.cell (p := ⟨b2, o2 + k, none⟩) hb2r).trans e2
          repeat (go_big_quiet_step (fail))
          refine wpQuiet_nil ?_
          clear ra rb
          repeat (go_big_quiet_step (fail))
          refine wpQuiet_nil ?_
          clear _ne
          have KH_w21 := Lib.hid K_w21
          have hw_w21 := K_w21.below
          have hz_w21 := K_w21.size
          clear K_w21
          clear E_w21 F_w21
          go_wp2_with fail
          go_roundw
          case rel => exact ⟨k + 1, by omega, by go_num, take_same HT.out HZ.out HY.out, below_via hb hw_w21⟩
          case measure => simp [intOf]; omega
        · have q : (z != y) = true := by simpa using hzy
          have ef : Hid (decide (zs = ys) = false) := Lib.hid (by simp; intro e; rw [e, HY.out] at HZ; exact hzy (by have := HZ.out; simpa using this.symm))
          clear hzy
          go_wp2_with fail
          refine rg22_6 (w0 := wr) (B := wr.heap.size) (n := wr.heap.size) (L := []) (E := fun _ => True) (F := fun _ => True) (by kernel_rfl) (by kernel_rfl) ⟨by go_grown, by go_size, (by simp [go_sem] <;> omega)⟩ trivial (fun _ _ _ _ => trivial) trivial (fun _ _ _ _ => trivial) (fun w21 K_w21 E_w21 F_w21 => ?_)
          have _ne : Nonempty (KX (wr.heap.size) wr (wr.heap.size) [] (fun _ => True)) := ⟨⟨_, K_w21, E_w21⟩⟩
          repeat (go_big_quiet_step (fail))
          refine wpQuiet_nil ?_
          have ra : ∀ s : KX (wr.heap.size) wr (wr.heap.size) [] (fun _ => True), s.val.cell? ⟨b1, o1 + k, none⟩ = some (.int .i64 z) := fun s => (s.kept.below.cell (p := ⟨b1, o1 + k, none⟩) hb1r).trans e1
          have rb : ∀ s : KX (wr.heap.size) wr (wr.heap.size) [] (fun _ => True), s.val.cell? ⟨b2, o2 + k, none⟩ = some (.int .i64 y) := fun s => (s.kept.below.cell (p := ⟨b2, o2 + k, none⟩) hb2r).trans e2
          repeat (go_big_quiet_step (fail))
          refine wpQuiet_nil ?_
          clear ra rb
          repeat (go_big_quiet_step (fail))
          refine wpQuiet_nil ?_
          clear _ne
          have KH_w21 := Lib.hid K_w21
          have hw_w21 := K_w21.below
          have hz_w21 := K_w21.size
          clear K_w21
          clear E_w21 F_w21
          go_wp2_with fail
          go_returns
          exact ⟨ret_bool ef.out.symm, below_via hb hw_w21⟩
      · have ef : Hid (decide (zs = ys) = true) := Lib.hid (by
          have h1 := HT.out
          rw [List.take_of_length_le (by omega), List.take_of_length_le (by have := HL.out; omega)] at h1
          simpa using h1)
        go_wp2_with fail
        go_returns
        exact ⟨ret_bool ef.out.symm, hb⟩
  · have hne : ((zs.length : Int) != (ys.length : Int)) = true := by simp; omega
    have ef : Hid (decide (zs = ys) = false) := Lib.hid (by simp; intro e; exact hl (by rw [e]))
    clear hl
    go_enter Try.func22, Try.ntmps22
    go_wp2_with fail
    go_returns
    exact ⟨ret_bool ef.out.symm, by go_grown⟩
theorem ints22c (v u : Value) (zs ys : List Int) (w : World) (hs : Rw ic 1 w v zs) (ht : Rw ic 1 w u ys) (h : zs = ys) : Calls Try.prog 22 #[v, u] w fun e w' => e = .returned (.bool true) ∧ Below w.heap.size w w' := by
  have := ints22 v u zs ys w hs ht
  rwa [decide_eq_true h] at this
set_option maxRecDepth 100000 in
set_option maxHeartbeats 2000000 in
theorem windows20 (P : Nat) (x : Lb) (v : Value) (id n no : Int) (w : World) (hl : LobAt w P x v) (OK : x.Ok) (hn : winN x id = n) (he : winE x id = no) : Calls Try.prog 20 #[.pointer (some ⟨P, 0, none⟩), .int .i64 id, .int .i64 n, .int .i64 no] w fun e w' => e = .returned (.bool true) ∧ Below w.heap.size w w' := by
  have HL := Lib.hid hl
  have HN := Lib.hid hn
  have HE := Lib.hid he
  clear hl hn he
  go_enter Try.func20, Try.ntmps20
  go_wp2_with fail
  with_reducible refine (window16c P x v id n no _ HL.out OK HN.out HE.out).mono ?_
  rintro e w1 ⟨rfl, hb⟩
  go_wp2_with fail
  go_returns
  exact ⟨rfl, hb⟩

set_option maxRecDepth 100000 in
set_option maxHeartbeats 2000000 in
theorem windows20_none (pv : Value) (id : Int) (w : World) (hn : Calls Try.prog 23 #[pv] w fun e w' => e = .returned (.bool true) ∧ w = w') : Calls Try.prog 20 #[pv, .int .i64 id, .int .i64 0, .int .i64 1] w fun e w' => e = .returned (.bool true) ∧ Below w.heap.size w w' := by
  go_enter Try.func20, Try.ntmps20
  go_wp2_with fail
  with_reducible refine (window_none id pv _ hn).mono ?_
  rintro e w1 ⟨rfl, hb⟩
  go_wp2_with fail
  go_returns
  exact ⟨rfl, hb⟩

theorem rg19_7 {P : Program} {B n : Nat} {w0 : World} {L : List (Nat × Nat × Value)} {E F : World → Prop} {id : Nat} {Q : Exit → Act → World → Prop} {a : Act} {w : World} {o0 o1 o2 o3 o4 o5 o6 o7 o8 : Oper} (hm : P.follows .mixedOrders = true)
    (hB : (Region.noSelect [o0, o1, o2, o3, o4, o5, o6, o7, o8].toArray && Scr.ok .any [o0, o1, o2, o3, o4, o5, o6, o7, o8].toArray [3, 7] [0, 1, 2, 4, 5, 6, 8] (.free 0 (.free 1 (.free 2 (.free 4 (.free 5 (.free 6 (.read 3 (.read 7 (.free 8 .done))))))))) true true [o0, o1, o2, o3, o4, o5, o6, o7, o8].toArray.size (Array.replicate [o0, o1, o2, o3, o4, o5, o6, o7, o8].toArray.size false)) = true)
    (k : Kept B w0 n L w) (he : E w) (hE : ∀ W W', E W → Below W.heap.size W W' → E W') (hf : F w) (hF : ∀ W W', F W → Below W.heap.size W W' → F W')
    (h : ∀ wk, Kept B w0 n L wk → E wk → F wk → wpQuiet P [o0, o1, o2, o3, o4, o5, o6, o7, o8].toArray (fun _ => True) (fun a0 => wpQuiet P [o0, o1, o2, o3, o4, o5, o6, o7, o8].toArray (fun w' => ∃ s : KX B w0 n L E, w' = s.val) (fun a1 => wpQuiet P [o0, o1, o2, o3, o4, o5, o6, o7, o8].toArray (fun _ => True) (fun a2 => Q .normal a2 wk) [o8] a1) [o3, o7] a0) [o0, o1, o2, o4, o5, o6] a) : (Code.region id [o0, o1, o2, o3, o4, o5, o6, o7, o8].toArray true).wp P Q a w := by
  have e1 : E w.drew := hE _ _ he ((Below.refl _ _).drew)
  have g := h _ k.drew e1 (hF _ _ hf ((Below.refl _ _).drew))
  exact wp_region_scr (U := (fun w' => ∃ s : KX B w0 n L E, w' = s.val)) (ops := [o0, o1, o2, o3, o4, o5, o6, o7, o8].toArray) (.free 0 (.free 1 (.free 2 (.free 4 (.free 5 (.free 6 (.read 3 (.read 7 (.free 8 .done))))))))) [3, 7] [0, 1, 2, 4, 5, 6, 8] hm hB ⟨⟨_, k.drew, e1⟩, rfl⟩ (Scr.of_free rfl g (fun _ g0 => Scr.of_free rfl g0 (fun _ g1 => Scr.of_free rfl g1 (fun _ g2 => Scr.of_free rfl g2 (fun _ g3 => Scr.of_free rfl g3 (fun _ g4 => Scr.of_free rfl g4 (fun _ g5 => Scr.of_read rfl g5 (fun _ g6 => Scr.of_read rfl g6 (fun _ g7 => Scr.of_free rfl g7 (fun _ g8 => g8))))))))))
set_option maxRecDepth 100000 in
set_option maxHeartbeats 2000000 in
theorem matches19_none (pv : Value) (t : Int) (w : World) (hn : Calls Try.prog 23 #[pv] w fun e w' => e = .returned (.bool true) ∧ w = w') : Calls Try.prog 19 #[pv, .int .u64 t, .slice none 0 0, .slice none 0 0, .int .i64 1] w fun e w' => e = .returned (.bool true) ∧ Below w.heap.size w w' := by
  go_enter Try.func19, Try.ntmps19
  go_wp2_with fail
  with_reducible refine (match_none t pv _ hn).mono ?_
  rintro e w1 ⟨rfl, hb⟩
  go_wp2_with fail
  with_reducible refine (ints22c _ _ [] [] _ (Rw.nil _) (Rw.nil _) rfl).mono ?_
  rintro e w2 ⟨rfl, hb2⟩
  go_wp2_with fail
  refine wp_loop_rounds 1 ?_
  rw [rounds_succ]
  go_wp2_with fail
  go_returns
  exact ⟨rfl, hb.trans (hb2.mono hb.size)⟩

def MmRel (w : World) (n : Nat) (i : Value) (wr : World) : Prop := ∃ k : Nat, k ≤ n ∧ i = .int .i64 k ∧ Below w.heap.size w wr
theorem onl_foot {P : Nat} {v : Value} {w w' : World} (h : Onl [P] w w') : Onl (foot P v) w w' := h.less (fun k hk => .inl (mem_foot.2 (.inl (by simpa using hk))))
set_option maxRecDepth 100000 in
set_option maxHeartbeats 4000000 in
theorem matches19 (P : Nat) (x : Lb) (v : Value) (t : Int) (pv gv : Value) (ps : List (Int × Int)) (gs : List Int) (w : World) (hl : LobAt w P x v) (ok : x.Ok) (ht : U t) (hp : Rw dc 2 w pv ps) (hg : Rw ic 1 w gv gs) (hbP : ∀ b, pv.ownBlock = some b → b ≠ P) (hbG : ∀ b, gv.ownBlock = some b → b ≠ P) (h1 : mtP x t = ps) (h2 : mtG x t = gs) : Calls Try.prog 19 #[.pointer (some ⟨P, 0, none⟩), .int .u64 t, pv, gv, .int .i64 0] w (MutAt P v w (.returned (.bool true)) (mtX x t)) := by
  obtain ⟨mp, ap0, cp, epv, fp⟩ := hp.form
  obtain ⟨mg, ag, cg, egv, fg⟩ := hg.form
  have HP := Lib.hid hp
  have HG := Lib.hid hg
  have HL := Lib.hid hl
  have H1 := Lib.hid h1
  have H2 := Lib.hid h2
  have HBP := Lib.hid hbP
  have HBG := Lib.hid hbG
  subst epv egv
  clear hp hg hl h1 h2 fp fg hbP hbG
  go_enter Try.func19, Try.ntmps19
  go_wp2_with fail
  with_reducible refine (match11 P x v t _ HL.out ok ht).mono ?_
  rintro e w1 ⟨pv', gv', v', rfl, h3, h4, h5, h6, h7⟩
  rw [H1.out] at h3
  rw [H2.out] at h4
  have R1 := Lib.hid (h3.rw (fun d _ => (dc_ok d).1))
  have R2 := Lib.hid (h4.rw (fun d _ => (ic_ok d).1))
  have R3 := Lib.hid (HP.out.onl h7 (fun b hb => by simpa using HBP.out b hb))
  have R4 := Lib.hid (HG.out.onl h7 (fun b hb => by simpa using HBG.out b hb))
  have R5 := Lib.hid h5
  have R6 := Lib.hid h6
  have R7 := Lib.hid h7
  obtain ⟨_, a1, c1, rfl, _⟩ := R1.out.form
  obtain ⟨_, a2, c2, rfl, _⟩ := R2.out.form
  clear h3 h4 h5 h6 h7
  go_wp2_with fail
  with_reducible refine (ints22c _ _ gs gs _ R2.out R4.out rfl).mono ?_
  rintro e w2 ⟨rfl, hb2⟩
  have Q1 := Lib.hid (R1.out.below hb2).form
  have Q3 := Lib.hid (R3.out.below hb2).form
  have HB2 := Lib.hid hb2
  clear hb2
  go_wp2_with fail
  go_loopw [14] (fun i wr => MmRel w2 ps.length i wr) (fun i _ => ps.length - (intOf i).toNat)
  case atStart => exact ⟨0, Nat.zero_le _, rfl, Below.refl _ _⟩
  case round =>
    obtain ⟨k, hk, rfl, hb⟩ := hrel
    have hzz := hb.size
    by_cases hkl : k < ps.length
    · obtain ⟨_, ax, cx, ex, fx⟩ := Q1.out
      obtain ⟨_, ay, cy, ey, fy⟩ := Q3.out
      simp only [Value.slice.injEq, true_and] at ex ey
      obtain ⟨rfl, rfl⟩ := ex
      obtain ⟨rfl, rfl⟩ := ey
      obtain ⟨b1, o1, rfl, hb1, hc1⟩ := fx (by omega)
      obtain ⟨b2, o2, rfl, hb2, hc2⟩ := fy (by omega)
      obtain ⟨p, hp⟩ : ∃ p, ps[k]? = some p := ⟨ps[k], List.getElem?_eq_getElem hkl⟩
      have ea0 : wr.cell? ⟨b1, o1 + k * 2, none⟩ = some (.int .i64 p.1) := (hb.cell (p := ⟨b1, o1 + k * 2, none⟩) hb1).trans (hc1 k p hp 0 _ rfl)
      have ea1 : wr.cell? ⟨b1, o1 + k * 2 + 1, none⟩ = some (.int .i64 p.2) := (hb.cell (p := ⟨b1, o1 + k * 2 + 1, none⟩) hb1).trans (hc1 k p hp 1 _ rfl)
      have eb0 : wr.cell? ⟨b2, o2 + k * 2, none⟩ = some (.int .i64 p.1) := (hb.cell (p := ⟨b2, o2 + k * 2, none⟩) hb2).trans (hc2 k p hp 0 _ rfl)
      have eb1 : wr.cell? ⟨b2, o2 + k * 2 + 1, none⟩ = some (.int .i64 p.2) := (hb.cell (p := ⟨b2, o2 + k * 2 + 1, none⟩) hb2).trans (hc2 k p hp 1 _ rfl)
      have hb1r : b1 < wr.heap.size := by omega
      have hb2r : b2 < wr.heap.size := by omega
      have i1 : (0 : Int) ≤ (k : Int) := by omega
      have i2 : (k : Int) < (ps.length : Int) := by omega
      clear fx fy hc1 hc2 hp
      go_wp2_with fail
      refine rg19_7 (w0 := wr) (B := wr.heap.size) (n := wr.heap.size) (L := []) (E := fun _ => True) (F := fun _ => True) (by kernel_rfl) (by kernel_rfl) ⟨by go_grown, by go_size, (by simp [go_sem] <;> omega)⟩ trivial (fun _ _ _ _ => trivial) trivial (fun _ _ _ _ => trivial) (fun w21 K_w21 E_w21 F_w21 => ?_)
      have _ne : Nonempty (KX (wr.heap.size) wr (wr.heap.size) [] (fun _ => True)) := ⟨⟨_, K_w21, E_w21⟩⟩
      repeat (go_big_quiet_step (fail))
      refine wpQuiet_nil ?_
      have ra0 : ∀ s : KX (wr.heap.size) wr (wr.heap.size) [] (fun _ => True), s.val.cell? ⟨b1, o1 + k * 2, none⟩ = some (.int .i64 p.1) := fun s => (s.kept.below.cell (p := ⟨b1, o1 + k * 2, none⟩) hb1r).trans ea0
      have ra1 : ∀ s : KX (wr.heap.size) wr (wr.heap.size) [] (fun _ => True), s.val.cell? ⟨b1, o1 + k * 2 + 1, none⟩ = some (.int .i64 p.2) := fun s => (s.kept.below.cell (p := ⟨b1, o1 + k * 2 + 1, none⟩) hb1r).trans ea1
      have rb0 : ∀ s : KX (wr.heap.size) wr (wr.heap.size) [] (fun _ => True), s.val.cell? ⟨b2, o2 + k * 2, none⟩ = some (.int .i64 p.1) := fun s => (s.kept.below.cell (p := ⟨b2, o2 + k * 2, none⟩) hb2r).trans eb0
      have rb1 : ∀ s : KX (wr.heap.size) wr (wr.heap.size) [] (fun _ => True), s.val.cell? ⟨b2, o2 + k * 2 + 1, none⟩ = some (.int .i64 p.2) := fun s => (s.kept.below.cell (p := ⟨b2, o2 + k * 2 + 1, none⟩) hb2r).trans eb1
      repeat (go_big_quiet_step (fail))
      refine wpQuiet_nil ?_
      clear ra0 ra1 rb0 rb1
      repeat (go_big_quiet_step (fail))
      refine wpQuiet_nil ?_
      clear _ne
      have KH_w21 := Lib.hid K_w21
      have hw_w21 := K_w21.below
      have hz_w21 := K_w21.size
      clear K_w21
      clear E_w21 F_w21
      go_wp2_with fail
      go_roundw
      case rel => exact ⟨k + 1, by omega, by go_num, hb.trans (hw_w21.mono hb.size)⟩
      case measure => simp [intOf]; omega
    · obtain rfl : k = ps.length := by omega
      have HBB := Lib.hid (below_via (HB2.out) hb)
      clear hb
      go_wp2_with fail
      go_returns
      exact ⟨_, rfl, R5.out.below HBB.out, fun b hb => .inr (R6.out b hb), onl_foot (R7.out.grow HBB.out)⟩
end Go.Proofs.Ytonaidjdkejoeaa
