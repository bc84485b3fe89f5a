/- Nil and zero drafts; the examples of the chapter. -/
import Derived.Test.YteocplabibhecaaTa
import Derived.Test.YteocplabibhecaaDp
import Derived.Test.YteocplabibhecaaNw
namespace Go.Proofs.Yteocplabibhecaa
open Go.RowKit Plain
set_option linter.unusedVariables false
set_option linter.unusedSimpArgs false

/-- a nil or zero draft -/
def Zr (w : World) (v : Value) : Prop := v = .pointer none ∨ ∃ P, v = .pointer (some ⟨P, 0, none⟩) ∧ w.heap[P]? = some (.cells #[.slice none 0 0, .slice none 0 0, .slice none 0 0, .int .i64 0, .int .i64 0] 56 (0, 0))
theorem Zr.below {w w' : World} {v : Value} (h : Zr w v) (hb : Below w.heap.size w w') : Zr w' v := by
  rcases h with h | ⟨P, h1, h2⟩
  · exact .inl h
  · exact .inr ⟨P, h1, (hb.block P (Array.getElem?_eq_some_iff.1 h2).1).trans h2⟩
theorem none31z (v : Value) (w : World) (h : Zr w v) : Calls Try.prog 31 #[v] w fun e w' => e = .returned (.bool true) ∧ w' = w := by
  rcases h with rfl | ⟨P, rfl, h2⟩
  · go_enter Try.func31, Try.ntmps31
    go_wp2_with fail
    go_returns
    exact ⟨rfl, rfl⟩
  · have c0 : w.cell? ⟨P, 0, none⟩ = some (.slice none 0 0) := cell_of_row w P 0 _ 56 (0, 0) h2
    have hP : P < w.heap.size := (Array.getElem?_eq_some_iff.1 h2).1
    clear h2
    go_enter Try.func31, Try.ntmps31
    go_wp2_with fail
    go_returns
    exact ⟨rfl, rfl⟩
theorem z22 (v : Value) (p i : Int) (w : World) (h : Zr w v) : Calls Try.prog 22 #[v, .int .i64 p, .int .i64 i] w fun e w' => e = .returned (.tuple #[.int .i64 0, .int .i64 1]) ∧ w' = w := by
  have HZ := Lib.hid (none31z v w h)
  clear h
  go_enter Try.func22, Try.ntmps22
  go_wp2_with fail
  with_reducible refine HZ.out.mono ?_
  rintro e w ⟨rfl, rfl⟩
  go_wp2_with fail
  go_returns
  exact ⟨rfl, rfl⟩
theorem z21 (v : Value) (p : Int) (w : World) (h : Zr w v) : Calls Try.prog 21 #[v, .int .i64 p] w fun e w' => e = .returned (.tuple #[.slice none 0 0, .int .i64 1]) ∧ w' = w := by
  have HZ := Lib.hid (none31z v w h)
  clear h
  go_enter Try.func21, Try.ntmps21
  go_wp2_with fail
  with_reducible refine HZ.out.mono ?_
  rintro e w ⟨rfl, rfl⟩
  go_wp2_with fail
  go_returns
  exact ⟨rfl, rfl⟩
theorem z24 (v : Value) (p : Int) (w : World) (h : Zr w v) : Calls Try.prog 24 #[v, .int .i64 p] w fun e w' => e = .returned (.tuple #[.slice none 0 0, .int .i64 1]) ∧ w' = w := by
  have HZ := Lib.hid (none31z v w h)
  clear h
  go_enter Try.func24, Try.ntmps24
  go_wp2_with fail
  with_reducible refine HZ.out.mono ?_
  rintro e w ⟨rfl, rfl⟩
  go_wp2_with fail
  go_returns
  exact ⟨rfl, rfl⟩
theorem z27 (v : Value) (w : World) (h : Zr w v) : Calls Try.prog 27 #[v] w fun e w' => e = .returned (.slice none 0 0) ∧ w' = w := by
  have HZ := Lib.hid (none31z v w h)
  clear h
  go_enter Try.func27, Try.ntmps27
  go_wp2_with fail
  with_reducible refine HZ.out.mono ?_
  rintro e w ⟨rfl, rfl⟩
  go_wp2_with fail
  go_returns
  exact ⟨rfl, rfl⟩
theorem z19 (v : Value) (w : World) (h : Zr w v) : Calls Try.prog 19 #[v] w fun e w' => e = .returned (.int .i64 0) ∧ w' = w := by
  have HZ := Lib.hid (none31z v w h)
  clear h
  go_enter Try.func19, Try.ntmps19
  go_wp2_with fail
  with_reducible refine HZ.out.mono ?_
  rintro e w ⟨rfl, rfl⟩
  go_wp2_with fail
  go_returns
  exact ⟨rfl, rfl⟩
theorem z20 (v : Value) (w : World) (h : Zr w v) : Calls Try.prog 20 #[v] w fun e w' => e = .returned (.int .i64 0) ∧ w' = w := by
  have HZ := Lib.hid (none31z v w h)
  clear h
  go_enter Try.func20, Try.ntmps20
  go_wp2_with fail
  with_reducible refine HZ.out.mono ?_
  rintro e w ⟨rfl, rfl⟩
  go_wp2_with fail
  go_returns
  exact ⟨rfl, rfl⟩
theorem z18 (v : Value) (w : World) (h : Zr w v) : Calls Try.prog 18 #[v] w fun e w' => e = .returned (.bool false) ∧ w' = w := by
  have HZ := Lib.hid (none31z v w h)
  clear h
  go_enter Try.func18, Try.ntmps18
  go_wp2_with fail
  with_reducible refine HZ.out.mono ?_
  rintro e w ⟨rfl, rfl⟩
  go_wp2_with fail
  go_returns
  exact ⟨rfl, rfl⟩
theorem z25 (v : Value) (w : World) (h : Zr w v) : Calls Try.prog 25 #[v] w fun e w' => e = .returned (.pointer none) ∧ w' = w := by
  have HZ := Lib.hid (none31z v w h)
  clear h
  go_enter Try.func25, Try.ntmps25
  go_wp2_with fail
  with_reducible refine HZ.out.mono ?_
  rintro e w ⟨rfl, rfl⟩
  go_wp2_with fail
  go_returns
  exact ⟨rfl, rfl⟩
set_option maxRecDepth 100000 in
set_option maxHeartbeats 2000000 in
theorem z17 (v : Value) (p i : Int) (w : World) (h : Zr w v) : Calls Try.prog 17 #[v, .int .i64 p, .int .i64 i, .int .i64 0, .int .i64 1] w fun e w' => e = .returned (.bool true) ∧ w' = w := by
  have HZ := Lib.hid (z22 v p i w h)
  clear h
  go_enter Try.func17, Try.ntmps17
  go_wp2_with fail
  with_reducible refine HZ.out.mono ?_
  rintro e w ⟨rfl, rfl⟩
  go_wp2_with fail
  go_returns
  exact ⟨rfl, rfl⟩
set_option maxRecDepth 100000 in
set_option maxHeartbeats 2000000 in
theorem z26 (v : Value) (p : Int) (w : World) (h : Zr w v) : Calls Try.prog 26 #[v, .int .i64 p, .slice none 0 0, .int .i64 1] w fun e w' => e = .returned (.bool true) ∧ Below w.heap.size w w' := by
  have HZ := Lib.hid (z21 v p w h)
  clear h
  go_enter Try.func26, Try.ntmps26
  go_wp2_with fail
  with_reducible refine HZ.out.mono ?_
  rintro e w ⟨rfl, rfl⟩
  go_wp2_with fail
  with_reducible refine (ints12c _ _ [] [] _ (Rw.nil _) (Rw.nil _) rfl).mono ?_
  rintro e w1 ⟨rfl, hb⟩
  go_wp2_with fail
  go_returns
  exact ⟨rfl, hb⟩
/-- a call that changes a draft and answers r -/
def TkM (w : World) (B : Nat) (S : List Nat) (P : Nat) (d' : Dr) (r : Ending) (e : Ending) (w' : World) : Prop := ∃ S', e = r ∧ DrAt w' B S' P d' ∧ (∀ b ∈ S', b ∈ S ∨ w.heap.size ≤ b) ∧ (∀ b ∈ S, b ∈ S') ∧ Onl S w w'
set_option maxRecDepth 100000 in
set_option maxHeartbeats 2000000 in
theorem takes17c (P : Nat) (B c : Nat) (S : List Nat) (d : Dr) (p i want no : Int) (w : World) (h : DrAt w B S P d) (iv : d.Inv c) (h1 : d.got p i = want) (h2 : d.err p i = no) : Calls Try.prog 17 #[.pointer (some ⟨P, 0, none⟩), .int .i64 p, .int .i64 i, .int .i64 want, .int .i64 no] w (TkM w B S P (d.stp p i) (.returned (.bool true))) := by
  have HT := Lib.hid (take22 P B c S d p i w h iv)
  rw [h1, h2] at HT
  clear h iv h1 h2
  have q1 : (want == want) = true := by simp
  have q2 : (no == no) = true := by simp
  go_enter Try.func17, Try.ntmps17
  go_wp2_with fail
  with_reducible refine HT.out.mono ?_
  rintro e w1 ⟨S', rfl, hd, hs1, hs2, ho⟩
  have HD := Lib.hid hd
  have HS1 := Lib.hid hs1
  have HS2 := Lib.hid hs2
  have HO := Lib.hid ho
  clear hd hs1 hs2 ho
  go_wp2_with fail
  go_returns
  exact ⟨S', rfl, HD.out, HS1.out, HS2.out, HO.out⟩
set_option maxRecDepth 100000 in
set_option maxHeartbeats 2000000 in
theorem shows26c (P : Nat) (B c : Nat) (S : List Nat) (d : Dr) (p no : Int) (v : Value) (l : List Int) (w : World) (h : DrAt w B S P d) (iv : d.Inv c) (h1 : d.ask p = l) (h2 : d.askE p = no) (hv : Rw ic 1 w v l) : Calls Try.prog 26 #[.pointer (some ⟨P, 0, none⟩), .int .i64 p, v, .int .i64 no] w fun e w' => e = .returned (.bool true) ∧ Below w.heap.size w w' := by
  have HT := Lib.hid (pack21 P B c S d p w h iv)
  rw [h1, h2] at HT
  have HV := Lib.hid hv
  clear h iv h1 h2 hv
  have q2 : (no == no) = true := by simp
  go_enter Try.func26, Try.ntmps26
  go_wp2_with fail
  with_reducible refine HT.out.mono ?_
  rintro e w1 ⟨u, rfl, hu, hb⟩
  obtain ⟨au, cu, rfl⟩ := hu.form
  have HU := Lib.hid hu
  clear hu
  go_wp2_with fail
  with_reducible refine (ints12c _ _ l l _ (HU.out.rw ic_len) (HV.out.below hb) rfl).mono ?_
  rintro e w2 ⟨rfl, hb2⟩
  go_wp2_with fail
  go_returns
  exact ⟨rfl, below_via hb hb2⟩
/-- in the world W, whose blocks below those of w are as they were, block P is the draft d -/
def Kn (w : World) (P : Nat) (d : Dr) (W : World) : Prop := (∃ S, DrAt W w.heap.size S P d) ∧ Below w.heap.size w W
theorem Kn.grow {w W W' : World} {P : Nat} {d : Dr} (h : Kn w P d W) (hb : Below W.heap.size W W') : Kn w P d W' := by
  obtain ⟨⟨S, h1⟩, h2⟩ := h
  exact ⟨⟨S, h1.below hb⟩, below_via h2 hb⟩
theorem DrAt.newB {w : World} {B : Nat} {S : List Nat} {P : Nat} {d : Dr} (h : DrAt w B S P d) : ∀ b ∈ S, B ≤ b ∧ b < w.heap.size := by
  obtain ⟨so, st, sm, rvs, vss, h⟩ := h
  exact h.new
theorem takesK (w : World) (P c : Nat) (d : Dr) (p i want no : Int) (W : World) (h : Kn w P d W) (iv : d.Inv c) (h1 : d.got p i = want) (h2 : d.err p i = no) : Calls Try.prog 17 #[.pointer (some ⟨P, 0, none⟩), .int .i64 p, .int .i64 i, .int .i64 want, .int .i64 no] W fun e w' => e = .returned (.bool true) ∧ Kn w P (d.stp p i) w' := by
  obtain ⟨⟨S, h⟩, hb⟩ := h
  refine (takes17c P _ c S d p i want no W h iv h1 h2).mono ?_
  rintro e w' ⟨S', rfl, hd, _, _, ho⟩
  exact ⟨rfl, ⟨S', hd⟩, hb.trans (ho.below' (fun b hb => (h.newB b hb).1) hb.size)⟩
theorem showsK (w : World) (P c : Nat) (d : Dr) (p no : Int) (v : Value) (l : List Int) (W : World) (h : Kn w P d W) (iv : d.Inv c) (h1 : d.ask p = l) (h2 : d.askE p = no) (hv : Rw ic 1 W v l) : Calls Try.prog 26 #[.pointer (some ⟨P, 0, none⟩), .int .i64 p, v, .int .i64 no] W fun e w' => e = .returned (.bool true) ∧ Kn w P d w' := by
  have h0 := h
  obtain ⟨⟨S, h⟩, hb⟩ := h
  refine (shows26c P _ c S d p no v l W h iv h1 h2 hv).mono ?_
  rintro e w' ⟨rfl, hb2⟩
  exact ⟨rfl, h0.grow hb2⟩
theorem waitK (w : World) (P c : Nat) (d : Dr) (l : List Int) (n : Nat) (hn : l.length = n) (W : World) (h : Kn w P d W) (iv : d.Inv c) (h1 : d.wait = l) : Calls Try.prog 27 #[.pointer (some ⟨P, 0, none⟩)] W fun e w' => ∃ a k, e = .returned (.slice a n k) ∧ Rw ic 1 w' (.slice a n k) l ∧ Kn w P d w' := by
  subst hn
  have h0 := h
  obtain ⟨⟨S, h⟩, hb⟩ := h
  have := waiting27 P _ c S d W h iv
  rw [h1] at this
  refine this.mono ?_
  rintro e w' ⟨v, rfl, hv, hb2⟩
  obtain ⟨a, k, rfl⟩ := hv.form
  exact ⟨a, k, rfl, hv.rw ic_len, h0.grow hb2⟩
theorem takenK (w : World) (P c : Nat) (d : Dr) (p no : Int) (l : List Int) (n : Nat) (hn : l.length = n) (W : World) (h : Kn w P d W) (iv : d.Inv c) (h1 : d.tkn p = l) (h2 : d.askE p = no) : Calls Try.prog 24 #[.pointer (some ⟨P, 0, none⟩), .int .i64 p] W fun e w' => ∃ a k, e = .returned (.tuple #[.slice a n k, .int .i64 no]) ∧ Rw ic 1 w' (.slice a n k) l ∧ Kn w P d w' := by
  subst hn
  have h0 := h
  obtain ⟨⟨S, h⟩, hb⟩ := h
  have := taken24 P _ c S d p W h iv
  rw [h1, h2] at this
  refine this.mono ?_
  rintro e w' ⟨v, rfl, hv, hb2⟩
  obtain ⟨a, k, rfl⟩ := hv.form
  exact ⟨a, k, rfl, hv.rw ic_len, h0.grow hb2⟩
theorem turnK (w : World) (P c : Nat) (d : Dr) (n : Int) (W : World) (h : Kn w P d W) (iv : d.Inv c) (h1 : (d.tn : Int) = n) : Calls Try.prog 20 #[.pointer (some ⟨P, 0, none⟩)] W fun e w' => e = .returned (.int .i64 n) ∧ w' = W := by
  obtain ⟨⟨S, h⟩, hb⟩ := h
  rw [← h1]
  exact turn20 P _ c S d W h iv
theorem roundK (w : World) (P c : Nat) (d : Dr) (n : Int) (W : World) (h : Kn w P d W) (iv : d.Inv c) (h1 : (d.rd : Int) = n) : Calls Try.prog 19 #[.pointer (some ⟨P, 0, none⟩)] W fun e w' => e = .returned (.int .i64 n) ∧ w' = W := by
  obtain ⟨⟨S, h⟩, hb⟩ := h
  rw [← h1]
  exact round19 P _ c S d W h iv
theorem doneK (w : World) (P c : Nat) (d : Dr) (b : Bool) (W : World) (h : Kn w P d W) (iv : d.Inv c) (h1 : d.over = b) : Calls Try.prog 18 #[.pointer (some ⟨P, 0, none⟩)] W fun e w' => e = .returned (.bool b) ∧ Kn w P d w' := by
  have h0 := h
  obtain ⟨⟨S, h⟩, hb⟩ := h
  refine (done18c P _ c S d b W h iv h1).mono ?_
  rintro e w' ⟨rfl, hb2⟩
  exact ⟨rfl, h0.grow hb2⟩
def k0 : Dr := Dr.init [[[1, 2], [3, 4]], [[5, 6], [7, 8]]]
theorem k0_inv : k0.Inv 2 := init_inv (rs := [[[1, 2], [3, 4]], [[5, 6], [7, 8]]]) (by decide +kernel)
def k1 : Dr := k0.stp 0 1
theorem k1_inv : k1.Inv 2 := stp_inv k0_inv 0 1
theorem k1_g : k0.got 0 1 = 2 := by decide +kernel
theorem k1_e : k0.err 0 1 = 0 := by decide +kernel
theorem s3 : k1.ask 0 = ([] : List Int) ∧ k1.askE 0 = 0 := by decide +kernel
def k2 : Dr := k1.stp 0 0
theorem k2_inv : k2.Inv 2 := stp_inv k1_inv 0 0
theorem k2_g : k1.got 0 0 = 0 := by decide +kernel
theorem k2_e : k1.err 0 0 = 8 := by decide +kernel
theorem s5 : k2.wait = [1] := by decide +kernel
def k3 : Dr := k2.stp 1 0
theorem k3_inv : k3.Inv 2 := stp_inv k2_inv 1 0
theorem k3_g : k2.got 1 0 = 3 := by decide +kernel
theorem k3_e : k2.err 1 0 = 0 := by decide +kernel
theorem s7 : k3.ask 0 = [4] ∧ k3.askE 0 = 0 := by decide +kernel
theorem s8 : k3.ask 1 = [1] ∧ k3.askE 1 = 0 := by decide +kernel
def k4 : Dr := k3.stp 0 0
theorem k4_inv : k4.Inv 2 := stp_inv k3_inv 0 0
theorem k4_g : k3.got 0 0 = 4 := by decide +kernel
theorem k4_e : k3.err 0 0 = 0 := by decide +kernel
def k5 : Dr := k4.stp 1 0
theorem k5_inv : k5.Inv 2 := stp_inv k4_inv 1 0
theorem k5_g : k4.got 1 0 = 1 := by decide +kernel
theorem k5_e : k4.err 1 0 = 0 := by decide +kernel
theorem s13 : k5.ask 0 = [5, 6] ∧ k5.askE 0 = 0 := by decide +kernel
def k6 : Dr := k5.stp 0 2
theorem k6_inv : k6.Inv 2 := stp_inv k5_inv 0 2
theorem k6_g : k5.got 0 2 = 0 := by decide +kernel
theorem k6_e : k5.err 0 2 = 3 := by decide +kernel
def k7 : Dr := k6.stp 2 0
theorem k7_inv : k7.Inv 2 := stp_inv k6_inv 2 0
theorem k7_g : k6.got 2 0 = 0 := by decide +kernel
theorem k7_e : k6.err 2 0 = 2 := by decide +kernel
def k8 : Dr := k7.stp 0 0
theorem k8_inv : k8.Inv 2 := stp_inv k7_inv 0 0
theorem k8_g : k7.got 0 0 = 5 := by decide +kernel
theorem k8_e : k7.err 0 0 = 0 := by decide +kernel
def k9 : Dr := k8.stp 1 1
theorem k9_inv : k9.Inv 2 := stp_inv k8_inv 1 1
theorem k9_g : k8.got 1 1 = 8 := by decide +kernel
theorem k9_e : k8.err 1 1 = 0 := by decide +kernel
theorem s18 : k9.ask 0 = [7] ∧ k9.askE 0 = 0 := by decide +kernel
def k10 : Dr := k9.stp 0 0
theorem k10_inv : k10.Inv 2 := stp_inv k9_inv 0 0
theorem k10_g : k9.got 0 0 = 7 := by decide +kernel
theorem k10_e : k9.err 0 0 = 0 := by decide +kernel
def k11 : Dr := k10.stp 1 0
theorem k11_inv : k11.Inv 2 := stp_inv k10_inv 1 0
theorem k11_g : k10.got 1 0 = 6 := by decide +kernel
theorem k11_e : k10.err 1 0 = 0 := by decide +kernel
theorem s22 : k11.tkn 0 = [2, 4, 5, 7] ∧ k11.askE 0 = 0 := by decide +kernel
def k12 : Dr := k11.stp 0 0
theorem k12_inv : k12.Inv 2 := stp_inv k11_inv 0 0
theorem k12_g : k11.got 0 0 = 0 := by decide +kernel
theorem k12_e : k11.err 0 0 = 16 := by decide +kernel
theorem Rw.lit (w : World) (T : TypeId) (l : List Int) (cs : Array Value) (h : cs.toList = l.flatMap ic) {cap n g : Nat} (hn : n = l.length := by simp) (hg : g = w.heap.size := by rfl) (hm : l.length ≤ maxLen := by decide) : Rw ic 1 (w.alloc (.cells cs T)) (.slice (some ⟨g, 0, none⟩) n cap) l := by
  subst hn hg
  cases l with
  | nil => exact .inl ⟨rfl, .inr ⟨_, _, rfl⟩⟩
  | cons x l =>
    refine .inr ⟨by simp, hm, _, 0, cap, rfl, by simp, fun i y hi j u hu => ?_⟩
    have hq := flat_at (f := ic) (sz := 1) (fun _ _ => rfl) hi hu
    rw [Nat.zero_add, cell_of_row (w.alloc (.cells cs T)) w.heap.size _ cs T (0, 0) (heap_alloc_new w _), ← Array.getElem?_toList, h, hq]
theorem Rw.litV (w : World) (T : TypeId) (l : List Sl) (cs : Array Value) (h : cs.toList = l.flatMap vc) {cap n g : Nat} (hn : n = l.length) (hg : g = w.heap.size) (hm : l.length ≤ maxLen) (h0 : l ≠ []) : Rw vc 1 (w.alloc (.cells cs T)) (.slice (some ⟨g, 0, none⟩) n cap) l := by
  subst hn hg
  refine .inr ⟨h0, hm, _, 0, cap, rfl, by simp, fun i y hi j u hu => ?_⟩
  have hq := flat_at (f := vc) (sz := 1) (fun _ _ => rfl) hi hu
  rw [Nat.zero_add, cell_of_row (w.alloc (.cells cs T)) w.heap.size _ cs T (0, 0) (heap_alloc_new w _), ← Array.getElem?_toList, h, hq]
theorem two_cases {α : Type} {x y z : α} {i : Nat} (h : [x, y][i]? = some z) : i = 0 ∧ z = x ∨ i = 1 ∧ z = y := by
  match i with
  | 0 => simp at h; exact .inl ⟨rfl, h.symm⟩
  | 1 => simp at h; exact .inr ⟨rfl, h.symm⟩
  | i + 2 => simp at h
theorem row2 (w : World) (a b c d : Int) (m n r : Nat) (hm : m = w.heap.size) (hn : n = w.heap.size + 1) (hr : r = w.heap.size + 2) : Rw2 (((w.alloc (.cells #[.int .i64 a, .int .i64 b] 3)).alloc (.cells #[.int .i64 c, .int .i64 d] 3)).alloc (.cells #[.slice (some ⟨m, 0, none⟩) 2 2, .slice (some ⟨n, 0, none⟩) 2 2] 32)) (.slice (some ⟨r, 0, none⟩) 2 2) [[a, b], [c, d]] := by
  refine ⟨[⟨some ⟨m, 0, none⟩, 2, 2⟩, ⟨some ⟨n, 0, none⟩, 2, 2⟩], Rw.litV _ 32 _ _ rfl rfl (by simp [hr]) (by simp [maxLen]) (by simp), rfl, fun i s l hs hl => ?_⟩
  rcases two_cases hs with ⟨rfl, rfl⟩ | ⟨rfl, rfl⟩
  · simp at hl
    subst hl
    exact ((Rw.lit w 3 [a, b] _ rfl rfl hm (by simp [maxLen])).below ((Below.refl _ _).alloc (Nat.le_refl _) _)).below ((Below.refl _ _).alloc (Nat.le_refl _) _)
  · simp at hl
    subst hl
    exact (Rw.lit _ 3 [c, d] _ rfl rfl (by simp [hn]) (by simp [maxLen])).below ((Below.refl _ _).alloc (Nat.le_refl _) _)
theorem known_mem (w : World) (a b c d e f g h : Int) (m0 m1 m2 m3 m4 m5 m6 : Nat) (h0 : m0 = w.heap.size) (h1 : m1 = w.heap.size + 1) (h2 : m2 = w.heap.size + 2) (h3 : m3 = w.heap.size + 3) (h4 : m4 = w.heap.size + 4) (h5 : m5 = w.heap.size + 5) (h6 : m6 = w.heap.size + 6) : Rw3 (((((((w.alloc (.cells #[.int .i64 a, .int .i64 b] 3)).alloc (.cells #[.int .i64 c, .int .i64 d] 3)).alloc (.cells #[.slice (some ⟨m0, 0, none⟩) 2 2, .slice (some ⟨m1, 0, none⟩) 2 2] 32)).alloc (.cells #[.int .i64 e, .int .i64 f] 3)).alloc (.cells #[.int .i64 g, .int .i64 h] 3)).alloc (.cells #[.slice (some ⟨m3, 0, none⟩) 2 2, .slice (some ⟨m4, 0, none⟩) 2 2] 32)).alloc (.cells #[.slice (some ⟨m2, 0, none⟩) 2 2, .slice (some ⟨m5, 0, none⟩) 2 2] 30)) (.slice (some ⟨m6, 0, none⟩) 2 2) [[[a, b], [c, d]], [[e, f], [g, h]]] := by
  refine ⟨[⟨some ⟨m2, 0, none⟩, 2, 2⟩, ⟨some ⟨m5, 0, none⟩, 2, 2⟩], Rw.litV _ 30 _ _ rfl rfl (by simp; omega) (by simp [maxLen]) (by simp), rfl, fun i s l hs hl => ?_⟩
  have B1 : ∀ (W : World) (o : Obj), Below W.heap.size W (W.alloc o) := fun W o => (Below.refl _ _).alloc (Nat.le_refl _) _
  rcases two_cases hs with ⟨rfl, rfl⟩ | ⟨rfl, rfl⟩
  · simp at hl
    subst hl
    exact ((((row2 w a b c d m0 m1 m2 h0 h1 h2).below (B1 _ _)).below (B1 _ _)).below (B1 _ _)).below (B1 _ _)
  · simp at hl
    subst hl
    exact (row2 _ e f g h m3 m4 m5 (by simp; omega) (by simp; omega) (by simp; omega)).below (B1 _ _)
theorem kn_start {w w0 w1 : World} {P : Nat} {S : List Nat} {d : Dr} (h : DrAt w1 w0.heap.size S P d) (hb : Below w0.heap.size w0 w1) (h0 : Below w.heap.size w w0) : Kn w P d w1 := by
  obtain ⟨so, st, sm, rvs, vss, h2⟩ := h
  exact ⟨⟨S, so, st, sm, rvs, vss, h2.hp, h2.out, h2.rows, h2.mat, h2.mov, h2.inP, h2.ino, h2.inm, h2.inr, h2.ini, fun b hb' => ⟨Nat.le_trans h0.size (h2.new b hb').1, (h2.new b hb').2⟩⟩, below_via h0 hb⟩
set_option maxRecDepth 100000 in
set_option maxHeartbeats 8000000 in
theorem known (w : World) : Calls Try.prog 9 #[] w fun e w' => e = .returned (.bool true) ∧ Below w.heap.size w w' := by
  go_enter Try.func9, Try.ntmps9
  go_wp2_with fail
  with_reducible refine (new11 _ [[[1, 2], [3, 4]], [[5, 6], [7, 8]]] _ (known_mem w 1 2 3 4 5 6 7 8 _ _ _ _ _ _ _ (by simp) (by simp) (by simp) (by simp) (by simp) (by simp) (by simp)) (by decide +kernel)).mono ?_
  rintro e w1 ⟨P, S0, rfl, hd0, hb0⟩
  have HK0 : Hid (Kn w P k0 w1) := Lib.hid (kn_start hd0 hb0 (by go_grown))
  clear hd0 hb0
  go_wp2_with fail
  with_reducible refine (takesK w P 2 k0 0 1 2 0 _ HK0.out k0_inv k1_g k1_e).mono ?_
  rintro e w2 ⟨rfl, hk⟩
  have HK1 : Hid (Kn w P k1 w2) := Lib.hid hk
  clear hk HK0
  go_wp2_with fail
  with_reducible refine (showsK w P 2 k1 0 0 _ ([] : List Int) _ HK1.out k1_inv s3.1 s3.2 (Rw.nil _)).mono ?_
  rintro e w3 ⟨rfl, hk⟩
  clear HK1
  have HK1 : Hid (Kn w P k1 w3) := Lib.hid hk
  clear hk
  go_wp2_with fail
  with_reducible refine (takesK w P 2 k1 0 0 0 8 _ HK1.out k1_inv k2_g k2_e).mono ?_
  rintro e w4 ⟨rfl, hk⟩
  have HK2 : Hid (Kn w P k2 w4) := Lib.hid hk
  clear hk HK1
  go_wp2_with fail
  with_reducible refine (waitK w P 2 k2 [1] 1 rfl _ HK2.out k2_inv s5).mono ?_
  rintro e w5 ⟨a5, c5, rfl, hr, hk⟩
  have HR5 := Lib.hid hr
  clear HK2 hr
  have HK2 : Hid (Kn w P k2 w5) := Lib.hid hk
  clear hk
  go_wp2_with fail
  with_reducible refine (ints12c (.slice a5 1 c5) _ [1] [1] _ (HR5.out.below ((Below.refl _ _).alloc (Nat.le_refl _) _)) (Rw.lit _ 3 [1] #[.int .i64 1] rfl (cap := 1) (n := 1)) rfl).mono ?_
  rintro e v5 ⟨rfl, hb⟩
  have hk := HK2.out.grow (below_via ((Below.refl _ _).alloc (Nat.le_refl _) _) hb)
  clear HK2 hb
  have HK2 := Lib.hid hk
  clear hk
  go_wp2_with fail
  with_reducible refine (takesK w P 2 k2 1 0 3 0 _ HK2.out k2_inv k3_g k3_e).mono ?_
  rintro e w6 ⟨rfl, hk⟩
  have HK3 : Hid (Kn w P k3 w6) := Lib.hid hk
  clear hk HK2
  go_wp2_with fail
  with_reducible refine (showsK w P 2 k3 0 0 _ [4] _ (HK3.out.grow ((Below.refl _ _).alloc (Nat.le_refl _) _)) k3_inv s7.1 s7.2 (Rw.lit _ 3 [4] #[.int .i64 4] rfl (cap := 1) (n := 1))).mono ?_
  rintro e w7 ⟨rfl, hk⟩
  clear HK3
  have HK3 : Hid (Kn w P k3 w7) := Lib.hid hk
  clear hk
  go_wp2_with fail
  with_reducible refine (showsK w P 2 k3 1 0 _ [1] _ (HK3.out.grow ((Below.refl _ _).alloc (Nat.le_refl _) _)) k3_inv s8.1 s8.2 (Rw.lit _ 3 [1] #[.int .i64 1] rfl (cap := 1) (n := 1))).mono ?_
  rintro e w8 ⟨rfl, hk⟩
  clear HK3
  have HK3 : Hid (Kn w P k3 w8) := Lib.hid hk
  clear hk
  go_wp2_with fail
  with_reducible refine (turnK w P 2 k3 1 _ HK3.out k3_inv (by decide +kernel)).mono ?_
  rintro e w9 ⟨rfl, rfl⟩
  go_wp2_with fail
  with_reducible refine (takesK w P 2 k3 0 0 4 0 _ HK3.out k3_inv k4_g k4_e).mono ?_
  rintro e w10 ⟨rfl, hk⟩
  have HK4 : Hid (Kn w P k4 w10) := Lib.hid hk
  clear hk HK3
  go_wp2_with fail
  with_reducible refine (takesK w P 2 k4 1 0 1 0 _ HK4.out k4_inv k5_g k5_e).mono ?_
  rintro e w11 ⟨rfl, hk⟩
  have HK5 : Hid (Kn w P k5 w11) := Lib.hid hk
  clear hk HK4
  go_wp2_with fail
  with_reducible refine (roundK w P 2 k5 1 _ HK5.out k5_inv (by decide +kernel)).mono ?_
  rintro e w12 ⟨rfl, rfl⟩
  go_wp2_with fail
  with_reducible refine (showsK w P 2 k5 0 0 _ [5, 6] _ (HK5.out.grow ((Below.refl _ _).alloc (Nat.le_refl _) _)) k5_inv s13.1 s13.2 (Rw.lit _ 3 [5, 6] #[.int .i64 5, .int .i64 6] rfl (cap := 2) (n := 2))).mono ?_
  rintro e w13 ⟨rfl, hk⟩
  clear HK5
  have HK5 : Hid (Kn w P k5 w13) := Lib.hid hk
  clear hk
  go_wp2_with fail
  with_reducible refine (takesK w P 2 k5 0 2 0 3 _ HK5.out k5_inv k6_g k6_e).mono ?_
  rintro e w14 ⟨rfl, hk⟩
  have HK6 : Hid (Kn w P k6 w14) := Lib.hid hk
  clear hk HK5
  go_wp2_with fail
  with_reducible refine (takesK w P 2 k6 2 0 0 2 _ HK6.out k6_inv k7_g k7_e).mono ?_
  rintro e w15 ⟨rfl, hk⟩
  have HK7 : Hid (Kn w P k7 w15) := Lib.hid hk
  clear hk HK6
  go_wp2_with fail
  with_reducible refine (takesK w P 2 k7 0 0 5 0 _ HK7.out k7_inv k8_g k8_e).mono ?_
  rintro e w16 ⟨rfl, hk⟩
  have HK8 : Hid (Kn w P k8 w16) := Lib.hid hk
  clear hk HK7
  go_wp2_with fail
  with_reducible refine (takesK w P 2 k8 1 1 8 0 _ HK8.out k8_inv k9_g k9_e).mono ?_
  rintro e w17 ⟨rfl, hk⟩
  have HK9 : Hid (Kn w P k9 w17) := Lib.hid hk
  clear hk HK8
  go_wp2_with fail
  with_reducible refine (showsK w P 2 k9 0 0 _ [7] _ (HK9.out.grow ((Below.refl _ _).alloc (Nat.le_refl _) _)) k9_inv s18.1 s18.2 (Rw.lit _ 3 [7] #[.int .i64 7] rfl (cap := 1) (n := 1))).mono ?_
  rintro e w18 ⟨rfl, hk⟩
  clear HK9
  have HK9 : Hid (Kn w P k9 w18) := Lib.hid hk
  clear hk
  go_wp2_with fail
  with_reducible refine (takesK w P 2 k9 0 0 7 0 _ HK9.out k9_inv k10_g k10_e).mono ?_
  rintro e w19 ⟨rfl, hk⟩
  have HK10 : Hid (Kn w P k10 w19) := Lib.hid hk
  clear hk HK9
  go_wp2_with fail
  with_reducible refine (takesK w P 2 k10 1 0 6 0 _ HK10.out k10_inv k11_g k11_e).mono ?_
  rintro e w20 ⟨rfl, hk⟩
  have HK11 : Hid (Kn w P k11 w20) := Lib.hid hk
  clear hk HK10
  go_wp2_with fail
  with_reducible refine (doneK w P 2 k11 true _ HK11.out k11_inv (by decide +kernel)).mono ?_
  rintro e w21 ⟨rfl, hk⟩
  clear HK11
  have HK11 : Hid (Kn w P k11 w21) := Lib.hid hk
  clear hk
  go_wp2_with fail
  with_reducible refine (takenK w P 2 k11 0 0 [2, 4, 5, 7] 4 rfl _ HK11.out k11_inv s22.1 s22.2).mono ?_
  rintro e w22 ⟨a22, c22, rfl, hr, hk⟩
  have HR22 := Lib.hid hr
  clear HK11 hr
  have HK11 : Hid (Kn w P k11 w22) := Lib.hid hk
  clear hk
  go_wp2_with fail
  with_reducible refine (ints12c (.slice a22 4 c22) _ [2, 4, 5, 7] [2, 4, 5, 7] _ (HR22.out.below ((Below.refl _ _).alloc (Nat.le_refl _) _)) (Rw.lit _ 3 [2, 4, 5, 7] #[.int .i64 2, .int .i64 4, .int .i64 5, .int .i64 7] rfl (cap := 4) (n := 4)) rfl).mono ?_
  rintro e v22 ⟨rfl, hb⟩
  have hk := HK11.out.grow (below_via ((Below.refl _ _).alloc (Nat.le_refl _) _) hb)
  clear HK11 hb
  have HK11 := Lib.hid hk
  clear hk
  go_wp2_with fail
  with_reducible refine (roundK w P 2 k11 2 _ HK11.out k11_inv (by decide +kernel)).mono ?_
  rintro e w23 ⟨rfl, rfl⟩
  go_wp2_with fail
  with_reducible refine (takesK w P 2 k11 0 0 0 16 _ HK11.out k11_inv k12_g k12_e).mono ?_
  rintro e w24 ⟨rfl, hk⟩
  have HK12 : Hid (Kn w P k12 w24) := Lib.hid hk
  clear hk HK11
  go_wp2_with fail
  go_returns
  exact ⟨rfl, HK12.out.2⟩

end Go.Proofs.Yteocplabibhecaa
