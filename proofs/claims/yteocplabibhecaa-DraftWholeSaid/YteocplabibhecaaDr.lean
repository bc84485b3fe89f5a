/- What a draft says. -/
import Derived.Test.YteocplabibhecaaMe
namespace Go.Proofs.Yteocplabibhecaa
open Go.RowKit Plain
set_option linter.unusedVariables false
set_option linter.unusedSimpArgs false

theorem rg32_1 {P : Program} {B n : Nat} {w0 : World} {L : List (Nat × Nat × Value)} {E F : World → Prop} {id : Nat} {Q : Exit → Act → World → Prop} {a : Act} {w : World} {o0 o1 o2 o3 o4 o5 o6 o7 o8 o9 o10 : Oper} (hm : P.follows .mixedOrders = true)
    (hB : (Region.noSelect [o0, o1, o2, o3, o4, o5, o6, o7, o8, o9, o10].toArray && Scr.ok .any [o0, o1, o2, o3, o4, o5, o6, o7, o8, o9, o10].toArray [3, 7] [0, 1, 2, 4, 5, 6, 8, 9, 10] (.free 0 (.free 1 (.free 2 (.free 4 (.free 5 (.free 6 (.read 3 (.read 7 (.free 8 (.free 9 (.free 10 .done))))))))))) true true [o0, o1, o2, o3, o4, o5, o6, o7, o8, o9, o10].toArray.size (Array.replicate [o0, o1, o2, o3, o4, o5, o6, o7, o8, o9, o10].toArray.size false)) = true)
    (k : Kept B w0 n L w) (he : E w) (hE : ∀ W W', E W → Below W.heap.size W W' → E W') (hf : F w) (hF : ∀ W W', F W → Below W.heap.size W W' → F W')
    (h : ∀ wk, Kept B w0 n L wk → E wk → F wk → wpQuiet P [o0, o1, o2, o3, o4, o5, o6, o7, o8, o9, o10].toArray (fun _ => True) (fun a0 => wpQuiet P [o0, o1, o2, o3, o4, o5, o6, o7, o8, o9, o10].toArray (fun w' => ∃ s : KX B w0 n L E, w' = s.val) (fun a1 => wpQuiet P [o0, o1, o2, o3, o4, o5, o6, o7, o8, o9, o10].toArray (fun _ => True) (fun a2 => Q .normal a2 wk) [o8, o9, o10] a1) [o3, o7] a0) [o0, o1, o2, o4, o5, o6] a) : (Code.region id [o0, o1, o2, o3, o4, o5, o6, o7, o8, o9, o10].toArray true).wp P Q a w := by
  have e1 : E w.drew := hE _ _ he ((Below.refl _ _).drew)
  have g := h _ k.drew e1 (hF _ _ hf ((Below.refl _ _).drew))
  exact wp_region_scr (U := (fun w' => ∃ s : KX B w0 n L E, w' = s.val)) (ops := [o0, o1, o2, o3, o4, o5, o6, o7, o8, o9, o10].toArray) (.free 0 (.free 1 (.free 2 (.free 4 (.free 5 (.free 6 (.read 3 (.read 7 (.free 8 (.free 9 (.free 10 .done))))))))))) [3, 7] [0, 1, 2, 4, 5, 6, 8, 9, 10] hm hB ⟨⟨_, k.drew, e1⟩, rfl⟩ (Scr.of_free rfl g (fun _ g0 => Scr.of_free rfl g0 (fun _ g1 => Scr.of_free rfl g1 (fun _ g2 => Scr.of_free rfl g2 (fun _ g3 => Scr.of_free rfl g3 (fun _ g4 => Scr.of_free rfl g4 (fun _ g5 => Scr.of_read rfl g5 (fun _ g6 => Scr.of_read rfl g6 (fun _ g7 => Scr.of_free rfl g7 (fun _ g8 => Scr.of_free rfl g8 (fun _ g9 => Scr.of_free rfl g9 (fun _ g10 => g10))))))))))))
set_option maxRecDepth 100000 in
set_option maxHeartbeats 2000000 in
theorem none31 (P : Nat) (B c : Nat) (S : List Nat) (d : Dr) (w : World) (h : DrAt w B S P d) (iv : d.Inv c) : Calls Try.prog 31 #[.pointer (some ⟨P, 0, none⟩)] w fun e w' => e = .returned (.bool false) ∧ w' = w := by
  obtain ⟨so, st, sm, rvs, vss, hd⟩ := h
  obtain ⟨c0, c1, c2, c3, c4⟩ := hd.cells
  have hP := hd.lt
  have h1 := iv.r1
  have h4 := iv.r4
  have q : ((d.rs.length : Int) == 0) = false := by simp; intro e; rw [e] at h1; simp at h1
  clear hd iv
  go_enter Try.func31, Try.ntmps31
  go_wp2_with fail
  go_returns
  exact ⟨rfl, rfl⟩
set_option maxRecDepth 100000 in
set_option maxHeartbeats 2000000 in
theorem over32c (P : Nat) (B c : Nat) (S : List Nat) (d : Dr) (b : Bool) (w : World) (h : DrAt w B S P d) (iv : d.Inv c) (hb : d.over = b) : Calls Try.prog 32 #[.pointer (some ⟨P, 0, none⟩)] w fun e w' => e = .returned (.bool b) ∧ Below w.heap.size w w' := by
  obtain ⟨so, st, sm, rvs, vss, hd⟩ := h
  obtain ⟨c0, c1, c2, c3, c4⟩ := hd.cells
  have hP := hd.lt
  have h4 := iv.r4
  have hd4 := iv.rd
  clear hd iv
  cases b
  · have q : ((d.rd : Int) == (d.rs.length : Int)) = false := by simp [Dr.over] at hb; simp; omega
    clear hb
    go_enter Try.func32, Try.ntmps32
    go_wp2_with fail
    refine rg32_1 (w0 := w) (B := w.heap.size) (n := w.heap.size) (L := []) (E := fun _ => True) (F := fun _ => True) (by kernel_rfl) (by kernel_rfl) ⟨by go_grown, by go_size, (by simp [go_sem] <;> omega)⟩ trivial (fun _ _ _ _ => trivial) trivial (fun _ _ _ _ => trivial) (fun w1 K_w1 E_w1 F_w1 => ?_)
    have _ne : Nonempty (KX (w.heap.size) w (w.heap.size) [] (fun _ => True)) := ⟨⟨_, K_w1, E_w1⟩⟩
    repeat (go_big_quiet_step (fail))
    refine wpQuiet_nil ?_
    have ra : ∀ s : KX (w.heap.size) w (w.heap.size) [] (fun _ => True), s.val.cell? ⟨P, 0, none⟩ = some (.slice so.a d.rs.length so.c) := fun s => (s.kept.below.cell (p := ⟨P, 0, none⟩) hP).trans c0
    have rb : ∀ s : KX (w.heap.size) w (w.heap.size) [] (fun _ => True), s.val.cell? ⟨P, 3, none⟩ = some (.int .i64 d.rd) := fun s => (s.kept.below.cell (p := ⟨P, 3, none⟩) hP).trans c3
    repeat (go_big_quiet_step (fail))
    refine wpQuiet_nil ?_
    clear ra rb
    repeat (go_big_quiet_step (fail))
    refine wpQuiet_nil ?_
    clear _ne
    have KH_w1 := Lib.hid K_w1
    have hw_w1 := K_w1.below
    have hz_w1 := K_w1.size
    clear K_w1
    clear E_w1 F_w1
    go_wp2_with fail
    go_returns
    exact ⟨rfl, hw_w1⟩

  · have q : ((d.rd : Int) == (d.rs.length : Int)) = true := by simp [Dr.over] at hb; simp; omega
    clear hb
    go_enter Try.func32, Try.ntmps32
    go_wp2_with fail
    refine rg32_1 (w0 := w) (B := w.heap.size) (n := w.heap.size) (L := []) (E := fun _ => True) (F := fun _ => True) (by kernel_rfl) (by kernel_rfl) ⟨by go_grown, by go_size, (by simp [go_sem] <;> omega)⟩ trivial (fun _ _ _ _ => trivial) trivial (fun _ _ _ _ => trivial) (fun w1 K_w1 E_w1 F_w1 => ?_)
    have _ne : Nonempty (KX (w.heap.size) w (w.heap.size) [] (fun _ => True)) := ⟨⟨_, K_w1, E_w1⟩⟩
    repeat (go_big_quiet_step (fail))
    refine wpQuiet_nil ?_
    have ra : ∀ s : KX (w.heap.size) w (w.heap.size) [] (fun _ => True), s.val.cell? ⟨P, 0, none⟩ = some (.slice so.a d.rs.length so.c) := fun s => (s.kept.below.cell (p := ⟨P, 0, none⟩) hP).trans c0
    have rb : ∀ s : KX (w.heap.size) w (w.heap.size) [] (fun _ => True), s.val.cell? ⟨P, 3, none⟩ = some (.int .i64 d.rd) := fun s => (s.kept.below.cell (p := ⟨P, 3, none⟩) hP).trans c3
    repeat (go_big_quiet_step (fail))
    refine wpQuiet_nil ?_
    clear ra rb
    repeat (go_big_quiet_step (fail))
    refine wpQuiet_nil ?_
    clear _ne
    have KH_w1 := Lib.hid K_w1
    have hw_w1 := K_w1.below
    have hz_w1 := K_w1.size
    clear K_w1
    clear E_w1 F_w1
    go_wp2_with fail
    go_returns
    exact ⟨rfl, hw_w1⟩

set_option maxRecDepth 100000 in
set_option maxHeartbeats 2000000 in
theorem front34 (P : Nat) (B c : Nat) (S : List Nat) (d : Dr) (p : Nat) (w : World) (h : DrAt w B S P d) (iv : d.Inv c) (hp : p < d.n) (ho : d.rd ≠ d.rs.length) : Calls Try.prog 34 #[.pointer (some ⟨P, 0, none⟩), .int .i64 p] w fun e w' => e = .returned (.int .i64 (d.fr p : Nat)) ∧ w' = w := by
  obtain ⟨so, st, sm, rvs, vss, hd⟩ := h
  obtain ⟨c0, c1, c2, c3, c4⟩ := hd.cells
  have hP := hd.lt
  have h4 := iv.r4
  have hd4 := iv.rd
  have ht := iv.tn (by omega)
  have hc := iv.c15
  have hn2 := iv.n2
  have hn8 := iv.n8
  have e1 : (d.rd : Int).tmod 2 = ((d.rd % 2 : Nat) : Int) := by rw [Int.tmod_eq_emod_of_nonneg (by omega)]; omega
  have e2 : (d.tn : Int).tmod (d.n : Int) = ((d.tn % d.n : Nat) : Int) := (Int.tmod_eq_emod_of_nonneg (by omega)).trans (Int.natCast_emod _ _).symm
  have hlt : d.tn % d.n < d.n := Nat.mod_lt _ (by omega)
  obtain ⟨n, hn⟩ : ∃ n, d.n = n := ⟨_, rfl⟩
  rw [hn] at c1 hn2 hn8 e2 hlt hp
  obtain ⟨tm, htm⟩ : ∃ t, d.tn % n = t := ⟨_, rfl⟩
  rw [htm] at e2 hlt
  have HN := Lib.hid hn
  have HTM := Lib.hid htm
  clear hd iv hn htm
  by_cases hpar : d.rd % 2 = 0
  · rw [hpar] at e1
    obtain ⟨k, hk⟩ : ∃ k, (p + n - tm) % n = k := ⟨_, rfl⟩
    have HK := Lib.hid hk
    have HF : Hid (d.fr p = (p + n - tm) % n) := Lib.hid (by unfold Dr.fr front; rw [if_pos hpar, HN.out, HTM.out])
    have e3 : ((p : Int) + (n : Int) - (tm : Int)).tmod (n : Int) = (k : Int) := by
      rw [show (p : Int) + (n : Int) - (tm : Int) = ((p + n - tm : Nat) : Int) by omega, ← hk]
      exact (Int.tmod_eq_emod_of_nonneg (by omega)).trans (Int.natCast_emod _ _).symm
    clear hpar hk
    go_enter Try.func34, Try.ntmps34
    go_wp2_with fail
    go_returns
    exact ⟨ret_int (by rw [HF.out, HK.out]), rfl⟩
  · have hp1 : d.rd % 2 = 1 := by omega
    rw [hp1] at e1
    obtain ⟨k, hk⟩ : ∃ k, (p + d.tn) % n = k := ⟨_, rfl⟩
    have HK := Lib.hid hk
    have HF : Hid (d.fr p = (p + d.tn) % n) := Lib.hid (by unfold Dr.fr front; rw [if_neg hpar, HN.out])
    have e3 : ((p : Int) + (d.tn : Int)).tmod (n : Int) = (k : Int) := by
      rw [show (p : Int) + (d.tn : Int) = ((p + d.tn : Nat) : Int) by omega, ← hk]
      exact (Int.tmod_eq_emod_of_nonneg (by omega)).trans (Int.natCast_emod _ _).symm
    clear hpar hk
    go_enter Try.func34, Try.ntmps34
    go_wp2_with fail
    go_returns
    exact ⟨ret_int (by rw [HF.out, HK.out]), rfl⟩
theorem Ow.cell1 {α : Type} {f : α → List Value} {u : α → Value} (hf : ∀ x, f x = [u x]) {e : TypeId} {w : World} {base g n cap : Nat} {l : List α} (h : Ow f 1 e w base (.slice (some ⟨g, 0, none⟩) n cap) l) {i : Nat} {x : α} (hx : l[i]? = some x) : w.cell? ⟨g, i, none⟩ = some (u x) := by
  obtain ⟨_, a, c, hv, hc⟩ := (h.rw (fun x _ => by rw [hf]; rfl)).at1 hf
  simp only [Value.slice.injEq] at hv
  obtain ⟨rfl, _, _⟩ := hv
  obtain ⟨b, off, hb, _, hc⟩ := hc (by have := (List.getElem?_eq_some_iff.1 hx).1; omega)
  simp at hb
  obtain ⟨rfl, rfl⟩ := hb
  have := hc i x hx
  rwa [Nat.zero_add] at this
theorem Oe.cell1 {α : Type} {f : α → List Value} {u : α → Value} (hf : ∀ x, f x = [u x]) {e : TypeId} {w : World} {s : Sl} {l : List α} (h : Oe f e w s.v l) {i : Nat} {x : α} (hx : l[i]? = some x) : ∃ g, s.a = some ⟨g, 0, none⟩ ∧ 0 < s.c ∧ s.n = l.length ∧ g < w.heap.size ∧ blk s.v = some g ∧ w.cell? ⟨g, i, none⟩ = some (u x) ∧ Ow f 1 e w 0 s.v l := by
  obtain ⟨g, cap, hv, h0, hb, ho⟩ := h.pos (by intro e; rw [e] at hx; cases hx)
  have h2 := hv
  unfold Sl.v at hv
  simp only [Value.slice.injEq] at hv
  obtain ⟨h3, h4, h5⟩ := hv
  refine ⟨g, h3, by omega, h4, h.lt hb, hb, ?_, ho⟩
  rw [h2] at ho
  exact ho.cell1 hf hx
/-- a pack in memory -/
structure PkC (w : World) (so : Sl) (rvs : List Sl) (vss : List (List Sl)) (n i k : Nat) (l : List Int) (ob rb : Nat) (rc : Nat) (pa : Option Addr) (pc : Nat) : Prop where
  oa : so.a = some ⟨ob, 0, none⟩
  ol : ob < w.heap.size
  oc : w.cell? ⟨ob, i, none⟩ = some (.slice (some ⟨rb, 0, none⟩) n rc)
  rl : rb < w.heap.size
  rcell : w.cell? ⟨rb, k, none⟩ = some (.slice pa l.length pc)
  row : Oe ic 3 w (.slice pa l.length pc) l
  rv : rvs[i]? = some ⟨some ⟨rb, 0, none⟩, n, rc⟩
  pv : at2 vss i k = some ⟨pa, l.length, pc⟩
  r0 : 0 < rc
  rb : blk (.slice (some ⟨rb, 0, none⟩) n rc) = some rb
  ob : blk so.v = some ob
theorem DrM.pk {w : World} {B : Nat} {S : List Nat} {P : Nat} {d : Dr} {so st sm : Sl} {rvs : List Sl} {vss : List (List Sl)} (h : DrM w B S P d so st sm rvs vss) (hrow : ∀ r ∈ d.rs, r.length = d.n) {i k : Nat} {l : List Int} (hl : at2 d.rs i k = some l) : ∃ ob rb rc pa pc, PkC w so rvs vss d.n i k l ob rb rc pa pc := by
  obtain ⟨r, hr, hk⟩ := at2_row hl
  have hi := (List.getElem?_eq_some_iff.1 hr).1
  have hr' : (d.rs ++ [d.tk])[i]? = some r := by rw [List.getElem?_append_left hi]; exact hr
  obtain ⟨vs, hvs, hvl⟩ := h.mat.getr hr'
  have hri : i < rvs.length := by rw [h.rlen]; exact hi
  have hrv := List.getElem?_eq_getElem hri
  obtain ⟨g, hg, g0, gn, gl, gb, gc, _⟩ := h.out.cell1 vc1 hrv
  have hkv : k < vs.length := by rw [hvl]; exact (List.getElem?_eq_some_iff.1 hk).1
  have hpv := List.getElem?_eq_getElem hkv
  have ho2 := h.rows.row i rvs[i] vs (by rw [List.getElem?_append_left hri]; exact hrv) hvs
  obtain ⟨g2, q1, q2, q3, q4, q5, q6, _⟩ := ho2.cell1 vc1 hpv
  have ho3 := h.mat.row i k vs[k] l (at2_of hvs hpv) (at2_of hr' hk)
  have e3 := oe_slice ho3
  have hn : vs.length = d.n := by rw [hvl]; exact hrow r (List.mem_of_getElem? hr)
  have e4 : rvs[i] = ⟨some ⟨g2, 0, none⟩, d.n, rvs[i].c⟩ := by
    have : rvs[i] = ⟨rvs[i].a, rvs[i].n, rvs[i].c⟩ := rfl
    rw [this, q1, q3, hn]
  have e5 : vs[k] = ⟨vs[k].a, l.length, vs[k].c⟩ := by
    have h1 : vs[k] = ⟨vs[k].a, vs[k].n, vs[k].c⟩ := rfl
    have h2 : vs[k].n = l.length := by
      unfold Sl.v at e3
      simp only [Value.slice.injEq] at e3
      exact e3.2.1
    rw [← h2]
  refine ⟨g, g2, rvs[i].c, vs[k].a, vs[k].c, hg, gl, ?_, q4, ?_, ?_, ?_, ?_, q2, ?_, gb⟩
  · rw [gc, e4]; rfl
  · rw [q6, e5]; rfl
  · rw [← e3]; exact ho3
  · rw [hrv]; exact congrArg some e4
  · rw [at2_of hvs hpv]; exact congrArg some e5
  · have : (Value.slice (some ⟨g2, 0, none⟩) d.n rvs[i].c) = rvs[i].v := by
      have := congrArg Sl.v e4
      exact this.symm
    rw [this]
    exact q5
/-- what a player has taken, in memory -/
structure TkC (w : World) (st : Sl) (vss : List (List Sl)) (m p : Nat) (l : List Int) (tb : Nat) (pa : Option Addr) (pc : Nat) : Prop where
  ta : st.a = some ⟨tb, 0, none⟩
  tl : tb < w.heap.size
  tcell : w.cell? ⟨tb, p, none⟩ = some (.slice pa l.length pc)
  row : Oe ic 3 w (.slice pa l.length pc) l
  pv : at2 vss m p = some ⟨pa, l.length, pc⟩
  tb : blk st.v = some tb
theorem DrM.tkc {w : World} {B : Nat} {S : List Nat} {P : Nat} {d : Dr} {so st sm : Sl} {rvs : List Sl} {vss : List (List Sl)} (h : DrM w B S P d so st sm rvs vss) {p : Nat} {l : List Int} (hl : d.tk[p]? = some l) : ∃ tb pa pc, TkC w st vss d.rs.length p l tb pa pc := by
  obtain ⟨tvs, h1, h2, h3⟩ := h.tval
  have hp : p < tvs.length := by rw [h2]; exact (List.getElem?_eq_some_iff.1 hl).1
  have hpv := List.getElem?_eq_getElem hp
  obtain ⟨g2, q1, q2, q3, q4, q5, q6, _⟩ := h3.cell1 vc1 hpv
  have ho3 := h.mat.row d.rs.length p tvs[p] l (at2_of h1 hpv) (at2_of (by simp) hl)
  have e3 := oe_slice ho3
  have e5 : tvs[p] = ⟨tvs[p].a, l.length, tvs[p].c⟩ := by
    have h1 : tvs[p] = ⟨tvs[p].a, tvs[p].n, tvs[p].c⟩ := rfl
    have h2 : tvs[p].n = l.length := by
      unfold Sl.v at e3
      simp only [Value.slice.injEq] at e3
      exact e3.2.1
    rw [← h2]
  refine ⟨g2, tvs[p].a, tvs[p].c, q1, q4, ?_, ?_, ?_, q5⟩
  · rw [q6, e5]; rfl
  · rw [← e3]; exact ho3
  · rw [at2_of h1 hpv]; exact congrArg some e5
theorem DrM.mvc {w : World} {B : Nat} {S : List Nat} {P : Nat} {d : Dr} {so st sm : Sl} {rvs : List Sl} {vss : List (List Sl)} (h : DrM w B S P d so st sm rvs vss) {p : Nat} (hp : p < d.mv.length) : ∃ mb, sm.a = some ⟨mb, 0, none⟩ ∧ mb < w.heap.size ∧ w.cell? ⟨mb, p, none⟩ = some (.bool (d.mvd p)) ∧ blk sm.v = some mb ∧ 0 < sm.c := by
  have hx := List.getElem?_eq_getElem hp
  obtain ⟨g, q1, q2, q3, q4, q5, q6, _⟩ := h.mov.cell1 bc1 hx
  refine ⟨g, q1, q4, ?_, q5, q2⟩
  rw [q6]
  unfold Dr.mvd
  rw [getD_lt hx]
set_option maxRecDepth 100000 in
set_option maxHeartbeats 2000000 in
theorem round19 (P : Nat) (B c : Nat) (S : List Nat) (d : Dr) (w : World) (h : DrAt w B S P d) (iv : d.Inv c) : Calls Try.prog 19 #[.pointer (some ⟨P, 0, none⟩)] w fun e w' => e = .returned (.int .i64 d.rd) ∧ w' = w := by
  have HN := Lib.hid (none31 P B c S d w h iv)
  obtain ⟨so, st, sm, rvs, vss, hd⟩ := h
  obtain ⟨c0, c1, c2, c3, c4⟩ := hd.cells
  have hP := hd.lt
  clear hd iv
  go_enter Try.func19, Try.ntmps19
  go_wp2_with fail
  with_reducible refine HN.out.mono ?_
  rintro e w1 ⟨rfl, rfl⟩
  go_wp2_with fail
  go_returns
  exact ⟨rfl, rfl⟩
set_option maxRecDepth 100000 in
set_option maxHeartbeats 2000000 in
theorem turn20 (P : Nat) (B c : Nat) (S : List Nat) (d : Dr) (w : World) (h : DrAt w B S P d) (iv : d.Inv c) : Calls Try.prog 20 #[.pointer (some ⟨P, 0, none⟩)] w fun e w' => e = .returned (.int .i64 d.tn) ∧ w' = w := by
  have HN := Lib.hid (none31 P B c S d w h iv)
  obtain ⟨so, st, sm, rvs, vss, hd⟩ := h
  obtain ⟨c0, c1, c2, c3, c4⟩ := hd.cells
  have hP := hd.lt
  clear hd iv
  go_enter Try.func20, Try.ntmps20
  go_wp2_with fail
  with_reducible refine HN.out.mono ?_
  rintro e w1 ⟨rfl, rfl⟩
  go_wp2_with fail
  go_returns
  exact ⟨rfl, rfl⟩
set_option maxRecDepth 100000 in
set_option maxHeartbeats 2000000 in
theorem done18 (P : Nat) (B c : Nat) (S : List Nat) (d : Dr) (w : World) (h : DrAt w B S P d) (iv : d.Inv c) : Calls Try.prog 18 #[.pointer (some ⟨P, 0, none⟩)] w fun e w' => e = .returned (.bool d.over) ∧ Below w.heap.size w w' := by
  have HN := Lib.hid (none31 P B c S d w h iv)
  have HO := Lib.hid (over32c P B c S d d.over w h iv rfl)
  obtain ⟨b, hb⟩ : ∃ b, d.over = b := ⟨_, rfl⟩
  rw [hb] at HO ⊢
  clear h iv hb
  go_enter Try.func18, Try.ntmps18
  go_wp2_with fail
  with_reducible refine HN.out.mono ?_
  rintro e w1 ⟨rfl, rfl⟩
  go_wp2_with fail
  with_reducible refine HO.out.mono ?_
  rintro e w2 ⟨rfl, hb⟩
  go_wp2_with fail
  go_returns
  exact ⟨rfl, hb⟩
theorem done18c (P : Nat) (B c : Nat) (S : List Nat) (d : Dr) (b : Bool) (w : World) (h : DrAt w B S P d) (iv : d.Inv c) (hb : d.over = b) : Calls Try.prog 18 #[.pointer (some ⟨P, 0, none⟩)] w fun e w' => e = .returned (.bool b) ∧ Below w.heap.size w w' := by
  subst hb
  exact done18 P B c S d w h iv
/-- numbers of the caller's own, and an error -/
def PairAt (w : World) (l : List Int) (er : Int) (e : Ending) (w' : World) : Prop := ∃ v, e = .returned (.tuple #[v, .int .i64 er]) ∧ Ow ic 1 3 w' w.heap.size v l ∧ Below w.heap.size w w'
theorem PairAt.nil {w : World} {er : Int} {w' : World} (h : Below w.heap.size w w') : PairAt w [] er (.returned (.tuple #[.slice none 0 0, .int .i64 er])) w' := ⟨_, rfl, Ow.nil _ _ _, h⟩
set_option maxRecDepth 100000 in
set_option maxHeartbeats 2000000 in
theorem taken24 (P : Nat) (B c : Nat) (S : List Nat) (d : Dr) (p : Int) (w : World) (h : DrAt w B S P d) (iv : d.Inv c) : Calls Try.prog 24 #[.pointer (some ⟨P, 0, none⟩), .int .i64 p] w (PairAt w (d.tkn p) (d.askE p)) := by
  have HN := Lib.hid (none31 P B c S d w h iv)
  have hn8 := iv.n8
  obtain ⟨so, st, sm, rvs, vss, hd⟩ := h
  obtain ⟨c0, c1, c2, c3, c4⟩ := hd.cells
  have hP := hd.lt
  by_cases h1 : p < 0
  · have e1 : Hid (d.tkn p = []) := Lib.hid (by unfold Dr.tkn; rw [if_pos (.inl h1)])
    have e2 : Hid (d.askE p = 2) := Lib.hid (by unfold Dr.askE; rw [if_pos (.inl h1)])
    clear hd iv
    go_enter Try.func24, Try.ntmps24
    go_wp2_with fail
    with_reducible refine HN.out.mono ?_
    rintro e w1 ⟨rfl, rfl⟩
    go_wp2_with fail
    go_returns
    rw [e1.out, e2.out]
    exact PairAt.nil (Below.refl _ _)
  by_cases h2 : (d.n : Int) ≤ p
  · have e1 : Hid (d.tkn p = []) := Lib.hid (by unfold Dr.tkn; rw [if_pos (.inr h2)])
    have e2 : Hid (d.askE p = 2) := Lib.hid (by unfold Dr.askE; rw [if_pos (.inr h2)])
    clear hd iv
    go_enter Try.func24, Try.ntmps24
    go_wp2_with fail
    with_reducible refine HN.out.mono ?_
    rintro e w1 ⟨rfl, rfl⟩
    go_wp2_with fail
    go_returns
    rw [e1.out, e2.out]
    exact PairAt.nil (Below.refl _ _)
  obtain ⟨q, rfl⟩ : ∃ q : Nat, p = q := ⟨p.toNat, by omega⟩
  have hq : q < d.tk.length := by have : d.n = d.tk.length := rfl; omega
  obtain ⟨l, hl⟩ : ∃ l, d.tk[q]? = some l := ⟨_, List.getElem?_eq_getElem hq⟩
  have e1 : Hid (d.tkn q = l) := Lib.hid (by unfold Dr.tkn; rw [if_neg (by omega), Int.toNat_natCast, getD_lt hl])
  have e2 : Hid (d.askE q = 0) := Lib.hid (by unfold Dr.askE; rw [if_neg (by omega)])
  have hlen := iv.tkl q (by have : d.n = d.tk.length := rfl; omega)
  rw [getD_lt hl] at hlen
  have hll : l.length ≤ 100 := by
    have h4 := iv.r4
    have h5 := iv.c15
    have h6 := iv.rd
    have h8 : d.rd * c ≤ 4 * 15 := Nat.mul_le_mul (by omega) h5
    have h7 : d.tn ≤ 15 := by
      rcases Nat.lt_or_ge d.rd d.rs.length with h | h
      · have := iv.tn h; omega
      · have := (iv.ov (by omega)).1; omega
    split at hlen <;> omega
  obtain ⟨tb, pa, pc, hk⟩ := hd.tkc hl
  have ha := hk.ta
  rw [ha] at c1
  have htl := hk.tl
  have hcell := hk.tcell
  have HR := Lib.hid (hk.row.rw ic_len)
  have HLL := Lib.hid hll
  have i1 : (0 : Int) ≤ (q : Int) := by omega
  have i2 : (q : Int) < (d.n : Int) := by omega
  clear hd iv hk ha hl hlen hll
  go_enter Try.func24, Try.ntmps24
  go_wp2_with fail
  with_reducible refine HN.out.mono ?_
  rintro e w1 ⟨rfl, rfl⟩
  go_wp2_with fail
  with_reducible refine (clone33 _ _ HR.out (by have := HLL.out; omega)).mono ?_
  rintro e w2 ⟨v, rfl, hv, hb⟩
  obtain ⟨av, cv, rfl⟩ := hv.form
  have HV := Lib.hid hv
  clear hv
  go_wp2_with fail
  go_returns
  rw [e1.out, e2.out]
  exact ⟨_, rfl, HV.out, hb⟩
end Go.Proofs.Yteocplabibhecaa
