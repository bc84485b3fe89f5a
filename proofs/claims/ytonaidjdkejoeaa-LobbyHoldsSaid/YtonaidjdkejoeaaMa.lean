/- Match. -/
import Derived.Test.YtonaidjdkejoeaaPa
import Derived.LoopTactic
import Derived.Deep.OwnRows
import Derived.Deep.DeepCutAuto
namespace Go.Proofs.Ytonaidjdkejoeaa
open Go.RowKit Plain
set_option linter.unusedVariables false
set_option linter.unusedSimpArgs false

theorem rg11_8 {P : Program} {B n : Nat} {w0 : World} {L : List (Nat × Nat × Value)} {E F : World → Prop} {id : Nat} {Q : Exit → Act → World → Prop} {a : Act} {w : World} {o0 o1 o2 o3 o4 o5 o6 o7 o8 o9 o10 o11 o12 : Oper} (hm : P.follows .mixedOrders = true)
    (hB : (Region.noSelect [o0, o1, o2, o3, o4, o5, o6, o7, o8, o9, o10, o11, o12].toArray && Scr.ok .any [o0, o1, o2, o3, o4, o5, o6, o7, o8, o9, o10, o11, o12].toArray [3, 5, 11] [0, 1, 2, 4, 7, 8, 9, 10, 12] (.free 0 (.free 1 (.free 2 (.free 4 (.free 7 (.free 8 (.free 9 (.free 10 (.read 3 (.read 5 (.read 11 (.alt 6 (.free 12 .done) .stop)))))))))))) true true [o0, o1, o2, o3, o4, o5, o6, o7, o8, o9, o10, o11, o12].toArray.size (Array.replicate [o0, o1, o2, o3, o4, o5, o6, o7, o8, o9, o10, o11, o12].toArray.size false)) = true)
    (k : Kept B w0 n L w) (he : E w) (hE : ∀ W W', E W → Below W.heap.size W W' → E W') (hf : F w) (hF : ∀ W W', F W → Below W.heap.size W W' → F W')
    (h : ∀ wk, Kept B w0 n L wk → E wk → F wk → wpQuiet P [o0, o1, o2, o3, o4, o5, o6, o7, o8, o9, o10, o11, o12].toArray (fun _ => True) (fun a0 => wpQuiet P [o0, o1, o2, o3, o4, o5, o6, o7, o8, o9, o10, o11, o12].toArray (fun w' => ∃ s : KX B w0 n L E, w' = s.val) (fun a1 => ((∀ K2 : Act → World → Prop, (∀ a2 w2, wpQuiet P [o0, o1, o2, o3, o4, o5, o6, o7, o8, o9, o10, o11, o12].toArray (fun _ => True) (fun a3 => Q .normal a3 w2) [o12] a2 → K2 a2 w2) → wpList P [o0, o1, o2, o3, o4, o5, o6, o7, o8, o9, o10, o11, o12].toArray (fun e a2 w2 => e = .normal ∧ (∃ s : KX B w0 n L E, w2 = s.val) ∧ K2 a2 w2) [o6] a1 wk) ∧ True)) [o3, o5, o11] a0) [o0, o1, o2, o4, o7, o8, o9, o10] a) : (Code.region id [o0, o1, o2, o3, o4, o5, o6, o7, o8, o9, o10, o11, o12].toArray true).wp P Q a w := by
  have e1 : E w.drew := hE _ _ he ((Below.refl _ _).drew)
  have g := h _ k.drew e1 (hF _ _ hf ((Below.refl _ _).drew))
  exact wp_region_scr (U := (fun w' => ∃ s : KX B w0 n L E, w' = s.val)) (ops := [o0, o1, o2, o3, o4, o5, o6, o7, o8, o9, o10, o11, o12].toArray) (.free 0 (.free 1 (.free 2 (.free 4 (.free 7 (.free 8 (.free 9 (.free 10 (.read 3 (.read 5 (.read 11 (.alt 6 (.free 12 .done) .stop)))))))))))) [3, 5, 11] [0, 1, 2, 4, 7, 8, 9, 10, 12] hm hB ⟨⟨_, k.drew, e1⟩, rfl⟩ (Scr.of_free rfl g (fun _ g0 => Scr.of_free rfl g0 (fun _ g1 => Scr.of_free rfl g1 (fun _ g2 => Scr.of_free rfl g2 (fun _ g3 => Scr.of_free rfl g3 (fun _ g4 => Scr.of_free rfl g4 (fun _ g5 => Scr.of_free rfl g5 (fun _ g6 => Scr.of_free rfl g6 (fun _ g7 => Scr.of_read rfl g7 (fun _ g8 => Scr.of_read rfl g8 (fun _ g9 => Scr.of_read rfl g9 (fun _ g10 => (Scr.of_alt rfl (g10.1 _ (fun _ _ g => g)) (fun _ _ g11 => Scr.of_free rfl g11 (fun _ g12 => g12)) trivial)))))))))))))
theorem rg11_21 {P : Program} {B n : Nat} {w0 : World} {L : List (Nat × Nat × Value)} {E F : World → Prop} {id : Nat} {Q : Exit → Act → World → Prop} {a : Act} {w : World} {o0 o1 o2 o3 o4 o5 o6 o7 o8 o9 o10 o11 : Oper} (hm : P.follows .mixedOrders = true)
    (hB : (Region.noSelect [o0, o1, o2, o3, o4, o5, o6, o7, o8, o9, o10, o11].toArray && Scr.ok .any [o0, o1, o2, o3, o4, o5, o6, o7, o8, o9, o10, o11].toArray [2, 7] [0, 1, 3, 4, 5, 6, 8, 11] (.free 0 (.free 1 (.free 3 (.free 4 (.free 5 (.free 6 (.read 2 (.read 7 (.free 8 (.altc 9 (.altc 10 (.free 11 .done) .stop) .stop)))))))))) true true [o0, o1, o2, o3, o4, o5, o6, o7, o8, o9, o10, o11].toArray.size (Array.replicate [o0, o1, o2, o3, o4, o5, o6, o7, o8, o9, o10, o11].toArray.size false)) = true)
    (k : Kept B w0 n L w) (he : E w) (hE : ∀ W W', E W → Below W.heap.size W W' → E W') (hf : F w) (hF : ∀ W W', F W → Below W.heap.size W W' → F W')
    (h : ∀ wk, Kept B w0 n L wk → E wk → F wk → wpQuiet P [o0, o1, o2, o3, o4, o5, o6, o7, o8, o9, o10, o11].toArray (fun _ => True) (fun a0 => wpQuiet P [o0, o1, o2, o3, o4, o5, o6, o7, o8, o9, o10, o11].toArray (fun w' => ∃ s : KX B w0 n L E, w' = s.val) (fun a1 => wpQuiet P [o0, o1, o2, o3, o4, o5, o6, o7, o8, o9, o10, o11].toArray (fun _ => True) (fun a2 => ((∀ K3 : Act → World → Prop, (∀ a3 w3, ((∀ K4 : Act → World → Prop, (∀ a4 w4, wpQuiet P [o0, o1, o2, o3, o4, o5, o6, o7, o8, o9, o10, o11].toArray (fun _ => True) (fun a5 => Q .normal a5 w4) [o11] a4 → K4 a4 w4) → wpList P [o0, o1, o2, o3, o4, o5, o6, o7, o8, o9, o10, o11].toArray (fun e a4 w4 => e = .normal ∧ K4 a4 w4) [o10] a3 w3) ∧ True) → K3 a3 w3) → wpList P [o0, o1, o2, o3, o4, o5, o6, o7, o8, o9, o10, o11].toArray (fun e a3 w3 => e = .normal ∧ K3 a3 w3) [o9] a2 wk) ∧ True)) [o8] a1) [o2, o7] a0) [o0, o1, o3, o4, o5, o6] a) : (Code.region id [o0, o1, o2, o3, o4, o5, o6, o7, o8, o9, o10, o11].toArray true).wp P Q a w := by
  have e1 : E w.drew := hE _ _ he ((Below.refl _ _).drew)
  have g := h _ k.drew e1 (hF _ _ hf ((Below.refl _ _).drew))
  exact wp_region_scr (U := (fun w' => ∃ s : KX B w0 n L E, w' = s.val)) (ops := [o0, o1, o2, o3, o4, o5, o6, o7, o8, o9, o10, o11].toArray) (.free 0 (.free 1 (.free 3 (.free 4 (.free 5 (.free 6 (.read 2 (.read 7 (.free 8 (.altc 9 (.altc 10 (.free 11 .done) .stop) .stop)))))))))) [2, 7] [0, 1, 3, 4, 5, 6, 8, 11] hm hB ⟨⟨_, k.drew, e1⟩, rfl⟩ (Scr.of_free rfl g (fun _ g0 => Scr.of_free rfl g0 (fun _ g1 => Scr.of_free rfl g1 (fun _ g2 => Scr.of_free rfl g2 (fun _ g3 => Scr.of_free rfl g3 (fun _ g4 => Scr.of_free rfl g4 (fun _ g5 => Scr.of_read rfl g5 (fun _ g6 => Scr.of_read rfl g6 (fun _ g7 => Scr.of_free rfl g7 (fun _ g8 => (Scr.of_altc rfl (g8.1 _ (fun _ _ g => g)) (fun _ _ g9 => (Scr.of_altc rfl (g9.1 _ (fun _ _ g => g)) (fun _ _ g10 => Scr.of_free rfl g10 (fun _ g11 => g11)) trivial)) trivial)))))))))))
/-- the cells of a pair -/
def dc (d : Int × Int) : List Value := [.int .i64 d.1, .int .i64 d.2]
theorem dc_ok : ∀ d : Int × Int, (dc d).length = 2 ∧ ∀ u ∈ dc d, u.oneCell' = true := fun d => ⟨rfl, fun u hu => by simp [dc] at hu; rcases hu with rfl | rfl <;> rfl⟩
theorem info50 : (Try.prog.info? 50).map (fun i => (i.zero, i.size, i.bytes)) = some (some (.agg #[.int .i64 0, .int .i64 0]), 2, 16) := by kernel_rfl
theorem LobAt.grown {w w' : World} {P : Nat} {x : Lb} {v : Value} {row : Option Nat} (h : LobAt w P x v) (hg : w.grownBy w' row) (hP : row ≠ some P) (hv : ∀ b, v.ownBlock = some b → row ≠ some b) : LobAt w' P x v :=
  ⟨(hg.block P h.lt (fun e => hP e.symm)).trans h.blk, h.row.grown hg hv⟩
theorem LobAt.notP {w : World} {P : Nat} {x : Lb} {v : Value} (h : LobAt w P x v) {α : Type} {f : α → List Value} {sz e base : Nat} {u : Value} {l : List α} (ho : Ow f sz e w base u l) (he : e ≠ 61) : u.ownBlock ≠ some P := by
  intro hb
  obtain ⟨_, _, c, hc⟩ := ho.typ P hb
  rw [h.blk] at hc
  simp at hc
  exact he hc.2.symm
/-- what Match returns, and the lobby behind it -/
def MatchAt (P : Nat) (w : World) (x' : Lb) (ps : List (Int × Int)) (gs : List Int) (e : Ending) (w' : World) : Prop := ∃ pv gv v', e = .returned (.tuple #[pv, gv, .int .i64 0]) ∧ Ow dc 2 50 w' w.heap.size pv ps ∧ Ow ic 1 3 w' w.heap.size gv gs ∧ LobAt w' P x' v' ∧ (∀ b, v'.ownBlock = some b → w.heap.size ≤ b) ∧ Onl [P] w w'
theorem TCELL {w : World} {base g n cap : Nat} {l : List Bool} (h : Ow bc 1 4 w base (.slice (some ⟨g, 0, none⟩) n cap) l) {i : Nat} {b : Bool} (hb : l[i]? = some b) : w.cell? ⟨g, i, none⟩ = some (.bool b) := by
  have hl := (List.getElem?_eq_some_iff.1 hb).1
  obtain ⟨a, c, e⟩ := h.form
  simp only [Value.slice.injEq] at e
  obtain ⟨_, rfl, _⟩ := e
  have h1 := World.ownsRow.cellAt h i (by omega)
  have h2 := flat_at (f := bc) (sz := 1) (fun _ _ => rfl) hb (j := 0) (u := .bool b) rfl
  rw [Nat.mul_one, Nat.add_zero] at h2
  rw [h1, h2]
theorem Ow.frozenAt {α : Type} {f : α → List Value} {sz : Nat} {e : TypeId} {w : World} {base g n cap : Nat} {l : List α} (h : Ow f sz e w base (.slice (some ⟨g, 0, none⟩) n cap) l) (j : Nat) : w.frozen? ⟨g, j, none⟩ = false := by
  obtain ⟨a, c, e⟩ := h.form
  simp only [Value.slice.injEq] at e
  obtain ⟨_, rfl, _⟩ := e
  exact World.ownsRow.frozenAt h j
theorem MFIN {w wq : World} {P : Nat} {x y z : Lb} {t : Int} {sv pv gv lv : Value} {tk : List Bool} {ps : List (Int × Int)} {gs : List Int} {n B : Nat} (hy : x.at t = y) (hz : y.stay = z) (hto : y.to = x.to) (htk : (mtc z n).1 = tk) (hps : (mtc z n).2 = ps) (hgs : (y.l.filter (fun p => gvn y.to y.now p)).map Pl.id = gs) (hn : n = z.l.length) (hl : LobAt wq P z sv) (hp : Ow dc 2 50 wq w.heap.size pv ps) (hg : Ow ic 1 3 wq w.heap.size gv gs) (hlf : Ow plc 3 71 wq B lv (lft z.l tk n)) (ho : Onl [P] w wq) (hB : w.heap.size ≤ B) : MatchAt P w (mtX x t) (mtP x t) (mtG x t) (.returned (.tuple #[pv, gv, .int .i64 0])) (wq.setCell ⟨P, 4, none⟩ lv) := by
  subst hy hz hn
  have hs : Onl [P] wq (wq.setCell ⟨P, 4, none⟩ lv) := (Onl.refl _ _).setCell (q := ⟨P, 4, none⟩) (.inl (by simp)) _
  refine ⟨pv, gv, lv, rfl, ?_, ?_, ?_, fun b hb => Nat.le_trans hB (hlf.typ b hb).1, ho.setCell (q := ⟨P, 4, none⟩) (.inl (by simp)) _⟩
  · rw [show mtP x t = ps from hps]
    exact hp.onl hs (fun b hb => by simpa using fun e : b = P => hl.notP hp (by decide) (by rw [← e]; exact hb))
  · rw [show mtG x t = gs from hgs]
    exact hg.onl hs (fun b hb => by simpa using fun e : b = P => hl.notP hg (by decide) (by rw [← e]; exact hb))
  · have h := lob_put hl.blk (hlf.base (fun b _ => Nat.zero_le b))
    rw [← htk] at h
    exact h
theorem made_bool (n : Nat) : (madeCells #[Value.bool false] n).toList = (List.replicate n false).flatMap bc := by
  apply List.ext_getElem
  · rw [flat_length (f := bc) (sz := 1) (fun _ _ => rfl)]
    simp [madeCells]
  · intro i h1 h2
    have h3 : i < n := by simpa [madeCells] using h1
    have h4 := flat_at (f := bc) (sz := 1) (l := List.replicate n false) (fun _ _ => rfl) (i := i) (j := 0) (x := false) (u := .bool false) (by simp [h3]) rfl
    rw [Nat.mul_one, Nat.add_zero, List.getElem?_eq_getElem h2] at h4
    simp only [Option.some.injEq] at h4
    rw [h4]
    simp [madeCells, Nat.mod_one]
def M1Rel (w : World) (P : Nat) (y : Lb) (v gv sv t : Value) (wr : World) : Prop := ∃ k : Nat, k ≤ y.l.length ∧ t = .int .i64 k ∧ Ow ic 1 3 wr w.heap.size gv (((y.l.take k).filter (fun p => gvn y.to y.now p)).map Pl.id) ∧ Ow plc 3 71 wr w.heap.size sv ((y.l.take k).filter (fun p => !gvn y.to y.now p)) ∧ LobAt wr P y v ∧ Onl [P] w wr
def M2Rel (w : World) (P : Nat) (y : Lb) (sv gv tv : Value) (gs : List Int) (pv t : Value) (wr : World) : Prop := ∃ k : Nat, k ≤ y.l.length ∧ t = .int .i64 k ∧ Ow dc 2 50 wr w.heap.size pv (mtc y k).2 ∧ Ow bc 1 4 wr w.heap.size tv (mtc y k).1 ∧ Ow ic 1 3 wr w.heap.size gv gs ∧ LobAt wr P y sv ∧ Onl [P] w wr
def M3Rel (w w0 : World) (P : Nat) (y : Lb) (sv gv pv : Value) (gs : List Int) (ps : List (Int × Int)) (tk : List Bool) (lv t : Value) (wr : World) : Prop := ∃ k : Nat, k ≤ y.l.length ∧ t = .int .i64 k ∧ Ow dc 2 50 wr w.heap.size pv ps ∧ Ow ic 1 3 wr w.heap.size gv gs ∧ Ow plc 3 71 wr w0.heap.size lv (lft y.l tk k) ∧ Below w0.heap.size w0 wr
set_option maxRecDepth 100000 in
set_option maxHeartbeats 8000000 in
theorem match11 (P : Nat) (x : Lb) (v : Value) (t : Int) (w : World) (hl : LobAt w P x v) (ok : x.Ok) (ht : U t) : Calls Try.prog 11 #[.pointer (some ⟨P, 0, none⟩), .int .u64 t] w (MatchAt P w (mtX x t) (mtP x t) (mtG x t)) := by
  have h1 := ok.o0
  have HL0 := Lib.hid hl
  have hP := hl.lt
  obtain ⟨av, cv, hv0⟩ := hl.row.form
  obtain ⟨m, hm⟩ : ∃ m, max x.now t = m := ⟨_, rfl⟩
  obtain ⟨y, hy⟩ : ∃ y, x.at t = y := ⟨_, rfl⟩
  have hyn : y = { x with now := m } := by rw [← hy, ← hm]; rfl
  have OKY : Hid (y.Ok) := Lib.hid (by rw [← hy]; exact at_ok ok ht)
  have HYT := Lib.hid hy
  have hyl : y.l = x.l := by rw [hyn]
  have hyto : y.to = x.to := by rw [hyn]
  have HVB : Hid (∀ b, v.ownBlock = some b → b < w.heap.size) := Lib.hid (fun b hb => (hl.row.typ b hb).2.1)
  have f3 : w.frozen? ⟨P, 3, none⟩ = false := hl.free 3
  have c3 : w.cell? ⟨P, 3, none⟩ = some (.int .u64 x.now) := hl.cell 3
  have c4 : w.cell? ⟨P, 4, none⟩ = some (.slice av x.l.length cv) := by have := hl.cell 4; rw [hv0] at this; exact this
  have HLY : Hid (LobAt (w.setCell ⟨P, 3, none⟩ (.int .u64 m)) P y v) := Lib.hid (by rw [hyn]; exact lob_now hl m)
  have HOY : Hid (Onl [P] w (w.setCell ⟨P, 3, none⟩ (.int .u64 m))) := Lib.hid ((Onl.refl _ _).setCell (q := ⟨P, 3, none⟩) (.inl (by simp)) _)
  have HYL := Lib.hid hyl
  have HYTO := Lib.hid hyto
  have h200 := ok.len
  rw [← hyl] at c4 h200 hv0
  have HV := Lib.hid hv0
  clear hl hy hyn hyl hyto hv0
  by_cases g6 : t ≤ x.now
  · obtain rfl : x.now = m := by omega
    clear hm
    go_enter Try.func11, Try.ntmps11
    go_wp2_with fail
    with_reducible refine (none_ok P x v _ HL0.out h1).mono ?_
    rintro e w' ⟨rfl, rfl⟩
    go_wp2_with fail
    go_loopw [5, 7, 33] (fun gv sv t wr => M1Rel w P y v gv sv t wr) (fun _ _ t _ => y.l.length - (intOf t).toNat)
    case atStart => exact ⟨0, Nat.zero_le _, rfl, Ow.nil _ _ _, Ow.nil _ _ _, HLY.out, HOY.out⟩
    case round =>
      obtain ⟨k, hk, rfl, hg, hst, hly, ho⟩ := hrel
      have HG := Lib.hid hg
      have HST := Lib.hid hst
      have HL := Lib.hid hly
      have HO := Lib.hid ho
      have hz_wr := ho.size
      have hPr := hly.lt
      have C3 : wr.cell? ⟨P, 3, none⟩ = some (.int .u64 y.now) := hly.cell 3
      have C2 : wr.cell? ⟨P, 2, none⟩ = some (.int .u64 y.to) := hly.cell 2
      obtain ⟨ga, gc, hgv⟩ := hg.form
      obtain ⟨sa, sc, hsv⟩ := hst.form
      obtain ⟨gn, hgn⟩ : ∃ n, (((y.l.take k).filter (fun p => gvn y.to y.now p)).map Pl.id).length = n := ⟨_, rfl⟩
      obtain ⟨sn, hsn⟩ : ∃ n, ((y.l.take k).filter (fun p => !gvn y.to y.now p)).length = n := ⟨_, rfl⟩
      have hgn2 : gn ≤ 200 := by
        rw [← hgn, List.length_map]
        have h1 := List.length_filter_le (fun p => gvn y.to y.now p) (y.l.take k)
        have h2 := OKY.out.len
        simp only [List.length_take] at h1
        omega
      have hsn2 : sn ≤ 200 := by
        rw [← hsn]
        have h1 := List.length_filter_le (fun p => !gvn y.to y.now p) (y.l.take k)
        have h2 := OKY.out.len
        simp only [List.length_take] at h1
        omega
      rw [hgn] at hgv
      rw [hsn] at hsv
      subst hgv hsv
      have HGN := Lib.hid hgn
      have HSN := Lib.hid hsn
      clear hg hst hly ho hgn hsn
      by_cases hkl : k < y.l.length
      · obtain ⟨_, a1, c1, hv, hf⟩ := HL.out.rw.form
        obtain ⟨b1, o1, rfl, hb1, hc1⟩ := hf (by omega)
        obtain ⟨p, hp⟩ : ∃ p, y.l[k]? = some p := ⟨y.l[k], List.getElem?_eq_getElem hkl⟩
        have HC1 := Lib.hid hc1
        have HP := Lib.hid hp
        have HU : Hid (U p.si) := Lib.hid (by have q := OKY.out.p p (List.mem_of_getElem? hp); have := q.s0; have := q.s1; have := OKY.out.n; unfold U at *; omega)
        obtain ⟨n, hn⟩ : ∃ n, since y.now p.si = n := ⟨_, rfl⟩
        have HS := Lib.hid hn
        have i1 : (0 : Int) ≤ (k : Int) := by omega
        have i2 : (k : Int) < (y.l.length : Int) := by omega
        have V1 : (Value.slice av y.l.length cv) = .slice (some ⟨b1, o1, none⟩) y.l.length c1 := HV.out.symm.trans hv
        simp only [Value.slice.injEq] at V1
        obtain ⟨rfl, _, rfl⟩ := V1
        have m0 : wr.cell? ⟨b1, o1 + k * 3, none⟩ = Option.some (.int .i64 p.id) := hc1 k p hp 0 _ rfl
        have m1 : wr.cell? ⟨b1, o1 + k * 3 + 1, none⟩ = Option.some (.int .i64 p.ra) := hc1 k p hp 1 _ rfl
        have m2 : wr.cell? ⟨b1, o1 + k * 3 + 2, none⟩ = Option.some (.int .u64 p.si) := hc1 k p hp 2 _ rfl
        clear hf hc1 hp hn hv
        by_cases hgo : y.to ≤ n
        · have HC : Hid (gvn y.to y.now p = true) := Lib.hid (by unfold gvn; rw [HS.out]; exact decide_eq_true hgo)
          go_wp2_with fail
          refine rg11_8 (w0 := wr) (B := wr.heap.size) (n := wr.heap.size + 1) (L := [(wr.heap.size, 0, .int .i64 p.id), (wr.heap.size, 1, .int .i64 p.ra), (wr.heap.size, 2, .int .u64 p.si)]) (E := fun _ => True) (F := fun _ => True) (by kernel_rfl) (by kernel_rfl) ⟨by go_grown, by go_size, (by simp [go_sem] <;> omega)⟩ trivial (fun _ _ _ _ => trivial) trivial (fun _ _ _ _ => trivial) (fun w21 K_w21 E_w21 F_w21 => ?_)
          have _ne : Nonempty (KX (wr.heap.size) wr (wr.heap.size + 1) [(wr.heap.size, 0, .int .i64 p.id), (wr.heap.size, 1, .int .i64 p.ra), (wr.heap.size, 2, .int .u64 p.si)] (fun _ => True)) := ⟨⟨_, K_w21, E_w21⟩⟩
          repeat (go_big_quiet_step (fail))
          refine wpQuiet_nil ?_
          have rD0 : ∀ s : KX (wr.heap.size) wr (wr.heap.size + 1) [(wr.heap.size, 0, .int .i64 p.id), (wr.heap.size, 1, .int .i64 p.ra), (wr.heap.size, 2, .int .u64 p.si)] (fun _ => True), s.val.cell? ⟨wr.heap.size, 0, none⟩ = some (.int .i64 p.id) := fun s => s.kept.at (by simp)
          have rD1 : ∀ s : KX (wr.heap.size) wr (wr.heap.size + 1) [(wr.heap.size, 0, .int .i64 p.id), (wr.heap.size, 1, .int .i64 p.ra), (wr.heap.size, 2, .int .u64 p.si)] (fun _ => True), s.val.cell? ⟨wr.heap.size, 1, none⟩ = some (.int .i64 p.ra) := fun s => s.kept.at (by simp)
          have rD2 : ∀ s : KX (wr.heap.size) wr (wr.heap.size + 1) [(wr.heap.size, 0, .int .i64 p.id), (wr.heap.size, 1, .int .i64 p.ra), (wr.heap.size, 2, .int .u64 p.si)] (fun _ => True), s.val.cell? ⟨wr.heap.size, 2, none⟩ = some (.int .u64 p.si) := fun s => s.kept.at (by simp)
          have rP3 : ∀ s : KX (wr.heap.size) wr (wr.heap.size + 1) [(wr.heap.size, 0, .int .i64 p.id), (wr.heap.size, 1, .int .i64 p.ra), (wr.heap.size, 2, .int .u64 p.si)] (fun _ => True), s.val.cell? ⟨P, 3, none⟩ = some (.int .u64 y.now) := fun s => (s.kept.below.cell (p := ⟨P, 3, none⟩) hPr).trans C3
          have rP2 : ∀ s : KX (wr.heap.size) wr (wr.heap.size + 1) [(wr.heap.size, 0, .int .i64 p.id), (wr.heap.size, 1, .int .i64 p.ra), (wr.heap.size, 2, .int .u64 p.si)] (fun _ => True), s.val.cell? ⟨P, 2, none⟩ = some (.int .u64 y.to) := fun s => (s.kept.below.cell (p := ⟨P, 2, none⟩) hPr).trans C2
          repeat (go_big_quiet_step (fail))
          refine wpQuiet_nil ?_
          clear rD0 rD1 rD2 rP3 rP2
          have KH_w21 := Lib.hid K_w21
          have hw_w21 := K_w21.below
          have hz_w21 := K_w21.size
          have lD_w21 : wr.heap.size < w21.heap.size := by omega
          clear K_w21
          clear E_w21 F_w21
          refine ⟨fun K hK0 => ?_, trivial⟩
          have hK := Lib.hid hK0
          clear hK0
          go_wp2_with fail
          with_reducible refine (since26c y.now p.si n _ OKY.out.n HU.out HS.out).mono ?_
          rintro e w' ⟨rfl, rfl⟩
          go_wp2_with fail
          first | (refine ⟨rfl, ⟨⟨_, KH_w21.out, trivial⟩, rfl⟩, hK.out _ _ ?_⟩; clear hK K) | (refine ⟨⟨⟨_, KH_w21.out, trivial⟩, rfl⟩, hK.out _ _ ?_⟩; clear hK K)
          repeat (go_big_quiet_step (fail))
          refine wpQuiet_nil ?_
          clear _ne
          have cD0_w21 := KH_w21.out.at (b := wr.heap.size) (o := 0) (v := .int .i64 p.id) (by simp)
          have fD0_w21 := KH_w21.out.free (b := wr.heap.size) (o := 0) (v := .int .i64 p.id) (by simp)
          have cD1_w21 := KH_w21.out.at (b := wr.heap.size) (o := 1) (v := .int .i64 p.ra) (by simp)
          have fD1_w21 := KH_w21.out.free (b := wr.heap.size) (o := 1) (v := .int .i64 p.ra) (by simp)
          have cD2_w21 := KH_w21.out.at (b := wr.heap.size) (o := 2) (v := .int .u64 p.si) (by simp)
          have fD2_w21 := KH_w21.out.free (b := wr.heap.size) (o := 2) (v := .int .u64 p.si) (by simp)
          go_wp2_with (at_builtin; refine wpList_append_ow (f := ic) (sz := 1) rfl _ _ 33 rfl w.heap.size 3 (.int .i64 0) 8 Try.underlying33 info3 rfl (by decide) _ (((y.l.take k).filter (fun p => gvn y.to y.now p)).map Pl.id) rfl (HG.out.below (by go_grown)) ic_ok _ [p.id] rfl (Rw.one2 _ _ p.id _ rfl _ _ (by simp)) ?ca1 ?cb1 (by go_size) ?_)
          case ca1 => have q1 := HGN.out; simp only [maxLen, List.length_singleton]; omega
          case cb1 => have q1 := HGN.out; simp only [List.length_singleton]; omega
          intro v' wA hown hgrow hwh
          have HG2 : Hid (Ow ic 1 3 wA w.heap.size v' (((y.l.take (k + 1)).filter (fun p => gvn y.to y.now p)).map Pl.id)) := Lib.hid (by rw [filt_next HP.out, if_pos HC.out, List.map_append]; exact hown)
          have HST2 : Hid (Ow plc 3 71 wA w.heap.size (.slice sa sn sc) ((y.l.take (k + 1)).filter (fun p => !gvn y.to y.now p))) := Lib.hid (by rw [filt_next HP.out, if_neg (by simp [HC.out]), List.append_nil]; exact (HST.out.below (by go_grown)).grown hgrow (fun b hb e => HG.out.ne HST.out (by decide) b ((ob_len _ _ _ _ _).trans e) hb))
          have HL2 : Hid (LobAt wA P y v) := Lib.hid ((HL.out.below (by go_grown)).grown hgrow (fun e => HL.out.notP HG.out (by decide) ((ob_len _ _ _ _ _).trans e)) (fun b hb e => HG.out.ne HL.out.row (by decide) b ((ob_len _ _ _ _ _).trans e) hb))
          have HO2 : Hid (Onl [P] w wA) := Lib.hid ((HO.out.grow (by go_grown)).grown hgrow (fun q hq => .inr (HG.out.typ q ((ob_len _ _ _ _ _).trans hq)).1))
          obtain ⟨ga2, gc2, rfl⟩ := hown.form
          clear hown hgrow hwh
          go_wp2_with fail
          go_roundw
          case rel => exact ⟨k + 1, by omega, by go_num, HG2.out, HST2.out, HL2.out, HO2.out⟩
          case measure => simp [intOf]; omega
        · have HC : Hid (gvn y.to y.now p = false) := Lib.hid (by unfold gvn; rw [HS.out]; exact decide_eq_false hgo)
          go_wp2_with fail
          refine rg11_8 (w0 := wr) (B := wr.heap.size) (n := wr.heap.size + 1) (L := [(wr.heap.size, 0, .int .i64 p.id), (wr.heap.size, 1, .int .i64 p.ra), (wr.heap.size, 2, .int .u64 p.si)]) (E := fun _ => True) (F := fun _ => True) (by kernel_rfl) (by kernel_rfl) ⟨by go_grown, by go_size, (by simp [go_sem] <;> omega)⟩ trivial (fun _ _ _ _ => trivial) trivial (fun _ _ _ _ => trivial) (fun w21 K_w21 E_w21 F_w21 => ?_)
          have _ne : Nonempty (KX (wr.heap.size) wr (wr.heap.size + 1) [(wr.heap.size, 0, .int .i64 p.id), (wr.heap.size, 1, .int .i64 p.ra), (wr.heap.size, 2, .int .u64 p.si)] (fun _ => True)) := ⟨⟨_, K_w21, E_w21⟩⟩
          repeat (go_big_quiet_step (fail))
          refine wpQuiet_nil ?_
          have rD0 : ∀ s : KX (wr.heap.size) wr (wr.heap.size + 1) [(wr.heap.size, 0, .int .i64 p.id), (wr.heap.size, 1, .int .i64 p.ra), (wr.heap.size, 2, .int .u64 p.si)] (fun _ => True), s.val.cell? ⟨wr.heap.size, 0, none⟩ = some (.int .i64 p.id) := fun s => s.kept.at (by simp)
          have rD1 : ∀ s : KX (wr.heap.size) wr (wr.heap.size + 1) [(wr.heap.size, 0, .int .i64 p.id), (wr.heap.size, 1, .int .i64 p.ra), (wr.heap.size, 2, .int .u64 p.si)] (fun _ => True), s.val.cell? ⟨wr.heap.size, 1, none⟩ = some (.int .i64 p.ra) := fun s => s.kept.at (by simp)
          have rD2 : ∀ s : KX (wr.heap.size) wr (wr.heap.size + 1) [(wr.heap.size, 0, .int .i64 p.id), (wr.heap.size, 1, .int .i64 p.ra), (wr.heap.size, 2, .int .u64 p.si)] (fun _ => True), s.val.cell? ⟨wr.heap.size, 2, none⟩ = some (.int .u64 p.si) := fun s => s.kept.at (by simp)
          have rP3 : ∀ s : KX (wr.heap.size) wr (wr.heap.size + 1) [(wr.heap.size, 0, .int .i64 p.id), (wr.heap.size, 1, .int .i64 p.ra), (wr.heap.size, 2, .int .u64 p.si)] (fun _ => True), s.val.cell? ⟨P, 3, none⟩ = some (.int .u64 y.now) := fun s => (s.kept.below.cell (p := ⟨P, 3, none⟩) hPr).trans C3
          have rP2 : ∀ s : KX (wr.heap.size) wr (wr.heap.size + 1) [(wr.heap.size, 0, .int .i64 p.id), (wr.heap.size, 1, .int .i64 p.ra), (wr.heap.size, 2, .int .u64 p.si)] (fun _ => True), s.val.cell? ⟨P, 2, none⟩ = some (.int .u64 y.to) := fun s => (s.kept.below.cell (p := ⟨P, 2, none⟩) hPr).trans C2
          repeat (go_big_quiet_step (fail))
          refine wpQuiet_nil ?_
          clear rD0 rD1 rD2 rP3 rP2
          have KH_w21 := Lib.hid K_w21
          have hw_w21 := K_w21.below
          have hz_w21 := K_w21.size
          have lD_w21 : wr.heap.size < w21.heap.size := by omega
          clear K_w21
          clear E_w21 F_w21
          refine ⟨fun K hK0 => ?_, trivial⟩
          have hK := Lib.hid hK0
          clear hK0
          go_wp2_with fail
          with_reducible refine (since26c y.now p.si n _ OKY.out.n HU.out HS.out).mono ?_
          rintro e w' ⟨rfl, rfl⟩
          go_wp2_with fail
          first | (refine ⟨rfl, ⟨⟨_, KH_w21.out, trivial⟩, rfl⟩, hK.out _ _ ?_⟩; clear hK K) | (refine ⟨⟨⟨_, KH_w21.out, trivial⟩, rfl⟩, hK.out _ _ ?_⟩; clear hK K)
          repeat (go_big_quiet_step (fail))
          refine wpQuiet_nil ?_
          clear _ne
          have cD0_w21 := KH_w21.out.at (b := wr.heap.size) (o := 0) (v := .int .i64 p.id) (by simp)
          have fD0_w21 := KH_w21.out.free (b := wr.heap.size) (o := 0) (v := .int .i64 p.id) (by simp)
          have cD1_w21 := KH_w21.out.at (b := wr.heap.size) (o := 1) (v := .int .i64 p.ra) (by simp)
          have fD1_w21 := KH_w21.out.free (b := wr.heap.size) (o := 1) (v := .int .i64 p.ra) (by simp)
          have cD2_w21 := KH_w21.out.at (b := wr.heap.size) (o := 2) (v := .int .u64 p.si) (by simp)
          have fD2_w21 := KH_w21.out.free (b := wr.heap.size) (o := 2) (v := .int .u64 p.si) (by simp)
          go_wp2_with (at_builtin; refine wpList_append_ow (f := plc) (sz := 3) rfl _ _ 59 rfl w.heap.size 71 (.agg #[.int .i64 0, .int .i64 0, .int .u64 0]) 24 Try.underlying59 info71 rfl (by decide) _ ((y.l.take k).filter (fun p => !gvn y.to y.now p)) rfl (HST.out.below (by go_grown)) plc_ok _ [p] rfl (Rw.one2 _ _ p _ rfl _ _ (by simp)) ?ca2 ?cb2 (by go_size) ?_)
          case ca2 => have q1 := HSN.out; simp only [maxLen, List.length_singleton]; omega
          case cb2 => have q1 := HSN.out; simp only [List.length_singleton]; omega
          intro v' wA hown hgrow hwh
          have HG2 : Hid (Ow ic 1 3 wA w.heap.size (.slice ga gn gc) (((y.l.take (k + 1)).filter (fun p => gvn y.to y.now p)).map Pl.id)) := Lib.hid (by rw [filt_next HP.out, if_neg (by simp [HC.out]), List.append_nil]; exact (HG.out.below (by go_grown)).grown hgrow (fun b hb e => HG.out.ne HST.out (by decide) b hb ((ob_len _ _ _ _ _).trans e)))
          have HST2 : Hid (Ow plc 3 71 wA w.heap.size v' ((y.l.take (k + 1)).filter (fun p => !gvn y.to y.now p))) := Lib.hid (by rw [filt_next HP.out, if_pos (by simp [HC.out])]; exact hown)
          have HL2 : Hid (LobAt wA P y v) := Lib.hid ((HL.out.below (by go_grown)).grown hgrow (fun e => HL.out.notP HST.out (by decide) ((ob_len _ _ _ _ _).trans e)) (fun b hb e => by have h1 := (HST.out.typ b ((ob_len _ _ _ _ _).trans e)).1; have h2 := HVB.out b hb; omega))
          have HO2 : Hid (Onl [P] w wA) := Lib.hid ((HO.out.grow (by go_grown)).grown hgrow (fun q hq => .inr (HST.out.typ q ((ob_len _ _ _ _ _).trans hq)).1))
          obtain ⟨ga2, gc2, rfl⟩ := hown.form
          clear hown hgrow hwh
          go_wp2_with fail
          go_roundw
          case rel => exact ⟨k + 1, by omega, by go_num, HG2.out, HST2.out, HL2.out, HO2.out⟩
          case measure => simp [intOf]; omega
      · obtain rfl : k = y.l.length := by omega
        obtain ⟨wa, rfl⟩ : ∃ wa, wa = wr := ⟨_, rfl⟩
        obtain ⟨z, hz⟩ : ∃ z, y.stay = z := ⟨_, rfl⟩
        have hzl : z.l = y.l.filter (fun p => !gvn y.to y.now p) := by rw [← hz]; rfl
        have OKZ : Hid (z.Ok) := Lib.hid (by rw [← hz]; exact stay_ok OKY.out)
        have e1 : y.l.take y.l.length = y.l := List.take_length
        rw [e1] at HG HST HGN HSN
        clear e1
        have HZL : Hid (sn = z.l.length) := Lib.hid (by rw [hzl]; exact HSN.out.symm)
        obtain ⟨gs, hgs⟩ : ∃ gs, (y.l.filter (fun p => gvn y.to y.now p)).map Pl.id = gs := ⟨_, rfl⟩
        rw [hgs] at HG HGN
        have HGS := Lib.hid hgs
        have HZ := Lib.hid hz
        have HST1 : Hid (Ow plc 3 71 wa w.heap.size (.slice sa sn sc) z.l) := Lib.hid (by rw [hzl]; exact HST.out)
        have f4 : wa.frozen? ⟨P, 4, none⟩ = false := HL.out.free 4
        have C4 : wa.cell? ⟨P, 4, none⟩ = some (.slice av y.l.length cv) := by have := HL.out.cell 4; rw [HV.out] at this; exact this
        have HLZ : Hid (LobAt (wa.setCell ⟨P, 4, none⟩ (.slice sa sn sc)) P z (.slice sa sn sc)) := Lib.hid (by
          have h := lob_put (v' := .slice sa sn sc) HL.out.blk (HST1.out.base (fun _ _ => Nat.zero_le _))
          have e : { y with l := z.l } = z := by rw [hzl, ← HZ.out]; rfl
          rw [e] at h
          exact h)
        have HOZ : Hid (Onl [P] w (wa.setCell ⟨P, 4, none⟩ (.slice sa sn sc))) := Lib.hid (HO.out.setCell (q := ⟨P, 4, none⟩) (.inl (by simp)) _)
        have HGZ : Hid (Ow ic 1 3 (wa.setCell ⟨P, 4, none⟩ (.slice sa sn sc)) w.heap.size (.slice ga gn gc) gs) := Lib.hid (HG.out.onl ((Onl.refl [P] _).setCell (q := ⟨P, 4, none⟩) (.inl (by simp)) _) (fun b hb => by simpa using fun e : b = P => HL.out.notP HG.out (by decide) (by rw [← e]; exact hb)))
        have hmk := fun w => run_make_row' (P := Try.prog) 73 4 (.bool false) 1 Try.underlying73 (by kernel_rfl) rfl .i64 .i64 sn (by omega) (by omega) w
        clear hz hzl hgs C3 C2 HG HST HSN hPr
        go_wp2_with fail
        go_loopw [4, 69] (fun pv t wr2 => M2Rel w P z (.slice sa sn sc) (.slice ga gn gc) (.slice (some ⟨wa.heap.size, 0, none⟩) sn sn) gs pv t wr2) (fun _ t _ => sn - (intOf t).toNat)
        case atStart => exact ⟨0, Nat.zero_le _, rfl, Ow.nil _ _ _, by
          have h := Ow.lit (f := bc) (sz := 1) (wa.setCell ⟨P, 4, none⟩ (.slice sa sn sc)) 4 (List.replicate z.l.length false) (madeCells #[Value.bool false] z.l.length) (made_bool _) (fun _ _ => rfl) w.heap.size (by simpa using hz_wr) (by have := OKZ.out.len; simp [maxLen]; omega)
          simp only [← HZL.out, List.length_replicate] at h
          simp only [mtc, ← HZL.out]
          rw [show (wa.setCell ⟨P, 4, none⟩ (.slice sa sn sc)).heap.size = wa.heap.size by simp [World.setCell]] at h
          exact h, HGZ.out.below ((Below.refl _ _).alloc (Nat.le_refl _) _), HLZ.out.below ((Below.refl _ _).alloc (Nat.le_refl _) _), HOZ.out.grow ((Below.refl _ _).alloc (Nat.le_refl _) _)⟩
        case round =>
          have HTB2 : Hid (w.heap.size ≤ wa.heap.size) := Lib.hid hz_wr
          clear HOZ HGZ HLZ HL HO HST1 HV C4 f4 hmk hz_wr
          obtain ⟨k, hk2, rfl, hps, htk, hgo, hlz, ho⟩ := hrel
          have HPS := Lib.hid hps
          have HTK := Lib.hid htk
          have HGO := Lib.hid hgo
          have HL := Lib.hid hlz
          have HO := Lib.hid ho
          have hz_wr := ho.size
          have htb : wa.heap.size < wr.heap.size := (htk.typ wa.heap.size rfl).2.1
          obtain ⟨pa0, pc, hpv⟩ := hps.form
          obtain ⟨pn, hpn⟩ : ∃ n, (mtc z k).2.length = n := ⟨_, rfl⟩
          rw [hpn] at hpv
          subst hpv
          have hz200 : z.l.length ≤ 200 := OKZ.out.len
          have HPL : Hid ((mtc z k).2.length ≤ 200) := Lib.hid (Nat.le_trans (mt_plen z k) (by omega))
          rw [← HZL.out] at hk2 hz200
          clear hps htk hgo hlz ho hpn
          by_cases hkl : k < sn
          · obtain ⟨_, a1, c1, hv, hf⟩ := HL.out.rw.form
            obtain ⟨b1, o1, rfl, hb1, hc1⟩ := hf (by rw [← HZL.out]; omega)
            simp only [Value.slice.injEq] at hv
            obtain ⟨rfl, hsl, rfl⟩ := hv
            clear hsl
            obtain ⟨p, hp⟩ : ∃ p, z.l[k]? = some p := ⟨z.l[k]'(by rw [← HZL.out]; omega), List.getElem?_eq_getElem _⟩
            obtain ⟨b, htb0⟩ : ∃ b, (mtc z k).1[k]? = some b := ⟨(mtc z k).1[k]'(by rw [mt_len, ← HZL.out]; omega), List.getElem?_eq_getElem _⟩
            have et : wr.cell? ⟨wa.heap.size, k, none⟩ = some (.bool b) := by
              exact TCELL HTK.out htb0
            have ft : wr.frozen? ⟨wa.heap.size, k, none⟩ = false := HTK.out.frozenAt k
            have HC1 := Lib.hid hc1
            have HP := Lib.hid hp
            have HTB := Lib.hid htb0
            have i1 : (0 : Int) ≤ (k : Int) := by omega
            have i2 : (k : Int) < (sn : Int) := by omega
            have m0 : wr.cell? ⟨b1, o1 + k * 3, none⟩ = Option.some (.int .i64 p.id) := hc1 k p hp 0 _ rfl
            have m1 : wr.cell? ⟨b1, o1 + k * 3 + 1, none⟩ = Option.some (.int .i64 p.ra) := hc1 k p hp 1 _ rfl
            have m2 : wr.cell? ⟨b1, o1 + k * 3 + 2, none⟩ = Option.some (.int .u64 p.si) := hc1 k p hp 2 _ rfl
            clear hf hc1 hp htb0
            cases b with
            | true =>
              go_wp2_with fail
              go_roundw
              case rel => exact ⟨k + 1, by have := HZL.out; omega, by go_num, by rw [mt_taken HTB.out]; exact HPS.out.below ((Below.refl _ _).alloc (Nat.le_refl _) _), by rw [mt_taken HTB.out]; exact HTK.out.below ((Below.refl _ _).alloc (Nat.le_refl _) _), HGO.out.below ((Below.refl _ _).alloc (Nat.le_refl _) _), HL.out.below ((Below.refl _ _).alloc (Nat.le_refl _) _), HO.out.grow ((Below.refl _ _).alloc (Nat.le_refl _) _)⟩
              case measure => simp [intOf]; omega
            | false =>
              obtain ⟨n, hn⟩ : ∃ n, pa z k (mtc z k).1 z.l.length = n := ⟨_, rfl⟩
              have HN := Lib.hid hn
              have hbd := pa_bd z k (mtc z k).1 z.l.length
              rw [hn] at hbd
              obtain ⟨hbd1, hbd2⟩ := hbd
              by_cases hneg : n < 0
              · have HNEG : Hid (pa z k (mtc z k).1 z.l.length < 0) := Lib.hid (by rw [hn]; exact hneg)
                have t5 : decide ((0 : Int) ≤ n) = false := by simpa using hneg
                clear hn
                go_wp2_with fail
                with_reducible refine (partner27 P z _ k p _ (mtc z k).1 _ (HL.out.below ((Below.refl _ _).alloc (Nat.le_refl _) _)) OKZ.out HP.out ((HTK.out.below ((Below.refl _ _).alloc (Nat.le_refl _) _)).rw (fun _ _ => rfl)) (mt_len z k)).mono ?_
                rintro e w41 ⟨rfl, hb⟩
                rw [HN.out]
                have hbw : Below wr.heap.size wr w41 := below_via ((Below.refl _ _).alloc (Nat.le_refl _) _) hb
                have hz41 : wr.heap.size < w41.heap.size := by have := hb.size; simp at this; omega
                go_wp2_with fail
                go_roundw
                case rel => exact ⟨k + 1, by have := HZL.out; omega, by go_num, by rw [mt_none HTB.out HNEG.out]; exact HPS.out.below hbw, by rw [mt_none HTB.out HNEG.out]; exact HTK.out.below hbw, HGO.out.below hbw, HL.out.below hbw, HO.out.grow hbw⟩
                case measure => simp [intOf]; omega
              · obtain ⟨k2, rfl⟩ : ∃ k2 : Nat, n = k2 := ⟨n.toNat, by omega⟩
                have hcan := can_ne (pa_can (x := z) (i := k) (tk := (mtc z k).1) z.l.length (by rw [hn]; omega))
                rw [hn, Int.toNat_natCast] at hcan
                obtain ⟨hne, htk2, _⟩ := hcan
                have hk2l : k2 < z.l.length := by omega
                obtain ⟨p2, hp2⟩ : ∃ p, z.l[k2]? = some p := ⟨z.l[k2], List.getElem?_eq_getElem hk2l⟩
                have HP2 := Lib.hid hp2
                have et2 : wr.cell? ⟨wa.heap.size, k2, none⟩ = some (.bool false) := by
                  have h2 : (mtc z k).1[k2]? = some false := by
                    rw [List.getD_eq_getElem?_getD, List.getElem?_eq_getElem (by rw [mt_len]; exact hk2l)] at htk2
                    rw [List.getElem?_eq_getElem (by rw [mt_len]; exact hk2l)]
                    simpa using htk2
                  exact TCELL HTK.out h2
                have ft2 : wr.frozen? ⟨wa.heap.size, k2, none⟩ = false := HTK.out.frozenAt k2
                have i3 : (0 : Int) ≤ (k2 : Int) := by omega
                rw [← HZL.out] at hk2l
                have i4 : (k2 : Int) < (sn : Int) := by omega
                have n1 : (k2 = k) = False := by simpa using hne
                have n2 : (k = k2) = False := by simpa using fun e : k = k2 => hne e.symm
                clear hn hp2 htk2 hne
                go_wp2_with fail
                with_reducible refine (partner27 P z _ k p _ (mtc z k).1 _ (HL.out.below ((Below.refl _ _).alloc (Nat.le_refl _) _)) OKZ.out HP.out ((HTK.out.below ((Below.refl _ _).alloc (Nat.le_refl _) _)).rw (fun _ _ => rfl)) (mt_len z k)).mono ?_
                rintro e w41 ⟨rfl, hb⟩
                rw [HN.out]
                have hbw : Below wr.heap.size wr w41 := below_via ((Below.refl _ _).alloc (Nat.le_refl _) _) hb
                have hz41 : wr.heap.size < w41.heap.size := by have := hb.size; simp at this; omega
                have d0 : w41.cell? ⟨wr.heap.size, 0, none⟩ = Option.some (.int .i64 p.id) := (hb.cell (p := ⟨wr.heap.size, 0, none⟩) (by simp)).trans (by simp)
                have d1 : w41.cell? ⟨wr.heap.size, 1, none⟩ = Option.some (.int .i64 p.ra) := (hb.cell (p := ⟨wr.heap.size, 1, none⟩) (by simp)).trans (by simp)
                have d2 : w41.cell? ⟨wr.heap.size, 2, none⟩ = Option.some (.int .u64 p.si) := (hb.cell (p := ⟨wr.heap.size, 2, none⟩) (by simp)).trans (by simp)
                have gT1 : w41.cell? ⟨wa.heap.size, k, none⟩ = Option.some (.bool false) := (hbw.cell (p := ⟨wa.heap.size, k, none⟩) htb).trans et
                have gF1 : w41.frozen? ⟨wa.heap.size, k, none⟩ = false := (hbw.frozen (p := ⟨wa.heap.size, k, none⟩) htb).trans ft
                have gT2 : w41.cell? ⟨wa.heap.size, k2, none⟩ = Option.some (.bool false) := (hbw.cell (p := ⟨wa.heap.size, k2, none⟩) htb).trans et2
                have gF2 : w41.frozen? ⟨wa.heap.size, k2, none⟩ = false := (hbw.frozen (p := ⟨wa.heap.size, k2, none⟩) htb).trans ft2
                have hDt : wr.heap.size ≠ wa.heap.size := by omega
                obtain ⟨W2, hW2⟩ : ∃ W, W = (w41.setCell ⟨wa.heap.size, k, none⟩ (.bool true)).setCell ⟨wa.heap.size, k2, none⟩ (.bool true) := ⟨_, rfl⟩
                have hO2 : Onl [wa.heap.size] wr W2 := by rw [hW2]; exact ((Onl.of hbw).setCell (q := ⟨wa.heap.size, k, none⟩) (.inl (by simp)) _).setCell (q := ⟨wa.heap.size, k2, none⟩) (.inl (by simp)) _
                have HTK2 : Hid (Ow bc 1 4 W2 w.heap.size (.slice (some ⟨wa.heap.size, 0, none⟩) sn sn) (((mtc z k).1.set k true).set k2 true)) := Lib.hid (by
                  rw [hW2]
                  exact ((HTK.out.below hbw).set1 (fun _ => rfl) (by rw [mt_len, HZL.out]) k true (.bool true) rfl).set1 (fun _ => rfl) (by rw [List.length_set, mt_len, HZL.out]) k2 true (.bool true) rfl)
                have hPt : P ∉ [wa.heap.size] := by simpa using fun e : P = wa.heap.size => HL.out.notP HTK.out (by decide) (by rw [e]; rfl)
                have HL2 : Hid (LobAt W2 P z (.slice (some ⟨b1, o1, none⟩) sn sc)) := Lib.hid (HL.out.onl hO2 hPt (fun b hb => by simpa using fun e : b = wa.heap.size => HTK.out.ne HL.out.row (by decide) wa.heap.size rfl (by rw [← e]; exact hb)))
                have HPS2 : Hid (Ow dc 2 50 W2 w.heap.size (.slice pa0 pn pc) (mtc z k).2) := Lib.hid (HPS.out.onl hO2 (fun b hb => by simpa using fun e : b = wa.heap.size => HTK.out.ne HPS.out (by decide) wa.heap.size rfl (by rw [← e]; exact hb)))
                have HGO2 : Hid (Ow ic 1 3 W2 w.heap.size (.slice ga gn gc) gs) := Lib.hid (HGO.out.onl hO2 (fun b hb => by simpa using fun e : b = wa.heap.size => HTK.out.ne HGO.out (by decide) wa.heap.size rfl (by rw [← e]; exact hb)))
                have HO2 : Hid (Onl [P] w W2) := Lib.hid (by rw [hW2]; exact (((HO.out.grow hbw).setCell (q := ⟨wa.heap.size, k, none⟩) (.inr HTB2.out) _).setCell (q := ⟨wa.heap.size, k2, none⟩) (.inr HTB2.out) _))
                have hb1t : b1 ∉ [wa.heap.size] := by simpa using fun e : b1 = wa.heap.size => HTK.out.ne HL.out.row (by decide) wa.heap.size rfl (by rw [← e]; rfl)
                have hwz : wr.heap.size < W2.heap.size := by rw [hW2]; simpa using hz41
                have hb1w : b1 < W2.heap.size := Nat.lt_of_lt_of_le hb1 hO2.size
                have dD0 : W2.cell? ⟨wr.heap.size, 0, none⟩ = Option.some (.int .i64 p.id) := by rw [hW2]; simp [go_sem, d0, hDt]
                have dD1 : W2.cell? ⟨wr.heap.size, 1, none⟩ = Option.some (.int .i64 p.ra) := by rw [hW2]; simp [go_sem, d1, hDt]
                have dD2 : W2.cell? ⟨wr.heap.size, 2, none⟩ = Option.some (.int .u64 p.si) := by rw [hW2]; simp [go_sem, d2, hDt]
                have q0 : W2.cell? ⟨b1, o1 + k2 * 3, none⟩ = Option.some (.int .i64 p2.id) := (hO2.cell hb1 hb1t).trans (HC1.out k2 p2 HP2.out 0 _ rfl)
                have q1 : W2.cell? ⟨b1, o1 + k2 * 3 + 1, none⟩ = Option.some (.int .i64 p2.ra) := (hO2.cell hb1 hb1t).trans (HC1.out k2 p2 HP2.out 1 _ rfl)
                have q2 : W2.cell? ⟨b1, o1 + k2 * 3 + 2, none⟩ = Option.some (.int .u64 p2.si) := (hO2.cell hb1 hb1t).trans (HC1.out k2 p2 HP2.out 2 _ rfl)
                go_upto_region 21 with fail
                rw [← hW2]
                clear hW2 hO2 gT1 gF1 gT2 gF2 hb hbw hPt hb1t hDt et ft et2 ft2 hz41 d0 d1 d2
                refine rg11_21 (w0 := W2) (B := W2.heap.size) (n := W2.heap.size) (L := []) (E := fun _ => True) (F := fun _ => True) (by kernel_rfl) (by kernel_rfl) ⟨by go_grown, by go_size, (by simp [go_sem] <;> omega)⟩ trivial (fun _ _ _ _ => trivial) trivial (fun _ _ _ _ => trivial) (fun w41 K_w41 E_w41 F_w41 => ?_)
                have _ne : Nonempty (KX (W2.heap.size) W2 (W2.heap.size) [] (fun _ => True)) := ⟨⟨_, K_w41, E_w41⟩⟩
                repeat (go_big_quiet_step (fail))
                refine wpQuiet_nil ?_
                have rd0 : ∀ s : KX (W2.heap.size) W2 (W2.heap.size) [] (fun _ => True), s.val.cell? ⟨wr.heap.size, 0, none⟩ = some (.int .i64 p.id) := fun s => (s.kept.below.cell (p := ⟨wr.heap.size, 0, none⟩) hwz).trans dD0
                have rd1 : ∀ s : KX (W2.heap.size) W2 (W2.heap.size) [] (fun _ => True), s.val.cell? ⟨wr.heap.size, 1, none⟩ = some (.int .i64 p.ra) := fun s => (s.kept.below.cell (p := ⟨wr.heap.size, 1, none⟩) hwz).trans dD1
                have rd2 : ∀ s : KX (W2.heap.size) W2 (W2.heap.size) [] (fun _ => True), s.val.cell? ⟨wr.heap.size, 2, none⟩ = some (.int .u64 p.si) := fun s => (s.kept.below.cell (p := ⟨wr.heap.size, 2, none⟩) hwz).trans dD2
                have rq0 : ∀ s : KX (W2.heap.size) W2 (W2.heap.size) [] (fun _ => True), s.val.cell? ⟨b1, o1 + k2 * 3, none⟩ = some (.int .i64 p2.id) := fun s => (s.kept.below.cell (p := ⟨b1, o1 + k2 * 3, none⟩) hb1w).trans q0
                have rq1 : ∀ s : KX (W2.heap.size) W2 (W2.heap.size) [] (fun _ => True), s.val.cell? ⟨b1, o1 + k2 * 3 + 1, none⟩ = some (.int .i64 p2.ra) := fun s => (s.kept.below.cell (p := ⟨b1, o1 + k2 * 3 + 1, none⟩) hb1w).trans q1
                have rq2 : ∀ s : KX (W2.heap.size) W2 (W2.heap.size) [] (fun _ => True), s.val.cell? ⟨b1, o1 + k2 * 3 + 2, none⟩ = some (.int .u64 p2.si) := fun s => (s.kept.below.cell (p := ⟨b1, o1 + k2 * 3 + 2, none⟩) hb1w).trans q2
                repeat (go_big_quiet_step (fail))
                refine wpQuiet_nil ?_
                clear rd0 rd1 rd2 rq0 rq1 rq2
                repeat (go_big_quiet_step (fail))
                refine wpQuiet_nil ?_
                have KH_w41 := Lib.hid K_w41
                have hw_w41 := K_w41.below
                have hz_w41 := K_w41.size
                clear K_w41
                clear E_w41 F_w41
                refine ⟨fun K hK0 => ?_, trivial⟩
                have hK := Lib.hid hK0
                clear hK0
                go_wp2_with fail
                first | (refine ⟨rfl, hK.out _ _ ?_⟩; clear hK K) | (refine hK.out _ _ ?_; clear hK K)
                refine ⟨fun K hK0 => ?_, trivial⟩
                have hK := Lib.hid hK0
                clear hK0
                skip
                go_wp2_with (at_builtin; refine wpList_append_ow (f := dc) (sz := 2) rfl _ _ 32 rfl w.heap.size 50 (.agg #[.int .i64 0, .int .i64 0]) 16 Try.underlying32 info50 rfl (by decide) _ (mtc z k).2 rfl (HPS2.out.below (by go_grown)) dc_ok _ [(p.id, p2.id)] rfl (Rw.one2 _ _ (p.id, p2.id) _ rfl _ _ (by simp)) ?ca3 ?cb3 (by go_size) ?_)
                case ca3 => have q1 := HPL.out; simp only [maxLen, List.length_singleton]; omega
                case cb3 => have q1 := HPL.out; simp only [List.length_singleton]; omega
                intro v' wA hown hgrow hwh
                have HP3 : Hid (Ow dc 2 50 wA w.heap.size v' (mtc z (k + 1)).2) := Lib.hid (by rw [mt_pair HTB.out HN.out HP.out HP2.out]; exact hown)
                have HT3 : Hid (Ow bc 1 4 wA w.heap.size (.slice (some ⟨wa.heap.size, 0, none⟩) sn sn) (mtc z (k + 1)).1) := Lib.hid (by rw [mt_pair HTB.out HN.out HP.out HP2.out]; exact (HTK2.out.below (by go_grown)).grown hgrow (fun b hb e => HPS2.out.ne HTK2.out (by decide) b ((ob_len _ _ _ _ _).trans e) hb))
                have HG3 : Hid (Ow ic 1 3 wA w.heap.size (.slice ga gn gc) gs) := Lib.hid ((HGO2.out.below (by go_grown)).grown hgrow (fun b hb e => HPS2.out.ne HGO2.out (by decide) b ((ob_len _ _ _ _ _).trans e) hb))
                have HL3 : Hid (LobAt wA P z (.slice (some ⟨b1, o1, none⟩) sn sc)) := Lib.hid ((HL2.out.below (by go_grown)).grown hgrow (fun e => HL2.out.notP HPS2.out (by decide) ((ob_len _ _ _ _ _).trans e)) (fun b hb e => HPS2.out.ne HL2.out.row (by decide) b ((ob_len _ _ _ _ _).trans e) hb))
                have HO3 : Hid (Onl [P] w wA) := Lib.hid ((HO2.out.grow (by go_grown)).grown hgrow (fun q hq => .inr (HPS2.out.typ q ((ob_len _ _ _ _ _).trans hq)).1))
                obtain ⟨ga2, gc2, hv'⟩ := hown.form
                rw [List.length_append, List.length_singleton] at hv'
                subst hv'
                clear hown hgrow hwh
                go_wp2_with fail
                first | (refine ⟨rfl, hK.out _ _ ?_⟩; clear hK K) | (refine hK.out _ _ ?_; clear hK K)
                repeat (go_big_quiet_step (fail))
                refine wpQuiet_nil ?_
                clear _ne
                go_wp2_with fail
                go_roundw
                case rel => exact ⟨k + 1, by have := HZL.out; omega, by go_num, HP3.out, HT3.out, HG3.out, HL3.out, HO3.out⟩
                case measure => simp [intOf]; omega
          · obtain ⟨wq, rfl⟩ : ∃ wq, wq = wr := ⟨_, rfl⟩
            obtain rfl : k = sn := by omega
            obtain ⟨tk, htk⟩ : ∃ tk, (mtc z k).1 = tk := ⟨_, rfl⟩
            obtain ⟨ps, hps⟩ : ∃ ps, (mtc z k).2 = ps := ⟨_, rfl⟩
            have HTKL : Hid (tk.length = z.l.length) := Lib.hid (by rw [← htk]; exact mt_len _ _)
            rw [htk] at HTK
            rw [hps] at HPS HPL
            have HTKE := Lib.hid htk
            have HPSE := Lib.hid hps
            have hPq := HL.out.lt
            clear htk hps hkl
            go_wp2_with fail
            go_loopw [14, 104] (fun lv t wr => M3Rel w wq P z (.slice sa k sc) (.slice ga gn gc) (.slice pa0 pn pc) gs ps tk lv t wr) (fun _ t _ => k - (intOf t).toNat)
            case atStart => exact ⟨0, Nat.zero_le _, rfl, HPS.out, HGO.out, Ow.nil _ _ _, Below.refl _ _⟩
            case round =>
              obtain ⟨k3, hk3, rfl, hps, hgo, hlf, hbq⟩ := hrel
              have HPS3 := Lib.hid hps
              have HGO3 := Lib.hid hgo
              have HLF := Lib.hid hlf
              have hzq := hbq.size
              have HBQ := Lib.hid hbq
              obtain ⟨la, lc, hlv⟩ := hlf.form
              obtain ⟨ln, hln⟩ : ∃ n, (lft z.l tk k3).length = n := ⟨_, rfl⟩
              rw [hln] at hlv
              subst hlv
              have HLN : Hid ((lft z.l tk k3).length ≤ 200) := Lib.hid (Nat.le_trans (lft_len _ _ _) OKZ.out.len)
              clear hps hgo hlf hln
              by_cases hkl : k3 < k
              · obtain ⟨_, a1, c1, hv, hf⟩ := HL.out.rw.form
                obtain ⟨b1, o1, rfl, hb1, hc1⟩ := hf (by rw [← HZL.out]; omega)
                simp only [Value.slice.injEq] at hv
                obtain ⟨rfl, hsl, rfl⟩ := hv
                clear hsl
                obtain ⟨p, hp⟩ : ∃ p, z.l[k3]? = some p := ⟨z.l[k3]'(by rw [← HZL.out]; omega), List.getElem?_eq_getElem _⟩
                obtain ⟨b, htb0⟩ : ∃ b, tk[k3]? = some b := ⟨tk[k3]'(by rw [HTKL.out, ← HZL.out]; omega), List.getElem?_eq_getElem _⟩
                have et : wr.cell? ⟨wa.heap.size, k3, none⟩ = some (.bool b) := (hbq.cell (p := ⟨wa.heap.size, k3, none⟩) htb).trans (TCELL HTK.out htb0)
                have HP := Lib.hid hp
                have HTB := Lib.hid htb0
                have hc2 : ∀ i x_1, z.l[i]? = some x_1 → ∀ j u, (plc x_1)[j]? = some u → wr.cell? ⟨b1, o1 + (i * 3 + j), none⟩ = some u := fun i x_1 h j u hu => (hbq.cell (p := ⟨b1, o1 + (i * 3 + j), none⟩) hb1).trans (hc1 i x_1 h j u hu)
                have i1 : (0 : Int) ≤ (k3 : Int) := by omega
                have i2 : (k3 : Int) < (k : Int) := by omega
                have htw : wa.heap.size < wr.heap.size := by omega
                have m0 : wr.cell? ⟨b1, o1 + k3 * 3, none⟩ = Option.some (.int .i64 p.id) := hc2 k3 p hp 0 _ rfl
                have m1 : wr.cell? ⟨b1, o1 + k3 * 3 + 1, none⟩ = Option.some (.int .i64 p.ra) := hc2 k3 p hp 1 _ rfl
                have m2 : wr.cell? ⟨b1, o1 + k3 * 3 + 2, none⟩ = Option.some (.int .u64 p.si) := hc2 k3 p hp 2 _ rfl
                clear hf hc1 hc2 hp htb0 hbq
                cases b with
                | true =>
                  go_wp2_with fail
                  go_roundw
                  case rel => exact ⟨k3 + 1, by have := HZL.out; omega, by go_num, HPS3.out.below ((Below.refl _ _).alloc (Nat.le_refl _) _), HGO3.out.below ((Below.refl _ _).alloc (Nat.le_refl _) _), by rw [lft_next HP.out HTB.out, if_pos rfl, List.append_nil]; exact HLF.out.below ((Below.refl _ _).alloc (Nat.le_refl _) _), HBQ.out.alloc HBQ.out.size _⟩
                  case measure => simp [intOf]; omega
                | false =>
                  go_wp2_with (at_builtin; refine wpList_append_ow (f := plc) (sz := 3) rfl _ _ 59 rfl wq.heap.size 71 (.agg #[.int .i64 0, .int .i64 0, .int .u64 0]) 24 Try.underlying59 info71 rfl (by decide) _ (lft z.l tk k3) rfl (HLF.out.below (by go_grown)) plc_ok _ [p] rfl (Rw.one2 _ _ p _ rfl _ _ (by simp)) ?ca4 ?cb4 (by go_size) ?_)
                  case ca4 => have q1 := HLN.out; simp only [maxLen, List.length_singleton]; omega
                  case cb4 => have q1 := HLN.out; simp only [List.length_singleton]; omega
                  intro v' wA hown hgrow hwh
                  have HL4 : Hid (Ow plc 3 71 wA wq.heap.size v' (lft z.l tk (k3 + 1))) := Lib.hid (by rw [lft_next HP.out HTB.out, if_neg (by simp)]; exact hown)
                  have HP4 : Hid (Ow dc 2 50 wA w.heap.size (.slice pa0 pn pc) ps) := Lib.hid ((HPS3.out.below (by go_grown)).grown hgrow (fun b hb e => HLF.out.ne HPS3.out (by decide) b ((ob_len _ _ _ _ _).trans e) hb))
                  have HG4 : Hid (Ow ic 1 3 wA w.heap.size (.slice ga gn gc) gs) := Lib.hid ((HGO3.out.below (by go_grown)).grown hgrow (fun b hb e => HLF.out.ne HGO3.out (by decide) b ((ob_len _ _ _ _ _).trans e) hb))
                  have hb4 : Below wq.heap.size wq wA := below_row (W := _) (((HBQ.out.alloc HBQ.out.size _)).alloc (by simp; omega) _) hgrow (by go_size) (fun q hq => (HLF.out.typ q ((ob_len _ _ _ _ _).trans hq)).1)
                  obtain ⟨ga2, gc2, hv'⟩ := hown.form
                  rw [List.length_append, List.length_singleton] at hv'
                  subst hv'
                  clear hown hgrow hwh
                  go_wp2_with fail
                  go_roundw
                  case rel => exact ⟨k3 + 1, by have := HZL.out; omega, by go_num, HP4.out, HG4.out, HL4.out, hb4⟩
                  case measure => simp [intOf]; omega
              · obtain rfl : k3 = k := by have := HZL.out; omega
                have g4 : wr.cell? ⟨P, 4, none⟩ = some (.slice sa k3 sc) := (hbq.cell (p := ⟨P, 4, none⟩) hPq).trans (HL.out.cell 4)
                have h4 : wr.frozen? ⟨P, 4, none⟩ = false := (hbq.frozen (p := ⟨P, 4, none⟩) hPq).trans (HL.out.free 4)
                clear hkl
                go_wp2_with fail
                exact bodyPost_ret (v := .tuple #[.slice pa0 pn pc, .slice ga gn gc, .int .i64 0]) (by simp [results, Try.results11, go_sem]) rfl (MFIN HYT.out HZ.out HYTO.out (HZL.out.symm ▸ HTKE.out) (HZL.out.symm ▸ HPSE.out) HGS.out HZL.out (HL.out.below HBQ.out) HPS3.out HGO3.out HLF.out (HO.out.grow HBQ.out) HO.out.size)
  · have g7 : x.now < t := by omega
    obtain rfl : t = m := by omega
    clear hm
    go_enter Try.func11, Try.ntmps11
    go_wp2_with fail
    with_reducible refine (none_ok P x v _ HL0.out h1).mono ?_
    rintro e w' ⟨rfl, rfl⟩
    go_wp2_with fail
    go_loopw [5, 7, 33] (fun gv sv t wr => M1Rel w P y v gv sv t wr) (fun _ _ t _ => y.l.length - (intOf t).toNat)
    case atStart => exact ⟨0, Nat.zero_le _, rfl, Ow.nil _ _ _, Ow.nil _ _ _, HLY.out, HOY.out⟩
    case round =>
      obtain ⟨k, hk, rfl, hg, hst, hly, ho⟩ := hrel
      have HG := Lib.hid hg
      have HST := Lib.hid hst
      have HL := Lib.hid hly
      have HO := Lib.hid ho
      have hz_wr := ho.size
      have hPr := hly.lt
      have C3 : wr.cell? ⟨P, 3, none⟩ = some (.int .u64 y.now) := hly.cell 3
      have C2 : wr.cell? ⟨P, 2, none⟩ = some (.int .u64 y.to) := hly.cell 2
      obtain ⟨ga, gc, hgv⟩ := hg.form
      obtain ⟨sa, sc, hsv⟩ := hst.form
      obtain ⟨gn, hgn⟩ : ∃ n, (((y.l.take k).filter (fun p => gvn y.to y.now p)).map Pl.id).length = n := ⟨_, rfl⟩
      obtain ⟨sn, hsn⟩ : ∃ n, ((y.l.take k).filter (fun p => !gvn y.to y.now p)).length = n := ⟨_, rfl⟩
      have hgn2 : gn ≤ 200 := by
        rw [← hgn, List.length_map]
        have h1 := List.length_filter_le (fun p => gvn y.to y.now p) (y.l.take k)
        have h2 := OKY.out.len
        simp only [List.length_take] at h1
        omega
      have hsn2 : sn ≤ 200 := by
        rw [← hsn]
        have h1 := List.length_filter_le (fun p => !gvn y.to y.now p) (y.l.take k)
        have h2 := OKY.out.len
        simp only [List.length_take] at h1
        omega
      rw [hgn] at hgv
      rw [hsn] at hsv
      subst hgv hsv
      have HGN := Lib.hid hgn
      have HSN := Lib.hid hsn
      clear hg hst hly ho hgn hsn
      by_cases hkl : k < y.l.length
      · obtain ⟨_, a1, c1, hv, hf⟩ := HL.out.rw.form
        obtain ⟨b1, o1, rfl, hb1, hc1⟩ := hf (by omega)
        obtain ⟨p, hp⟩ : ∃ p, y.l[k]? = some p := ⟨y.l[k], List.getElem?_eq_getElem hkl⟩
        have HC1 := Lib.hid hc1
        have HP := Lib.hid hp
        have HU : Hid (U p.si) := Lib.hid (by have q := OKY.out.p p (List.mem_of_getElem? hp); have := q.s0; have := q.s1; have := OKY.out.n; unfold U at *; omega)
        obtain ⟨n, hn⟩ : ∃ n, since y.now p.si = n := ⟨_, rfl⟩
        have HS := Lib.hid hn
        have i1 : (0 : Int) ≤ (k : Int) := by omega
        have i2 : (k : Int) < (y.l.length : Int) := by omega
        have V1 : (Value.slice av y.l.length cv) = .slice (some ⟨b1, o1, none⟩) y.l.length c1 := HV.out.symm.trans hv
        simp only [Value.slice.injEq] at V1
        obtain ⟨rfl, _, rfl⟩ := V1
        have m0 : wr.cell? ⟨b1, o1 + k * 3, none⟩ = Option.some (.int .i64 p.id) := hc1 k p hp 0 _ rfl
        have m1 : wr.cell? ⟨b1, o1 + k * 3 + 1, none⟩ = Option.some (.int .i64 p.ra) := hc1 k p hp 1 _ rfl
        have m2 : wr.cell? ⟨b1, o1 + k * 3 + 2, none⟩ = Option.some (.int .u64 p.si) := hc1 k p hp 2 _ rfl
        clear hf hc1 hp hn hv
        by_cases hgo : y.to ≤ n
        · have HC : Hid (gvn y.to y.now p = true) := Lib.hid (by unfold gvn; rw [HS.out]; exact decide_eq_true hgo)
          go_wp2_with fail
          refine rg11_8 (w0 := wr) (B := wr.heap.size) (n := wr.heap.size + 1) (L := [(wr.heap.size, 0, .int .i64 p.id), (wr.heap.size, 1, .int .i64 p.ra), (wr.heap.size, 2, .int .u64 p.si)]) (E := fun _ => True) (F := fun _ => True) (by kernel_rfl) (by kernel_rfl) ⟨by go_grown, by go_size, (by simp [go_sem] <;> omega)⟩ trivial (fun _ _ _ _ => trivial) trivial (fun _ _ _ _ => trivial) (fun w21 K_w21 E_w21 F_w21 => ?_)
          have _ne : Nonempty (KX (wr.heap.size) wr (wr.heap.size + 1) [(wr.heap.size, 0, .int .i64 p.id), (wr.heap.size, 1, .int .i64 p.ra), (wr.heap.size, 2, .int .u64 p.si)] (fun _ => True)) := ⟨⟨_, K_w21, E_w21⟩⟩
          repeat (go_big_quiet_step (fail))
          refine wpQuiet_nil ?_
          have rD0 : ∀ s : KX (wr.heap.size) wr (wr.heap.size + 1) [(wr.heap.size, 0, .int .i64 p.id), (wr.heap.size, 1, .int .i64 p.ra), (wr.heap.size, 2, .int .u64 p.si)] (fun _ => True), s.val.cell? ⟨wr.heap.size, 0, none⟩ = some (.int .i64 p.id) := fun s => s.kept.at (by simp)
          have rD1 : ∀ s : KX (wr.heap.size) wr (wr.heap.size + 1) [(wr.heap.size, 0, .int .i64 p.id), (wr.heap.size, 1, .int .i64 p.ra), (wr.heap.size, 2, .int .u64 p.si)] (fun _ => True), s.val.cell? ⟨wr.heap.size, 1, none⟩ = some (.int .i64 p.ra) := fun s => s.kept.at (by simp)
          have rD2 : ∀ s : KX (wr.heap.size) wr (wr.heap.size + 1) [(wr.heap.size, 0, .int .i64 p.id), (wr.heap.size, 1, .int .i64 p.ra), (wr.heap.size, 2, .int .u64 p.si)] (fun _ => True), s.val.cell? ⟨wr.heap.size, 2, none⟩ = some (.int .u64 p.si) := fun s => s.kept.at (by simp)
          have rP3 : ∀ s : KX (wr.heap.size) wr (wr.heap.size + 1) [(wr.heap.size, 0, .int .i64 p.id), (wr.heap.size, 1, .int .i64 p.ra), (wr.heap.size, 2, .int .u64 p.si)] (fun _ => True), s.val.cell? ⟨P, 3, none⟩ = some (.int .u64 y.now) := fun s => (s.kept.below.cell (p := ⟨P, 3, none⟩) hPr).trans C3
          have rP2 : ∀ s : KX (wr.heap.size) wr (wr.heap.size + 1) [(wr.heap.size, 0, .int .i64 p.id), (wr.heap.size, 1, .int .i64 p.ra), (wr.heap.size, 2, .int .u64 p.si)] (fun _ => True), s.val.cell? ⟨P, 2, none⟩ = some (.int .u64 y.to) := fun s => (s.kept.below.cell (p := ⟨P, 2, none⟩) hPr).trans C2
          repeat (go_big_quiet_step (fail))
          refine wpQuiet_nil ?_
          clear rD0 rD1 rD2 rP3 rP2
          have KH_w21 := Lib.hid K_w21
          have hw_w21 := K_w21.below
          have hz_w21 := K_w21.size
          have lD_w21 : wr.heap.size < w21.heap.size := by omega
          clear K_w21
          clear E_w21 F_w21
          refine ⟨fun K hK0 => ?_, trivial⟩
          have hK := Lib.hid hK0
          clear hK0
          go_wp2_with fail
          with_reducible refine (since26c y.now p.si n _ OKY.out.n HU.out HS.out).mono ?_
          rintro e w' ⟨rfl, rfl⟩
          go_wp2_with fail
          first | (refine ⟨rfl, ⟨⟨_, KH_w21.out, trivial⟩, rfl⟩, hK.out _ _ ?_⟩; clear hK K) | (refine ⟨⟨⟨_, KH_w21.out, trivial⟩, rfl⟩, hK.out _ _ ?_⟩; clear hK K)
          repeat (go_big_quiet_step (fail))
          refine wpQuiet_nil ?_
          clear _ne
          have cD0_w21 := KH_w21.out.at (b := wr.heap.size) (o := 0) (v := .int .i64 p.id) (by simp)
          have fD0_w21 := KH_w21.out.free (b := wr.heap.size) (o := 0) (v := .int .i64 p.id) (by simp)
          have cD1_w21 := KH_w21.out.at (b := wr.heap.size) (o := 1) (v := .int .i64 p.ra) (by simp)
          have fD1_w21 := KH_w21.out.free (b := wr.heap.size) (o := 1) (v := .int .i64 p.ra) (by simp)
          have cD2_w21 := KH_w21.out.at (b := wr.heap.size) (o := 2) (v := .int .u64 p.si) (by simp)
          have fD2_w21 := KH_w21.out.free (b := wr.heap.size) (o := 2) (v := .int .u64 p.si) (by simp)
          go_wp2_with (at_builtin; refine wpList_append_ow (f := ic) (sz := 1) rfl _ _ 33 rfl w.heap.size 3 (.int .i64 0) 8 Try.underlying33 info3 rfl (by decide) _ (((y.l.take k).filter (fun p => gvn y.to y.now p)).map Pl.id) rfl (HG.out.below (by go_grown)) ic_ok _ [p.id] rfl (Rw.one2 _ _ p.id _ rfl _ _ (by simp)) ?ca1 ?cb1 (by go_size) ?_)
          case ca1 => have q1 := HGN.out; simp only [maxLen, List.length_singleton]; omega
          case cb1 => have q1 := HGN.out; simp only [List.length_singleton]; omega
          intro v' wA hown hgrow hwh
          have HG2 : Hid (Ow ic 1 3 wA w.heap.size v' (((y.l.take (k + 1)).filter (fun p => gvn y.to y.now p)).map Pl.id)) := Lib.hid (by rw [filt_next HP.out, if_pos HC.out, List.map_append]; exact hown)
          have HST2 : Hid (Ow plc 3 71 wA w.heap.size (.slice sa sn sc) ((y.l.take (k + 1)).filter (fun p => !gvn y.to y.now p))) := Lib.hid (by rw [filt_next HP.out, if_neg (by simp [HC.out]), List.append_nil]; exact (HST.out.below (by go_grown)).grown hgrow (fun b hb e => HG.out.ne HST.out (by decide) b ((ob_len _ _ _ _ _).trans e) hb))
          have HL2 : Hid (LobAt wA P y v) := Lib.hid ((HL.out.below (by go_grown)).grown hgrow (fun e => HL.out.notP HG.out (by decide) ((ob_len _ _ _ _ _).trans e)) (fun b hb e => HG.out.ne HL.out.row (by decide) b ((ob_len _ _ _ _ _).trans e) hb))
          have HO2 : Hid (Onl [P] w wA) := Lib.hid ((HO.out.grow (by go_grown)).grown hgrow (fun q hq => .inr (HG.out.typ q ((ob_len _ _ _ _ _).trans hq)).1))
          obtain ⟨ga2, gc2, rfl⟩ := hown.form
          clear hown hgrow hwh
          go_wp2_with fail
          go_roundw
          case rel => exact ⟨k + 1, by omega, by go_num, HG2.out, HST2.out, HL2.out, HO2.out⟩
          case measure => simp [intOf]; omega
        · have HC : Hid (gvn y.to y.now p = false) := Lib.hid (by unfold gvn; rw [HS.out]; exact decide_eq_false hgo)
          go_wp2_with fail
          refine rg11_8 (w0 := wr) (B := wr.heap.size) (n := wr.heap.size + 1) (L := [(wr.heap.size, 0, .int .i64 p.id), (wr.heap.size, 1, .int .i64 p.ra), (wr.heap.size, 2, .int .u64 p.si)]) (E := fun _ => True) (F := fun _ => True) (by kernel_rfl) (by kernel_rfl) ⟨by go_grown, by go_size, (by simp [go_sem] <;> omega)⟩ trivial (fun _ _ _ _ => trivial) trivial (fun _ _ _ _ => trivial) (fun w21 K_w21 E_w21 F_w21 => ?_)
          have _ne : Nonempty (KX (wr.heap.size) wr (wr.heap.size + 1) [(wr.heap.size, 0, .int .i64 p.id), (wr.heap.size, 1, .int .i64 p.ra), (wr.heap.size, 2, .int .u64 p.si)] (fun _ => True)) := ⟨⟨_, K_w21, E_w21⟩⟩
          repeat (go_big_quiet_step (fail))
          refine wpQuiet_nil ?_
          have rD0 : ∀ s : KX (wr.heap.size) wr (wr.heap.size + 1) [(wr.heap.size, 0, .int .i64 p.id), (wr.heap.size, 1, .int .i64 p.ra), (wr.heap.size, 2, .int .u64 p.si)] (fun _ => True), s.val.cell? ⟨wr.heap.size, 0, none⟩ = some (.int .i64 p.id) := fun s => s.kept.at (by simp)
          have rD1 : ∀ s : KX (wr.heap.size) wr (wr.heap.size + 1) [(wr.heap.size, 0, .int .i64 p.id), (wr.heap.size, 1, .int .i64 p.ra), (wr.heap.size, 2, .int .u64 p.si)] (fun _ => True), s.val.cell? ⟨wr.heap.size, 1, none⟩ = some (.int .i64 p.ra) := fun s => s.kept.at (by simp)
          have rD2 : ∀ s : KX (wr.heap.size) wr (wr.heap.size + 1) [(wr.heap.size, 0, .int .i64 p.id), (wr.heap.size, 1, .int .i64 p.ra), (wr.heap.size, 2, .int .u64 p.si)] (fun _ => True), s.val.cell? ⟨wr.heap.size, 2, none⟩ = some (.int .u64 p.si) := fun s => s.kept.at (by simp)
          have rP3 : ∀ s : KX (wr.heap.size) wr (wr.heap.size + 1) [(wr.heap.size, 0, .int .i64 p.id), (wr.heap.size, 1, .int .i64 p.ra), (wr.heap.size, 2, .int .u64 p.si)] (fun _ => True), s.val.cell? ⟨P, 3, none⟩ = some (.int .u64 y.now) := fun s => (s.kept.below.cell (p := ⟨P, 3, none⟩) hPr).trans C3
          have rP2 : ∀ s : KX (wr.heap.size) wr (wr.heap.size + 1) [(wr.heap.size, 0, .int .i64 p.id), (wr.heap.size, 1, .int .i64 p.ra), (wr.heap.size, 2, .int .u64 p.si)] (fun _ => True), s.val.cell? ⟨P, 2, none⟩ = some (.int .u64 y.to) := fun s => (s.kept.below.cell (p := ⟨P, 2, none⟩) hPr).trans C2
          repeat (go_big_quiet_step (fail))
          refine wpQuiet_nil ?_
          clear rD0 rD1 rD2 rP3 rP2
          have KH_w21 := Lib.hid K_w21
          have hw_w21 := K_w21.below
          have hz_w21 := K_w21.size
          have lD_w21 : wr.heap.size < w21.heap.size := by omega
          clear K_w21
          clear E_w21 F_w21
          refine ⟨fun K hK0 => ?_, trivial⟩
          have hK := Lib.hid hK0
          clear hK0
          go_wp2_with fail
          with_reducible refine (since26c y.now p.si n _ OKY.out.n HU.out HS.out).mono ?_
          rintro e w' ⟨rfl, rfl⟩
          go_wp2_with fail
          first | (refine ⟨rfl, ⟨⟨_, KH_w21.out, trivial⟩, rfl⟩, hK.out _ _ ?_⟩; clear hK K) | (refine ⟨⟨⟨_, KH_w21.out, trivial⟩, rfl⟩, hK.out _ _ ?_⟩; clear hK K)
          repeat (go_big_quiet_step (fail))
          refine wpQuiet_nil ?_
          clear _ne
          have cD0_w21 := KH_w21.out.at (b := wr.heap.size) (o := 0) (v := .int .i64 p.id) (by simp)
          have fD0_w21 := KH_w21.out.free (b := wr.heap.size) (o := 0) (v := .int .i64 p.id) (by simp)
          have cD1_w21 := KH_w21.out.at (b := wr.heap.size) (o := 1) (v := .int .i64 p.ra) (by simp)
          have fD1_w21 := KH_w21.out.free (b := wr.heap.size) (o := 1) (v := .int .i64 p.ra) (by simp)
          have cD2_w21 := KH_w21.out.at (b := wr.heap.size) (o := 2) (v := .int .u64 p.si) (by simp)
          have fD2_w21 := KH_w21.out.free (b := wr.heap.size) (o := 2) (v := .int .u64 p.si) (by simp)
          go_wp2_with (at_builtin; refine wpList_append_ow (f := plc) (sz := 3) rfl _ _ 59 rfl w.heap.size 71 (.agg #[.int .i64 0, .int .i64 0, .int .u64 0]) 24 Try.underlying59 info71 rfl (by decide) _ ((y.l.take k).filter (fun p => !gvn y.to y.now p)) rfl (HST.out.below (by go_grown)) plc_ok _ [p] rfl (Rw.one2 _ _ p _ rfl _ _ (by simp)) ?ca2 ?cb2 (by go_size) ?_)
          case ca2 => have q1 := HSN.out; simp only [maxLen, List.length_singleton]; omega
          case cb2 => have q1 := HSN.out; simp only [List.length_singleton]; omega
          intro v' wA hown hgrow hwh
          have HG2 : Hid (Ow ic 1 3 wA w.heap.size (.slice ga gn gc) (((y.l.take (k + 1)).filter (fun p => gvn y.to y.now p)).map Pl.id)) := Lib.hid (by rw [filt_next HP.out, if_neg (by simp [HC.out]), List.append_nil]; exact (HG.out.below (by go_grown)).grown hgrow (fun b hb e => HG.out.ne HST.out (by decide) b hb ((ob_len _ _ _ _ _).trans e)))
          have HST2 : Hid (Ow plc 3 71 wA w.heap.size v' ((y.l.take (k + 1)).filter (fun p => !gvn y.to y.now p))) := Lib.hid (by rw [filt_next HP.out, if_pos (by simp [HC.out])]; exact hown)
          have HL2 : Hid (LobAt wA P y v) := Lib.hid ((HL.out.below (by go_grown)).grown hgrow (fun e => HL.out.notP HST.out (by decide) ((ob_len _ _ _ _ _).trans e)) (fun b hb e => by have h1 := (HST.out.typ b ((ob_len _ _ _ _ _).trans e)).1; have h2 := HVB.out b hb; omega))
          have HO2 : Hid (Onl [P] w wA) := Lib.hid ((HO.out.grow (by go_grown)).grown hgrow (fun q hq => .inr (HST.out.typ q ((ob_len _ _ _ _ _).trans hq)).1))
          obtain ⟨ga2, gc2, rfl⟩ := hown.form
          clear hown hgrow hwh
          go_wp2_with fail
          go_roundw
          case rel => exact ⟨k + 1, by omega, by go_num, HG2.out, HST2.out, HL2.out, HO2.out⟩
          case measure => simp [intOf]; omega
      · obtain rfl : k = y.l.length := by omega
        obtain ⟨wa, rfl⟩ : ∃ wa, wa = wr := ⟨_, rfl⟩
        obtain ⟨z, hz⟩ : ∃ z, y.stay = z := ⟨_, rfl⟩
        have hzl : z.l = y.l.filter (fun p => !gvn y.to y.now p) := by rw [← hz]; rfl
        have OKZ : Hid (z.Ok) := Lib.hid (by rw [← hz]; exact stay_ok OKY.out)
        have e1 : y.l.take y.l.length = y.l := List.take_length
        rw [e1] at HG HST HGN HSN
        clear e1
        have HZL : Hid (sn = z.l.length) := Lib.hid (by rw [hzl]; exact HSN.out.symm)
        obtain ⟨gs, hgs⟩ : ∃ gs, (y.l.filter (fun p => gvn y.to y.now p)).map Pl.id = gs := ⟨_, rfl⟩
        rw [hgs] at HG HGN
        have HGS := Lib.hid hgs
        have HZ := Lib.hid hz
        have HST1 : Hid (Ow plc 3 71 wa w.heap.size (.slice sa sn sc) z.l) := Lib.hid (by rw [hzl]; exact HST.out)
        have f4 : wa.frozen? ⟨P, 4, none⟩ = false := HL.out.free 4
        have C4 : wa.cell? ⟨P, 4, none⟩ = some (.slice av y.l.length cv) := by have := HL.out.cell 4; rw [HV.out] at this; exact this
        have HLZ : Hid (LobAt (wa.setCell ⟨P, 4, none⟩ (.slice sa sn sc)) P z (.slice sa sn sc)) := Lib.hid (by
          have h := lob_put (v' := .slice sa sn sc) HL.out.blk (HST1.out.base (fun _ _ => Nat.zero_le _))
          have e : { y with l := z.l } = z := by rw [hzl, ← HZ.out]; rfl
          rw [e] at h
          exact h)
        have HOZ : Hid (Onl [P] w (wa.setCell ⟨P, 4, none⟩ (.slice sa sn sc))) := Lib.hid (HO.out.setCell (q := ⟨P, 4, none⟩) (.inl (by simp)) _)
        have HGZ : Hid (Ow ic 1 3 (wa.setCell ⟨P, 4, none⟩ (.slice sa sn sc)) w.heap.size (.slice ga gn gc) gs) := Lib.hid (HG.out.onl ((Onl.refl [P] _).setCell (q := ⟨P, 4, none⟩) (.inl (by simp)) _) (fun b hb => by simpa using fun e : b = P => HL.out.notP HG.out (by decide) (by rw [← e]; exact hb)))
        have hmk := fun w => run_make_row' (P := Try.prog) 73 4 (.bool false) 1 Try.underlying73 (by kernel_rfl) rfl .i64 .i64 sn (by omega) (by omega) w
        clear hz hzl hgs C3 C2 HG HST HSN hPr
        go_wp2_with fail
        go_loopw [4, 69] (fun pv t wr2 => M2Rel w P z (.slice sa sn sc) (.slice ga gn gc) (.slice (some ⟨wa.heap.size, 0, none⟩) sn sn) gs pv t wr2) (fun _ t _ => sn - (intOf t).toNat)
        case atStart => exact ⟨0, Nat.zero_le _, rfl, Ow.nil _ _ _, by
          have h := Ow.lit (f := bc) (sz := 1) (wa.setCell ⟨P, 4, none⟩ (.slice sa sn sc)) 4 (List.replicate z.l.length false) (madeCells #[Value.bool false] z.l.length) (made_bool _) (fun _ _ => rfl) w.heap.size (by simpa using hz_wr) (by have := OKZ.out.len; simp [maxLen]; omega)
          simp only [← HZL.out, List.length_replicate] at h
          simp only [mtc, ← HZL.out]
          rw [show (wa.setCell ⟨P, 4, none⟩ (.slice sa sn sc)).heap.size = wa.heap.size by simp [World.setCell]] at h
          exact h, HGZ.out.below ((Below.refl _ _).alloc (Nat.le_refl _) _), HLZ.out.below ((Below.refl _ _).alloc (Nat.le_refl _) _), HOZ.out.grow ((Below.refl _ _).alloc (Nat.le_refl _) _)⟩
        case round =>
          have HTB2 : Hid (w.heap.size ≤ wa.heap.size) := Lib.hid hz_wr
          clear HOZ HGZ HLZ HL HO HST1 HV C4 f4 hmk hz_wr
          obtain ⟨k, hk2, rfl, hps, htk, hgo, hlz, ho⟩ := hrel
          have HPS := Lib.hid hps
          have HTK := Lib.hid htk
          have HGO := Lib.hid hgo
          have HL := Lib.hid hlz
          have HO := Lib.hid ho
          have hz_wr := ho.size
          have htb : wa.heap.size < wr.heap.size := (htk.typ wa.heap.size rfl).2.1
          obtain ⟨pa0, pc, hpv⟩ := hps.form
          obtain ⟨pn, hpn⟩ : ∃ n, (mtc z k).2.length = n := ⟨_, rfl⟩
          rw [hpn] at hpv
          subst hpv
          have hz200 : z.l.length ≤ 200 := OKZ.out.len
          have HPL : Hid ((mtc z k).2.length ≤ 200) := Lib.hid (Nat.le_trans (mt_plen z k) (by omega))
          rw [← HZL.out] at hk2 hz200
          clear hps htk hgo hlz ho hpn
          by_cases hkl : k < sn
          · obtain ⟨_, a1, c1, hv, hf⟩ := HL.out.rw.form
            obtain ⟨b1, o1, rfl, hb1, hc1⟩ := hf (by rw [← HZL.out]; omega)
            simp only [Value.slice.injEq] at hv
            obtain ⟨rfl, hsl, rfl⟩ := hv
            clear hsl
            obtain ⟨p, hp⟩ : ∃ p, z.l[k]? = some p := ⟨z.l[k]'(by rw [← HZL.out]; omega), List.getElem?_eq_getElem _⟩
            obtain ⟨b, htb0⟩ : ∃ b, (mtc z k).1[k]? = some b := ⟨(mtc z k).1[k]'(by rw [mt_len, ← HZL.out]; omega), List.getElem?_eq_getElem _⟩
            have et : wr.cell? ⟨wa.heap.size, k, none⟩ = some (.bool b) := by
              exact TCELL HTK.out htb0
            have ft : wr.frozen? ⟨wa.heap.size, k, none⟩ = false := HTK.out.frozenAt k
            have HC1 := Lib.hid hc1
            have HP := Lib.hid hp
            have HTB := Lib.hid htb0
            have i1 : (0 : Int) ≤ (k : Int) := by omega
            have i2 : (k : Int) < (sn : Int) := by omega
            have m0 : wr.cell? ⟨b1, o1 + k * 3, none⟩ = Option.some (.int .i64 p.id) := hc1 k p hp 0 _ rfl
            have m1 : wr.cell? ⟨b1, o1 + k * 3 + 1, none⟩ = Option.some (.int .i64 p.ra) := hc1 k p hp 1 _ rfl
            have m2 : wr.cell? ⟨b1, o1 + k * 3 + 2, none⟩ = Option.some (.int .u64 p.si) := hc1 k p hp 2 _ rfl
            clear hf hc1 hp htb0
            cases b with
            | true =>
              go_wp2_with fail
              go_roundw
              case rel => exact ⟨k + 1, by have := HZL.out; omega, by go_num, by rw [mt_taken HTB.out]; exact HPS.out.below ((Below.refl _ _).alloc (Nat.le_refl _) _), by rw [mt_taken HTB.out]; exact HTK.out.below ((Below.refl _ _).alloc (Nat.le_refl _) _), HGO.out.below ((Below.refl _ _).alloc (Nat.le_refl _) _), HL.out.below ((Below.refl _ _).alloc (Nat.le_refl _) _), HO.out.grow ((Below.refl _ _).alloc (Nat.le_refl _) _)⟩
              case measure => simp [intOf]; omega
            | false =>
              obtain ⟨n, hn⟩ : ∃ n, pa z k (mtc z k).1 z.l.length = n := ⟨_, rfl⟩
              have HN := Lib.hid hn
              have hbd := pa_bd z k (mtc z k).1 z.l.length
              rw [hn] at hbd
              obtain ⟨hbd1, hbd2⟩ := hbd
              by_cases hneg : n < 0
              · have HNEG : Hid (pa z k (mtc z k).1 z.l.length < 0) := Lib.hid (by rw [hn]; exact hneg)
                have t5 : decide ((0 : Int) ≤ n) = false := by simpa using hneg
                clear hn
                go_wp2_with fail
                with_reducible refine (partner27 P z _ k p _ (mtc z k).1 _ (HL.out.below ((Below.refl _ _).alloc (Nat.le_refl _) _)) OKZ.out HP.out ((HTK.out.below ((Below.refl _ _).alloc (Nat.le_refl _) _)).rw (fun _ _ => rfl)) (mt_len z k)).mono ?_
                rintro e w41 ⟨rfl, hb⟩
                rw [HN.out]
                have hbw : Below wr.heap.size wr w41 := below_via ((Below.refl _ _).alloc (Nat.le_refl _) _) hb
                have hz41 : wr.heap.size < w41.heap.size := by have := hb.size; simp at this; omega
                go_wp2_with fail
                go_roundw
                case rel => exact ⟨k + 1, by have := HZL.out; omega, by go_num, by rw [mt_none HTB.out HNEG.out]; exact HPS.out.below hbw, by rw [mt_none HTB.out HNEG.out]; exact HTK.out.below hbw, HGO.out.below hbw, HL.out.below hbw, HO.out.grow hbw⟩
                case measure => simp [intOf]; omega
              · obtain ⟨k2, rfl⟩ : ∃ k2 : Nat, n = k2 := ⟨n.toNat, by omega⟩
                have hcan := can_ne (pa_can (x := z) (i := k) (tk := (mtc z k).1) z.l.length (by rw [hn]; omega))
                rw [hn, Int.toNat_natCast] at hcan
                obtain ⟨hne, htk2, _⟩ := hcan
                have hk2l : k2 < z.l.length := by omega
                obtain ⟨p2, hp2⟩ : ∃ p, z.l[k2]? = some p := ⟨z.l[k2], List.getElem?_eq_getElem hk2l⟩
                have HP2 := Lib.hid hp2
                have et2 : wr.cell? ⟨wa.heap.size, k2, none⟩ = some (.bool false) := by
                  have h2 : (mtc z k).1[k2]? = some false := by
                    rw [List.getD_eq_getElem?_getD, List.getElem?_eq_getElem (by rw [mt_len]; exact hk2l)] at htk2
                    rw [List.getElem?_eq_getElem (by rw [mt_len]; exact hk2l)]
                    simpa using htk2
                  exact TCELL HTK.out h2
                have ft2 : wr.frozen? ⟨wa.heap.size, k2, none⟩ = false := HTK.out.frozenAt k2
                have i3 : (0 : Int) ≤ (k2 : Int) := by omega
                rw [← HZL.out] at hk2l
                have i4 : (k2 : Int) < (sn : Int) := by omega
                have n1 : (k2 = k) = False := by simpa using hne
                have n2 : (k = k2) = False := by simpa using fun e : k = k2 => hne e.symm
                clear hn hp2 htk2 hne
                go_wp2_with fail
                with_reducible refine (partner27 P z _ k p _ (mtc z k).1 _ (HL.out.below ((Below.refl _ _).alloc (Nat.le_refl _) _)) OKZ.out HP.out ((HTK.out.below ((Below.refl _ _).alloc (Nat.le_refl _) _)).rw (fun _ _ => rfl)) (mt_len z k)).mono ?_
                rintro e w41 ⟨rfl, hb⟩
                rw [HN.out]
                have hbw : Below wr.heap.size wr w41 := below_via ((Below.refl _ _).alloc (Nat.le_refl _) _) hb
                have hz41 : wr.heap.size < w41.heap.size := by have := hb.size; simp at this; omega
                have d0 : w41.cell? ⟨wr.heap.size, 0, none⟩ = Option.some (.int .i64 p.id) := (hb.cell (p := ⟨wr.heap.size, 0, none⟩) (by simp)).trans (by simp)
                have d1 : w41.cell? ⟨wr.heap.size, 1, none⟩ = Option.some (.int .i64 p.ra) := (hb.cell (p := ⟨wr.heap.size, 1, none⟩) (by simp)).trans (by simp)
                have d2 : w41.cell? ⟨wr.heap.size, 2, none⟩ = Option.some (.int .u64 p.si) := (hb.cell (p := ⟨wr.heap.size, 2, none⟩) (by simp)).trans (by simp)
                have gT1 : w41.cell? ⟨wa.heap.size, k, none⟩ = Option.some (.bool false) := (hbw.cell (p := ⟨wa.heap.size, k, none⟩) htb).trans et
                have gF1 : w41.frozen? ⟨wa.heap.size, k, none⟩ = false := (hbw.frozen (p := ⟨wa.heap.size, k, none⟩) htb).trans ft
                have gT2 : w41.cell? ⟨wa.heap.size, k2, none⟩ = Option.some (.bool false) := (hbw.cell (p := ⟨wa.heap.size, k2, none⟩) htb).trans et2
                have gF2 : w41.frozen? ⟨wa.heap.size, k2, none⟩ = false := (hbw.frozen (p := ⟨wa.heap.size, k2, none⟩) htb).trans ft2
                have hDt : wr.heap.size ≠ wa.heap.size := by omega
                obtain ⟨W2, hW2⟩ : ∃ W, W = (w41.setCell ⟨wa.heap.size, k, none⟩ (.bool true)).setCell ⟨wa.heap.size, k2, none⟩ (.bool true) := ⟨_, rfl⟩
                have hO2 : Onl [wa.heap.size] wr W2 := by rw [hW2]; exact ((Onl.of hbw).setCell (q := ⟨wa.heap.size, k, none⟩) (.inl (by simp)) _).setCell (q := ⟨wa.heap.size, k2, none⟩) (.inl (by simp)) _
                have HTK2 : Hid (Ow bc 1 4 W2 w.heap.size (.slice (some ⟨wa.heap.size, 0, none⟩) sn sn) (((mtc z k).1.set k true).set k2 true)) := Lib.hid (by
                  rw [hW2]
                  exact ((HTK.out.below hbw).set1 (fun _ => rfl) (by rw [mt_len, HZL.out]) k true (.bool true) rfl).set1 (fun _ => rfl) (by rw [List.length_set, mt_len, HZL.out]) k2 true (.bool true) rfl)
                have hPt : P ∉ [wa.heap.size] := by simpa using fun e : P = wa.heap.size => HL.out.notP HTK.out (by decide) (by rw [e]; rfl)
                have HL2 : Hid (LobAt W2 P z (.slice (some ⟨b1, o1, none⟩) sn sc)) := Lib.hid (HL.out.onl hO2 hPt (fun b hb => by simpa using fun e : b = wa.heap.size => HTK.out.ne HL.out.row (by decide) wa.heap.size rfl (by rw [← e]; exact hb)))
                have HPS2 : Hid (Ow dc 2 50 W2 w.heap.size (.slice pa0 pn pc) (mtc z k).2) := Lib.hid (HPS.out.onl hO2 (fun b hb => by simpa using fun e : b = wa.heap.size => HTK.out.ne HPS.out (by decide) wa.heap.size rfl (by rw [← e]; exact hb)))
                have HGO2 : Hid (Ow ic 1 3 W2 w.heap.size (.slice ga gn gc) gs) := Lib.hid (HGO.out.onl hO2 (fun b hb => by simpa using fun e : b = wa.heap.size => HTK.out.ne HGO.out (by decide) wa.heap.size rfl (by rw [← e]; exact hb)))
                have HO2 : Hid (Onl [P] w W2) := Lib.hid (by rw [hW2]; exact (((HO.out.grow hbw).setCell (q := ⟨wa.heap.size, k, none⟩) (.inr HTB2.out) _).setCell (q := ⟨wa.heap.size, k2, none⟩) (.inr HTB2.out) _))
                have hb1t : b1 ∉ [wa.heap.size] := by simpa using fun e : b1 = wa.heap.size => HTK.out.ne HL.out.row (by decide) wa.heap.size rfl (by rw [← e]; rfl)
                have hwz : wr.heap.size < W2.heap.size := by rw [hW2]; simpa using hz41
                have hb1w : b1 < W2.heap.size := Nat.lt_of_lt_of_le hb1 hO2.size
                have dD0 : W2.cell? ⟨wr.heap.size, 0, none⟩ = Option.some (.int .i64 p.id) := by rw [hW2]; simp [go_sem, d0, hDt]
                have dD1 : W2.cell? ⟨wr.heap.size, 1, none⟩ = Option.some (.int .i64 p.ra) := by rw [hW2]; simp [go_sem, d1, hDt]
                have dD2 : W2.cell? ⟨wr.heap.size, 2, none⟩ = Option.some (.int .u64 p.si) := by rw [hW2]; simp [go_sem, d2, hDt]
                have q0 : W2.cell? ⟨b1, o1 + k2 * 3, none⟩ = Option.some (.int .i64 p2.id) := (hO2.cell hb1 hb1t).trans (HC1.out k2 p2 HP2.out 0 _ rfl)
                have q1 : W2.cell? ⟨b1, o1 + k2 * 3 + 1, none⟩ = Option.some (.int .i64 p2.ra) := (hO2.cell hb1 hb1t).trans (HC1.out k2 p2 HP2.out 1 _ rfl)
                have q2 : W2.cell? ⟨b1, o1 + k2 * 3 + 2, none⟩ = Option.some (.int .u64 p2.si) := (hO2.cell hb1 hb1t).trans (HC1.out k2 p2 HP2.out 2 _ rfl)
                go_upto_region 21 with fail
                rw [← hW2]
                clear hW2 hO2 gT1 gF1 gT2 gF2 hb hbw hPt hb1t hDt et ft et2 ft2 hz41 d0 d1 d2
                refine rg11_21 (w0 := W2) (B := W2.heap.size) (n := W2.heap.size) (L := []) (E := fun _ => True) (F := fun _ => True) (by kernel_rfl) (by kernel_rfl) ⟨by go_grown, by go_size, (by simp [go_sem] <;> omega)⟩ trivial (fun _ _ _ _ => trivial) trivial (fun _ _ _ _ => trivial) (fun w41 K_w41 E_w41 F_w41 => ?_)
                have _ne : Nonempty (KX (W2.heap.size) W2 (W2.heap.size) [] (fun _ => True)) := ⟨⟨_, K_w41, E_w41⟩⟩
                repeat (go_big_quiet_step (fail))
                refine wpQuiet_nil ?_
                have rd0 : ∀ s : KX (W2.heap.size) W2 (W2.heap.size) [] (fun _ => True), s.val.cell? ⟨wr.heap.size, 0, none⟩ = some (.int .i64 p.id) := fun s => (s.kept.below.cell (p := ⟨wr.heap.size, 0, none⟩) hwz).trans dD0
                have rd1 : ∀ s : KX (W2.heap.size) W2 (W2.heap.size) [] (fun _ => True), s.val.cell? ⟨wr.heap.size, 1, none⟩ = some (.int .i64 p.ra) := fun s => (s.kept.below.cell (p := ⟨wr.heap.size, 1, none⟩) hwz).trans dD1
                have rd2 : ∀ s : KX (W2.heap.size) W2 (W2.heap.size) [] (fun _ => True), s.val.cell? ⟨wr.heap.size, 2, none⟩ = some (.int .u64 p.si) := fun s => (s.kept.below.cell (p := ⟨wr.heap.size, 2, none⟩) hwz).trans dD2
                have rq0 : ∀ s : KX (W2.heap.size) W2 (W2.heap.size) [] (fun _ => True), s.val.cell? ⟨b1, o1 + k2 * 3, none⟩ = some (.int .i64 p2.id) := fun s => (s.kept.below.cell (p := ⟨b1, o1 + k2 * 3, none⟩) hb1w).trans q0
                have rq1 : ∀ s : KX (W2.heap.size) W2 (W2.heap.size) [] (fun _ => True), s.val.cell? ⟨b1, o1 + k2 * 3 + 1, none⟩ = some (.int .i64 p2.ra) := fun s => (s.kept.below.cell (p := ⟨b1, o1 + k2 * 3 + 1, none⟩) hb1w).trans q1
                have rq2 : ∀ s : KX (W2.heap.size) W2 (W2.heap.size) [] (fun _ => True), s.val.cell? ⟨b1, o1 + k2 * 3 + 2, none⟩ = some (.int .u64 p2.si) := fun s => (s.kept.below.cell (p := ⟨b1, o1 + k2 * 3 + 2, none⟩) hb1w).trans q2
                repeat (go_big_quiet_step (fail))
                refine wpQuiet_nil ?_
                clear rd0 rd1 rd2 rq0 rq1 rq2
                repeat (go_big_quiet_step (fail))
                refine wpQuiet_nil ?_
                have KH_w41 := Lib.hid K_w41
                have hw_w41 := K_w41.below
                have hz_w41 := K_w41.size
                clear K_w41
                clear E_w41 F_w41
                refine ⟨fun K hK0 => ?_, trivial⟩
                have hK := Lib.hid hK0
                clear hK0
                go_wp2_with fail
                first | (refine ⟨rfl, hK.out _ _ ?_⟩; clear hK K) | (refine hK.out _ _ ?_; clear hK K)
                refine ⟨fun K hK0 => ?_, trivial⟩
                have hK := Lib.hid hK0
                clear hK0
                skip
                go_wp2_with (at_builtin; refine wpList_append_ow (f := dc) (sz := 2) rfl _ _ 32 rfl w.heap.size 50 (.agg #[.int .i64 0, .int .i64 0]) 16 Try.underlying32 info50 rfl (by decide) _ (mtc z k).2 rfl (HPS2.out.below (by go_grown)) dc_ok _ [(p.id, p2.id)] rfl (Rw.one2 _ _ (p.id, p2.id) _ rfl _ _ (by simp)) ?ca3 ?cb3 (by go_size) ?_)
                case ca3 => have q1 := HPL.out; simp only [maxLen, List.length_singleton]; omega
                case cb3 => have q1 := HPL.out; simp only [List.length_singleton]; omega
                intro v' wA hown hgrow hwh
                have HP3 : Hid (Ow dc 2 50 wA w.heap.size v' (mtc z (k + 1)).2) := Lib.hid (by rw [mt_pair HTB.out HN.out HP.out HP2.out]; exact hown)
                have HT3 : Hid (Ow bc 1 4 wA w.heap.size (.slice (some ⟨wa.heap.size, 0, none⟩) sn sn) (mtc z (k + 1)).1) := Lib.hid (by rw [mt_pair HTB.out HN.out HP.out HP2.out]; exact (HTK2.out.below (by go_grown)).grown hgrow (fun b hb e => HPS2.out.ne HTK2.out (by decide) b ((ob_len _ _ _ _ _).trans e) hb))
                have HG3 : Hid (Ow ic 1 3 wA w.heap.size (.slice ga gn gc) gs) := Lib.hid ((HGO2.out.below (by go_grown)).grown hgrow (fun b hb e => HPS2.out.ne HGO2.out (by decide) b ((ob_len _ _ _ _ _).trans e) hb))
                have HL3 : Hid (LobAt wA P z (.slice (some ⟨b1, o1, none⟩) sn sc)) := Lib.hid ((HL2.out.below (by go_grown)).grown hgrow (fun e => HL2.out.notP HPS2.out (by decide) ((ob_len _ _ _ _ _).trans e)) (fun b hb e => HPS2.out.ne HL2.out.row (by decide) b ((ob_len _ _ _ _ _).trans e) hb))
                have HO3 : Hid (Onl [P] w wA) := Lib.hid ((HO2.out.grow (by go_grown)).grown hgrow (fun q hq => .inr (HPS2.out.typ q ((ob_len _ _ _ _ _).trans hq)).1))
                obtain ⟨ga2, gc2, hv'⟩ := hown.form
                rw [List.length_append, List.length_singleton] at hv'
                subst hv'
                clear hown hgrow hwh
                go_wp2_with fail
                first | (refine ⟨rfl, hK.out _ _ ?_⟩; clear hK K) | (refine hK.out _ _ ?_; clear hK K)
                repeat (go_big_quiet_step (fail))
                refine wpQuiet_nil ?_
                clear _ne
                go_wp2_with fail
                go_roundw
                case rel => exact ⟨k + 1, by have := HZL.out; omega, by go_num, HP3.out, HT3.out, HG3.out, HL3.out, HO3.out⟩
                case measure => simp [intOf]; omega
          · obtain ⟨wq, rfl⟩ : ∃ wq, wq = wr := ⟨_, rfl⟩
            obtain rfl : k = sn := by omega
            obtain ⟨tk, htk⟩ : ∃ tk, (mtc z k).1 = tk := ⟨_, rfl⟩
            obtain ⟨ps, hps⟩ : ∃ ps, (mtc z k).2 = ps := ⟨_, rfl⟩
            have HTKL : Hid (tk.length = z.l.length) := Lib.hid (by rw [← htk]; exact mt_len _ _)
            rw [htk] at HTK
            rw [hps] at HPS HPL
            have HTKE := Lib.hid htk
            have HPSE := Lib.hid hps
            have hPq := HL.out.lt
            clear htk hps hkl
            go_wp2_with fail
            go_loopw [14, 104] (fun lv t wr => M3Rel w wq P z (.slice sa k sc) (.slice ga gn gc) (.slice pa0 pn pc) gs ps tk lv t wr) (fun _ t _ => k - (intOf t).toNat)
            case atStart => exact ⟨0, Nat.zero_le _, rfl, HPS.out, HGO.out, Ow.nil _ _ _, Below.refl _ _⟩
            case round =>
              obtain ⟨k3, hk3, rfl, hps, hgo, hlf, hbq⟩ := hrel
              have HPS3 := Lib.hid hps
              have HGO3 := Lib.hid hgo
              have HLF := Lib.hid hlf
              have hzq := hbq.size
              have HBQ := Lib.hid hbq
              obtain ⟨la, lc, hlv⟩ := hlf.form
              obtain ⟨ln, hln⟩ : ∃ n, (lft z.l tk k3).length = n := ⟨_, rfl⟩
              rw [hln] at hlv
              subst hlv
              have HLN : Hid ((lft z.l tk k3).length ≤ 200) := Lib.hid (Nat.le_trans (lft_len _ _ _) OKZ.out.len)
              clear hps hgo hlf hln
              by_cases hkl : k3 < k
              · obtain ⟨_, a1, c1, hv, hf⟩ := HL.out.rw.form
                obtain ⟨b1, o1, rfl, hb1, hc1⟩ := hf (by rw [← HZL.out]; omega)
                simp only [Value.slice.injEq] at hv
                obtain ⟨rfl, hsl, rfl⟩ := hv
                clear hsl
                obtain ⟨p, hp⟩ : ∃ p, z.l[k3]? = some p := ⟨z.l[k3]'(by rw [← HZL.out]; omega), List.getElem?_eq_getElem _⟩
                obtain ⟨b, htb0⟩ : ∃ b, tk[k3]? = some b := ⟨tk[k3]'(by rw [HTKL.out, ← HZL.out]; omega), List.getElem?_eq_getElem _⟩
                have et : wr.cell? ⟨wa.heap.size, k3, none⟩ = some (.bool b) := (hbq.cell (p := ⟨wa.heap.size, k3, none⟩) htb).trans (TCELL HTK.out htb0)
                have HP := Lib.hid hp
                have HTB := Lib.hid htb0
                have hc2 : ∀ i x_1, z.l[i]? = some x_1 → ∀ j u, (plc x_1)[j]? = some u → wr.cell? ⟨b1, o1 + (i * 3 + j), none⟩ = some u := fun i x_1 h j u hu => (hbq.cell (p := ⟨b1, o1 + (i * 3 + j), none⟩) hb1).trans (hc1 i x_1 h j u hu)
                have i1 : (0 : Int) ≤ (k3 : Int) := by omega
                have i2 : (k3 : Int) < (k : Int) := by omega
                have htw : wa.heap.size < wr.heap.size := by omega
                have m0 : wr.cell? ⟨b1, o1 + k3 * 3, none⟩ = Option.some (.int .i64 p.id) := hc2 k3 p hp 0 _ rfl
                have m1 : wr.cell? ⟨b1, o1 + k3 * 3 + 1, none⟩ = Option.some (.int .i64 p.ra) := hc2 k3 p hp 1 _ rfl
                have m2 : wr.cell? ⟨b1, o1 + k3 * 3 + 2, none⟩ = Option.some (.int .u64 p.si) := hc2 k3 p hp 2 _ rfl
                clear hf hc1 hc2 hp htb0 hbq
                cases b with
                | true =>
                  go_wp2_with fail
                  go_roundw
                  case rel => exact ⟨k3 + 1, by have := HZL.out; omega, by go_num, HPS3.out.below ((Below.refl _ _).alloc (Nat.le_refl _) _), HGO3.out.below ((Below.refl _ _).alloc (Nat.le_refl _) _), by rw [lft_next HP.out HTB.out, if_pos rfl, List.append_nil]; exact HLF.out.below ((Below.refl _ _).alloc (Nat.le_refl _) _), HBQ.out.alloc HBQ.out.size _⟩
                  case measure => simp [intOf]; omega
                | false =>
                  go_wp2_with (at_builtin; refine wpList_append_ow (f := plc) (sz := 3) rfl _ _ 59 rfl wq.heap.size 71 (.agg #[.int .i64 0, .int .i64 0, .int .u64 0]) 24 Try.underlying59 info71 rfl (by decide) _ (lft z.l tk k3) rfl (HLF.out.below (by go_grown)) plc_ok _ [p] rfl (Rw.one2 _ _ p _ rfl _ _ (by simp)) ?ca4 ?cb4 (by go_size) ?_)
                  case ca4 => have q1 := HLN.out; simp only [maxLen, List.length_singleton]; omega
                  case cb4 => have q1 := HLN.out; simp only [List.length_singleton]; omega
                  intro v' wA hown hgrow hwh
                  have HL4 : Hid (Ow plc 3 71 wA wq.heap.size v' (lft z.l tk (k3 + 1))) := Lib.hid (by rw [lft_next HP.out HTB.out, if_neg (by simp)]; exact hown)
                  have HP4 : Hid (Ow dc 2 50 wA w.heap.size (.slice pa0 pn pc) ps) := Lib.hid ((HPS3.out.below (by go_grown)).grown hgrow (fun b hb e => HLF.out.ne HPS3.out (by decide) b ((ob_len _ _ _ _ _).trans e) hb))
                  have HG4 : Hid (Ow ic 1 3 wA w.heap.size (.slice ga gn gc) gs) := Lib.hid ((HGO3.out.below (by go_grown)).grown hgrow (fun b hb e => HLF.out.ne HGO3.out (by decide) b ((ob_len _ _ _ _ _).trans e) hb))
                  have hb4 : Below wq.heap.size wq wA := below_row (W := _) (((HBQ.out.alloc HBQ.out.size _)).alloc (by simp; omega) _) hgrow (by go_size) (fun q hq => (HLF.out.typ q ((ob_len _ _ _ _ _).trans hq)).1)
                  obtain ⟨ga2, gc2, hv'⟩ := hown.form
                  rw [List.length_append, List.length_singleton] at hv'
                  subst hv'
                  clear hown hgrow hwh
                  go_wp2_with fail
                  go_roundw
                  case rel => exact ⟨k3 + 1, by have := HZL.out; omega, by go_num, HP4.out, HG4.out, HL4.out, hb4⟩
                  case measure => simp [intOf]; omega
              · obtain rfl : k3 = k := by have := HZL.out; omega
                have g4 : wr.cell? ⟨P, 4, none⟩ = some (.slice sa k3 sc) := (hbq.cell (p := ⟨P, 4, none⟩) hPq).trans (HL.out.cell 4)
                have h4 : wr.frozen? ⟨P, 4, none⟩ = false := (hbq.frozen (p := ⟨P, 4, none⟩) hPq).trans (HL.out.free 4)
                clear hkl
                go_wp2_with fail
                exact bodyPost_ret (v := .tuple #[.slice pa0 pn pc, .slice ga gn gc, .int .i64 0]) (by simp [results, Try.results11, go_sem]) rfl (MFIN HYT.out HZ.out HYTO.out (HZL.out.symm ▸ HTKE.out) (HZL.out.symm ▸ HPSE.out) HGS.out HZL.out (HL.out.below HBQ.out) HPS3.out HGO3.out HLF.out (HO.out.grow HBQ.out) HO.out.size)

end Go.Proofs.Ytonaidjdkejoeaa
