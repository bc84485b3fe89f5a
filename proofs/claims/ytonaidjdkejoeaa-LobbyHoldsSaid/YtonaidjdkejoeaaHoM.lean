/- LobbyHolds: small contracts. -/
import Derived.Test.YtonaidjdkejoeaaFullsW
import Derived.Test.YtonaidjdkejoeaaPlF
import Derived.Test.YtonaidjdkejoeaaSeg
import Derived.LoopTactic
namespace Go.Proofs.Ytonaidjdkejoeaa
open Go.RowKit Plain
set_option linter.unusedVariables false
set_option linter.unusedSimpArgs false

/-- a readable slice of numbers -/
theorem Rw.ints {w : World} {v : Value} {l : List Int} (h : Rw ic 1 w v l) : l.length ≤ 9223372036854775807 ∧ ∃ a cap, v = .slice a l.length cap ∧ (0 < l.length → ∃ b off, a = some ⟨b, off, none⟩ ∧ b < w.heap.size ∧ ∀ i z, l[i]? = some z → w.cell? ⟨b, off + i, none⟩ = some (.int .i64 z)) := by
  obtain ⟨h1, a, cap, rfl, h2⟩ := h.form
  refine ⟨h1, a, cap, rfl, fun h0 => ?_⟩
  obtain ⟨b, off, rfl, h3, h4⟩ := h2 h0
  refine ⟨b, off, rfl, h3, fun i z hz => ?_⟩
  have h5 := h4 i z hz 0 (.int .i64 z) rfl
  rw [Nat.mul_one, Nat.add_zero] at h5
  exact h5
theorem nowM (P : Nat) (x : Lb) (m : Int) (w W : World) (hm : Mine w W P x) (h : x.now = m) : Calls Try.prog 15 #[.pointer (some ⟨P, 0, none⟩)] W fun e w' => e = .returned (.int .u64 m) ∧ Below W.heap.size W w' := by
  obtain ⟨v, h3, h4⟩ := hm.lob
  subst h
  exact now15 P x v W h3 hm.ok.o0
theorem windowM (P : Nat) (x : Lb) (id n no : Int) (w W : World) (hm : Mine w W P x) (hn : winN x id = n) (he : winE x id = no) : Calls Try.prog 16 #[.pointer (some ⟨P, 0, none⟩), .int .i64 id] W fun e w' => e = .returned (.tuple #[.int .i64 n, .int .i64 no]) ∧ Below W.heap.size W w' := by
  obtain ⟨v, h3, h4⟩ := hm.lob
  exact window16c P x v id n no W h3 hm.ok hn he
theorem matchO (P : Nat) (x : Lb) (t : Int) (w W : World) (hm : Mine w W P x) (ht : U t) : Calls Try.prog 11 #[.pointer (some ⟨P, 0, none⟩), .int .u64 t] W fun e w' => ∃ pv gv, e = .returned (.tuple #[pv, gv, .int .i64 0]) ∧ Ow dc 2 50 w' W.heap.size pv (mtP x t) ∧ Ow ic 1 3 w' W.heap.size gv (mtG x t) ∧ Mine w w' P (mtX x t) ∧ Onl [P] W w' := by
  obtain ⟨v, h3, h4⟩ := hm.lob
  refine (match11 P x v t W h3 hm.ok ht).mono ?_
  rintro e w' ⟨pv, gv, v', rfl, h5, h6, h7, h8, h9⟩
  have h10 : MutAt P v W (.returned (.tuple #[pv, gv, .int .i64 0])) (mtX x t) (.returned (.tuple #[pv, gv, .int .i64 0])) w' := ⟨v', rfl, h7, fun b hb => .inr (h8 b hb), onl_foot h9⟩
  exact ⟨pv, gv, rfl, h5, h6, (hm.mut h4 (mtX_ok hm.ok ht) h10).2, h9⟩
theorem waitO (P : Nat) (x : Lb) (ids : List Int) (w W : World) (hm : Mine w W P x) (h : x.l.map Pl.id = ids) : Calls Try.prog 12 #[.pointer (some ⟨P, 0, none⟩)] W fun e w' => ∃ v, e = .returned v ∧ Ow ic 1 3 w' W.heap.size v ids ∧ Below W.heap.size W w' := by
  obtain ⟨v, h3, h4⟩ := hm.lob
  subst h
  exact (waiting12 P x v W h3 hm.ok.o0 hm.ok.len).mono fun e w' ⟨v, h1, h2, h3⟩ => ⟨v, h1, h2, h3⟩
/-- a row of our own that is not the lobby's block -/
theorem Mine.apart {w W : World} {P : Nat} {x : Lb} (h : Mine w W P x) {base : Nat} {v : Value} {l : List Int} (ho : Ow ic 1 3 W base v l) : ∀ b, v.ownBlock = some b → b ∉ [P] := by
  obtain ⟨u, h1, h2⟩ := h.lob
  intro b hb
  have h3 := h1.notP ho (by decide)
  simp only [List.mem_singleton]
  rintro rfl
  exact h3 hb
theorem made_int (n : Nat) : (madeCells #[Value.int .i64 0] n).toList = (List.replicate n (0 : Int)).flatMap ic := by
  apply List.ext_getElem
  · rw [flat_length (f := ic) (sz := 1) (fun _ _ => rfl)]
    simp [madeCells]
  · intro i h1 h2
    have h3 : i < n := by simpa [madeCells] using h1
    have h4 := flat_at (f := ic) (sz := 1) (l := List.replicate n (0 : Int)) (fun _ _ => rfl) (i := i) (j := 0) (x := 0) (u := .int .i64 0) (by simp [h3]) rfl
    rw [Nat.mul_one, Nat.add_zero, List.getElem?_eq_getElem h2] at h4
    simp only [Option.some.injEq] at h4
    rw [h4]
    simp [madeCells, Nat.mod_one]
theorem ICEL {w : World} {base g n cap : Nat} {l : List Int} (h : Ow ic 1 3 w base (.slice (some ⟨g, 0, none⟩) n cap) l) {i : Nat} {b : Int} (hb : l[i]? = some b) : w.cell? ⟨g, i, none⟩ = some (.int .i64 b) := by
  have hl := (List.getElem?_eq_some_iff.1 hb).1
  obtain ⟨a, c, e⟩ := h.form
  simp only [Value.slice.injEq] at e
  obtain ⟨_, rfl, _⟩ := e
  have h1 := World.ownsRow.cellAt h i (by omega)
  have h2 := flat_at (f := ic) (sz := 1) (fun _ _ => rfl) hb (j := 0) (u := .int .i64 b) rfl
  rw [Nat.mul_one, Nat.add_zero] at h2
  rw [h1, h2]
/-- a new row of zeros -/
theorem zeros_row (w : World) (n : Nat) (hn : n ≤ 30) : Ow ic 1 3 (w.alloc (.cells (madeCells #[Value.int .i64 0] n) 3)) w.heap.size (.slice (some ⟨w.heap.size, 0, none⟩) n n) (List.replicate n (0 : Int)) := by
  have h := Ow.lit (f := ic) (sz := 1) w 3 (List.replicate n (0 : Int)) (madeCells #[Value.int .i64 0] n) (made_int n) (fun _ _ => rfl) w.heap.size (Nat.le_refl _) (by simp [maxLen]; omega)
  rw [List.length_replicate] at h
  exact h
/-- a window of somebody who is left -/
theorem left_wnd {x : Lb} (ok : x.Ok) (nd : x.Nd) (t : Int) {i : Nat} {p : Pl} (h : (mtX x t).l[i]? = some p) : winE (mtX x t) p.id = 0 ∧ winN (mtX x t) p.id = (mtX x t).w p ∧ winN x p.id ≤ winN (mtX x t) p.id := by
  have h1 := winN_at (mtX_nd nd t) h
  have hm := (mtX_mem (List.mem_of_getElem? h)).1
  obtain ⟨k, hk⟩ := List.getElem?_of_mem hm
  have h2 := winN_at nd hk
  have e1 : winN (mtX x t) p.id = (mtX x t).w p := by
    unfold winN
    rw [if_pos h1.1, h1.2]
    rfl
  have e2 : winN x p.id = x.w p := by
    unfold winN
    rw [if_pos h2.1, h2.2]
    rfl
  refine ⟨by unfold winE; rw [if_pos h1.1], e1, ?_⟩
  rw [e1, e2]
  exact wnd_mono ok.t0 (by show x.now ≤ max x.now t; omega)
/-- how far the players entered -/
def EnRel (w1 : World) (P : Nat) (ba st to' : Int) (rs : List Int) (s : Value) (wr : World) : Prop := ∃ i : Nat, i ≤ rs.length ∧ s = .int .i64 i ∧ Mine w1 wr P (hl ba st to' rs i)
/-- after some turns -/
def TuRel (w1 : World) (P : Nat) (to' : Int) (rs : List Int) (a b : Value) (wr : World) : Prop := ∃ (k : Nat) (x : Lb) (now : Int), k ≤ 2 ∧ b = .int .i64 k ∧ a = .int .u64 now ∧ 0 ≤ now ∧ now ≤ 40 + 65535 * (k : Int) ∧ Mine w1 wr P x ∧ Hx rs x ∧ x.Nd ∧ x.now = now ∧ x.to = to'
/-- the windows so far -/
def OldRel (wa : World) (x : Lb) (n : Nat) (s : Value) (wr : World) : Prop := ∃ (j : Nat) (ol : List Int), j ≤ x.l.length ∧ s = .int .i64 j ∧ ol.length = n ∧ Ow ic 1 3 wr wa.heap.size (.slice (some ⟨wa.heap.size, 0, none⟩) n n) ol ∧ (∀ q p, q < j → x.l[q]? = some p → ol[p.id.toNat]? = some (winN x p.id)) ∧ Below wa.heap.size wa wr
/-- the counts so far -/
def CnRel (wa : World) (n m : Nat) (L M : Nat → List Int) (s : Value) (wr : World) : Prop := ∃ j : Nat, j ≤ m ∧ s = .int .i64 j ∧ Ow ic 1 3 wr wa.heap.size (.slice (some ⟨wa.heap.size, 0, none⟩) n n) (cn n (L j) (M j)) ∧ Below wa.heap.size wa wr
/-- the two lists -/
def LkL (ps : List (Int × Int)) (gs ws : List Int) : Nat → List Int
  | 0 => fp ps
  | 1 => fp ps ++ gs
  | _ => fp ps ++ gs ++ ws
def TwRel (wa wb : World) (n : Nat) (L : Nat → List Int) (s : Value) (wr : World) : Prop := ∃ j : Nat, j ≤ 2 ∧ s = .int .i64 j ∧ Ow ic 1 3 wr wa.heap.size (.slice (some ⟨wa.heap.size, 0, none⟩) n n) (cn n (L j) []) ∧ Onl [wa.heap.size] wb wr
def InRel (wa wb : World) (n : Nat) (pre zs : List Int) (s : Value) (wr : World) : Prop := ∃ j : Nat, j ≤ zs.length ∧ s = .int .i64 j ∧ Ow ic 1 3 wr wa.heap.size (.slice (some ⟨wa.heap.size, 0, none⟩) n n) (cn n (pre ++ zs.take j) []) ∧ Onl [wa.heap.size] wb wr
/-- nothing changes -/
def StRel (wa : World) (m : Nat) (s : Value) (wr : World) : Prop := ∃ j : Nat, j ≤ m ∧ s = .int .i64 j ∧ Below wa.heap.size wa wr
theorem old_next {x : Lb} {ol : List Int} {n j a : Nat} {p : Pl} (hp : x.l[j]? = some p) (ha : p.id = (a : Int)) (hn : a < n) (hl : ol.length = n) (hids : ∀ p ∈ x.l, 0 ≤ p.id) (h : ∀ q p, q < j → x.l[q]? = some p → ol[p.id.toNat]? = some (winN x p.id)) : ∀ q p, q < j + 1 → x.l[q]? = some p → (ol.set a (winN x (a : Int)))[p.id.toNat]? = some (winN x p.id) := by
  intro q p2 hq hp2
  rw [List.getElem?_set]
  by_cases e : a = p2.id.toNat
  · have e2 : p2.id = (a : Int) := by have := hids p2 (List.mem_of_getElem? hp2); omega
    rw [if_pos e, if_pos (by omega), e2]
  · rw [if_neg e]
    refine h q p2 ?_ hp2
    rcases Nat.lt_or_ge q j with h1 | h1
    · exact h1
    · obtain rfl : q = j := by omega
      rw [hp] at hp2
      cases hp2
      omega
end Go.Proofs.Ytonaidjdkejoeaa
