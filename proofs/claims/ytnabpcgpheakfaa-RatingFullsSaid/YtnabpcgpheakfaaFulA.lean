/- RatingFulls: the rows that the law makes, and the plain law. -/
import Derived.Test.YtnabpcgpheakfaaSerC
import Derived.Laws.MakeOwn
import Derived.Deep.OwnRows
namespace Go.Proofs.Ytnabpcgpheakfaa
open Go.RowKit Plain
set_option linter.unusedVariables false
set_option linter.unusedSimpArgs false

/-- the ratings that the law begins with, k of them set -/
def stK (P k : Nat) : List Int := (List.range P).map fun i => if i < k then 1000 else 0
theorem stK_len (P k : Nat) : (stK P k).length = P := by simp [stK]
theorem stK_get (P k i : Nat) (h : i < P) : (stK P k)[i]? = some (if i < k then 1000 else 0) := by simp [stK, h]
theorem stK_set (P k : Nat) : (stK P k).set k 1000 = stK P (k + 1) := by
  apply List.ext_getElem?
  intro i
  rcases Nat.lt_or_ge i P with h | h
  · by_cases e : k = i
    · subst e
      rw [List.getElem?_set_self (by rw [stK_len]; exact h), stK_get P _ k h, if_pos (by omega)]
    · rw [List.getElem?_set_ne e, stK_get P k i h, stK_get P _ i h]
      by_cases h2 : i < k
      · rw [if_pos h2, if_pos (by omega)]
      · rw [if_neg h2, if_neg (by omega)]
  · rw [List.getElem?_eq_none (by simp [stK_len]; exact h), List.getElem?_eq_none (by simp [stK_len]; exact h)]
theorem stK_all (P : Nat) : stK P P = List.replicate P 1000 := by
  apply List.ext_getElem?
  intro i
  rcases Nat.lt_or_ge i P with h | h
  · rw [stK_get P P i h, List.getElem?_replicate, if_pos h, if_pos h]
  · rw [List.getElem?_eq_none (by simp [stK_len]; exact h), List.getElem?_eq_none (by simpa using h)]
theorem made_int (n : Nat) : madeCells #[Value.int .i64 0] n = ((List.replicate n (0 : Int)).map (Value.int .i64) ++ []).toArray := by
  apply Array.ext
  · simp [madeCells]
  · intro i h1 h2
    simp [madeCells, Nat.mod_one]
theorem stK_zero (P : Nat) : stK P 0 = List.replicate P 0 := by
  apply List.ext_getElem?
  intro i
  rcases Nat.lt_or_ge i P with h | h
  · rw [stK_get P 0 i h, List.getElem?_replicate, if_pos h, if_neg (by omega)]
  · rw [List.getElem?_eq_none (by simp [stK_len]; exact h), List.getElem?_eq_none (by simpa using h)]
/-- the cells of the games, k of them set -/
def duK (G k : Nat) : List Value := (List.range (G * 2)).map fun j => .int .i64 (if j / 2 < k then (((j / 2 + j % 2) % 2 : Nat) : Int) else 0)
theorem duK_len (G k : Nat) : (duK G k).length = G * 2 := by simp [duK]
theorem duK_get (G k j : Nat) (h : j < G * 2) : (duK G k)[j]? = some (.int .i64 (if j / 2 < k then (((j / 2 + j % 2) % 2 : Nat) : Int) else 0)) := by simp [duK, h]
theorem duK_zero (G : Nat) : madeCells #[Value.int .i64 0, .int .i64 0] (G * 2) = (duK G 0).toArray := by
  apply Array.ext
  · simp [madeCells, duK]
  · intro i h1 h2
    have h3 : i % 2 = 0 ∨ i % 2 = 1 := by omega
    rcases h3 with h3 | h3 <;> simp [madeCells, duK, h3]
theorem duK_set (G k : Nat) (h : k < G) : ((duK G k).set (k * 2) (.int .i64 ((k % 2 : Nat) : Int))).set (k * 2 + 1) (.int .i64 (1 - ((k % 2 : Nat) : Int))) = duK G (k + 1) := by
  apply List.ext_getElem?
  intro i
  rcases Nat.lt_or_ge i (G * 2) with h1 | h1
  · rw [duK_get G _ i h1]
    by_cases e1 : k * 2 + 1 = i
    · subst e1
      rw [List.getElem?_set_self (by simp [duK_len]; omega), if_pos (by omega)]
      congr 2
      omega
    · rw [List.getElem?_set_ne e1]
      by_cases e2 : k * 2 = i
      · subst e2
        rw [List.getElem?_set_self (by simp [duK_len]; omega), if_pos (by omega)]
        congr 2
        omega
      · rw [List.getElem?_set_ne e2, duK_get G k i h1]
        by_cases h2 : i / 2 < k
        · rw [if_pos h2, if_pos (by omega)]
        · rw [if_neg h2, if_neg (by omega)]
  · rw [List.getElem?_eq_none (by simp [duK_len]; omega), List.getElem?_eq_none (by simp [duK_len]; omega)]
/-- the games -/
def gms (G : Nat) : List (List Int) := (List.range G).map fun i => [((i % 2 : Nat) : Int), 1 - ((i % 2 : Nat) : Int)]
theorem gms_len (G : Nat) : (gms G).length = G := by simp [gms]
theorem gms_get (G i : Nat) (h : i < G) : (gms G)[i]? = some [((i % 2 : Nat) : Int), 1 - ((i % 2 : Nat) : Int)] := by simp [gms, h]
/-- the games in a block of their own -/
def GAt (W : World) (g G k : Nat) : Prop := W.heap[g]? = some (.cells (duK G k).toArray 46 (0, 0))
theorem GAt.lt {W : World} {g G k : Nat} (h : GAt W g G k) : g < W.heap.size := (Array.getElem?_eq_some_iff.1 h).1
theorem GAt.below {W W' : World} {g G k : Nat} (h : GAt W g G k) (hb : Below W.heap.size W W') : GAt W' g G k := (hb.block g h.lt).trans h
theorem GAt.cell {W : World} {g G k j : Nat} (h : GAt W g G k) (hj : j < G * 2) : W.cell? ⟨g, j, none⟩ = some (.int .i64 (if j / 2 < k then (((j / 2 + j % 2) % 2 : Nat) : Int) else 0)) := by
  rw [cell_of_row W g j _ 46 (0, 0) h]
  rw [List.getElem?_toArray]
  exact duK_get G k j hj
theorem GAt.free {W : World} {g G k : Nat} (h : GAt W g G k) (i : Nat) : W.frozen? ⟨g, i, none⟩ = false := frozen_of_row W g i _ 46 h
theorem GAt.set {W : World} {g G k : Nat} (h : GAt W g G k) (hk : k < G) {a b : Int} (ha : a = ((k % 2 : Nat) : Int)) (hb : b = 1 - ((k % 2 : Nat) : Int)) : GAt ((W.setCell ⟨g, k * 2, none⟩ (.int .i64 a)).setCell ⟨g, k * 2 + 1, none⟩ (.int .i64 b)) g G (k + 1) := by
  subst ha hb
  have h1 : (W.setCell ⟨g, k * 2, none⟩ (.int .i64 ((k % 2 : Nat) : Int))).heap[g]? = some (.cells ((duK G k).set (k * 2) (.int .i64 ((k % 2 : Nat) : Int))).toArray 46 (0, 0)) := by
    rw [heap_setCell_same W g _ _ 46 _ h]
    simp
  unfold GAt
  rw [heap_setCell_same _ g _ _ 46 _ h1, ← duK_set G k hk]
  simp
theorem GAt.srow {W : World} {g G : Nat} (h : GAt W g G G) (h1 : 1 ≤ G) (h2 : G ≤ 2000) : SRow [.i64, .i64] W (.slice (some ⟨g, 0, none⟩) G G) (gms G) := by
  have hl := gms_len G
  refine .inr ⟨by intro e; rw [e] at hl; simp at hl; omega, by unfold maxLen; omega, g, 0, G, by rw [hl], h.lt, fun i r hi => ?_⟩
  have hi2 : i < G := by have := (List.getElem?_eq_some_iff.1 hi).1; omega
  rw [gms_get G i hi2] at hi
  simp at hi
  subst hi
  refine ⟨rfl, fun j k z hk hz => ?_⟩
  have hj : j = 0 ∨ j = 1 := by
    have := (List.getElem?_eq_some_iff.1 hz).1
    simp at this
    omega
  have hc := h.cell (j := i * 2 + j) (by omega)
  rw [if_pos (by omega)] at hc
  rcases hj with rfl | rfl
  · simp at hk hz
    subst hk hz
    refine ⟨?_, by simp [Lit.wf, IntKind.min, IntKind.max, IntKind.signed, IntKind.bits]; omega⟩
    rw [Nat.zero_add]
    simp only [List.length_cons, List.length_nil]
    rw [hc]
    congr 2
    omega
  · simp at hk hz
    subst hk hz
    refine ⟨?_, by simp [Lit.wf, IntKind.min, IntKind.max, IntKind.signed, IntKind.bits]; omega⟩
    rw [Nat.zero_add]
    simp only [List.length_cons, List.length_nil]
    rw [hc]
    congr 2
    omega
theorem seg_made (w : World) (T : TypeId) (G : Nat) (h1 : 1 ≤ G) (h2 : G ≤ 2000) : Seg (w.alloc (.cells (madeCells #[Value.int .i64 0] G) T)) .i64 (.slice (some ⟨w.heap.size, 0, none⟩) G G) (List.replicate G 0) := by
  refine .inr ⟨by intro e; have := congrArg List.length e; simp at this; omega, by simp [maxLen]; omega, w.heap.size, 0, G, by simp, by simp, fun i z hi => ?_⟩
  rw [List.getElem?_replicate] at hi
  split at hi
  · rename_i hi2
    simp at hi
    subst hi
    simp [madeCells, hi2, Nat.mod_one]
  · simp at hi
/-- who plays with whom keeps the sum of the first two -/
theorem plK_sum (f : Int) (G : Nat) (scs : List Int) (P : Nat) (hP : 2 ≤ P) : ∀ k, k ≤ G → (plK f (List.replicate P 1000) (gms G) scs k).getD 0 0 + (plK f (List.replicate P 1000) (gms G) scs k).getD 1 0 = 2000
  | 0, _ => by
    obtain ⟨n, rfl⟩ : ∃ n, P = n + 2 := ⟨P - 2, by omega⟩
    simp [plK, List.replicate_succ]
  | k + 1, h => by
    have ih := plK_sum f G scs P hP k (by omega)
    have hl := plK_len f (List.replicate P 1000) (gms G) scs k
    rw [List.length_replicate] at hl
    have hg : (gms G).getD k [] = [((k % 2 : Nat) : Int), 1 - ((k % 2 : Nat) : Int)] := by rw [List.getD_eq_getElem?_getD, gms_get G k (by omega)]; rfl
    simp only [plK, hg]
    generalize plK f (List.replicate P 1000) (gms G) scs k = ys at ih hl
    obtain ⟨y0, y1, r, rfl⟩ : ∃ y0 y1 r, ys = y0 :: y1 :: r := by
      match ys, hl with
      | [], hl => simp at hl; omega
      | [_], hl => simp at hl; omega
      | a :: b :: r, _ => exact ⟨a, b, r, rfl⟩
    have h3 : k % 2 = 0 ∨ k % 2 = 1 := by omega
    rcases h3 with h3 | h3 <;> simp [h3, st1] at ih ⊢ <;> omega
theorem no_bad (G P : Nat) (hP : 2 ≤ P) : (gms G).any (badR P) = false := by
  rw [List.any_eq_false]
  intro r hr
  obtain ⟨i, hi, rfl⟩ := List.mem_map.1 hr
  simp [badR, dB, inB]
  omega
theorem ser_ok (P G : Nat) (hP : 2 ≤ P) : serNo 1 (List.replicate P 1000) (gms G) (List.replicate G 0) = 0 := by
  have h1 := no_bad G P hP
  have h2 : ((List.replicate P (1000 : Int)).any fun z => !vB z) = false := by
    rw [List.any_eq_false]
    intro z hz
    rw [List.eq_of_mem_replicate hz]
    decide
  have h3 : ((List.replicate G (0 : Int)).any fun s => !sB s) = false := by
    rw [List.any_eq_false]
    intro z hz
    rw [List.eq_of_mem_replicate hz]
    decide
  unfold serNo
  simp only [List.length_replicate, gms_len, h1, h2, h3]
  simp [sel, fB]
end Go.Proofs.Ytnabpcgpheakfaa
