/- The plain mathematics of a lobby: the theorem of the stage. -/
import Derived.Test.YtonaidjdkejoeaaPlE
set_option linter.unusedVariables false
namespace Go.Proofs.Ytonaidjdkejoeaa.Plain
/-- who waits: player i has rating i, and came at tick i -/
def Hx (rs : List Int) (x : Lb) : Prop := ∀ p ∈ x.l, ∃ i : Nat, i < rs.length ∧ p.id = (i : Int) ∧ p.si = (i : Int) ∧ rs[i]? = some p.ra
/-- the lobby after n players entered -/
def hl (ba st to : Int) (rs : List Int) (n : Nat) : Lb := ⟨ba, st, to, ((n - 1 : Nat) : Int), (List.range n).map (fun (i : Nat) => (⟨(i : Int), rs.getD i 0, (i : Int)⟩ : Pl))⟩
theorem hl_mem {ba st to : Int} {rs : List Int} {n : Nat} {p : Pl} (h : p ∈ (hl ba st to rs n).l) : ∃ i : Nat, i < n ∧ p = ⟨(i : Int), rs.getD i 0, (i : Int)⟩ := by
  simp only [hl, List.mem_map, List.mem_range] at h
  obtain ⟨a, ha, rfl⟩ := h
  exact ⟨a, ha, rfl⟩
theorem hl_zero (ba st to : Int) (rs : List Int) : hl ba st to rs 0 = ⟨ba, st, to, 0, []⟩ := rfl
theorem hl_fnd (ba st to : Int) (rs : List Int) (n : Nat) : fnd (hl ba st to rs n).l n = -1 := by
  apply fnd_none
  rw [List.findIdx_eq_length_of_false]
  · exact Nat.le_refl _
  · intro p hp
    obtain ⟨i, h1, rfl⟩ := hl_mem hp
    simp
    omega
theorem hl_enE {ba st to : Int} {rs : List Int} {n : Nat} {ra : Int} (h : n < 200) (hr : 0 ≤ ra ∧ ra ≤ 4000) : enE (hl ba st to rs n) n ra = 0 := by
  unfold enE
  rw [if_neg (by omega), hl_fnd, if_neg (by decide), if_neg (by simp [hl]; omega)]
theorem hl_next {ba st to : Int} {rs : List Int} {n : Nat} {ra : Int} (h : n < 200) (hr : 0 ≤ ra ∧ ra ≤ 4000) (hra : rs[n]? = some ra) : enX (hl ba st to rs n) n n ra = hl ba st to rs (n + 1) := by
  unfold enX
  rw [if_pos (hl_enE h hr)]
  have e : max (((n - 1 : Nat) : Int)) (n : Int) = (n : Int) := by omega
  simp only [hl, e, List.range_succ, List.map_append, List.map_cons, List.map_nil, Nat.add_sub_cancel, List.getD_eq_getElem?_getD, hra, Option.getD_some]
theorem hl_hx {ba st to : Int} {rs : List Int} {n : Nat} (h : n ≤ rs.length) : Hx rs (hl ba st to rs n) := fun p hp => by
  obtain ⟨i, h1, rfl⟩ := hl_mem hp
  refine ⟨i, by omega, rfl, rfl, ?_⟩
  simp only [List.getD_eq_getElem?_getD]
  rw [List.getElem?_eq_getElem (by omega)]
  rfl
theorem hl_nd (ba st to : Int) (rs : List Int) (n : Nat) : (hl ba st to rs n).Nd := fun i k p q hi hk e => by
  have hi1 := (List.getElem?_eq_some_iff.1 hi).1
  have hk1 := (List.getElem?_eq_some_iff.1 hk).1
  have hn : (hl ba st to rs n).l.length = n := by simp [hl]
  simp only [hl, List.getElem?_map, List.getElem?_range (show i < n by omega), List.getElem?_range (show k < n by omega), Option.map_some, Option.some.injEq] at hi hk
  subst hi hk
  simp only at e
  omega
theorem hl_now (ba st to : Int) (rs : List Int) (n : Nat) : (hl ba st to rs n).now = ((n - 1 : Nat) : Int) := rfl
theorem mtX_hx {rs : List Int} {x : Lb} (h : Hx rs x) (t : Int) : Hx rs (mtX x t) := fun p hp => h p (mtX_mem hp).1
theorem hx_id {rs : List Int} {x : Lb} (h : Hx rs x) {a : Int} (ha : a ∈ x.l.map Pl.id) : ∃ i : Nat, a = (i : Int) ∧ i < rs.length := by
  obtain ⟨p, hp, rfl⟩ := List.mem_map.1 ha
  obtain ⟨i, h1, h2, _⟩ := h p hp
  exact ⟨i, h2, h1⟩
/-- how often each number stands in one list, less how often it stands in another one -/
def cn (n : Nat) (L M : List Int) : List Int := (List.range n).map (fun (a : Nat) => (L.count (a : Int) : Int) - (M.count (a : Int) : Int))
theorem cn_len (n : Nat) (L M : List Int) : (cn n L M).length = n := by simp [cn]
theorem cn_at {n i : Nat} (L M : List Int) (h : i < n) : (cn n L M)[i]? = some ((L.count (i : Int) : Int) - (M.count (i : Int) : Int)) := by
  simp [cn, List.getElem?_range h]
theorem cn_set {n i : Nat} {L M L' M' : List Int} (h : i < n) {v : Int} (hv : v = (L'.count (i : Int) : Int) - (M'.count (i : Int) : Int)) (hL : ∀ a : Nat, a ≠ i → L'.count (a : Int) = L.count (a : Int)) (hM : ∀ a : Nat, a ≠ i → M'.count (a : Int) = M.count (a : Int)) : (cn n L M).set i v = cn n L' M' := by
  apply List.ext_getElem?
  intro k
  rcases Nat.lt_or_ge k n with hk | hk
  · rw [List.getElem?_set, cn_at L' M' hk]
    by_cases e : i = k
    · subst e
      rw [if_pos rfl, if_pos (by rw [cn_len]; exact h), hv]
    · rw [if_neg e, cn_at L M hk, hL k (fun h => e h.symm), hM k (fun h => e h.symm)]
  · rw [List.getElem?_eq_none (by rw [List.length_set, cn_len]; exact hk), List.getElem?_eq_none (by rw [cn_len]; exact hk)]
theorem count_app_ne {L : List Int} {a b : Int} (h : a ≠ b) : (L ++ [b]).count a = L.count a := by
  rw [List.count_append, List.count_singleton, if_neg (by simpa using fun e => h e.symm)]
  rfl
theorem cn_add {n i : Nat} {L M : List Int} (h : i < n) : (cn n L M).set i ((L.count (i : Int) : Int) - (M.count (i : Int) : Int) + 1) = cn n (L ++ [(i : Int)]) M :=
  cn_set h (by rw [List.count_append, List.count_singleton, if_pos (by simp)]; omega) (fun a ha => count_app_ne (by omega)) (fun a ha => rfl)
theorem cn_sub {n i : Nat} {L M : List Int} (h : i < n) : (cn n L M).set i ((L.count (i : Int) : Int) - (M.count (i : Int) : Int) - 1) = cn n L (M ++ [(i : Int)]) :=
  cn_set h (by rw [List.count_append, List.count_singleton, if_pos (by simp)]; omega) (fun a ha => rfl) (fun a ha => count_app_ne (by omega))
theorem cn_perm {n : Nat} {L M : List Int} (h : L.Perm M) : cn n L M = List.replicate n 0 := by
  unfold cn
  rw [List.map_congr_left (g := fun _ => (0 : Int)) (fun a _ => by rw [h.count_eq]; omega), List.map_const']
  simp
theorem cn_nil (n : Nat) : cn n [] [] = List.replicate n 0 := cn_perm (List.Perm.refl _)
theorem cn_bd (L M : List Int) (a : Int) : -(M.length : Int) ≤ (L.count a : Int) - (M.count a : Int) ∧ (L.count a : Int) - (M.count a : Int) ≤ L.length := by
  have h1 := List.count_le_length (a := a) (l := L)
  have h2 := List.count_le_length (a := a) (l := M)
  omega
theorem fp_next {ps : List (Int × Int)} {k : Nat} {p : Int × Int} (h : ps[k]? = some p) : fp (ps.take (k + 1)) = fp (ps.take k) ++ [p.1] ++ [p.2] := by
  unfold fp
  rw [List.take_add_one, h]
  simp
theorem fp_mem {ps : List (Int × Int)} {k : Nat} {p : Int × Int} (h : ps[k]? = some p) : p.1 ∈ fp ps ∧ p.2 ∈ fp ps := by
  have hm := List.mem_of_getElem? h
  unfold fp
  exact ⟨List.mem_flatMap.2 ⟨p, hm, by simp⟩, List.mem_flatMap.2 ⟨p, hm, by simp⟩⟩
theorem tk_next {l : List Int} {k : Nat} {a : Int} (h : l[k]? = some a) : l.take (k + 1) = l.take k ++ [a] := by
  rw [List.take_add_one, h]
  rfl
theorem mt_in {rs : List Int} {x : Lb} (h : Hx rs x) (t : Int) {a : Int} (ha : a ∈ fp (mtP x t) ++ mtG x t ++ (mtX x t).l.map Pl.id) : ∃ i : Nat, a = (i : Int) ∧ i < rs.length :=
  hx_id h ((match_perm x t).mem_iff.1 ha)
theorem fp_len (ps : List (Int × Int)) : (fp ps).length = 2 * ps.length := by
  induction ps with
  | nil => rfl
  | cons p ps ih => simp only [fp, List.flatMap_cons] at *; simp [ih]; omega
theorem mt_len2 (x : Lb) (t : Int) : 2 * (mtP x t).length + (mtG x t).length + (mtX x t).l.length = x.l.length := by
  have := (match_perm x t).length_eq
  simp only [List.length_append, List.length_map, fp_len] at this
  exact this
theorem left_time {rs : List Int} {x : Lb} (hx : Hx rs x) (ok : x.Ok) {t : Int} (ht : x.now ≤ t) {p : Pl} (h : p ∈ (mtX x t).l) : 0 ≤ p.id ∧ p.id ≤ t ∧ t - p.id < x.to := by
  have h1 := mtX_mem h
  obtain ⟨i, h2, h3, h4, h5⟩ := hx p h1.1
  have h6 := (ok.p p h1.1).s1
  have h7 := h1.2
  unfold gvn since at h7
  have h8 := of_decide_eq_false h7
  rw [h4] at h6 h8
  rw [h3]
  omega
theorem mtX_now {x : Lb} {t : Int} (ht : x.now ≤ t) : (mtX x t).now = t := by show max x.now t = t; omega
theorem left_fit {rs : List Int} {x : Lb} (hx : Hx rs x) (t : Int) {i k : Nat} {p q : Pl} {a b : Int} (hi : (mtX x t).l[i]? = some p) (hk : (mtX x t).l[k]? = some q) (hne : i ≠ k) (ha : (mtX x t).w p = a) (hb : (mtX x t).w q = b) : ¬ (ap p.ra q.ra ≤ a ∧ ap p.ra q.ra ≤ b) := by
  have h := left_nofit x t hi hk hne
  subst ha hb
  unfold fit at h
  intro h2
  simp [h2.1, h2.2] at h
end Go.Proofs.Ytonaidjdkejoeaa.Plain
