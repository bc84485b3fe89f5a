/- The plain mathematics of a lobby: as many as may wait. -/
import Derived.Test.YtonaidjdkejoeaaPlC
set_option linter.unusedVariables false
namespace Go.Proofs.Ytonaidjdkejoeaa.Plain
theorem rk_pos {tk : List Bool} : ∀ n, 0 < rk tk n → ∃ a, a < n ∧ tk[a]? = some false
  | 0, h => by simp [rk] at h
  | n + 1, h => by
    cases hb : tk[n]? with
    | none =>
      have hl : tk.length ≤ n := List.getElem?_eq_none_iff.1 hb
      have e : rk tk (n + 1) = rk tk n := by unfold rk; rw [List.take_of_length_le (by omega), List.take_of_length_le hl]
      rw [e] at h
      obtain ⟨a, h1, h2⟩ := rk_pos n h
      exact ⟨a, by omega, h2⟩
    | some b =>
      cases b with
      | false => exact ⟨n, by omega, hb⟩
      | true =>
        rw [rk_succ hb, if_pos rfl] at h
        obtain ⟨a, h1, h2⟩ := rk_pos n (by omega)
        exact ⟨a, by omega, h2⟩
theorem rk_one {tk : List Bool} (h : ∀ a b : Nat, tk[a]? = some false → tk[b]? = some false → a = b) : ∀ n, rk tk n ≤ 1
  | 0 => by simp [rk]
  | n + 1 => by
    have ih := rk_one h n
    cases hb : tk[n]? with
    | none =>
      have hl : tk.length ≤ n := List.getElem?_eq_none_iff.1 hb
      have e : rk tk (n + 1) = rk tk n := by unfold rk; rw [List.take_of_length_le (by omega), List.take_of_length_le hl]
      omega
    | some b =>
      rw [rk_succ hb]
      cases b with
      | true => simp; omega
      | false =>
        rcases Nat.eq_zero_or_pos (rk tk n) with h0 | h0
        · simp; omega
        · obtain ⟨a, h1, h2⟩ := rk_pos n h0
          have := h a n h2 hb
          omega
/-- who is left, and twice the pairs, are all -/
theorem mtc_sum (z : Lb) : ∀ j, j ≤ z.l.length → (lft z.l (mtc z j).1 z.l.length).length + 2 * (mtc z j).2.length = z.l.length
  | 0, _ => by
    unfold mtc
    simp only
    rw [lft_none _ _ (Nat.le_refl _)]
    simp
  | j + 1, h => by
    have ih := mtc_sum z j (by omega)
    obtain ⟨_, h1 | h1 | h1⟩ := mtc_case z (j := j) (by omega)
    · rw [h1.2]; exact ih
    · rw [h1.2.2]; exact ih
    · obtain ⟨m, p, q, h2, h3, h4, h5, h6, h7, h8, h9, h10⟩ := h1
      have hlt := mtc_later (by omega) h2 h5 h6 h7 h8 h9
      have hk := mtc_lft (mt_len z j) hlt h4 h2 h6
      rw [h10]
      simp only
      rw [hk.1, List.length_append, List.length_singleton]
      have e := lft_length (mt_len z j) z.l.length (Nat.le_refl _)
      have g := rk_lt h4 h6
      have l1 : ((lft z.l (mtc z j).1 z.l.length).eraseIdx (rk (mtc z j).1 m)).length = (lft z.l (mtc z j).1 z.l.length).length - 1 := by rw [List.length_eraseIdx, if_pos (by omega)]
      have l2 : (((lft z.l (mtc z j).1 z.l.length).eraseIdx (rk (mtc z j).1 m)).eraseIdx (rk (mtc z j).1 j)).length = ((lft z.l (mtc z j).1 z.l.length).eraseIdx (rk (mtc z j).1 m)).length - 1 := by rw [List.length_eraseIdx, if_pos (by have := hk.2.2; omega)]
      have := hk.2.2
      omega
/-- where all fit, at most one is left -/
theorem mtc_all {z : Lb} (hf : ∀ p ∈ z.l, ∀ q ∈ z.l, fit z p q = true) : (lft z.l (mtc z z.l.length).1 z.l.length).length ≤ 1 := by
  rw [lft_length (mt_len z _) _ (Nat.le_refl _)]
  refine rk_one (fun a b ha hb => ?_) _
  have hla := (List.getElem?_eq_some_iff.1 ha).1
  have hlb := (List.getElem?_eq_some_iff.1 hb).1
  rw [mt_len] at hla hlb
  refine Classical.byContradiction fun hne => ?_
  have h1 := mtc_inv z z.l.length (Nat.le_refl _) a b hla hlb ha hb hne
  have ea : z.l[a]? = some z.l[a] := List.getElem?_eq_getElem hla
  have eb : z.l[b]? = some z.l[b] := List.getElem?_eq_getElem hlb
  rw [getD_of ea, getD_of eb, hf _ (List.getElem_mem hla) _ (List.getElem_mem hlb)] at h1
  cases h1
/-- the lobby of the law Fulls, when n have entered -/
def fl (n : Nat) : Lb := ⟨0, 100, 1000, 0, (List.range n).map (fun (i : Nat) => (⟨(i : Int), 20 * (i : Int) % 4001, 0⟩ : Pl))⟩
theorem fl_len (n : Nat) : (fl n).l.length = n := by simp [fl]
theorem fl_mem {n : Nat} {p : Pl} (h : p ∈ (fl n).l) : 0 ≤ p.id ∧ p.id < n ∧ 0 ≤ p.ra ∧ p.ra ≤ 4000 ∧ p.si = 0 := by
  simp only [fl, List.mem_map, List.mem_range] at h
  obtain ⟨i, hi, rfl⟩ := h
  exact ⟨by simp only; omega, by simp only; omega, by simp only; omega, by simp only; omega, rfl⟩
theorem fl_ok {n : Nat} (h : n ≤ 200) : (fl n).Ok := by
  refine ⟨by simp [fl], by simp [fl], by simp [fl], by simp [fl], by simp [fl], by simp [fl], by simp [fl, U], fun p hp => ?_, by rw [fl_len]; exact h⟩
  have := fl_mem hp
  exact ⟨this.1, by omega, this.2.2.1, this.2.2.2.1, by omega, by show p.si ≤ 0; omega⟩
theorem fl_fnd {n : Nat} {id : Int} (h : (n : Int) ≤ id) : fnd (fl n).l id = -1 := by
  have hb := fnd_bd (fl n).l id
  by_cases h0 : 0 ≤ fnd (fl n).l id
  · obtain ⟨p, hp, he⟩ := hb.2.2 h0
    have := fl_mem (List.mem_of_getElem? hp)
    omega
  · omega
theorem fl_enE {n : Nat} {id ra : Int} (h : (n : Int) ≤ id) (h2 : id ≤ 1000000) (hr : 0 ≤ ra ∧ ra ≤ 4000) : enE (fl n) id ra = if 200 ≤ n then 7 else 0 := by
  unfold enE
  rw [if_neg (by omega), fl_fnd h, if_neg (by omega), fl_len]
theorem fl_next {n : Nat} (h : n < 200) : enX (fl n) 0 n (20 * (n : Int) % 4001) = fl (n + 1) := by
  unfold enX
  have e : enE (fl n) n (20 * (n : Int) % 4001) = 0 := by rw [fl_enE (by omega) (by omega) (by omega), if_neg (by omega)]
  rw [if_pos e]
  unfold fl
  simp [List.range_succ]
theorem fl_full {id ra : Int} (h : 200 ≤ id) (h2 : id ≤ 1000000) (hr : 0 ≤ ra ∧ ra ≤ 4000) : enX (fl 200) 0 id ra = fl 200 := by
  unfold enX
  have e : enE (fl 200) id ra = 7 := by rw [fl_enE (by omega) h2 hr, if_pos (Nat.le_refl _)]
  rw [if_neg (by omega)]
theorem fl_match {n : Nat} (h : n ≤ 200) : (mtP (fl n) 40).length = n / 2 ∧ mtG (fl n) 40 = [] ∧ (mtX (fl n) 40).l.length = n % 2 := by
  have hg : ∀ p ∈ (fl n).l, gvn (fl n).to ((fl n).at 40).now p = false := fun p hp => by
    have := (fl_mem hp).2.2.2.2
    unfold gvn since
    simp [fl, Lb.at, this]
    omega
  have hs : ((fl n).at 40).stay.l = (fl n).l := by
    show (fl n).l.filter _ = _
    rw [List.filter_eq_self]
    intro p hp
    have := hg p hp
    simp only [Bool.not_eq_true']
    exact this
  have hl : ((fl n).at 40).stay.l.length = n := by rw [hs, fl_len]
  have hfit : ∀ p ∈ ((fl n).at 40).stay.l, ∀ q ∈ ((fl n).at 40).stay.l, fit ((fl n).at 40).stay p q = true := by
    intro p hp q hq
    rw [hs] at hp hq
    have h1 := fl_mem hp
    have h2 := fl_mem hq
    have e : ∀ r : Pl, r.si = 0 → (((fl n).at 40).stay).w r = 4000 := fun r hr => by
      unfold Lb.w wnd since
      simp [fl, Lb.at, Lb.stay, hr]
      omega
    unfold fit
    rw [e p h1.2.2.2.2, e q h2.2.2.2.2]
    unfold ap
    simp
    omega
  have h1 := mtc_sum ((fl n).at 40).stay _ (Nat.le_refl _)
  have h2 := mtc_all hfit
  rw [hl] at h1 h2
  refine ⟨?_, ?_, ?_⟩
  · unfold mtP
    rw [hl]
    omega
  · unfold mtG
    rw [List.filter_eq_nil_iff.2 (fun p hp => by rw [hg p hp]; simp)]
    rfl
  · unfold mtX
    rw [hl]
    show (lft _ _ _).length = _
    omega
end Go.Proofs.Ytonaidjdkejoeaa.Plain
