/- The plain mathematics of a lobby: pairs among those who are left. -/
import Derived.Test.YtonaidjdkejoeaaPlB
namespace Go.Proofs.Ytonaidjdkejoeaa.Plain
theorem ap_comm (a b : Int) : ap a b = ap b a := by unfold ap; omega
theorem fit_comm (x : Lb) (p q : Pl) : fit x p q = fit x q p := by
  unfold fit
  rw [ap_comm p.ra q.ra, Bool.and_comm]
theorem pa_neg {x : Lb} {i : Nat} {tk : List Bool} : ∀ n, pa x i tk n < 0 → ∀ k, k < n → can x i tk k = false
  | 0, _, k, hk => by omega
  | n + 1, h, k, hk => by
    by_cases hc : can x i tk n = true
    · exfalso
      have hb := pa_bd x i tk n
      by_cases h2 : pa x i tk n < 0
      · rw [pa_yes hc (.inl h2)] at h
        omega
      · unfold pa at h
        split at h
        · omega
        · exact h2 h
    · have hc' : can x i tk n = false := by simpa using hc
      rw [pa_no hc'] at h
      rcases Nat.lt_or_ge k n with h1 | h1
      · exact pa_neg n h k h1
      · obtain rfl : k = n := by omega
        exact hc'
/-- how many of the first n are not taken -/
def rk (tk : List Bool) (n : Nat) : Nat := ((tk.take n).filter (fun b => !b)).length
theorem rk_succ {tk : List Bool} {n : Nat} {b : Bool} (h : tk[n]? = some b) : rk tk (n + 1) = rk tk n + if b = true then 0 else 1 := by
  unfold rk
  rw [List.take_add_one, h, List.filter_append, List.length_append]
  cases b <;> simp
theorem rk_mono {tk : List Bool} : ∀ {n m : Nat}, n ≤ m → rk tk n ≤ rk tk m
  | n, 0, h => by obtain rfl : n = 0 := by omega
                  exact Nat.le_refl _
  | n, m + 1, h => by
    rcases Nat.lt_or_ge n (m + 1) with h1 | h1
    · have h2 := rk_mono (tk := tk) (n := n) (m := m) (by omega)
      cases hm : tk[m]? with
      | none =>
        have hl : tk.length ≤ m := List.getElem?_eq_none_iff.1 hm
        have e : rk tk (m + 1) = rk tk m := by unfold rk; rw [List.take_of_length_le (by omega), List.take_of_length_le hl]
        omega
      | some b => rw [rk_succ hm]; omega
    · obtain rfl : n = m + 1 := by omega
      exact Nat.le_refl _
theorem rk_lt {tk : List Bool} {n m : Nat} (h : n < m) (hn : tk[n]? = some false) : rk tk n < rk tk m := by
  have h1 := rk_succ hn
  have h2 := rk_mono (tk := tk) (n := n + 1) (m := m) h
  simp at h1
  omega
theorem rk_inj {tk : List Bool} {n m : Nat} (hn : tk[n]? = some false) (hm : tk[m]? = some false) (h : rk tk n = rk tk m) : n = m := by
  rcases Nat.lt_trichotomy n m with h1 | h1 | h1
  · have := rk_lt h1 hn; omega
  · exact h1
  · have := rk_lt h1 hm; omega
theorem lft_length {l : List Pl} {tk : List Bool} (hl : tk.length = l.length) : ∀ n, n ≤ l.length → (lft l tk n).length = rk tk n
  | 0, _ => by simp [lft, rk]
  | n + 1, h => by
    have hp : l[n]? = some l[n] := List.getElem?_eq_getElem (by omega)
    have hb : tk[n]? = some (tk[n]'(by omega)) := List.getElem?_eq_getElem (by omega)
    rw [lft_next hp hb, rk_succ hb, List.length_append, lft_length hl n (by omega)]
    cases tk[n] <;> simp
theorem lft_prefix {l : List Pl} {tk : List Bool} (hl : tk.length = l.length) {n : Nat} : ∀ m, n ≤ m → m ≤ l.length → ∃ r, lft l tk m = lft l tk n ++ r
  | 0, h, _ => by obtain rfl : n = 0 := by omega
                  exact ⟨[], by simp⟩
  | m + 1, h, hm => by
    rcases Nat.lt_or_ge n (m + 1) with h1 | h1
    · obtain ⟨r, hr⟩ := lft_prefix hl (n := n) m (by omega) (by omega)
      have hp : l[m]? = some l[m] := List.getElem?_eq_getElem (by omega)
      have hb : tk[m]? = some (tk[m]'(by omega)) := List.getElem?_eq_getElem (by omega)
      rw [lft_next hp hb, hr]
      exact ⟨_, List.append_assoc _ _ _⟩
    · obtain rfl : n = m + 1 := by omega
      exact ⟨[], by simp⟩
/-- the i-th of those who are left -/
theorem lft_at {l : List Pl} {tk : List Bool} (hl : tk.length = l.length) {n : Nat} {p : Pl} (hp : l[n]? = some p) (hb : tk[n]? = some false) : (lft l tk l.length)[rk tk n]? = some p := by
  have hn := (List.getElem?_eq_some_iff.1 hp).1
  have h1 := lft_next hp hb
  obtain ⟨r, hr⟩ := lft_prefix (l := l) hl (n := n + 1) l.length (by omega) (Nat.le_refl _)
  rw [hr, h1, List.append_assoc, List.getElem?_append_right (by rw [lft_length hl n (by omega)]; exact Nat.le_refl _), lft_length hl n (by omega)]
  simp
/-- the lobby of those who are left -/
def Lb.lf (x : Lb) (tk : List Bool) : Lb := { x with l := lft x.l tk x.l.length }
theorem can_lf {x : Lb} {tk : List Bool} (hl : tk.length = x.l.length) {j m : Nat} {p q : Pl} (hj : x.l[j]? = some p) (hbj : tk[j]? = some false) (hm : x.l[m]? = some q) (hbm : tk[m]? = some false) {N : Nat} (hN : rk tk m < N) :
    can (x.lf tk) (rk tk j) (List.replicate N false) (rk tk m) = can x j tk m := by
  rw [can_of (x := x) hj hm hbm, can_of (x := x.lf tk) (lft_at hl hj hbj) (lft_at hl hm hbm) (b := false) (by rw [List.getElem?_replicate, if_pos hN])]
  have e : (rk tk m != rk tk j) = (m != j) := by
    rw [Bool.eq_iff_iff]
    simp only [bne_iff_ne, ne_eq]
    constructor
    · intro h h2
      exact h (by rw [h2])
    · intro h h2
      exact h (rk_inj hbm hbj h2)
  rw [e]
  rfl
/-- the best partner among all, and among those who are left -/
theorem pa_lf {x : Lb} {tk : List Bool} (hl : tk.length = x.l.length) {j : Nat} {p : Pl} (hj : x.l[j]? = some p) (hbj : tk[j]? = some false) {N : Nat} (hN : N = (lft x.l tk x.l.length).length) : ∀ n, n ≤ x.l.length →
    (pa x j tk n = -1 ∧ pa (x.lf tk) (rk tk j) (List.replicate N false) (rk tk n) = -1) ∨ (∃ m : Nat, pa x j tk n = m ∧ m < n ∧ tk[m]? = some false ∧ pa (x.lf tk) (rk tk j) (List.replicate N false) (rk tk n) = (rk tk m : Nat))
  | 0, _ => .inl ⟨rfl, by simp [rk, pa]⟩
  | n + 1, h => by
    have hq : x.l[n]? = some x.l[n] := List.getElem?_eq_getElem (by omega)
    have hb : tk[n]? = some (tk[n]'(by omega)) := List.getElem?_eq_getElem (by omega)
    obtain ⟨q, hq⟩ : ∃ q, x.l[n]? = some q := ⟨_, hq⟩
    obtain ⟨b, hb⟩ : ∃ b, tk[n]? = some b := ⟨_, hb⟩
    have ih := pa_lf hl hj hbj hN n (by omega)
    cases b with
    | true =>
      have hc : can x j tk n = false := by rw [can_of hj hq hb]; simp
      rw [pa_no hc, rk_succ hb]
      rcases ih with h1 | ⟨m, h1, h2, h3, h4⟩
      · exact .inl h1
      · exact .inr ⟨m, h1, by omega, h3, h4⟩
    | false =>
      have hrn : rk tk n < N := by
        rw [hN, lft_length hl _ (Nat.le_refl _)]
        exact rk_lt (by omega) hb
      have hc := can_lf hl hj hbj hq hb hrn
      rw [rk_succ hb, if_neg (by simp)]
      cases hcv : can x j tk n with
      | false =>
        rw [hcv] at hc
        rw [pa_no hcv, pa_no hc]
        rcases ih with h1 | ⟨m, h1, h2, h3, h4⟩
        · exact .inl h1
        · exact .inr ⟨m, h1, by omega, h3, h4⟩
      | true =>
        rw [hcv] at hc
        have ei := getD_of (d := noPl) hj
        have ei' := getD_of (d := noPl) (lft_at hl hj hbj)
        have en := getD_of (d := noPl) hq
        have en' := getD_of (d := noPl) (lft_at hl hq hb)
        rcases ih with h1 | ⟨m, h1, h2, h3, h4⟩
        · rw [pa_yes hcv (.inl (by omega)), pa_yes hc (.inl (by omega))]
          exact .inr ⟨n, rfl, by omega, hb, rfl⟩
        · have hz : x.l[m]? = some x.l[m] := List.getElem?_eq_getElem (by omega)
          obtain ⟨z, hz⟩ : ∃ z, x.l[m]? = some z := ⟨_, hz⟩
          have em := getD_of (d := noPl) hz
          have em' := getD_of (d := noPl) (lft_at hl hz h3)
          by_cases hd : ap p.ra q.ra < ap p.ra z.ra
          · rw [pa_yes hcv (.inr (by rw [h1, Int.toNat_natCast, ei, en, em]; exact hd)), pa_yes hc (.inr (by
              rw [h4, Int.toNat_natCast]
              show ap ((lft x.l tk x.l.length).getD _ noPl).ra ((lft x.l tk x.l.length).getD _ noPl).ra < ap ((lft x.l tk x.l.length).getD _ noPl).ra ((lft x.l tk x.l.length).getD _ noPl).ra
              rw [ei', en', em']
              exact hd))]
            exact .inr ⟨n, rfl, by omega, hb, rfl⟩
          · rw [pa_less (by rw [h1, Int.toNat_natCast, ei, en, em]; omega), pa_less (by
              rw [h4, Int.toNat_natCast]
              show ¬ (_ ∨ ap ((lft x.l tk x.l.length).getD _ noPl).ra ((lft x.l tk x.l.length).getD _ noPl).ra < ap ((lft x.l tk x.l.length).getD _ noPl).ra ((lft x.l tk x.l.length).getD _ noPl).ra)
              rw [ei', en', em']
              omega)]
            exact .inr ⟨m, h1, by omega, h3, h4⟩
theorem rk_set {tk : List Bool} {m : Nat} {b : Bool} {n : Nat} (h : n ≤ m) : rk (tk.set m b) n = rk tk n := by
  unfold rk
  rw [List.take_set_of_le h]
theorem lft_set_le {l : List Pl} {tk : List Bool} {m : Nat} {b : Bool} : ∀ n, n ≤ m → lft l (tk.set m b) n = lft l tk n := by
  intro n h
  unfold lft
  rw [List.zip, List.take_zipWith, List.take_zipWith, List.take_set_of_le h]
theorem lft_set {l : List Pl} {tk : List Bool} (hl : tk.length = l.length) {m : Nat} (hm : tk[m]? = some false) : ∀ n, m < n → n ≤ l.length → lft l (tk.set m true) n = (lft l tk n).eraseIdx (rk tk m)
  | 0, h, _ => by omega
  | n + 1, h, hn => by
    have hp : l[n]? = some l[n] := List.getElem?_eq_getElem (by omega)
    obtain ⟨p, hp⟩ : ∃ p, l[n]? = some p := ⟨_, hp⟩
    rcases Nat.lt_or_ge m n with h1 | h1
    · have hb : tk[n]? = some (tk[n]'(by omega)) := List.getElem?_eq_getElem (by omega)
      have hb' : (tk.set m true)[n]? = some (tk[n]'(by omega)) := by rw [List.getElem?_set_ne (by omega), hb]
      rw [lft_next hp hb, lft_next hp hb', lft_set hl hm n h1 (by omega), List.eraseIdx_append_of_lt_length (by rw [lft_length hl n (by omega)]; exact rk_lt h1 hm)]
    · obtain rfl : m = n := by omega
      have hb' : (tk.set m true)[m]? = some true := by rw [List.getElem?_set_self (by omega)]
      rw [lft_next hp hm, lft_next hp hb', if_pos rfl, if_neg (by simp), List.append_nil, lft_set_le m (Nat.le_refl _), List.eraseIdx_append_of_length_le (by rw [lft_length hl m (by omega)]; exact Nat.le_refl _), lft_length hl m (by omega)]
      simp
/-- no one of the first j who are left fits anyone who is left -/
def Inv (z : Lb) (j : Nat) (tk : List Bool) : Prop := ∀ a b : Nat, a < j → b < z.l.length → tk[a]? = some false → tk[b]? = some false → a ≠ b → fit z (z.l.getD a noPl) (z.l.getD b noPl) = false
theorem can_of_false {z : Lb} {j b : Nat} {tk : List Bool} (h : can z j tk b = false) (hb : tk[b]? = some false) (hne : b ≠ j) : fit z (z.l.getD j noPl) (z.l.getD b noPl) = false := by
  unfold can at h
  rw [getD_of hb] at h
  simpa [hne] using h
/-- one more player has looked for a partner -/
theorem mtc_case (z : Lb) {j : Nat} (hj : j < z.l.length) : (∃ p, z.l[j]? = some p) ∧ (((mtc z j).1[j]? = some true ∧ mtc z (j + 1) = mtc z j) ∨ ((mtc z j).1[j]? = some false ∧ pa z j (mtc z j).1 z.l.length < 0 ∧ mtc z (j + 1) = mtc z j) ∨
    (∃ (m : Nat) (p q : Pl), (mtc z j).1[j]? = some false ∧ pa z j (mtc z j).1 z.l.length = m ∧ m < z.l.length ∧ m ≠ j ∧ (mtc z j).1[m]? = some false ∧ z.l[j]? = some p ∧ z.l[m]? = some q ∧ fit z p q = true ∧ mtc z (j + 1) = (((mtc z j).1.set j true).set m true, (mtc z j).2 ++ [(p.id, q.id)]))) := by
  have hp : z.l[j]? = some z.l[j] := List.getElem?_eq_getElem hj
  refine ⟨⟨_, hp⟩, ?_⟩
  have hb : (mtc z j).1[j]? = some ((mtc z j).1[j]'(by rw [mt_len]; exact hj)) := List.getElem?_eq_getElem _
  cases hv : (mtc z j).1[j]'(by rw [mt_len]; exact hj) with
  | true => rw [hv] at hb; exact .inl ⟨hb, mt_taken hb⟩
  | false =>
    rw [hv] at hb
    by_cases h0 : pa z j (mtc z j).1 z.l.length < 0
    · exact .inr (.inl ⟨hb, h0, mt_none hb h0⟩)
    · have hbd := pa_bd z j (mtc z j).1 z.l.length
      obtain ⟨m, hm⟩ : ∃ m : Nat, pa z j (mtc z j).1 z.l.length = m := ⟨(pa z j (mtc z j).1 z.l.length).toNat, by omega⟩
      have hml : m < z.l.length := by omega
      have hc := can_ne (pa_can (x := z) (i := j) (tk := (mtc z j).1) z.l.length (by omega))
      rw [hm, Int.toNat_natCast] at hc
      have hq : z.l[m]? = some z.l[m] := List.getElem?_eq_getElem hml
      have hbm : (mtc z j).1[m]? = some false := by
        have h1 := hc.2.1
        rw [List.getD_eq_getElem?_getD, List.getElem?_eq_getElem (by rw [mt_len]; exact hml)] at h1
        rw [List.getElem?_eq_getElem (by rw [mt_len]; exact hml)]
        simpa using h1
      have hf := hc.2.2
      rw [getD_of hp, getD_of hq] at hf
      exact .inr (.inr ⟨m, _, _, hb, hm, hml, hc.1, hbm, hp, hq, hf, mt_pair hb hm hp hq⟩)
theorem set_false {tk : List Bool} {m b : Nat} (h : (tk.set m true)[b]? = some false) : tk[b]? = some false ∧ b ≠ m := by
  by_cases hbm : b = m
  · subst hbm
    rw [List.getElem?_set] at h
    split at h
    · split at h <;> simp at h
    · omega
  · rw [List.getElem?_set_ne (by omega)] at h
    exact ⟨h, hbm⟩
theorem mtc_inv (z : Lb) : ∀ j, j ≤ z.l.length → Inv z j (mtc z j).1
  | 0, _ => fun a b h => by omega
  | j + 1, h => by
    have ih := mtc_inv z j (by omega)
    obtain ⟨_, h1 | h1 | h1⟩ := mtc_case z (j := j) (by omega)
    · rw [h1.2]
      intro a b ha hb h2 h3 hne
      rcases Nat.lt_or_ge a j with h4 | h4
      · exact ih a b h4 hb h2 h3 hne
      · obtain rfl : a = j := by omega
        rw [h1.1] at h2
        cases h2
    · rw [h1.2.2]
      intro a b ha hb h2 h3 hne
      rcases Nat.lt_or_ge a j with h4 | h4
      · exact ih a b h4 hb h2 h3 hne
      · obtain rfl : a = j := by omega
        exact can_of_false (pa_neg _ h1.2.1 b hb) h3 (fun e => hne e.symm)
    · obtain ⟨m, p, q, h2, h3, h4, h5, h6, h7, h8, h9, h10⟩ := h1
      rw [h10]
      intro a b ha hb ha2 hb2 hne
      have k1 := set_false ha2
      have k2 := set_false k1.1
      have k3 := set_false hb2
      have k4 := set_false k3.1
      exact ih a b (by omega) hb k2.1 k4.1 hne
/-- the partner comes later -/
theorem mtc_later {z : Lb} {j m : Nat} {p q : Pl} (hj : j < z.l.length) (h2 : (mtc z j).1[j]? = some false) (h5 : m ≠ j) (h6 : (mtc z j).1[m]? = some false) (h7 : z.l[j]? = some p) (h8 : z.l[m]? = some q) (h9 : fit z p q = true) : j < m := by
  rcases Nat.lt_or_ge j m with h | h
  · exact h
  · exfalso
    have := mtc_inv z j (by omega) m j (by omega) hj h6 h2 h5
    rw [getD_of h8, getD_of h7, fit_comm, h9] at this
    cases this
theorem mtc_lft {z : Lb} {tk : List Bool} (hl : tk.length = z.l.length) {j m : Nat} (hjm : j < m) (hm : m < z.l.length) (hj : tk[j]? = some false) (hbm : tk[m]? = some false) :
    lft z.l ((tk.set j true).set m true) z.l.length = ((lft z.l tk z.l.length).eraseIdx (rk tk m)).eraseIdx (rk tk j) ∧ rk ((tk.set j true).set m true) (j + 1) = rk tk j ∧ rk tk j < rk tk m := by
  have hl1 : (tk.set m true).length = z.l.length := by simpa using hl
  refine ⟨?_, ?_, rk_lt hjm hj⟩
  · rw [List.set_comm _ _ (by omega), lft_set hl1 (m := j) (by rw [List.getElem?_set_ne (by omega)]; exact hj) _ (by omega) (Nat.le_refl _), lft_set hl hbm _ hm (Nat.le_refl _), rk_set (by omega)]
  · rw [rk_set (by omega), rk_succ (b := true) (by rw [List.getElem?_set_self (by omega)]), if_pos rfl, rk_set (Nat.le_refl _)]
    rfl
theorem nd_iff (x : Lb) : x.Nd ↔ (x.l.map Pl.id).Nodup := by
  unfold Lb.Nd List.Nodup
  rw [List.pairwise_iff_getElem]
  constructor
  · intro h i k hi hk hik he
    simp only [List.length_map] at hi hk
    have := h i k x.l[i] x.l[k] (List.getElem?_eq_getElem hi) (List.getElem?_eq_getElem hk) (by simpa using he)
    omega
  · intro h i k p q hp hq he
    have hi := (List.getElem?_eq_some_iff.1 hp).1
    have hk := (List.getElem?_eq_some_iff.1 hq).1
    have ep := (List.getElem?_eq_some_iff.1 hp).2
    have eq := (List.getElem?_eq_some_iff.1 hq).2
    rcases Nat.lt_trichotomy i k with h1 | h1 | h1
    · exact (h i k (by simpa using hi) (by simpa using hk) h1 (by simp [ep, eq, he])).elim
    · exact h1
    · exact (h k i (by simpa using hk) (by simpa using hi) h1 (by simp [ep, eq, he])).elim
theorem nd_sub {x x' : Lb} (h : x.Nd) (hs : List.Sublist x'.l x.l) : x'.Nd := by
  rw [nd_iff] at h ⊢
  exact h.sublist (hs.map _)
theorem lft_sub {l : List Pl} {tk : List Bool} (hl : tk.length = l.length) (n : Nat) : List.Sublist (lft l tk n) l := by
  unfold lft
  have h1 : List.Sublist (((l.zip tk).take n).filter (fun q => !q.2)) (l.zip tk) := List.filter_sublist.trans (List.take_sublist _ _)
  have h2 := h1.map Prod.fst
  rwa [List.map_fst_zip (by omega)] at h2
theorem stay_nd {x : Lb} (h : x.Nd) : x.stay.Nd := nd_sub h List.filter_sublist
theorem at_nd {x : Lb} (h : x.Nd) (t : Int) : (x.at t).Nd := h
theorem mtX_nd {x : Lb} (h : x.Nd) (t : Int) : (mtX x t).Nd := nd_sub (stay_nd (at_nd h t)) (lft_sub (mt_len _ _) _)
theorem leX_nd {x : Lb} (h : x.Nd) (id : Int) : (leX x id).Nd := by
  unfold leX
  split
  · exact nd_sub h (List.eraseIdx_sublist _ _)
  · exact h
theorem fnd_miss {l : List Pl} {id : Int} (h : fnd l id < 0) : ∀ p ∈ l, p.id ≠ id := by
  intro p hp he
  have h1 : l.findIdx (fun q => q.id == id) < l.length := List.findIdx_lt_length_of_exists ⟨p, hp, by simpa using he⟩
  unfold fnd at h
  rw [if_pos h1] at h
  omega
theorem enX_nd {x : Lb} (h : x.Nd) (t id ra : Int) : (enX x t id ra).Nd := by
  unfold enX
  split
  · rename_i h0
    have hf : fnd x.l id < 0 := by
      unfold enE at h0
      split at h0
      · simp at h0
      · split at h0
        · simp at h0
        · omega
    rw [nd_iff] at h ⊢
    simp only [List.map_append, List.map_cons, List.map_nil]
    rw [List.nodup_append]
    refine ⟨h, by simp, ?_⟩
    intro a ha b hb
    simp only [List.mem_singleton] at hb
    subst hb
    obtain ⟨p, hp, rfl⟩ := List.mem_map.1 ha
    exact fnd_miss hf p hp
  · exact h
theorem mtc_skip (z : Lb) : ∀ (d j : Nat), j + d = z.l.length → ∃ j', j ≤ j' ∧ j' ≤ z.l.length ∧ mtc z j' = mtc z j ∧ rk (mtc z j).1 j' = rk (mtc z j).1 j ∧ (j' = z.l.length ∨ (mtc z j).1[j']? = some false)
  | 0, j, h => ⟨j, Nat.le_refl _, by omega, rfl, rfl, .inl (by omega)⟩
  | d + 1, j, h => by
    have hb : (mtc z j).1[j]? = some ((mtc z j).1[j]'(by rw [mt_len]; omega)) := List.getElem?_eq_getElem _
    cases hv : (mtc z j).1[j]'(by rw [mt_len]; omega) with
    | false =>
      rw [hv] at hb
      exact ⟨j, Nat.le_refl _, by omega, rfl, rfl, .inr hb⟩
    | true =>
      rw [hv] at hb
      have e := mt_taken hb
      obtain ⟨j', h1, h2, h3, h4, h5⟩ := mtc_skip z d (j + 1) (by omega)
      rw [e] at h3 h4 h5
      rw [rk_succ hb, if_pos rfl] at h4
      exact ⟨j', by omega, h2, h3, by omega, h5⟩
theorem lft_none (l : List Pl) : ∀ n, n ≤ l.length → lft l (List.replicate l.length false) n = l.take n
  | 0, _ => by simp [lft]
  | n + 1, h => by
    have hp : l[n]? = some l[n] := List.getElem?_eq_getElem (by omega)
    have hb : (List.replicate l.length false)[n]? = some false := by rw [List.getElem?_replicate, if_pos (by omega)]
    rw [lft_next hp hb, lft_none l n (by omega), List.take_add_one, hp, if_neg (by simp)]
    rfl
theorem lf_none (z : Lb) : z.lf (mtc z 0).1 = z := by
  unfold Lb.lf mtc
  simp only
  rw [lft_none _ _ (Nat.le_refl _), List.take_length]
theorem lf_ok {z : Lb} (h : z.Ok) (tk : List Bool) : (z.lf tk).Ok :=
  ⟨h.b0, h.b1, h.t0, h.t1, h.o0, h.o1, h.n, fun p hp => h.p p (mem_lft hp), Nat.le_trans (lft_len _ _ _) h.len⟩
end Go.Proofs.Ytonaidjdkejoeaa.Plain
