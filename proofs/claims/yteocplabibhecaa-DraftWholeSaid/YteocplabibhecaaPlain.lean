/- The plain mathematics of a draft: no program in sight. -/
namespace Go.Proofs.Yteocplabibhecaa.Plain
set_option linter.unusedVariables false
/-- the element at a place of a list of lists -/
def at2 {α : Type} (l : List (List α)) (i k : Nat) : Option α := (l[i]?).bind (·[k]?)
def set2 {α : Type} (l : List (List α)) (i k : Nat) (x : α) : List (List α) := l.modify i (·.set k x)

theorem at2_of {α : Type} {l : List (List α)} {i k : Nat} {r : List α} {x : α} (h : l[i]? = some r) (hx : r[k]? = some x) : at2 l i k = some x := by simp [at2, h, hx]
theorem at2_row {α : Type} {l : List (List α)} {i k : Nat} {x : α} (h : at2 l i k = some x) : ∃ r, l[i]? = some r ∧ r[k]? = some x := by
  unfold at2 at h
  cases hr : l[i]? with
  | none => rw [hr] at h; cases h
  | some r => rw [hr] at h; exact ⟨r, rfl, h⟩
theorem set2_length {α : Type} (l : List (List α)) (i k : Nat) (x : α) : (set2 l i k x).length = l.length := by simp [set2]
theorem set2_row {α : Type} (l : List (List α)) (i k j : Nat) (x : α) : (set2 l i k x)[j]? = if i = j then (l[j]?).map (·.set k x) else l[j]? := by
  unfold set2
  rw [List.getElem?_modify]
  split <;> simp_all
theorem at2_set2 {α : Type} (l : List (List α)) (i k j m : Nat) (x y : α) (h : at2 (set2 l i k x) j m = some y) : (j = i ∧ m = k ∧ y = x) ∨ ((i, k) ≠ (j, m) ∧ at2 l j m = some y) := by
  obtain ⟨r, hr, hy⟩ := at2_row h
  rw [set2_row] at hr
  split at hr
  · rename_i h1
    subst h1
    cases h2 : l[i]? with
    | none => rw [h2] at hr; cases hr
    | some s =>
      rw [h2] at hr
      simp at hr
      subst hr
      by_cases h3 : k = m
      · subst h3
        rw [List.getElem?_set_self'] at hy
        cases h4 : s[k]? with
        | none => rw [h4] at hy; cases hy
        | some z => rw [h4] at hy; simp at hy; exact .inl ⟨rfl, rfl, hy.symm⟩
      · rw [List.getElem?_set_ne h3] at hy
        exact .inr ⟨by simp [h3], at2_of h2 hy⟩
  · rename_i h1
    exact .inr ⟨by simp [h1], at2_of hr hy⟩

/-- which pack lies in front of a player -/
def front (n rd tn p : Nat) : Nat := if rd % 2 = 0 then (p + n - tn % n) % n else (p + tn) % n
/-- a draft -/
structure Dr where
  rs : List (List (List Int))
  tk : List (List Int)
  mv : List Bool
  rd : Nat
  tn : Nat
deriving DecidableEq
def Dr.n (d : Dr) : Nat := d.tk.length
def Dr.over (d : Dr) : Bool := d.rd == d.rs.length
def Dr.fr (d : Dr) (p : Nat) : Nat := front d.n d.rd d.tn p
def Dr.pk (d : Dr) (p : Nat) : List Int := (at2 d.rs d.rd (d.fr p)).getD []
def Dr.mvd (d : Dr) (p : Nat) : Bool := d.mv.getD p false
/-- what Take says -/
def Dr.err (d : Dr) (p i : Int) : Int :=
  if p < 0 ∨ (d.n : Int) ≤ p then 2 else if d.over = true then 16 else if d.mvd p.toNat = true then 8 else if i < 0 ∨ ((d.pk p.toNat).length : Int) ≤ i then 3 else 0
def Dr.card (d : Dr) (p i : Nat) : Int := (d.pk p).getD i 0
def Dr.put (d : Dr) (p i : Nat) : Dr := ⟨set2 d.rs d.rd (d.fr p) ((d.pk p).eraseIdx i), d.tk.set p (d.tk.getD p [] ++ [d.card p i]), d.mv.set p true, d.rd, d.tn⟩
def Dr.full (d : Dr) : Bool := !d.mv.contains false
def Dr.fin (d : Dr) : Dr :=
  if d.full = true then
    (if ((at2 d.rs d.rd 0).getD []).length = 0 then ⟨d.rs, d.tk, List.replicate d.mv.length false, d.rd + 1, 0⟩ else ⟨d.rs, d.tk, List.replicate d.mv.length false, d.rd, d.tn + 1⟩)
  else d
def Dr.take (d : Dr) (p i : Nat) : Dr := (d.put p i).fin
def Dr.stp (d : Dr) (p i : Int) : Dr := if d.err p i = 0 then d.take p.toNat i.toNat else d
def Dr.got (d : Dr) (p i : Int) : Int := if d.err p i = 0 then d.card p.toNat i.toNat else 0
/-- what Pack says -/
def Dr.ask (d : Dr) (p : Int) : List Int := if p < 0 ∨ (d.n : Int) ≤ p then [] else if (d.over || d.mvd p.toNat) = true then [] else d.pk p.toNat
def Dr.askE (d : Dr) (p : Int) : Int := if p < 0 ∨ (d.n : Int) ≤ p then 2 else 0
/-- what Taken says -/
def Dr.tkn (d : Dr) (p : Int) : List Int := if p < 0 ∨ (d.n : Int) ≤ p then [] else d.tk.getD p.toNat []
/-- who waits -/
def waitL : List Bool → Nat → List Int
  | [], _ => []
  | b :: l, i => if b then waitL l (i + 1) else (i : Int) :: waitL l (i + 1)
def Dr.wait (d : Dr) : List Int := if d.over = true then [] else waitL d.mv 0
/-- a new draft -/
def Dr.init (rs : List (List (List Int))) : Dr := ⟨rs, List.replicate (rs.getD 0 []).length [], List.replicate (rs.getD 0 []).length false, 0, 0⟩

/-- which packs are right -/
def badC (c : Int) : Bool := decide (c < 0) || decide (1000000 < c)
def okP (cards : Nat) (p : List Int) : Bool := p.length == cards && !p.any badC
def okR (n cards : Nat) (l : List (List Int)) : Bool := l.length == n && l.all (okP cards)
def right (rs : List (List (List Int))) : Bool :=
  if rs.length < 1 ∨ 4 < rs.length then false else
  if (rs.getD 0 []).length < 2 ∨ 8 < (rs.getD 0 []).length then false else
  rs.all (okR (rs.getD 0 []).length ((rs.getD 0 []).getD 0 []).length) && (decide (1 ≤ ((rs.getD 0 []).getD 0 []).length) && decide (((rs.getD 0 []).getD 0 []).length ≤ 15))

structure Dr.Inv (c : Nat) (d : Dr) : Prop where
  r1 : 1 ≤ d.rs.length
  r4 : d.rs.length ≤ 4
  n2 : 2 ≤ d.n
  n8 : d.n ≤ 8
  c1 : 1 ≤ c
  c15 : c ≤ 15
  row : ∀ r ∈ d.rs, r.length = d.n
  mv : d.mv.length = d.n
  rd : d.rd ≤ d.rs.length
  tn : d.rd < d.rs.length → d.tn < c
  ov : d.rd = d.rs.length → d.tn = 0 ∧ ∀ p, d.mvd p = false
  nf : ∃ p, p < d.n ∧ d.mvd p = false
  aft : ∀ i k l, d.rd < i → at2 d.rs i k = some l → l.length = c
  now : ∀ p, p < d.n → d.rd < d.rs.length → (d.pk p).length + d.tn + (if d.mvd p then 1 else 0) = c
  bef : ∀ i k l, i < d.rd → at2 d.rs i k = some l → l.length = 0
  tkl : ∀ p, p < d.n → (d.tk.getD p []).length = d.rd * c + d.tn + (if d.mvd p then 1 else 0)

theorem front_lt {n rd tn p : Nat} (h : 2 ≤ n) : front n rd tn p < n := by
  unfold front
  split <;> exact Nat.mod_lt _ (by omega)
theorem front_inj {n rd tn p q : Nat} (h2 : 2 ≤ n) (h8 : n ≤ 8) (hp : p < n) (hq : q < n) (h : front n rd tn p = front n rd tn q) : p = q := by
  unfold front at h
  have : n = 2 ∨ n = 3 ∨ n = 4 ∨ n = 5 ∨ n = 6 ∨ n = 7 ∨ n = 8 := by omega
  rcases this with rfl | rfl | rfl | rfl | rfl | rfl | rfl <;> (split at h <;> omega)
theorem front_surj {n rd tn k : Nat} (h2 : 2 ≤ n) (h8 : n ≤ 8) (hk : k < n) : ∃ p, p < n ∧ front n rd tn p = k := by
  refine ⟨if rd % 2 = 0 then (k + tn) % n else (k + n - tn % n) % n, ?_, ?_⟩
  · split <;> exact Nat.mod_lt _ (by omega)
  · unfold front
    have : n = 2 ∨ n = 3 ∨ n = 4 ∨ n = 5 ∨ n = 6 ∨ n = 7 ∨ n = 8 := by omega
    rcases this with rfl | rfl | rfl | rfl | rfl | rfl | rfl <;> (split <;> omega)
theorem waitL_ext {l : List Bool} {n : Nat} : ∀ x ∈ waitL l n, (n : Int) ≤ x := by
  induction l generalizing n with
  | nil => simp [waitL]
  | cons b l ih =>
    intro x hx
    unfold waitL at hx
    split at hx
    · have := ih x hx; omega
    · rcases List.mem_cons.1 hx with rfl | hx
      · omega
      · have := ih x hx; omega
theorem waitL_snoc (l : List Bool) (b : Bool) (n : Nat) : waitL (l ++ [b]) n = waitL l n ++ (if b then [] else [((n + l.length : Nat) : Int)]) := by
  induction l generalizing n with
  | nil => simp only [List.nil_append, waitL, List.length_nil, Nat.add_zero]
  | cons a l ih =>
    simp only [List.cons_append, waitL, ih, List.length_cons]
    rw [show n + 1 + l.length = n + (l.length + 1) by omega]
    cases a <;> simp
theorem getD_lt {α : Type} {l : List α} {i : Nat} {x d : α} (h : l[i]? = some x) : l.getD i d = x := by rw [List.getD_eq_getElem?_getD, h]; rfl
theorem Dr.Inv.fr_lt {c : Nat} {d : Dr} (h : d.Inv c) (p : Nat) : d.fr p < d.n := front_lt h.n2
/-- the pack in front is there -/
theorem Dr.Inv.pk_at {c : Nat} {d : Dr} (h : d.Inv c) (hr : d.rd < d.rs.length) (p : Nat) : at2 d.rs d.rd (d.fr p) = some (d.pk p) := by
  have h1 := h.row _ (List.getElem_mem hr)
  have h2 : d.fr p < (d.rs[d.rd]).length := by rw [h1]; exact h.fr_lt p
  have h3 := at2_of (List.getElem?_eq_getElem hr) (List.getElem?_eq_getElem h2)
  unfold Dr.pk
  rw [h3]
  rfl
theorem over_iff (d : Dr) : d.over = true ↔ d.rd = d.rs.length := by simp [Dr.over]
theorem err_ok {d : Dr} {p i : Int} (h : d.err p i = 0) : ∃ q k : Nat, p = q ∧ i = k ∧ q < d.n ∧ d.rd ≠ d.rs.length ∧ d.mvd q = false ∧ k < (d.pk q).length := by
  unfold Dr.err at h
  split at h
  · simp at h
  · split at h
    · simp at h
    · split at h
      · simp at h
      · split at h
        · simp at h
        · rename_i h1 h2 h3 h4
          refine ⟨p.toNat, i.toNat, by omega, by omega, by omega, fun e => h2 ((over_iff d).2 e), by simpa using h3, by omega⟩
theorem at2_set2_self {α : Type} {l : List (List α)} {i k : Nat} {x y : α} (h : at2 l i k = some y) : at2 (set2 l i k x) i k = some x := by
  obtain ⟨r, hr, hk⟩ := at2_row h
  have h1 : (set2 l i k x)[i]? = some (r.set k x) := by rw [set2_row, if_pos rfl, hr]; rfl
  exact at2_of h1 (List.getElem?_set_self (List.getElem?_eq_some_iff.1 hk).1)
theorem at2_set2_ne {α : Type} (l : List (List α)) {i k j m : Nat} (x : α) (h : (i, k) ≠ (j, m)) : at2 (set2 l i k x) j m = at2 l j m := by
  unfold at2
  rw [set2_row]
  split
  · rename_i e
    subst e
    cases l[i]? with
    | none => rfl
    | some r =>
      simp only [Option.map_some, Option.bind_some]
      exact List.getElem?_set_ne (by intro e; exact h (by rw [e]))
  · rfl
theorem getD_set {α : Type} (l : List α) (i j : Nat) (x d : α) (h : i < l.length) : (l.set i x).getD j d = if i = j then x else l.getD j d := by
  simp only [List.getD_eq_getElem?_getD]
  split
  · rename_i e; subst e; rw [List.getElem?_set_self h]; rfl
  · rename_i e; rw [List.getElem?_set_ne e]
/-- the state after a card was put, before the turn is looked at -/
structure Dr.Mid (c : Nat) (d : Dr) : Prop where
  r1 : 1 ≤ d.rs.length
  r4 : d.rs.length ≤ 4
  n2 : 2 ≤ d.n
  n8 : d.n ≤ 8
  c1 : 1 ≤ c
  c15 : c ≤ 15
  row : ∀ r ∈ d.rs, r.length = d.n
  mv : d.mv.length = d.n
  rd : d.rd < d.rs.length
  tn : d.tn < c
  aft : ∀ i k l, d.rd < i → at2 d.rs i k = some l → l.length = c
  now : ∀ p, p < d.n → (d.pk p).length + d.tn + (if d.mvd p then 1 else 0) = c
  bef : ∀ i k l, i < d.rd → at2 d.rs i k = some l → l.length = 0
  tkl : ∀ p, p < d.n → (d.tk.getD p []).length = d.rd * c + d.tn + (if d.mvd p then 1 else 0)
theorem put_mid {c : Nat} {d : Dr} (h : d.Inv c) {p i : Nat} (hp : p < d.n) (hr : d.rd ≠ d.rs.length) (hm : d.mvd p = false) (hi : i < (d.pk p).length) : (d.put p i).Mid c := by
  have hrl : d.rd < d.rs.length := by have := h.rd; omega
  have hat := h.pk_at hrl p
  have hn : (d.put p i).n = d.n := by simp [Dr.put, Dr.n]
  have hmv : ∀ q, (d.put p i).mvd q = if p = q then true else d.mvd q := by
    intro q
    simp only [Dr.put, Dr.mvd]
    rw [getD_set _ _ _ _ _ (by rw [h.mv]; exact hp)]
  have hpk : ∀ q, q < d.n → (d.put p i).pk q = if p = q then (d.pk p).eraseIdx i else d.pk q := by
    intro q hq
    have hf : (d.put p i).fr q = d.fr q := by simp only [Dr.fr, hn]; rfl
    unfold Dr.pk
    rw [hf]
    split
    · rename_i e
      subst e
      simp only [Dr.put]
      rw [at2_set2_self hat]
      rfl
    · rename_i e
      simp only [Dr.put]
      rw [at2_set2_ne]
      intro e2
      exact e (front_inj h.n2 h.n8 hp hq (by have := congrArg Prod.snd e2; exact this))
  refine ⟨?_, ?_, by rw [hn]; exact h.n2, by rw [hn]; exact h.n8, h.c1, h.c15, ?_, by rw [hn, ← h.mv]; simp [Dr.put], ?_, h.tn hrl, ?_, ?_, ?_, ?_⟩
  · simp only [Dr.put, set2_length]; exact h.r1
  · simp only [Dr.put, set2_length]; exact h.r4
  · intro r hr'
    rw [hn]
    obtain ⟨j, hj⟩ := List.getElem?_of_mem hr'
    simp only [Dr.put] at hj
    rw [set2_row] at hj
    split at hj
    · cases h2 : d.rs[j]? with
      | none => rw [h2] at hj; cases hj
      | some s =>
        rw [h2] at hj
        simp at hj
        subst hj
        rw [List.length_set]
        exact h.row s (List.mem_of_getElem? h2)
    · exact h.row r (List.mem_of_getElem? hj)
  · simp only [Dr.put, set2_length]; exact hrl
  · intro j k l hj hl
    simp only [Dr.put] at hj hl
    rw [at2_set2_ne _ _ (by intro e; have := congrArg Prod.fst e; simp at this; omega)] at hl
    exact h.aft j k l hj hl
  · intro q hq
    rw [hn] at hq
    rw [hpk q hq, hmv q]
    have := h.now q hq hrl
    show _ + d.tn + _ = c
    by_cases e : p = q
    · subst e
      rw [if_pos rfl, if_pos rfl, List.length_eraseIdx, if_pos hi]
      rw [hm] at this
      simp at this ⊢
      omega
    · rw [if_neg e, if_neg e]
      exact this
  · intro j k l hj hl
    simp only [Dr.put] at hj hl
    rw [at2_set2_ne _ _ (by intro e; have := congrArg Prod.fst e; simp at this; omega)] at hl
    exact h.bef j k l hj hl
  · intro q hq
    rw [hn] at hq
    rw [hmv q]
    have := h.tkl q hq
    show ((d.tk.set p _).getD q []).length = d.rd * c + d.tn + _
    rw [getD_set _ _ _ _ _ hp]
    by_cases e : p = q
    · subst e
      rw [if_pos rfl, if_pos rfl, List.length_append]
      rw [hm] at this
      simp at this ⊢
      omega
    · rw [if_neg e, if_neg e]
      exact this
theorem full_iff {c : Nat} {d : Dr} (h : d.Mid c) : d.full = true ↔ ∀ p, p < d.n → d.mvd p = true := by
  unfold Dr.full
  constructor
  · intro hf p hp
    cases hm : d.mvd p with
    | true => rfl
    | false =>
      have h1 : d.mv[p]? = some (d.mv[p]'(by rw [h.mv]; exact hp)) := List.getElem?_eq_getElem (by rw [h.mv]; exact hp)
      have h2 : d.mv.getD p false = d.mv[p]'(by rw [h.mv]; exact hp) := getD_lt h1
      have h3 : false ∈ d.mv := by
        unfold Dr.mvd at hm
        rw [← hm, h2]
        exact List.getElem_mem _
      simp at hf
      exact absurd h3 hf
  · intro hf
    simp
    intro hmem
    obtain ⟨p, hp⟩ := List.getElem?_of_mem hmem
    have hlt := (List.getElem?_eq_some_iff.1 hp).1
    have := hf p (by rw [← h.mv]; exact hlt)
    unfold Dr.mvd at this
    rw [getD_lt hp] at this
    cases this
theorem fin_inv {c : Nat} {d : Dr} (h : d.Mid c) : d.fin.Inv c := by
  have all0 : d.full = true → ∀ k l, at2 d.rs d.rd k = some l → l.length + d.tn + 1 = c := by
    intro hf k l hl
    have hk : k < d.n := by
      obtain ⟨r, hr, hk⟩ := at2_row hl
      have := (List.getElem?_eq_some_iff.1 hk).1
      rw [h.row r (List.mem_of_getElem? hr)] at this
      exact this
    obtain ⟨p, hp, he⟩ := front_surj (rd := d.rd) (tn := d.tn) h.n2 h.n8 hk
    have h1 := h.now p hp
    rw [(full_iff h).1 hf p hp] at h1
    have h2 : d.pk p = l := by unfold Dr.pk Dr.fr; rw [he, hl]; rfl
    rw [h2] at h1
    simpa using h1
  have rep : ∀ n p, (List.replicate n false).getD p false = false := by
    intro n p
    simp only [List.getD_eq_getElem?_getD, List.getElem?_replicate]
    split <;> rfl
  have hnp : 0 < d.n := by have := h.n2; omega
  have hrow0 : ∀ i, i < d.rs.length → ∀ k, k < d.n → ∃ l, at2 d.rs i k = some l := fun i hi k hk => by
    have h1 := h.row _ (List.getElem_mem hi)
    exact ⟨_, at2_of (List.getElem?_eq_getElem hi) (List.getElem?_eq_getElem (by rw [h1]; exact hk))⟩
  obtain ⟨l0, hl0⟩ := hrow0 d.rd h.rd 0 hnp
  unfold Dr.fin
  split
  · rename_i hf
    have ha := all0 hf
    split
    · rename_i hz
      rw [hl0] at hz
      simp at hz
      have hc : d.tn + 1 = c := by have := ha 0 l0 hl0; rw [hz] at this; simpa using this
      refine ⟨h.r1, h.r4, h.n2, h.n8, h.c1, h.c15, h.row, by simp; exact h.mv, by have := h.rd; simp; omega, fun _ => h.c1, fun _ => ⟨rfl, fun p => rep _ _⟩, ⟨0, hnp, rep _ _⟩, fun i k l hi hl => h.aft i k l (by simp at hi; omega) hl, fun p hp hr => ?_, fun i k l hi hl => ?_, fun p hp => ?_⟩
      · have hlt : front d.n (d.rd + 1) 0 p < d.n := front_lt h.n2
        obtain ⟨l, hl⟩ := hrow0 (d.rd + 1) hr _ hlt
        have e : Dr.pk ⟨d.rs, d.tk, List.replicate d.mv.length false, d.rd + 1, 0⟩ p = l := by
          unfold Dr.pk Dr.fr
          show (at2 d.rs (d.rd + 1) (front d.n (d.rd + 1) 0 p)).getD [] = l
          rw [hl]; rfl
        have e2 : Dr.mvd ⟨d.rs, d.tk, List.replicate d.mv.length false, d.rd + 1, 0⟩ p = false := rep _ _
        rw [e, e2]
        have := h.aft _ _ l (Nat.lt_succ_self _) hl
        simp [this]
      · simp at hi hl
        rcases Nat.lt_or_ge i d.rd with h1 | h1
        · exact h.bef i k l h1 hl
        · obtain rfl : i = d.rd := by omega
          have := ha k l hl
          omega
      · have e2 : Dr.mvd ⟨d.rs, d.tk, List.replicate d.mv.length false, d.rd + 1, 0⟩ p = false := rep _ _
        rw [e2]
        have h1 := h.tkl p hp
        rw [(full_iff h).1 hf p hp] at h1
        simp at h1 ⊢
        rw [h1, Nat.add_mul]
        omega
    · rename_i hz
      rw [hl0] at hz
      simp at hz
      have hl0p : 0 < l0.length := by cases l0 with
        | nil => exact absurd rfl hz
        | cons a l => simp
      have hc : d.tn + 1 < c := by have := ha 0 l0 hl0; omega
      have hrdl := h.rd
      refine ⟨h.r1, h.r4, h.n2, h.n8, h.c1, h.c15, h.row, by simp; exact h.mv, by simp; omega, fun _ => hc, fun e => by simp at e; omega, ⟨0, hnp, rep _ _⟩, h.aft, fun p hp hr => ?_, h.bef, fun p hp => ?_⟩
      · have hlt : front d.n d.rd (d.tn + 1) p < d.n := front_lt h.n2
        obtain ⟨l, hl⟩ := hrow0 d.rd h.rd _ hlt
        have e : Dr.pk ⟨d.rs, d.tk, List.replicate d.mv.length false, d.rd, d.tn + 1⟩ p = l := by
          unfold Dr.pk Dr.fr
          show (at2 d.rs d.rd (front d.n d.rd (d.tn + 1) p)).getD [] = l
          rw [hl]; rfl
        have e2 : Dr.mvd ⟨d.rs, d.tk, List.replicate d.mv.length false, d.rd, d.tn + 1⟩ p = false := rep _ _
        rw [e, e2]
        have := ha _ l hl
        simp
        omega
      · have e2 : Dr.mvd ⟨d.rs, d.tk, List.replicate d.mv.length false, d.rd, d.tn + 1⟩ p = false := rep _ _
        rw [e2]
        have h1 := h.tkl p hp
        rw [(full_iff h).1 hf p hp] at h1
        simp at h1 ⊢
        omega
  · rename_i hf
    have hrdl := h.rd
    refine ⟨h.r1, h.r4, h.n2, h.n8, h.c1, h.c15, h.row, h.mv, by omega, fun _ => h.tn, fun e => by omega, ?_, h.aft, fun p hp _ => h.now p hp, h.bef, h.tkl⟩
    false_or_by_contra
    rename_i hx
    refine hf ((full_iff h).2 (fun p hp => ?_))
    cases hm : d.mvd p with
    | true => rfl
    | false => exact absurd ⟨p, hp, hm⟩ hx
theorem take_inv {c : Nat} {d : Dr} (h : d.Inv c) {p i : Nat} (hp : p < d.n) (hr : d.rd ≠ d.rs.length) (hm : d.mvd p = false) (hi : i < (d.pk p).length) : (d.take p i).Inv c := fin_inv (put_mid h hp hr hm hi)
theorem stp_inv {c : Nat} {d : Dr} (h : d.Inv c) (p i : Int) : (d.stp p i).Inv c := by
  unfold Dr.stp
  split
  · rename_i he
    obtain ⟨q, k, rfl, rfl, h1, h2, h3, h4⟩ := err_ok he
    exact take_inv h h1 h2 h3 h4
  · exact h
theorem init_inv {rs : List (List (List Int))} (h : right rs = true) : (Dr.init rs).Inv ((rs.getD 0 []).getD 0 []).length := by
  unfold right at h
  split at h
  · cases h
  · split at h
    · cases h
    · rename_i h1 h2
      simp only [Bool.and_eq_true, decide_eq_true_eq, List.all_eq_true] at h
      obtain ⟨h3, h4, h5⟩ := h
      have hn : (Dr.init rs).n = (rs.getD 0 []).length := by simp [Dr.init, Dr.n]
      have rep : ∀ n p, (List.replicate n false).getD p false = false := by
        intro n p
        simp only [List.getD_eq_getElem?_getD, List.getElem?_replicate]
        split <;> rfl
      have rep2 : ∀ n p, (List.replicate n ([] : List Int)).getD p [] = [] := by
        intro n p
        simp only [List.getD_eq_getElem?_getD, List.getElem?_replicate]
        split <;> rfl
      have hmv : ∀ p, (Dr.init rs).mvd p = false := fun p => rep _ _
      have hrow : ∀ r ∈ rs, r.length = (rs.getD 0 []).length := fun r hr => by
        have := h3 r hr
        unfold okR at this
        simp at this
        simpa using this.1
      have hc : ∀ i k l, at2 rs i k = some l → l.length = ((rs.getD 0 []).getD 0 []).length := fun i k l hl => by
        obtain ⟨r, hr, hk⟩ := at2_row hl
        have := h3 r (List.mem_of_getElem? hr)
        unfold okR at this
        simp only [Bool.and_eq_true, List.all_eq_true] at this
        have h6 := this.2 l (List.mem_of_getElem? hk)
        unfold okP at h6
        simp only [Bool.and_eq_true, beq_iff_eq] at h6
        exact h6.1
      refine ⟨by simp only [Dr.init]; omega, by simp only [Dr.init]; omega, by rw [hn]; omega, by rw [hn]; omega, h4, h5, fun r hr => by rw [hn]; exact hrow r hr, by rw [hn]; simp [Dr.init], Nat.zero_le _, fun _ => h4, fun e => by simp only [Dr.init] at e; omega, ⟨0, by rw [hn]; omega, hmv 0⟩, fun i k l _ hl => hc i k l hl, fun p hp hr => ?_, fun i k l hi _ => absurd hi (Nat.not_lt_zero _), fun p _ => ?_⟩
      · rw [hmv p]
        have hlt : (Dr.init rs).fr p < (rs.getD 0 []).length := by rw [← hn]; exact front_lt (by rw [hn]; omega)
        have h0 : rs[0]? = some (rs[0]'(by omega)) := List.getElem?_eq_getElem (by omega)
        have h00 : (rs.getD 0 []) = rs[0]'(by omega) := getD_lt h0
        have h7 : at2 rs 0 ((Dr.init rs).fr p) = some ((rs[0]'(by omega))[(Dr.init rs).fr p]'(by rw [← h00]; exact hlt)) := at2_of h0 (List.getElem?_eq_getElem _)
        have h8 := hc _ _ _ h7
        have h9 : (Dr.init rs).pk p = (rs[0]'(by omega))[(Dr.init rs).fr p]'(by rw [← h00]; exact hlt) := by
          unfold Dr.pk
          show (at2 rs 0 ((Dr.init rs).fr p)).getD [] = _
          rw [h7]; rfl
        rw [h9, h8]
        simp [Dr.init]
      · rw [hmv p]
        show ((List.replicate _ []).getD p []).length = 0 * _ + 0 + 0
        rw [rep2]
        simp
def okS (r : List (List Int)) : Bool := decide (r.length ≤ 10) && r.all (fun p => decide (p.length ≤ 20))
def small (rs : List (List (List Int))) : Bool := decide (rs.length ≤ 6) && rs.all okS
theorem right_len {rs : List (List (List Int))} (h : rs.length < 1 ∨ 4 < rs.length) : right rs = false := by unfold right; rw [if_pos h]
theorem right_n {rs : List (List (List Int))} {r : List (List Int)} (h0 : rs[0]? = some r) (h : r.length < 2 ∨ 8 < r.length) : right rs = false := by
  unfold right
  split
  · rfl
  · rw [getD_lt h0, if_pos h]
theorem right_eq {rs : List (List (List Int))} {r : List (List Int)} {p : List Int} (h4 : rs.length ≤ 4) (h0 : rs[0]? = some r) (h00 : r[0]? = some p) (h2 : 2 ≤ r.length) (h8 : r.length ≤ 8) : right rs = (rs.all (okR r.length p.length) && (decide (1 ≤ p.length) && decide (p.length ≤ 15))) := by
  have h1 := (List.getElem?_eq_some_iff.1 h0).1
  unfold right
  rw [if_neg (by omega), getD_lt h0, if_neg (by omega), getD_lt h00]
theorem right_small {rs : List (List (List Int))} (h : right rs = true) : small rs = true := by
  unfold right at h
  split at h
  · cases h
  · split at h
    · cases h
    · rename_i h1 h2
      simp only [Bool.and_eq_true, decide_eq_true_eq, List.all_eq_true] at h
      obtain ⟨h3, h4, h5⟩ := h
      unfold small
      simp only [Bool.and_eq_true, decide_eq_true_eq, List.all_eq_true]
      refine ⟨by omega, fun r hr => ?_⟩
      have h6 := h3 r hr
      unfold okR at h6
      simp only [Bool.and_eq_true, List.all_eq_true, beq_iff_eq] at h6
      unfold okS
      simp only [Bool.and_eq_true, decide_eq_true_eq, List.all_eq_true]
      refine ⟨by omega, fun p hp => ?_⟩
      have h7 := h6.2 p hp
      unfold okP at h7
      simp only [Bool.and_eq_true, beq_iff_eq] at h7
      omega
theorem right_row0 {rs : List (List (List Int))} (h : right rs = true) : ∃ r, rs[0]? = some r ∧ 2 ≤ r.length ∧ r.length ≤ 8 ∧ 1 ≤ rs.length ∧ rs.length ≤ 4 := by
  unfold right at h
  split at h
  · cases h
  · split at h
    · cases h
    · rename_i h1 h2
      have h0 : rs[0]? = some (rs[0]'(by omega)) := List.getElem?_eq_getElem (by omega)
      rw [getD_lt h0] at h2
      exact ⟨_, h0, by omega, by omega, by omega, by omega⟩
end Go.Proofs.Yteocplabibhecaa.Plain
