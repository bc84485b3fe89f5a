/- The plain mathematics of a lobby: no program in sight. -/
namespace Go.Proofs.Ytonaidjdkejoeaa.Plain
/-- who waits -/
structure Pl where
  id : Int
  ra : Int
  si : Int
/-- a lobby -/
structure Lb where
  ba : Int
  st : Int
  to : Int
  now : Int
  l : List Pl
def U (a : Int) : Prop := 0 ≤ a ∧ a ≤ 18446744073709551615
def I (a : Int) : Prop := -9223372036854775808 ≤ a ∧ a ≤ 9223372036854775807
def since (a b : Int) : Int := a - min a b
/-- a window -/
def wnd (ba st now si : Int) : Int := min 4000 (ba + st * min (since now si) 4000)
/-- by how much two ratings differ -/
def ap (a b : Int) : Int := max (a - b) (b - a)
/-- the index of a player, or -1 -/
def fnd (l : List Pl) (id : Int) : Int := if l.findIdx (fun p => p.id == id) < l.length then (l.findIdx (fun p => p.id == id) : Int) else -1
/-- a player that occurs -/
structure Pl.Ok (now : Int) (p : Pl) : Prop where
  i0 : 0 ≤ p.id
  i1 : p.id ≤ 1000000
  r0 : 0 ≤ p.ra
  r1 : p.ra ≤ 4000
  s0 : 0 ≤ p.si
  s1 : p.si ≤ now
/-- a configuration that is allowed -/
def vC (ba st to : Int) : Bool := decide (0 ≤ ba ∧ ba ≤ 4000 ∧ 0 ≤ st ∧ st ≤ 100 ∧ 1 ≤ to ∧ to ≤ 4294967296)
/-- a lobby that occurs -/
structure Lb.Ok (x : Lb) : Prop where
  b0 : 0 ≤ x.ba
  b1 : x.ba ≤ 4000
  t0 : 0 ≤ x.st
  t1 : x.st ≤ 100
  o0 : 1 ≤ x.to
  o1 : x.to ≤ 4294967296
  n : U x.now
  p : ∀ p ∈ x.l, p.Ok x.now
  len : x.l.length ≤ 200
theorem since_bd {a b : Int} (ha : U a) (hb : U b) : U (since a b) := by unfold since U at *; omega
theorem mul_bd {a b : Int} (ha : 0 ≤ a ∧ a ≤ 100) (hb : 0 ≤ b ∧ b ≤ 4000) : 0 ≤ a * b ∧ a * b ≤ 400000 := by
  refine ⟨Int.mul_nonneg ha.1 hb.1, ?_⟩
  have h1 : a * b ≤ 100 * b := Int.mul_le_mul_of_nonneg_right ha.2 hb.1
  omega
theorem fi_next {α : Type} {q : α → Bool} {l : List α} {k : Nat} {x : α} (h : k ≤ l.findIdx q) (hk : l[k]? = some x) (hx : q x = false) : k + 1 ≤ l.findIdx q := by
  induction l generalizing k with
  | nil => simp at hk
  | cons a l ih =>
    rw [List.findIdx_cons] at h ⊢
    cases k with
    | zero =>
      simp at hk
      subst hk
      rw [hx]
      simp
    | succ k =>
      cases ha : q a
      · rw [ha] at h
        simp at h
        have := ih h (by simpa using hk)
        simp
        omega
      · rw [ha] at h
        simp at h
theorem fi_hit {α : Type} {q : α → Bool} {l : List α} {k : Nat} {x : α} (h : k ≤ l.findIdx q) (hk : l[k]? = some x) (hx : q x = true) : l.findIdx q = k := by
  induction l generalizing k with
  | nil => simp at hk
  | cons a l ih =>
    rw [List.findIdx_cons] at h ⊢
    cases k with
    | zero =>
      simp at hk
      subst hk
      rw [hx]
      simp
    | succ k =>
      cases ha : q a
      · rw [ha] at h
        simp at h
        have := ih h (by simpa using hk)
        simp
        omega
      · rw [ha] at h
        simp at h
theorem fnd_hit {l : List Pl} {id : Int} {k : Nat} {p : Pl} (h : k ≤ l.findIdx (fun p => p.id == id)) (hk : l[k]? = some p) (hp : p.id = id) : fnd l id = k := by
  have h1 := fi_hit h hk (by simpa using hp)
  unfold fnd
  rw [h1, if_pos (List.getElem?_eq_some_iff.1 hk).1]
theorem fnd_none {l : List Pl} {id : Int} (h : l.length ≤ l.findIdx (fun p => p.id == id)) : fnd l id = -1 := by
  unfold fnd
  rw [if_neg (by omega)]
theorem fnd_bd (l : List Pl) (id : Int) : -1 ≤ fnd l id ∧ fnd l id < l.length ∧ (0 ≤ fnd l id → ∃ p, l[(fnd l id).toNat]? = some p ∧ p.id = id) := by
  unfold fnd
  split
  · rename_i h
    refine ⟨by omega, by omega, fun _ => ⟨l[l.findIdx (fun p => p.id == id)], by simp, ?_⟩⟩
    have := List.findIdx_getElem (w := h)
    simpa using this
  · exact ⟨by omega, by omega, fun h => by omega⟩
/-- what Enter says, and the lobby after it -/
def enE (x : Lb) (id ra : Int) : Int := if id < 0 ∨ 1000000 < id ∨ ¬(0 ≤ ra ∧ ra ≤ 4000) then 2 else if 0 ≤ fnd x.l id then 11 else if 200 ≤ x.l.length then 7 else 0
def enX (x : Lb) (t id ra : Int) : Lb := if enE x id ra = 0 then { x with now := max x.now t, l := x.l ++ [⟨id, ra, max x.now t⟩] } else x
theorem Pl.Ok.mono {a b : Int} {p : Pl} (h : p.Ok a) (hab : a ≤ b) : p.Ok b := ⟨h.i0, h.i1, h.r0, h.r1, h.s0, by have := h.s1; omega⟩
theorem enX_ok {x : Lb} (h : x.Ok) {t : Int} (ht : U t) (id ra : Int) : (enX x t id ra).Ok := by
  unfold enX
  split
  · rename_i h0
    unfold enE at h0
    split at h0
    · simp at h0
    · split at h0
      · simp at h0
      · split at h0
        · simp at h0
        · have hn := h.n
          refine ⟨h.b0, h.b1, h.t0, h.t1, h.o0, h.o1, by unfold U at *; simp only; omega, fun p hp => ?_, by simp; omega⟩
          simp only [List.mem_append, List.mem_singleton] at hp
          rcases hp with hp | rfl
          · exact (h.p p hp).mono (by simp only; omega)
          · refine ⟨?_, ?_, ?_, ?_, ?_, ?_⟩ <;> (unfold U at *; simp only; omega)
  · exact h
/-- what Leave says, and the lobby after it -/
def leE (x : Lb) (id : Int) : Int := if 0 ≤ fnd x.l id then 0 else 9
def leX (x : Lb) (id : Int) : Lb := if 0 ≤ fnd x.l id then { x with l := x.l.eraseIdx (fnd x.l id).toNat } else x
theorem leX_ok {x : Lb} (h : x.Ok) (id : Int) : (leX x id).Ok := by
  unfold leX
  split
  · exact ⟨h.b0, h.b1, h.t0, h.t1, h.o0, h.o1, h.n, fun p hp => h.p p (List.mem_of_mem_eraseIdx hp), by have := h.len; have := List.length_eraseIdx_le x.l (fnd x.l id).toNat; simp only; omega⟩
  · exact h
/-- the window of a player of a lobby -/
def Lb.w (x : Lb) (p : Pl) : Int := wnd x.ba x.st x.now p.si
/-- do two players fit -/
def fit (x : Lb) (p q : Pl) : Bool := decide (ap p.ra q.ra ≤ x.w p) && decide (ap p.ra q.ra ≤ x.w q)
/-- no player -/
def noPl : Pl := ⟨0, 0, 0⟩
/-- may player k be the partner of player i -/
def can (x : Lb) (i : Nat) (tk : List Bool) (k : Nat) : Bool := (k != i) && (!tk.getD k true) && fit x (x.l.getD i noPl) (x.l.getD k noPl)
/-- the best partner of player i among the first n -/
def pa (x : Lb) (i : Nat) (tk : List Bool) : Nat → Int
  | 0 => -1
  | k + 1 => if can x i tk k = true ∧ (pa x i tk k < 0 ∨ ap (x.l.getD i noPl).ra (x.l.getD k noPl).ra < ap (x.l.getD i noPl).ra (x.l.getD (pa x i tk k).toNat noPl).ra) then (k : Int) else pa x i tk k
theorem pa_bd (x : Lb) (i : Nat) (tk : List Bool) (n : Nat) : -1 ≤ pa x i tk n ∧ pa x i tk n < n := by
  induction n with
  | zero => simp [pa]
  | succ k ih =>
    unfold pa
    split <;> omega
theorem pa_no {x : Lb} {i : Nat} {tk : List Bool} {k : Nat} (h : can x i tk k = false) : pa x i tk (k + 1) = pa x i tk k := by
  rw [pa, if_neg (by rw [h]; simp)]
theorem pa_yes {x : Lb} {i : Nat} {tk : List Bool} {k : Nat} (h : can x i tk k = true) (h2 : pa x i tk k < 0 ∨ ap (x.l.getD i noPl).ra (x.l.getD k noPl).ra < ap (x.l.getD i noPl).ra (x.l.getD (pa x i tk k).toNat noPl).ra) : pa x i tk (k + 1) = k := by
  rw [pa, if_pos ⟨h, h2⟩]
theorem pa_less {x : Lb} {i : Nat} {tk : List Bool} {k : Nat} (h2 : ¬ (pa x i tk k < 0 ∨ ap (x.l.getD i noPl).ra (x.l.getD k noPl).ra < ap (x.l.getD i noPl).ra (x.l.getD (pa x i tk k).toNat noPl).ra)) : pa x i tk (k + 1) = pa x i tk k := by
  rw [pa, if_neg (fun h => h2 h.2)]
theorem getD_of {α : Type} {l : List α} {k : Nat} {p d : α} (h : l[k]? = some p) : l.getD k d = p := by
  rw [List.getD_eq_getElem?_getD, h]
  rfl
theorem can_of {x : Lb} {i k : Nat} {tk : List Bool} {p q : Pl} {b : Bool} (hp : x.l[i]? = some p) (hq : x.l[k]? = some q) (hb : tk[k]? = some b) : can x i tk k = ((k != i) && !b && (decide (ap p.ra q.ra ≤ x.w p) && decide (ap p.ra q.ra ≤ x.w q))) := by
  unfold can fit
  rw [getD_of hp, getD_of hq, getD_of hb]
theorem pa_can {x : Lb} {i : Nat} {tk : List Bool} : ∀ n, 0 ≤ pa x i tk n → can x i tk (pa x i tk n).toNat = true
  | 0, h => by simp [pa] at h
  | n + 1, h => by
    unfold pa at h ⊢
    split
    · rename_i h2
      rw [Int.toNat_natCast]
      exact h2.1
    · rename_i h2
      rw [if_neg h2] at h
      exact pa_can n h
theorem can_ne {x : Lb} {i k : Nat} {tk : List Bool} (h : can x i tk k = true) : k ≠ i ∧ tk.getD k true = false ∧ fit x (x.l.getD i noPl) (x.l.getD k noPl) = true := by
  unfold can at h
  simp only [Bool.and_eq_true, bne_iff_ne, ne_eq, Bool.not_eq_true'] at h
  exact ⟨h.1.1, h.1.2, h.2⟩
/-- has somebody given up -/
def gvn (to now : Int) (p : Pl) : Bool := decide (to ≤ since now p.si)
/-- the lobby at a time, and without those who have given up -/
def Lb.at (x : Lb) (t : Int) : Lb := { x with now := max x.now t }
def Lb.stay (x : Lb) : Lb := { x with l := x.l.filter (fun p => !gvn x.to x.now p) }
/-- who is taken, and the pairs, when the first n have looked for a partner -/
def mtc (x : Lb) : Nat → List Bool × List (Int × Int)
  | 0 => (List.replicate x.l.length false, [])
  | i + 1 => if (mtc x i).1.getD i true = true then mtc x i else if pa x i (mtc x i).1 x.l.length < 0 then mtc x i else (((mtc x i).1.set i true).set (pa x i (mtc x i).1 x.l.length).toNat true, (mtc x i).2 ++ [((x.l.getD i noPl).id, (x.l.getD (pa x i (mtc x i).1 x.l.length).toNat noPl).id)])
theorem mt_len (x : Lb) (n : Nat) : (mtc x n).1.length = x.l.length := by
  induction n with
  | zero => simp [mtc]
  | succ n ih =>
    unfold mtc
    split
    · exact ih
    · split
      · exact ih
      · simpa using ih
theorem mt_plen (x : Lb) (n : Nat) : (mtc x n).2.length ≤ n := by
  induction n with
  | zero => simp [mtc]
  | succ n ih =>
    unfold mtc
    split
    · omega
    · split
      · omega
      · simp only [List.length_append, List.length_singleton]; omega
theorem mt_taken {x : Lb} {i : Nat} (h : (mtc x i).1[i]? = some true) : mtc x (i + 1) = mtc x i := by
  rw [mtc, if_pos (getD_of h)]
theorem mt_none {x : Lb} {i : Nat} (h : (mtc x i).1[i]? = some false) (h2 : pa x i (mtc x i).1 x.l.length < 0) : mtc x (i + 1) = mtc x i := by
  rw [mtc, if_neg (by rw [getD_of h]; simp), if_pos h2]
theorem mt_pair {x : Lb} {i k : Nat} {p q : Pl} (h : (mtc x i).1[i]? = some false) (h2 : pa x i (mtc x i).1 x.l.length = k) (hp : x.l[i]? = some p) (hq : x.l[k]? = some q) : mtc x (i + 1) = (((mtc x i).1.set i true).set k true, (mtc x i).2 ++ [(p.id, q.id)]) := by
  rw [mtc, if_neg (by rw [getD_of h]; simp), if_neg (by omega), h2, Int.toNat_natCast, getD_of hp, getD_of hq]
/-- those who are not taken among the first n -/
def lft (l : List Pl) (tk : List Bool) (n : Nat) : List Pl := (((l.zip tk).take n).filter (fun q => !q.2)).map Prod.fst
theorem lft_next {l : List Pl} {tk : List Bool} {k : Nat} {p : Pl} {b : Bool} (hp : l[k]? = some p) (hb : tk[k]? = some b) : lft l tk (k + 1) = lft l tk k ++ if b = true then [] else [p] := by
  unfold lft
  rw [List.take_add_one]
  have h : (l.zip tk)[k]? = some (p, b) := by rw [List.getElem?_zip_eq_some]; exact ⟨hp, hb⟩
  rw [h, List.filter_append, List.map_append]
  cases b <;> simp
theorem filt_next {q : Pl → Bool} {l : List Pl} {k : Nat} {p : Pl} (hp : l[k]? = some p) : (l.take (k + 1)).filter q = (l.take k).filter q ++ if q p = true then [p] else [] := by
  rw [List.take_add_one, hp, List.filter_append]
  cases h : q p <;> simp [h]
/-- what Match finds -/
def mtP (x : Lb) (t : Int) : List (Int × Int) := (mtc (x.at t).stay (x.at t).stay.l.length).2
def mtG (x : Lb) (t : Int) : List Int := ((x.at t).l.filter (fun p => gvn x.to (x.at t).now p)).map Pl.id
def mtX (x : Lb) (t : Int) : Lb := { x.at t with l := lft (x.at t).stay.l (mtc (x.at t).stay (x.at t).stay.l.length).1 (x.at t).stay.l.length }
theorem at_ok {x : Lb} (h : x.Ok) {t : Int} (ht : U t) : (x.at t).Ok := by
  have hn := h.n
  exact ⟨h.b0, h.b1, h.t0, h.t1, h.o0, h.o1, by unfold Lb.at U at *; simp only; omega, fun p hp => (h.p p hp).mono (by unfold Lb.at; simp only; omega), h.len⟩
theorem stay_ok {x : Lb} (h : x.Ok) : x.stay.Ok :=
  ⟨h.b0, h.b1, h.t0, h.t1, h.o0, h.o1, h.n, fun p hp => h.p p (List.mem_filter.1 hp).1, Nat.le_trans (List.length_filter_le _ _) h.len⟩
theorem mem_lft {l : List Pl} {tk : List Bool} {n : Nat} {p : Pl} (h : p ∈ lft l tk n) : p ∈ l := by
  unfold lft at h
  obtain ⟨q, hq, rfl⟩ := List.mem_map.1 h
  have h1 := List.mem_of_mem_take (List.mem_filter.1 hq).1
  exact (List.of_mem_zip h1).1
theorem lft_len (l : List Pl) (tk : List Bool) (n : Nat) : (lft l tk n).length ≤ l.length := by
  unfold lft
  rw [List.length_map]
  have h1 := List.length_filter_le (fun q : Pl × Bool => !q.2) ((l.zip tk).take n)
  have h2 : ((l.zip tk).take n).length ≤ l.length := by simp; omega
  omega
theorem mtX_ok {x : Lb} (h : x.Ok) {t : Int} (ht : U t) : (mtX x t).Ok := by
  have h1 := at_ok h ht
  have h2 := stay_ok h1
  exact ⟨h1.b0, h1.b1, h1.t0, h1.t1, h1.o0, h1.o1, h1.n, fun p hp => h2.p p (mem_lft hp), Nat.le_trans (lft_len _ _ _) h2.len⟩
end Go.Proofs.Ytonaidjdkejoeaa.Plain
