/- The plain mathematics of a draft: the theorem of the stage. -/
import Derived.Test.YteocplabibhecaaPb
namespace Go.Proofs.Yteocplabibhecaa.Plain
set_option linter.unusedVariables false
/-- what must hold for putting cards -/
structure Dr.Wk (d : Dr) : Prop where
  n2 : 2 ≤ d.n
  n8 : d.n ≤ 8
  rd : d.rd < d.rs.length
  row : ∀ r ∈ d.rs, r.length = d.n
theorem Dr.Inv.wk {c : Nat} {d : Dr} (h : d.Inv c) (hr : d.rd < d.rs.length) : d.Wk := ⟨h.n2, h.n8, hr, h.row⟩
theorem Dr.Wk.pk_at {d : Dr} (h : d.Wk) (p : Nat) : at2 d.rs d.rd (d.fr p) = some (d.pk p) := by
  have h1 := h.row _ (List.getElem_mem h.rd)
  have h2 : d.fr p < (d.rs[d.rd]'h.rd).length := by rw [h1]; exact front_lt h.n2
  have h3 := at2_of (List.getElem?_eq_getElem h.rd) (List.getElem?_eq_getElem h2)
  unfold Dr.pk
  rw [h3]
  rfl
theorem put_n (d : Dr) (p i : Nat) : (d.put p i).n = d.n := by simp [Dr.put, Dr.n]
theorem put_fr (d : Dr) (p i q : Nat) : (d.put p i).fr q = d.fr q := by
  show front (d.put p i).n d.rd d.tn q = front d.n d.rd d.tn q
  rw [put_n]
theorem Dr.Wk.put {d : Dr} (h : d.Wk) (p i : Nat) : (d.put p i).Wk := by
  refine ⟨by rw [put_n]; exact h.n2, by rw [put_n]; exact h.n8, ?_, fun r hr' => ?_⟩
  · simp only [Dr.put, set2_length]
    exact h.rd
  · rw [put_n]
    obtain ⟨j, hj⟩ := List.getElem?_of_mem hr'
    simp only [Dr.put] at hj
    rw [set2_row] at hj
    split at hj
    · cases h2 : d.rs[j]? with
      | none => rw [h2] at hj; cases hj
      | some s =>
        rw [h2] at hj
        simp at hj
        subst hj
        rw [List.length_set]
        exact h.row s (List.mem_of_getElem? h2)
    · exact h.row r (List.mem_of_getElem? hj)
theorem Dr.Wk.put_pk {d : Dr} (h : d.Wk) {p q : Nat} (i : Nat) (hp : p < d.n) (hq : q < d.n) : (d.put p i).pk q = if p = q then (d.pk p).eraseIdx i else d.pk q := by
  have hat := h.pk_at p
  unfold Dr.pk
  rw [put_fr]
  split
  · rename_i e
    subst e
    simp only [Dr.put]
    rw [at2_set2_self hat]
    rfl
  · rename_i e
    simp only [Dr.put]
    rw [at2_set2_ne]
    intro e2
    exact e (front_inj h.n2 h.n8 hp hq (by have := congrArg Prod.snd e2; exact this))
theorem put_mvd {d : Dr} {p : Nat} (i q : Nat) (hp : p < d.mv.length) : (d.put p i).mvd q = if p = q then true else d.mvd q := by
  simp only [Dr.put, Dr.mvd]
  rw [getD_set _ _ _ _ _ hp]
theorem put_tk {d : Dr} {p : Nat} (i q : Nat) (hp : p < d.n) : (d.put p i).tk.getD q [] = if p = q then d.tk.getD p [] ++ [d.card p i] else d.tk.getD q [] := by
  simp only [Dr.put]
  rw [getD_set _ _ _ _ _ hp]
theorem set2_comm {α : Type} (l : List (List α)) (i k m : Nat) (x y : α) (h : k ≠ m) : set2 (set2 l i k x) i m y = set2 (set2 l i m y) i k x := by
  apply List.ext_getElem?
  intro j
  simp only [set2_row]
  split
  · cases l[j]? with
    | none => rfl
    | some r => simp only [Option.map_some]; rw [List.set_comm _ _ h]
  · rfl
theorem Dr.Wk.put_comm {d : Dr} (h : d.Wk) {p q : Nat} (i j : Nat) (hp : p < d.n) (hq : q < d.n) (hne : p ≠ q) : (d.put p i).put q j = (d.put q j).put p i := by
  have hf : d.fr p ≠ d.fr q := fun e => hne (front_inj h.n2 h.n8 hp hq e)
  have e1 := h.put_pk i hp hq
  have e2 := h.put_pk j hq hp
  rw [if_neg hne] at e1
  rw [if_neg (Ne.symm hne)] at e2
  have t1 := put_tk (d := d) i q hp
  have t2 := put_tk (d := d) j p hq
  rw [if_neg hne] at t1
  rw [if_neg (Ne.symm hne)] at t2
  have c1 : (d.put p i).card q j = d.card q j := by unfold Dr.card; rw [e1]
  have c2 : (d.put q j).card p i = d.card p i := by unfold Dr.card; rw [e2]
  have g1 : (d.put p i).put q j = ⟨set2 (d.put p i).rs d.rd ((d.put p i).fr q) (((d.put p i).pk q).eraseIdx j), (d.put p i).tk.set q ((d.put p i).tk.getD q [] ++ [(d.put p i).card q j]), (d.put p i).mv.set q true, d.rd, d.tn⟩ := rfl
  have g2 : (d.put q j).put p i = ⟨set2 (d.put q j).rs d.rd ((d.put q j).fr p) (((d.put q j).pk p).eraseIdx i), (d.put q j).tk.set p ((d.put q j).tk.getD p [] ++ [(d.put q j).card p i]), (d.put q j).mv.set p true, d.rd, d.tn⟩ := rfl
  rw [g1, g2, put_fr, put_fr, e1, e2, t1, t2, c1, c2]
  simp only [Dr.put]
  rw [set2_comm _ _ _ _ _ _ hf, List.set_comm _ _ hne, List.set_comm _ _ hne]
/-- some players put their cards -/
def puts (d : Dr) (a : Nat → Nat) : List Nat → Dr
  | [] => d
  | p :: l => puts (d.put p (a p)) a l
theorem puts_app (d : Dr) (a : Nat → Nat) (l m : List Nat) : puts d a (l ++ m) = puts (puts d a l) a m := by
  induction l generalizing d with
  | nil => rfl
  | cons p l ih => exact ih _
theorem puts_wk {d : Dr} (h : d.Wk) (a : Nat → Nat) (l : List Nat) : (puts d a l).Wk ∧ (puts d a l).n = d.n := by
  induction l generalizing d with
  | nil => exact ⟨h, rfl⟩
  | cons p l ih =>
    have := ih (h.put p (a p))
    rw [put_n] at this
    exact this
theorem puts_comm {d : Dr} (h : d.Wk) (a : Nat → Nat) (p : Nat) (hp : p < d.n) (l : List Nat) (hl : ∀ q ∈ l, q < d.n) (hn : p ∉ l) : puts (d.put p (a p)) a l = (puts d a l).put p (a p) := by
  induction l generalizing d with
  | nil => rfl
  | cons q l ih =>
    have h1 : p ≠ q := fun e => hn (by rw [e]; exact List.mem_cons_self)
    have hq := hl q List.mem_cons_self
    show puts ((d.put p (a p)).put q (a q)) a l = (puts (d.put q (a q)) a l).put p (a p)
    rw [h.put_comm _ _ hp hq h1]
    exact ih (h.put q (a q)) (by rw [put_n]; exact hp) (fun x hx => by rw [put_n]; exact hl x (List.mem_cons_of_mem _ hx)) (fun hx => hn (List.mem_cons_of_mem _ hx))
theorem puts_rev {d : Dr} (h : d.Wk) (a : Nat → Nat) (l : List Nat) (hl : ∀ q ∈ l, q < d.n) (hn : l.Nodup) : puts d a l.reverse = puts d a l := by
  induction l generalizing d with
  | nil => rfl
  | cons p l ih =>
    have hp := hl p List.mem_cons_self
    have h1 : ∀ q ∈ l, q < d.n := fun q hq => hl q (List.mem_cons_of_mem _ hq)
    have hn2 := List.nodup_cons.1 hn
    rw [List.reverse_cons, puts_app, ih h h1 hn2.2]
    show (puts d a l).put p (a p) = puts (d.put p (a p)) a l
    rw [puts_comm h a p hp l h1 hn2.1]
/-- a player who has not put yet -/
theorem puts_other {d : Dr} (h : d.Wk) (hm : d.mv.length = d.n) (a : Nat → Nat) (p : Nat) (hp : p < d.n) (l : List Nat) (hl : ∀ q ∈ l, q < d.n) (hn : p ∉ l) : (puts d a l).pk p = d.pk p ∧ (puts d a l).mvd p = d.mvd p ∧ (puts d a l).tk.getD p [] = d.tk.getD p [] := by
  induction l generalizing d with
  | nil => exact ⟨rfl, rfl, rfl⟩
  | cons q l ih =>
    have h1 : q ≠ p := fun e => hn (by rw [e]; exact List.mem_cons_self)
    have hq := hl q List.mem_cons_self
    have h2 := ih (h.put q (a q)) (by rw [put_n, ← hm]; simp [Dr.put]) (by rw [put_n]; exact hp) (fun x hx => by rw [put_n]; exact hl x (List.mem_cons_of_mem _ hx)) (fun hx => hn (List.mem_cons_of_mem _ hx))
    refine ⟨h2.1.trans ?_, h2.2.1.trans ?_, h2.2.2.trans ?_⟩
    · rw [h.put_pk _ hq hp, if_neg h1]
    · rw [put_mvd _ _ (by rw [hm]; exact hq), if_neg h1]
    · rw [put_tk _ _ hq, if_neg h1]
theorem puts_mv {d : Dr} (a : Nat → Nat) (l : List Nat) : (puts d a l).mv.length = d.mv.length ∧ (puts d a l).rd = d.rd ∧ (puts d a l).tn = d.tn ∧ (puts d a l).rs.length = d.rs.length := by
  induction l generalizing d with
  | nil => exact ⟨rfl, rfl, rfl, rfl⟩
  | cons q l ih =>
    have h1 := ih (d := d.put q (a q))
    refine ⟨h1.1.trans (by simp [Dr.put]), h1.2.1.trans rfl, h1.2.2.1.trans rfl, h1.2.2.2.trans (by simp [Dr.put, set2_length])⟩
/-- a turn: nobody has moved, and everybody's number is one of his pack -/
structure Turn (c : Nat) (d : Dr) (a : Nat → Nat) : Prop where
  inv : d.Inv c
  rd : d.rd < d.rs.length
  mv : ∀ p, d.mvd p = false
  at' : ∀ p, p < d.n → a p < (d.pk p).length
/-- after some of the players -/
def tst (d : Dr) (a : Nat → Nat) (L : List Nat) (k : Nat) : Dr := if k < L.length then puts d a (L.take k) else (puts d a L).fin
theorem tst_zero {d : Dr} {a : Nat → Nat} {L : List Nat} (h : 0 < L.length) : tst d a L 0 = d := by unfold tst; rw [if_pos h]; rfl
theorem tst_end {d : Dr} {a : Nat → Nat} {L : List Nat} : tst d a L L.length = (puts d a L).fin := by unfold tst; rw [if_neg (Nat.lt_irrefl _)]
/-- all players, each once -/
structure Perm (n : Nat) (L : List Nat) : Prop where
  len : L.length = n
  lt : ∀ q ∈ L, q < n
  nd : L.Nodup
theorem not_take {L : List Nat} (h : L.Nodup) {k p : Nat} (hp : L[k]? = some p) : p ∉ L.take k := by
  intro hm
  obtain ⟨j, hj⟩ := List.getElem?_of_mem hm
  rw [List.getElem?_take] at hj
  split at hj
  · rename_i h1
    have := (List.getElem?_inj (List.getElem?_eq_some_iff.1 hj).1 h).1 (hj.trans hp.symm)
    omega
  · cases hj
theorem Turn.step {c : Nat} {d : Dr} {a : Nat → Nat} (t : Turn c d a) {L : List Nat} (hL : Perm d.n L) {k p : Nat} (hp : L[k]? = some p) (hi : (tst d a L k).Inv c) :
    (tst d a L k).err p (a p) = 0 ∧ (tst d a L k).stp p (a p) = tst d a L (k + 1) ∧ (tst d a L k).got p (a p) = (d.pk p).getD (a p) 0 ∧ (tst d a L k).pk p = d.pk p ∧ (tst d a L k).n = d.n := by
  have hk : k < L.length := (List.getElem?_eq_some_iff.1 hp).1
  have hpn : p < d.n := hL.lt p (List.mem_of_getElem? hp)
  have hw := t.inv.wk t.rd
  have hlt : ∀ q ∈ L.take k, q < d.n := fun q hq => hL.lt q (List.mem_of_mem_take hq)
  have ho := puts_other hw t.inv.mv a p hpn (L.take k) hlt (not_take hL.nd hp)
  have hm := puts_mv (d := d) a (L.take k)
  have hwk := puts_wk hw a (L.take k)
  have e0 : tst d a L k = puts d a (L.take k) := by unfold tst; rw [if_pos hk]
  rw [e0] at hi ⊢
  obtain ⟨x, hx⟩ : ∃ x, puts d a (L.take k) = x := ⟨_, rfl⟩
  rw [hx] at ho hm hwk hi ⊢
  have hat := t.at' p hpn
  have herr : x.err p (a p) = 0 := by
    unfold Dr.err
    rw [if_neg (by rw [hwk.2]; omega), if_neg (by rw [over_iff, hm.2.1, hm.2.2.2]; have := t.rd; omega), Int.toNat_natCast, if_neg (by rw [ho.2.1, t.mv p]; decide), if_neg (by rw [ho.1]; omega)]
  have hstp : x.stp p (a p) = (x.put p (a p)).fin := by unfold Dr.stp Dr.take; rw [if_pos herr, Int.toNat_natCast, Int.toNat_natCast]
  have hsn : L.take (k + 1) = L.take k ++ [p] := by rw [List.take_add_one, hp]; rfl
  have hpt : x.put p (a p) = puts d a (L.take (k + 1)) := by rw [hsn, puts_app, hx]; rfl
  refine ⟨herr, ?_, ?_, ho.1, hwk.2⟩
  · rw [hstp, hpt]
    by_cases h1 : k + 1 < L.length
    · have h2 : tst d a L (k + 1) = puts d a (L.take (k + 1)) := by unfold tst; rw [if_pos h1]
      rw [h2]
      have h3 := List.getElem?_eq_getElem h1
      have h4 := hL.lt _ (List.mem_of_getElem? h3)
      have h5 := puts_other hw t.inv.mv a _ h4 (L.take (k + 1)) (fun q hq => hL.lt q (List.mem_of_mem_take hq)) (not_take hL.nd h3)
      have h6 := puts_mv (d := d) a (L.take (k + 1))
      unfold Dr.fin
      rw [if_neg]
      intro hf
      unfold Dr.full at hf
      simp at hf
      have h7 : (puts d a (L.take (k + 1))).mvd L[k + 1] = false := by rw [h5.2.1, t.mv]
      unfold Dr.mvd at h7
      have h8 : L[k + 1] < (puts d a (L.take (k + 1))).mv.length := by rw [h6.1, t.inv.mv]; exact h4
      rw [getD_lt (List.getElem?_eq_getElem h8)] at h7
      exact hf (by rw [← h7]; exact List.getElem_mem _)
    · have h2 : k + 1 = L.length := by omega
      unfold tst
      rw [if_neg h1, h2, List.take_length]
  · unfold Dr.got Dr.card
    rw [if_pos herr, Int.toNat_natCast, Int.toNat_natCast, ho.1]
theorem Turn.invs {c : Nat} {d : Dr} {a : Nat → Nat} (t : Turn c d a) {L : List Nat} (hL : Perm d.n L) (k : Nat) (hk : k ≤ L.length) : (tst d a L k).Inv c := by
  induction k with
  | zero =>
    rw [tst_zero (by rw [hL.len]; have := t.inv.n2; omega)]
    exact t.inv
  | succ k ih =>
    have h1 : k < L.length := by omega
    have h2 := ih (by omega)
    have h3 := t.step hL (List.getElem?_eq_getElem h1) h2
    rw [← h3.2.1]
    exact stp_inv h2 _ _
/-- both orders -/
def up (n : Nat) : List Nat := List.range n
def dn (n : Nat) : List Nat := (List.range n).reverse
theorem up_perm (n : Nat) : Perm n (up n) := ⟨by simp [up], by simp [up], List.nodup_range⟩
theorem dn_perm (n : Nat) : Perm n (dn n) := ⟨by simp [dn], by simp [dn], by unfold dn; exact List.pairwise_reverse.2 (List.nodup_range.imp (fun h => Ne.symm h))⟩
theorem up_at {n p : Nat} (h : p < n) : (up n)[p]? = some p := by simp [up, h]
theorem dn_at {n k : Nat} (h : k < n) : (dn n)[k]? = some (n - 1 - k) := by
  unfold dn
  rw [List.getElem?_reverse (by simpa using h)]
  simp only [List.length_range]
  rw [List.getElem?_range (by omega)]
theorem Turn.same {c : Nat} {d : Dr} {a : Nat → Nat} (t : Turn c d a) : tst d a (dn d.n) d.n = tst d a (up d.n) d.n := by
  have h1 := tst_end (d := d) (a := a) (L := dn d.n)
  have h2 := tst_end (d := d) (a := a) (L := up d.n)
  rw [(dn_perm _).len] at h1
  rw [(up_perm _).len] at h2
  rw [h1, h2]
  unfold dn up
  rw [puts_rev (t.inv.wk t.rd) a _ (by simp) List.nodup_range]
theorem puts_in {d : Dr} (a : Nat → Nat) (l : List Nat) (hl : ∀ q ∈ l, q < d.mv.length) (p : Nat) (h : p ∈ l ∨ d.mvd p = true) : (puts d a l).mvd p = true := by
  induction l generalizing d with
  | nil => rcases h with h | h; cases h; exact h
  | cons q l ih =>
    have hq := hl q List.mem_cons_self
    refine ih (d := d.put q (a q)) (fun x hx => by simp only [Dr.put, List.length_set]; exact hl x (List.mem_cons_of_mem _ hx)) ?_
    rw [put_mvd _ _ hq]
    rcases h with h | h
    · rcases List.mem_cons.1 h with rfl | h
      · exact .inr (if_pos rfl)
      · exact .inl h
    · refine .inr ?_
      split
      · rfl
      · exact h
theorem full_len' {c : Nat} {x : Dr} (h : x.Mid c) (hf : x.full = true) {k : Nat} {l : List Int} (hl : at2 x.rs x.rd k = some l) : l.length + x.tn + 1 = c := by
  have hk : k < x.n := by
    obtain ⟨r, hr, hk⟩ := at2_row hl
    have := (List.getElem?_eq_some_iff.1 hk).1
    rw [h.row r (List.mem_of_getElem? hr)] at this
    exact this
  obtain ⟨p, hp, he⟩ := front_surj (rd := x.rd) (tn := x.tn) h.n2 h.n8 hk
  have h1 := h.now p hp
  rw [(full_iff h).1 hf p hp] at h1
  have h2 : x.pk p = l := by unfold Dr.pk Dr.fr; rw [he, hl]; rfl
  rw [h2] at h1
  simpa using h1
theorem Turn.next {c : Nat} {d : Dr} {a : Nat → Nat} (t : Turn c d a) : (tst d a (up d.n) d.n).rd * c + (tst d a (up d.n) d.n).tn = d.rd * c + d.tn + 1 ∧ (∀ p, (tst d a (up d.n) d.n).mvd p = false) ∧ (tst d a (up d.n) d.n).n = d.n ∧ (tst d a (up d.n) d.n).rs.length = d.rs.length ∧ (tst d a (up d.n) d.n).rs = (puts d a (up d.n)).rs := by
  have hn2 := t.inv.n2
  have hL := up_perm d.n
  have h1 : d.n - 1 < (up d.n).length := by rw [hL.len]; omega
  have hp : (up d.n)[d.n - 1]? = some (d.n - 1) := up_at (by omega)
  have hiv := t.invs hL (d.n - 1) (by omega)
  have hst := t.step hL hp hiv
  have e0 : tst d a (up d.n) (d.n - 1) = puts d a ((up d.n).take (d.n - 1)) := by unfold tst; rw [if_pos h1]
  have hmd : (puts d a (up d.n)).Mid c := by
    obtain ⟨q, k, h3, h4, h5, h6, h7, h8⟩ := err_ok hst.1
    obtain rfl : d.n - 1 = q := by omega
    obtain rfl : a (d.n - 1) = k := by omega
    have h9 := put_mid hiv h5 h6 h7 h8
    rw [e0] at h9
    have hsn : up d.n = (up d.n).take (d.n - 1) ++ [d.n - 1] := by
      have h10 : (up d.n).take (d.n - 1 + 1) = (up d.n).take (d.n - 1) ++ [d.n - 1] := by rw [List.take_add_one, hp]; rfl
      rw [← h10, List.take_of_length_le (by rw [hL.len]; omega)]
    rw [hsn, puts_app]
    exact h9
  have hm := puts_mv (d := d) a (up d.n)
  have hwk := puts_wk (t.inv.wk t.rd) a (up d.n)
  have hf : (puts d a (up d.n)).full = true := (full_iff hmd).2 (fun p hp => puts_in a _ (by rw [t.inv.mv]; exact hL.lt) p (.inl (by rw [hwk.2] at hp; simp [up, hp])))
  have he : tst d a (up d.n) d.n = (puts d a (up d.n)).fin := by have := tst_end (d := d) (a := a) (L := up d.n); rwa [hL.len] at this
  rw [he]
  obtain ⟨x, hx⟩ : ∃ x, puts d a (up d.n) = x := ⟨_, rfl⟩
  rw [hx] at hmd hm hwk hf ⊢
  have hr := List.getElem?_eq_getElem hmd.rd
  have h0 : 0 < (x.rs[x.rd]'hmd.rd).length := by rw [hmd.row _ (List.getElem_mem hmd.rd)]; have := hmd.n2; omega
  have hat := at2_of hr (List.getElem?_eq_getElem h0)
  have hfl := full_len' hmd hf hat
  have rep : ∀ n p, (List.replicate n false).getD p false = false := by
    intro n p
    simp only [List.getD_eq_getElem?_getD, List.getElem?_replicate]
    split <;> rfl
  unfold Dr.fin
  rw [if_pos hf, hat, Option.getD_some]
  rw [hm.2.2.1] at hfl
  split
  · rename_i hz
    refine ⟨?_, fun p => rep _ _, hwk.2, hm.2.2.2, rfl⟩
    show (x.rd + 1) * c + 0 = _
    rw [hm.2.1, Nat.add_mul]
    omega
  · exact ⟨by show x.rd * c + (x.tn + 1) = _; rw [hm.2.1, hm.2.2.1]; omega, fun p => rep _ _, hwk.2, hm.2.2.2, rfl⟩
/-- how often a card is in the packs -/
def cnt1 (x : Int) (r : List (List Int)) : Nat := (r.map (List.count x)).sum
def cnt2 (x : Int) (rs : List (List (List Int))) : Nat := (rs.map (cnt1 x)).sum
theorem sum_set {α : Type} (f : α → Nat) (l : List α) (k : Nat) (x y : α) (h : l[k]? = some x) : ((l.set k y).map f).sum + f x = (l.map f).sum + f y := by
  induction l generalizing k with
  | nil => simp at h
  | cons a l ih =>
    cases k with
    | zero => simp at h; subst h; simp; omega
    | succ k =>
      have := ih k (by simpa using h)
      simp only [List.set_cons_succ, List.map_cons, List.sum_cons]
      omega
theorem modify_set {α : Type} (l : List α) (i : Nat) (f : α → α) (r : α) (h : l[i]? = some r) : l.modify i f = l.set i (f r) := by
  apply List.ext_getElem?
  intro j
  rw [List.getElem?_modify, List.getElem?_set]
  by_cases e : i = j
  · subst e
    rw [if_pos rfl, if_pos (List.getElem?_eq_some_iff.1 h).1, h]
    simp
  · rw [if_neg e]
    simp [e]
theorem cnt2_set (x : Int) (rs : List (List (List Int))) (i k : Nat) (l l' : List Int) (h : at2 rs i k = some l) : cnt2 x (set2 rs i k l') + l.count x = cnt2 x rs + l'.count x := by
  obtain ⟨r, hr, hk⟩ := at2_row h
  unfold cnt2 set2
  rw [modify_set _ _ _ _ hr]
  have h1 := sum_set (cnt1 x) rs i r (r.set k l') hr
  have h2 := sum_set (List.count x) r k l l' hk
  unfold cnt1 at h1 h2 ⊢
  omega
theorem count_eraseIdx (x : Int) (l : List Int) (i : Nat) (c : Int) (h : l[i]? = some c) : (l.eraseIdx i).count x + (if c = x then 1 else 0) = l.count x := by
  induction l generalizing i with
  | nil => simp at h
  | cons a l ih =>
    cases i with
    | zero =>
      simp at h
      subst h
      simp [List.count_cons]
    | succ i =>
      have := ih i (by simpa using h)
      simp only [List.eraseIdx_cons_succ, List.count_cons]
      omega
theorem put_cnt {d : Dr} (h : d.Wk) (p i : Nat) (hi : i < (d.pk p).length) (x : Int) : cnt2 x (d.put p i).rs + (if d.card p i = x then 1 else 0) = cnt2 x d.rs := by
  have hat := h.pk_at p
  have h1 := cnt2_set x d.rs d.rd (d.fr p) (d.pk p) ((d.pk p).eraseIdx i) hat
  have h2 : (d.pk p)[i]? = some (d.card p i) := by unfold Dr.card; rw [List.getD_eq_getElem?_getD, List.getElem?_eq_getElem hi]; rfl
  have h3 := count_eraseIdx x (d.pk p) i _ h2
  show cnt2 x (set2 d.rs d.rd (d.fr p) ((d.pk p).eraseIdx i)) + _ = _
  omega
/-- the cards that are left over are those of the packs -/
def Lft (l : List Int) (rs : List (List (List Int))) : Prop := ∀ x, l.count x = cnt2 x rs
theorem Lft.take {c : Nat} {d : Dr} {a : Nat → Nat} (t : Turn c d a) {l : List Int} {p : Nat} (hp : p < d.n) (h : Lft l (tst d a (up d.n) p).rs) : (d.pk p).getD (a p) 0 ∈ l ∧ Lft (l.erase ((d.pk p).getD (a p) 0)) (tst d a (up d.n) (p + 1)).rs := by
  have hL := up_perm d.n
  have hw := t.inv.wk t.rd
  have e0 : tst d a (up d.n) p = puts d a ((up d.n).take p) := by unfold tst; rw [if_pos (by rw [hL.len]; exact hp)]
  have hpp := up_at hp
  have ho := puts_other hw t.inv.mv a p hp ((up d.n).take p) (fun q hq => hL.lt q (List.mem_of_mem_take hq)) (not_take hL.nd hpp)
  have e1 : (tst d a (up d.n) (p + 1)).rs = ((puts d a ((up d.n).take p)).put p (a p)).rs := by
    have hsn : (up d.n).take (p + 1) = (up d.n).take p ++ [p] := by rw [List.take_add_one, hpp]; rfl
    have h2 : (puts d a ((up d.n).take p)).put p (a p) = puts d a ((up d.n).take (p + 1)) := by rw [hsn, puts_app]; rfl
    rw [h2]
    by_cases h3 : p + 1 < d.n
    · unfold tst
      rw [if_pos (by rw [hL.len]; exact h3)]
    · obtain h4 : p + 1 = d.n := by omega
      rw [h4, t.next.2.2.2.2, List.take_of_length_le (by rw [hL.len]; exact Nat.le_refl _)]
  have hwk := puts_wk hw a ((up d.n).take p)
  have hc : (puts d a ((up d.n).take p)).card p (a p) = (d.pk p).getD (a p) 0 := by unfold Dr.card; rw [ho.1]
  have hlt : a p < ((puts d a ((up d.n).take p)).pk p).length := by rw [ho.1]; exact t.at' p hp
  have hk := fun x => put_cnt hwk.1 p (a p) hlt x
  rw [hc] at hk
  rw [e0] at h
  refine ⟨?_, fun x => ?_⟩
  · have h5 := hk ((d.pk p).getD (a p) 0)
    have h6 := h ((d.pk p).getD (a p) 0)
    rw [if_pos rfl] at h5
    exact List.count_pos_iff.1 (by omega)
  · have h5 := hk x
    have h6 := h x
    obtain ⟨y, hy⟩ : ∃ y, (d.pk p).getD (a p) 0 = y := ⟨_, rfl⟩
    rw [hy] at h5
    rw [e1, hy, List.count_erase]
    by_cases hx : y = x
    · subst hx
      simp only [beq_self_eq_true, if_true] at h5 ⊢
      omega
    · rw [if_neg hx] at h5
      rw [if_neg (by simpa using hx)]
      omega
theorem cnt1_append (x : Int) (r : List (List Int)) (l : List Int) : cnt1 x (r ++ [l]) = cnt1 x r + l.count x := by simp [cnt1]
theorem cnt2_append (x : Int) (rs : List (List (List Int))) (r : List (List Int)) : cnt2 x (rs ++ [r]) = cnt2 x rs + cnt1 x r := by simp [cnt2]
theorem Lft.done {c : Nat} {d : Dr} (h : d.Inv c) (ho : d.rd = d.rs.length) {l : List Int} (hl : Lft l d.rs) : l = [] := by
  have h1 : ∀ x, cnt2 x d.rs = 0 := fun x => by
    unfold cnt2
    rw [List.sum_eq_zero_iff_forall_eq_nat]
    intro n hn
    obtain ⟨r, hr, rfl⟩ := List.mem_map.1 hn
    unfold cnt1
    rw [List.sum_eq_zero_iff_forall_eq_nat]
    intro m hm
    obtain ⟨k, hk, rfl⟩ := List.mem_map.1 hm
    obtain ⟨i, hi⟩ := List.getElem?_of_mem hr
    obtain ⟨j, hj⟩ := List.getElem?_of_mem hk
    have h2 := h.bef i j k (by rw [ho]; exact (List.getElem?_eq_some_iff.1 hi).1) (at2_of hi hj)
    rw [List.eq_nil_of_length_eq_zero h2]
    rfl
  cases l with
  | nil => rfl
  | cons a l =>
    have h2 := hl a
    rw [h1] at h2
    simp at h2
end Go.Proofs.Yteocplabibhecaa.Plain
