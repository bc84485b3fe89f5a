/- Boards of our own. -/
import Derived.Test.YteoeahmnonolmaaBL
import Derived.Test.YteoeahmnonolmaaOx
import Derived.Deep.DeepCutAuto
import Derived.LoopTactic
import Derived.Laws.OwnMore
namespace Go.Proofs.Yteoeahmnonolmaa
open Go.RowKit Plain
set_option linter.unusedVariables false
set_option linter.unusedSimpArgs false

/-- the nine lists of ids: the zones of both seats, and the attackers -/
def Bs.isl (s : Bs) (j : Nat) : Sl := if j < 8 then s.zl (j / 4) (j % 4) else s.at'
def Plain.Bd.il (B : Bd) (j : Nat) : List Int := if j < 8 then (B.seat (j / 4)).zs (j % 4) else B.att
def ItO (lo hi : Nat) (w : World) (v : Value) (l : List It) : Prop := ∃ l' : List (It × Sl), l'.map Prod.fst = l ∧ Ox itc 5 100 lo hi w v l' ∧ ∀ x ∈ l', Ox tc 2 105 lo hi w x.2.v x.1.tg
theorem itc_len {l : List (It × Sl)} : ∀ x ∈ l, (itc x).length = 5 := fun _ _ => rfl
theorem tc_len {l : List Tg} : ∀ x ∈ l, (tc x).length = 2 := fun _ _ => rfl
theorem oc_len {l : List Ob} : ∀ x ∈ l, (oc x).length = 12 := fun _ _ => rfl
theorem kc_len {l : List Bk} : ∀ x ∈ l, (kc x).length = 2 := fun _ _ => rfl
theorem ItO.rd {lo hi : Nat} {w : World} {v : Value} {l : List It} (h : ItO lo hi w v l) : ItR w v l := by
  obtain ⟨l', h1, h2, h3⟩ := h
  exact ⟨l', h1, h2.rw itc_len, fun x hx => (h3 x hx).rw tc_len⟩
theorem ItO.keep {lo hi : Nat} {w w' : World} {v : Value} {l : List It} (h : ItO lo hi w v l) (hk : ∀ k, lo ≤ k → k < hi → w'.heap[k]? = w.heap[k]?) : ItO lo hi w' v l := by
  obtain ⟨l', h1, h2, h3⟩ := h
  exact ⟨l', h1, h2.keep (fun k a b _ => hk k a b), fun x hx => (h3 x hx).keep (fun k a b _ => hk k a b)⟩
theorem ItO.below {lo hi : Nat} {w w' : World} {v : Value} {l : List It} (h : ItO lo hi w v l) (hb : Below w.heap.size w w') : ItO lo hi w' v l := by
  obtain ⟨l', h1, h2, h3⟩ := h
  exact ⟨l', h1, h2.below hb, fun x hx => (h3 x hx).below hb⟩
theorem ItO.mono {lo hi lo' hi' : Nat} {w : World} {v : Value} {l : List It} (h : ItO lo hi w v l) (h1 : lo' ≤ lo) (h2 : hi ≤ hi') : ItO lo' hi' w v l := by
  obtain ⟨l', g1, g2, g3⟩ := h
  exact ⟨l', g1, g2.mono h1 h2, fun x hx => (g3 x hx).mono h1 h2⟩
/-- a change of other types' blocks -/
theorem ItO.onlT {lo hi : Nat} {w w' : World} {v : Value} {l : List It} {g : Nat} {cur : Array Value} {e : TypeId} (h : ItO lo hi w v l) (ho : Onl [g] w w') (hg : w.heap[g]? = some (.cells cur e (0, 0))) (he1 : e ≠ 100) (he2 : e ≠ 105) : ItO lo hi w' v l := by
  obtain ⟨l', h1, h2, h3⟩ := h
  have key : ∀ {γ : Type} {f' : γ → List Value} {sz' : Nat} {e' : TypeId} {v' : Value} {m : List γ}, e ≠ e' → Ox f' sz' e' lo hi w v' m → Ox f' sz' e' lo hi w' v' m := fun he h => h.keep (fun k a b hb => ho.block k (h.blk hb).2.2 (fun hm => by
    simp at hm
    subst hm
    obtain ⟨_, _, c, hc⟩ := h.1.typ _ hb
    rw [hg] at hc
    simp at hc
    exact he hc.2))
  exact ⟨l', h1, key he1 h2, fun x hx => key he2 (h3 x hx)⟩
theorem ItO.nil (lo hi : Nat) (w : World) : ItO lo hi w (.slice none 0 0) [] := ⟨[], rfl, Ox.nil _ _ _ _, by simp⟩
/-- a board of our own: rows in blocks of [lo, hi), the lists of ids in blocks of their own -/
structure BdO (lo hi : Nat) (w : World) (s : Bs) (B : Bd) : Prop where
  ob : Ox oc 12 79 lo hi w s.ob.v B.ob
  il : ∀ j, j < 9 → Ox ic 1 3 lo hi w (s.isl j).v (B.il j)
  nd : ∀ i j, i < 9 → j < 9 → i ≠ j → ∀ b, (s.isl i).v.ownBlock = some b → (s.isl j).v.ownBlock ≠ some b
  st : ItO lo hi w s.st.v B.st
  qu : ItO lo hi w s.qu.v B.qu
  ns : ∀ b, s.st.v.ownBlock = some b → s.qu.v.ownBlock ≠ some b
  bl : Ox kc 2 107 lo hi w s.bl.v B.bl
theorem BdO.keep {lo hi : Nat} {w w' : World} {s : Bs} {B : Bd} (h : BdO lo hi w s B) (hk : ∀ k, lo ≤ k → k < hi → w'.heap[k]? = w.heap[k]?) : BdO lo hi w' s B :=
  ⟨h.ob.keep (fun k a b _ => hk k a b), fun j hj => (h.il j hj).keep (fun k a b _ => hk k a b), h.nd, h.st.keep hk, h.qu.keep hk, h.ns, h.bl.keep (fun k a b _ => hk k a b)⟩
theorem BdO.below {lo hi : Nat} {w w' : World} {s : Bs} {B : Bd} (h : BdO lo hi w s B) (hb : Below w.heap.size w w') : BdO lo hi w' s B :=
  ⟨h.ob.below hb, fun j hj => (h.il j hj).below hb, h.nd, h.st.below hb, h.qu.below hb, h.ns, h.bl.below hb⟩
theorem BdO.mono {lo hi lo' hi' : Nat} {w : World} {s : Bs} {B : Bd} (h : BdO lo hi w s B) (h1 : lo' ≤ lo) (h2 : hi ≤ hi') : BdO lo' hi' w s B :=
  ⟨h.ob.mono h1 h2, fun j hj => (h.il j hj).mono h1 h2, h.nd, h.st.mono h1 h2, h.qu.mono h1 h2, h.ns, h.bl.mono h1 h2⟩
theorem BdO.rng {lo hi lo' hi' : Nat} {w w' : World} {s : Bs} {B : Bd} (h : BdO lo hi w s B) (hr : Rng lo' hi' w w') (hd : hi ≤ lo' ∨ hi' ≤ lo) (hs : hi ≤ w.heap.size) : BdO lo hi w' s B :=
  h.keep (fun k a b => hr.block k (by omega) (by omega))
theorem BdO.rd {lo hi : Nat} {w : World} {s : Bs} {B : Bd} (h : BdO lo hi w s B) : BdR w s B := by
  have z : ∀ j, j < 9 → Rw ic 1 w (s.isl j).v (B.il j) := fun j hj => (h.il j hj).rw ic_len
  exact ⟨h.ob.rw oc_len, ⟨z 0 (by omega), z 1 (by omega), z 2 (by omega), z 3 (by omega)⟩, ⟨z 4 (by omega), z 5 (by omega), z 6 (by omega), z 7 (by omega)⟩, h.st.rd, h.qu.rd, z 8 (by omega), h.bl.rw kc_len⟩
/-- the zone z of the player p gets another slice -/
def Bs.setZ (s : Bs) (p z : Nat) (v : Sl) : Bs := if p = 0 then (if z = 0 then { s with l0 := v } else if z = 1 then { s with h0 := v } else if z = 2 then { s with f0 := v } else { s with g0 := v }) else (if z = 0 then { s with l1 := v } else if z = 1 then { s with h1 := v } else if z = 2 then { s with f1 := v } else { s with g1 := v })
theorem setZ_zl (s : Bs) (v : Sl) {p z q y : Nat} (hp : p < 2) (hz : z < 4) (hq : q < 2) (hy : y < 4) : (s.setZ p z v).zl q y = if q = p ∧ y = z then v else s.zl q y := by
  have : (p = 0 ∧ z = 0) ∨ (p = 0 ∧ z = 1) ∨ (p = 0 ∧ z = 2) ∨ (p = 0 ∧ z = 3) ∨ (p = 1 ∧ z = 0) ∨ (p = 1 ∧ z = 1) ∨ (p = 1 ∧ z = 2) ∨ (p = 1 ∧ z = 3) := by omega
  rcases this with ⟨rfl, rfl⟩ | ⟨rfl, rfl⟩ | ⟨rfl, rfl⟩ | ⟨rfl, rfl⟩ | ⟨rfl, rfl⟩ | ⟨rfl, rfl⟩ | ⟨rfl, rfl⟩ | ⟨rfl, rfl⟩
  all_goals
    have : (q = 0 ∧ y = 0) ∨ (q = 0 ∧ y = 1) ∨ (q = 0 ∧ y = 2) ∨ (q = 0 ∧ y = 3) ∨ (q = 1 ∧ y = 0) ∨ (q = 1 ∧ y = 1) ∨ (q = 1 ∧ y = 2) ∨ (q = 1 ∧ y = 3) := by omega
    rcases this with ⟨rfl, rfl⟩ | ⟨rfl, rfl⟩ | ⟨rfl, rfl⟩ | ⟨rfl, rfl⟩ | ⟨rfl, rfl⟩ | ⟨rfl, rfl⟩ | ⟨rfl, rfl⟩ | ⟨rfl, rfl⟩ <;> rfl
theorem setZ_isl (s : Bs) (v : Sl) {p z : Nat} (hp : p < 2) (hz : z < 4) {j : Nat} (hj : j < 9) : (s.setZ p z v).isl j = if j = 4 * p + z then v else s.isl j := by
  unfold Bs.isl
  by_cases h : j < 8
  · rw [if_pos h, if_pos h, setZ_zl s v hp hz (by omega) (by omega)]
    by_cases e : j = 4 * p + z
    · rw [if_pos e, if_pos (by omega)]
    · rw [if_neg e, if_neg (by omega)]
  · rw [if_neg h, if_neg h, if_neg (by omega)]
    have : (p = 0 ∧ z = 0) ∨ (p = 0 ∧ z = 1) ∨ (p = 0 ∧ z = 2) ∨ (p = 0 ∧ z = 3) ∨ (p = 1 ∧ z = 0) ∨ (p = 1 ∧ z = 1) ∨ (p = 1 ∧ z = 2) ∨ (p = 1 ∧ z = 3) := by omega
    rcases this with ⟨rfl, rfl⟩ | ⟨rfl, rfl⟩ | ⟨rfl, rfl⟩ | ⟨rfl, rfl⟩ | ⟨rfl, rfl⟩ | ⟨rfl, rfl⟩ | ⟨rfl, rfl⟩ | ⟨rfl, rfl⟩ <;> rfl
theorem setZ_rest (s : Bs) (v : Sl) {p z : Nat} (hp : p < 2) (hz : z < 4) : (s.setZ p z v).ob = s.ob ∧ (s.setZ p z v).st = s.st ∧ (s.setZ p z v).qu = s.qu ∧ (s.setZ p z v).bl = s.bl ∧ (s.setZ p z v).at' = s.at' := by
  have : (p = 0 ∧ z = 0) ∨ (p = 0 ∧ z = 1) ∨ (p = 0 ∧ z = 2) ∨ (p = 0 ∧ z = 3) ∨ (p = 1 ∧ z = 0) ∨ (p = 1 ∧ z = 1) ∨ (p = 1 ∧ z = 2) ∨ (p = 1 ∧ z = 3) := by omega
  rcases this with ⟨rfl, rfl⟩ | ⟨rfl, rfl⟩ | ⟨rfl, rfl⟩ | ⟨rfl, rfl⟩ | ⟨rfl, rfl⟩ | ⟨rfl, rfl⟩ | ⟨rfl, rfl⟩ | ⟨rfl, rfl⟩ <;> exact ⟨rfl, rfl, rfl, rfl, rfl⟩
theorem Bx.put {w : World} {P : Nat} {s s' : Bs} {B B' : Bd} (h : Bx w P s B) (i : Nat) (v : Value) (he : (bcells s B).setIfInBounds i v = bcells s' B') : Bx (w.setCell ⟨P, i, none⟩ v) P s' B' := by
  unfold Bx at *
  rw [← he]
  exact heap_setCell_same w P i _ _ v h
theorem Bx.free {w : World} {P : Nat} {s : Bs} {B : Bd} (h : Bx w P s B) (i : Nat) : w.frozen? ⟨P, i, none⟩ = false := by
  unfold World.frozen?
  rw [show w.heap[P]? = _ from h]
  simp
theorem Bx.onl {w w' : World} {P : Nat} {s : Bs} {B : Bd} {S : List Nat} (h : Bx w P s B) (ho : Onl S w w') (hS : P ∉ S) : Bx w' P s B := (ho.block P h.lt hS).trans h
theorem Bx.putZ {w : World} {P : Nat} {s : Bs} {B : Bd} (h : Bx w P s B) {p z : Nat} (hp : p < 2) (hz : z < 4) (v : Sl) : Bx (w.setCell ⟨P, 1 + p * 14 + 5 + z, none⟩ v.v) P (s.setZ p z v) B := by
  apply h.put
  have : (p = 0 ∧ z = 0) ∨ (p = 0 ∧ z = 1) ∨ (p = 0 ∧ z = 2) ∨ (p = 0 ∧ z = 3) ∨ (p = 1 ∧ z = 0) ∨ (p = 1 ∧ z = 1) ∨ (p = 1 ∧ z = 2) ∨ (p = 1 ∧ z = 3) := by omega
  rcases this with ⟨rfl, rfl⟩ | ⟨rfl, rfl⟩ | ⟨rfl, rfl⟩ | ⟨rfl, rfl⟩ | ⟨rfl, rfl⟩ | ⟨rfl, rfl⟩ | ⟨rfl, rfl⟩ | ⟨rfl, rfl⟩ <;> rfl
theorem bcells_one (s : Bs) (B : Bd) : (bcells s B).all (·.oneCell') = true := by simp [bcells, Value.oneCell', Sl.v]
/-- the whole board is written -/
theorem wpList_store_bx {ops : Array Oper} {rest : List Oper} {op : Oper} {a : Act} {w : World} {Q : Exit → Act → World → Prop} (hgd : op.guard = none) {P : Nat} {s : Bs} {B : Bd} (x y : Operand) (ho : op.op = .store 34 x y) (hx : a.eval x = .pointer (some ⟨P, 0, none⟩)) (hy : a.eval y = bv s B) {old : Array Value} (hg : w.heap[P]? = some (.cells old 34 (0, 0))) (hsz : old.size = 38)
    (hK : ∀ w', w' = w.setRow P (bcells s B) → wpList Try.prog ops Q rest (a.put op.dst undef) w') : wpList Try.prog ops Q (op :: rest) a w :=
  wpList_store_row hgd 34 x y ho P (bcells s B) hx hy 34 old hg (by kernel_rfl) (by rw [hsz]; rfl) (bcells_one s B) (hK _ rfl)
theorem Bx.row {w : World} {P : Nat} {old : Array Value} (hg : w.heap[P]? = some (.cells old 34 (0, 0))) (s : Bs) (B : Bd) : Bx (w.setRow P (bcells s B)) P s B := setRow_heap _ P old _ 34 _ hg
/-- nine rows, told apart -/
structure Il (lo hi : Nat) (w : World) (s : Bs) (B : Bd) (k : Nat) : Prop where
  il : ∀ j, j < k → Ox ic 1 3 lo hi w (s.isl j).v (B.il j)
  nd : ∀ i j, i < k → j < k → i ≠ j → ∀ b, (s.isl i).v.ownBlock = some b → (s.isl j).v.ownBlock ≠ some b
theorem Il.below {lo hi : Nat} {w w' : World} {s : Bs} {B : Bd} {k : Nat} (h : Il lo hi w s B k) (hb : Below w.heap.size w w') : Il lo hi w' s B k := ⟨fun j hj => (h.il j hj).below hb, h.nd⟩
theorem Il.mono {lo hi hi' : Nat} {w : World} {s : Bs} {B : Bd} {k : Nat} (h : Il lo hi w s B k) (h2 : hi ≤ hi') : Il lo hi' w s B k := ⟨fun j hj => (h.il j hj).mono (Nat.le_refl _) h2, h.nd⟩
theorem Il.zero (lo hi : Nat) (w : World) (s : Bs) (B : Bd) : Il lo hi w s B 0 := ⟨fun j hj => by omega, fun i j hi => by omega⟩
theorem Il.onl {lo hi : Nat} {w w' : World} {s : Bs} {B : Bd} {k : Nat} {S : List Nat} (h : Il lo hi w s B k) (ho : Onl S w w') (hS : ∀ b ∈ S, b < lo ∨ hi ≤ b) : Il lo hi w' s B k :=
  ⟨fun j hj => (h.il j hj).keep (fun q a b hb => ho.block q ((h.il j hj).blk hb).2.2 (fun hm => by have := hS q hm; omega)), h.nd⟩
/-- the next zone is copied -/
theorem Il.next {lo hi hi' : Nat} {w : World} {s : Bs} {B : Bd} {p z : Nat} (h : Il lo hi w s B (4 * p + z)) (hp : p < 2) (hz : z < 4) (hh : hi ≤ hi') (hlo : lo ≤ hi) (v : Sl) (hv : Ox ic 1 3 hi hi' w v.v ((B.seat p).zs z)) : Il lo hi' w (s.setZ p z v) B (4 * p + z + 1) := by
  have e : ∀ j, j < 4 * p + z → (s.setZ p z v).isl j = s.isl j := fun j hj => by rw [setZ_isl s v hp hz (by omega), if_neg (by omega)]
  have e2 : (s.setZ p z v).isl (4 * p + z) = v := by rw [setZ_isl s v hp hz (by omega), if_pos rfl]
  have e3 : B.il (4 * p + z) = (B.seat p).zs z := by unfold Plain.Bd.il; rw [if_pos (by omega), show (4 * p + z) / 4 = p by omega, show (4 * p + z) % 4 = z by omega]
  refine ⟨fun j hj => ?_, fun i j hi2 hj hij b hb => ?_⟩
  · rcases Nat.lt_or_ge j (4 * p + z) with h1 | h1
    · rw [e j h1]; exact (h.il j h1).mono (Nat.le_refl _) hh
    · obtain rfl : j = 4 * p + z := by omega
      rw [e2, e3]; exact hv.mono hlo (Nat.le_refl _)
  · rcases Nat.lt_or_ge i (4 * p + z) with h1 | h1
    · rw [e i h1] at hb
      rcases Nat.lt_or_ge j (4 * p + z) with h2 | h2
      · rw [e j h2]; exact h.nd i j h1 h2 hij b hb
      · obtain rfl : j = 4 * p + z := by omega
        rw [e2]
        exact (h.il i h1).ne (w' := w) hv (.inl (Nat.le_refl _)) b hb
    · obtain rfl : i = 4 * p + z := by omega
      rw [e2] at hb
      have h2 : j < 4 * p + z := by omega
      rw [e j h2]
      exact hv.ne (w' := w) (h.il j h2) (.inr (Nat.le_refl _)) b hb
/-- and the attackers -/
theorem Il.last {lo hi : Nat} {w : World} {s : Bs} {B : Bd} (h : Il lo hi w s B 8) {lo2 hi2 : Nat} (hv : Ox ic 1 3 lo2 hi2 w s.at'.v B.att) (hd : hi ≤ lo2 ∨ hi2 ≤ lo) {l u : Nat} (hl : l ≤ lo ∧ l ≤ lo2) (hu : hi ≤ u ∧ hi2 ≤ u) : Il l u w s B 9 := by
  have e2 : s.isl 8 = s.at' := rfl
  have e3 : B.il 8 = B.att := rfl
  refine ⟨fun j hj => ?_, fun i j hi2 hj hij b hb => ?_⟩
  · rcases Nat.lt_or_ge j 8 with h1 | h1
    · exact (h.il j h1).mono hl.1 hu.1
    · obtain rfl : j = 8 := by omega
      rw [e2, e3]; exact hv.mono hl.2 hu.2
  · rcases Nat.lt_or_ge i 8 with h1 | h1
    · rcases Nat.lt_or_ge j 8 with h2 | h2
      · exact h.nd i j h1 h2 hij b hb
      · obtain rfl : j = 8 := by omega
        rw [e2]
        exact (h.il i h1).ne (w' := w) hv (by omega) b hb
    · obtain rfl : i = 8 := by omega
      rw [e2] at hb
      exact hv.ne (w' := w) (h.il j (by omega)) (by omega) b hb
end Go.Proofs.Yteoeahmnonolmaa
