/- Slices of values of some cells each: 'Rw' (what can be read), 'Ow' (a row of our own), and appending. -/
import Derived.Test.YteoeahmnonolmaaOnl
import Derived.Laws.AppendOwnNone
import Derived.Maps.AppendAt
import Derived.Laws.OwnMore
import Derived.WideShapes
namespace Go.Proofs.Yteoeahmnonolmaa
open Go.RowKit
set_option linter.unusedVariables false

section
variable {α : Type} {f : α → List Value} {sz : Nat}

/-- the slice v holds the values of l in w: f x are the sz cells of x -/
def Rw (f : α → List Value) (sz : Nat) (w : World) (v : Value) (l : List α) : Prop :=
  (l = [] ∧ (v = .slice none 0 0 ∨ ∃ a cap, v = .slice (some a) 0 cap)) ∨
  (l ≠ [] ∧ l.length ≤ maxLen ∧ ∃ b off cap, v = .slice (some ⟨b, off, none⟩) l.length cap ∧ b < w.heap.size ∧ ∀ i x, l[i]? = some x → ∀ j u, (f x)[j]? = some u → w.cell? ⟨b, off + (i * sz + j), none⟩ = some u)

theorem Rw.below {w w' : World} {v : Value} {l : List α} (h : Rw f sz w v l) (hb : Below w.heap.size w w') : Rw f sz w' v l := by
  rcases h with h | ⟨h0, h1, b, off, cap, hv, hlt, hc⟩
  · exact .inl h
  · exact .inr ⟨h0, h1, b, off, cap, hv, Nat.lt_of_lt_of_le hlt hb.size, fun i x hi j u hu => (hb.cell (p := ⟨b, off + (i * sz + j), none⟩) hlt).trans (hc i x hi j u hu)⟩
theorem Rw.drew {w : World} {v : Value} {l : List α} (h : Rw f sz w v l) : Rw f sz w.drew v l := h.below ((Below.refl _ _).drew)
theorem Rw.onl {S : List Nat} {w w' : World} {v : Value} {l : List α} (h : Rw f sz w v l) (ho : Onl S w w') (hs : ∀ b, v.ownBlock = some b → b ∉ S) : Rw f sz w' v l := by
  rcases h with h | ⟨h0, h1, b, off, cap, rfl, hlt, hc⟩
  · exact .inl h
  · exact .inr ⟨h0, h1, b, off, cap, rfl, Nat.lt_of_lt_of_le hlt ho.size, fun i x hi j u hu => (ho.cell (b := b) hlt (hs b rfl)).trans (hc i x hi j u hu)⟩
theorem Rw.form {w : World} {v : Value} {l : List α} (h : Rw f sz w v l) : l.length ≤ 9223372036854775807 ∧ ∃ a cap, v = .slice a l.length cap ∧ (0 < l.length → ∃ b off, a = some ⟨b, off, none⟩ ∧ b < w.heap.size ∧ ∀ i x, l[i]? = some x → ∀ j u, (f x)[j]? = some u → w.cell? ⟨b, off + (i * sz + j), none⟩ = some u) := by
  rcases h with ⟨rfl, rfl | ⟨a, cap, rfl⟩⟩ | ⟨h0, h1, b, off, cap, rfl, hlt, hc⟩
  · exact ⟨by simp, none, 0, rfl, fun h => by simp at h⟩
  · exact ⟨by simp, some a, cap, rfl, fun h => by simp at h⟩
  · exact ⟨by unfold maxLen at h1; omega, _, cap, rfl, fun _ => ⟨b, off, rfl, hlt, hc⟩⟩
theorem Rw.max {w : World} {v : Value} {l : List α} (h : Rw f sz w v l) : l.length ≤ maxLen := by
  rcases h with ⟨rfl, _⟩ | ⟨_, h1, _⟩
  · simp [maxLen]
  · exact h1
theorem Rw.nil (w : World) : Rw f sz w (.slice none 0 0) ([] : List α) := .inl ⟨rfl, .inl rfl⟩
theorem Rw.take {w : World} {a : Option Addr} {n c : Nat} {l : List α} (h : Rw f sz w (.slice a n c) l) {k : Nat} (hk : k ≤ n) (c' : Nat) (hc' : a = none → c' = 0) : Rw f sz w (.slice a k c') (l.take k) := by
  have nl : l.take 0 = [] := rfl
  have z : ∀ l' : List α, l' = [] → Rw f sz w (.slice a 0 c') l' := fun l' e => by
    cases a with
    | none => rw [hc' rfl]; exact .inl ⟨e, .inl rfl⟩
    | some a => exact .inl ⟨e, .inr ⟨a, c', rfl⟩⟩
  rcases h with ⟨rfl, hv⟩ | ⟨h0, h1, b, off, cap, hv, hlt, hc⟩
  · have hn : n = 0 := by rcases hv with hv | ⟨_, _, hv⟩ <;> (cases hv <;> rfl)
    obtain rfl : k = 0 := by omega
    exact z _ rfl
  · cases hv
    rcases Nat.eq_zero_or_pos k with rfl | h2
    · exact z _ rfl
    · have hl : (l.take k).length = k := by simp; omega
      refine .inr ⟨by intro e; rw [e] at hl; simp at hl; omega, by omega, b, off, c', by rw [hl], hlt, fun i x hi => ?_⟩
      have hik := (List.getElem?_eq_some_iff.1 hi).1
      rw [List.getElem?_take_of_lt (by omega)] at hi
      exact hc i x hi
theorem Rw.drop {w : World} {b off n c : Nat} {l : List α} (h : Rw f sz w (.slice (some ⟨b, off, none⟩) n c) l) {k : Nat} (hk : k ≤ n) (c' o' : Nat) (ho : k < n → o' = off + k * sz) : Rw f sz w (.slice (some ⟨b, o', none⟩) (n - k) c') (l.drop k) := by
  rcases h with ⟨rfl, hv⟩ | ⟨h0, h1, b', off', cap, hv, hlt, hc⟩
  · have hn : n = 0 := by rcases hv with hv | ⟨_, _, hv⟩ <;> (cases hv <;> rfl)
    subst hn
    obtain rfl : k = 0 := by omega
    exact .inl ⟨rfl, .inr ⟨_, _, rfl⟩⟩
  · cases hv
    rcases Nat.eq_zero_or_pos (l.length - k) with h2 | h2
    · exact .inl ⟨List.eq_nil_of_length_eq_zero (by simp; omega), .inr ⟨_, _, by rw [h2]⟩⟩
    · rw [ho (by omega)]
      refine .inr ⟨by intro e; have := congrArg List.length e; simp at this; omega, by rw [List.length_drop]; omega, b, off + k * sz, c', by simp, hlt, fun i x hi j u hu => ?_⟩
      rw [List.getElem?_drop] at hi
      have := hc (k + i) x hi j u hu
      rw [Nat.add_mul] at this
      rw [← this]
      congr 2
      omega

theorem flat_at {l : List α} (hs : ∀ x ∈ l, (f x).length = sz) {i j : Nat} {x : α} {u : Value} (hi : l[i]? = some x) (hj : (f x)[j]? = some u) : (l.flatMap f)[i * sz + j]? = some u := by
  induction l generalizing i with
  | nil => simp at hi
  | cons a l ih =>
    have ha : (f a).length = sz := hs a (by simp)
    rw [List.flatMap_cons]
    cases i with
    | zero =>
      simp at hi
      subst hi
      rw [List.getElem?_append_left (by rw [Nat.zero_mul, Nat.zero_add]; exact (List.getElem?_eq_some_iff.1 hj).1), Nat.zero_mul, Nat.zero_add]
      exact hj
    | succ i =>
      have hge : sz ≤ (i + 1) * sz + j := by rw [Nat.add_mul]; omega
      rw [List.getElem?_append_right (by omega), ha]
      have h2 := ih (fun x hx => hs x (by simp [hx])) (i := i) (by simpa using hi)
      rw [← h2]
      congr 1
      rw [Nat.add_mul]
      omega
theorem flat_of {l : List α} (hs : ∀ x ∈ l, (f x).length = sz) {q : Nat} {u : Value} (h : (l.flatMap f)[q]? = some u) : ∃ i j x, l[i]? = some x ∧ (f x)[j]? = some u ∧ q = i * sz + j := by
  induction l generalizing q with
  | nil => simp at h
  | cons a l ih =>
    have ha : (f a).length = sz := hs a (by simp)
    rw [List.flatMap_cons] at h
    rcases Nat.lt_or_ge q (f a).length with h1 | h1
    · rw [List.getElem?_append_left h1] at h
      exact ⟨0, q, a, rfl, h, by omega⟩
    · rw [List.getElem?_append_right h1] at h
      obtain ⟨i, j, x, h2, h3, h4⟩ := ih (fun x hx => hs x (by simp [hx])) h
      exact ⟨i + 1, j, x, by simpa using h2, h3, by rw [Nat.add_mul]; omega⟩
theorem flat_length {l : List α} (hs : ∀ x ∈ l, (f x).length = sz) : (l.flatMap f).length = l.length * sz := by
  induction l with
  | nil => simp
  | cons a l ih =>
    rw [List.flatMap_cons, List.length_append, ih (fun x hx => hs x (by simp [hx])), hs a (by simp), List.length_cons, Nat.add_mul]
    omega

/-- the slice v holds the values of l in a row of our own -/
def Ow (f : α → List Value) (sz : Nat) (e : TypeId) (w : World) (base : Nat) (v : Value) (l : List α) : Prop := w.ownsRow base e sz v l.length (l.flatMap f)
theorem Ow.nil (e : TypeId) (w : World) (base : Nat) : Ow f sz e w base (.slice none 0 0) ([] : List α) := World.ownsRow_nil _ _ _ _
theorem Ow.rw {e : TypeId} {w : World} {base : Nat} {v : Value} {l : List α} (h : Ow f sz e w base v l) (hs : ∀ x ∈ l, (f x).length = sz) : Rw f sz w v l := by
  rcases h.2 with ⟨h1, h2⟩ | ⟨g, cap, cur, h1, hb, hg, hn, hcap, hsz, ht⟩
  · exact .inl ⟨List.eq_nil_of_length_eq_zero h2, .inl h1⟩
  · rcases Nat.eq_zero_or_pos l.length with h0 | h0
    · exact .inl ⟨List.eq_nil_of_length_eq_zero h0, .inr ⟨⟨g, 0, none⟩, cap, by rw [h1, h0]⟩⟩
    · refine .inr ⟨by intro e; rw [e] at h0; simp at h0, by omega, g, 0, cap, h1, (Array.getElem?_eq_some_iff.1 hg).1, fun i x hi j u hu => ?_⟩
      subst h1
      have hq := flat_at hs hi hu
      have hlt : i * sz + j < l.length * sz := by have := (List.getElem?_eq_some_iff.1 hq).1; rwa [flat_length hs] at this
      rw [Nat.zero_add, World.ownsRow.cellAt h _ hlt, hq]
theorem Ow.below {e : TypeId} {w w' : World} {base : Nat} {v : Value} {l : List α} (h : Ow f sz e w base v l) (hb : Below w.heap.size w w') : Ow f sz e w' base v l := by
  refine ⟨h.1, ?_⟩
  rcases h.2 with h2 | ⟨g, cap, cur, h1, h2, h3, h4⟩
  · exact .inl h2
  · exact .inr ⟨g, cap, cur, h1, h2, (hb.block g (Array.getElem?_eq_some_iff.1 h3).1).trans h3, h4⟩
theorem Ow.onl {e : TypeId} {S : List Nat} {w w' : World} {base : Nat} {v : Value} {l : List α} (h : Ow f sz e w base v l) (ho : Onl S w w') (hs : ∀ b, v.ownBlock = some b → b ∉ S) : Ow f sz e w' base v l := by
  refine ⟨h.1, ?_⟩
  rcases h.2 with h2 | ⟨g, cap, cur, rfl, h2, h3, h4⟩
  · exact .inl h2
  · exact .inr ⟨g, cap, cur, rfl, h2, (ho.block g (Array.getElem?_eq_some_iff.1 h3).1 (hs g rfl)).trans h3, h4⟩
theorem Ow.base {e : TypeId} {w : World} {base base' : Nat} {v : Value} {l : List α} (h : Ow f sz e w base v l) (hb : ∀ b, v.ownBlock = some b → base' ≤ b) : Ow f sz e w base' v l := by
  refine ⟨h.1, ?_⟩
  rcases h.2 with h2 | ⟨g, cap, cur, rfl, h2, h3, h4⟩
  · exact .inl h2
  · exact .inr ⟨g, cap, cur, rfl, hb g rfl, h3, h4⟩
theorem Ow.form {e : TypeId} {w : World} {base : Nat} {v : Value} {l : List α} (h : Ow f sz e w base v l) : ∃ a cap, v = .slice a l.length cap := by
  rcases h.2 with ⟨rfl, h0⟩ | ⟨g, cap, cur, rfl, _⟩
  · exact ⟨none, 0, by rw [h0]⟩
  · exact ⟨_, _, rfl⟩
theorem Ow.max {e : TypeId} {w : World} {base : Nat} {v : Value} {l : List α} (h : Ow f sz e w base v l) : l.length ≤ maxLen := by
  rcases h.2 with ⟨_, h0⟩ | ⟨g, cap, cur, _, _, _, h1, h2, _⟩
  · rw [h0]; simp [maxLen]
  · omega
/-- the block of a row of our own, and its type -/
theorem Ow.typ {e : TypeId} {w : World} {base : Nat} {v : Value} {l : List α} (h : Ow f sz e w base v l) : ∀ b, v.ownBlock = some b → base ≤ b ∧ b < w.heap.size ∧ ∃ cur, w.heap[b]? = some (.cells cur e (0, 0)) := by
  intro b hb
  rcases h.2 with ⟨rfl, h0⟩ | ⟨g, cap, cur, rfl, h1, h2, _⟩
  · simp [Value.ownBlock] at hb
  · simp [Value.ownBlock] at hb
    subst hb
    exact ⟨h1, (Array.getElem?_eq_some_iff.1 h2).1, _, h2⟩
/-- a literal -/
theorem Ow.lit (w : World) (e : TypeId) (l : List α) (cs : Array Value) (hcs : cs.toList = l.flatMap f) (hs : ∀ x ∈ l, (f x).length = sz) (base : Nat) (hb : base ≤ w.heap.size) (hm : l.length ≤ maxLen) : Ow f sz e (w.alloc (.cells cs e)) base (.slice (some ⟨w.heap.size, 0, none⟩) l.length l.length) l := by
  have h := World.ownsRow_lit (base := base) (e := e) (size := sz) w cs l.length hb hm (by rw [← Array.length_toList, hcs, flat_length hs])
  rw [hcs] at h
  exact h
theorem Ow.grown {e : TypeId} {w w' : World} {base : Nat} {v : Value} {l : List α} {row : Option Nat} (h : Ow f sz e w base v l) (hg : w.grownBy w' row) (hne : ∀ b, v.ownBlock = some b → row ≠ some b) : Ow f sz e w' base v l :=
  World.ownsRow.kept h hg (by
    cases hv : v.ownBlock with
    | none => exact .inl rfl
    | some b => exact .inr (fun e => hne b hv e.symm))
theorem Ow.ne {β : Type} {f' : β → List Value} {sz' : Nat} {e e' : TypeId} {w : World} {base base' : Nat} {v v' : Value} {l : List α} {l' : List β} (h : Ow f sz e w base v l) (h' : Ow f' sz' e' w base' v' l') (he : e ≠ e') : ∀ b, v.ownBlock = some b → v'.ownBlock ≠ some b := by
  intro b hb hb'
  obtain ⟨_, _, c1, h1⟩ := h.typ b hb
  obtain ⟨_, _, c2, h2⟩ := h'.typ b hb'
  rw [h1] at h2
  simp at h2
  exact he h2.2
/-- a store into a row of our own: values of one cell -/
theorem Ow.set1 {e : TypeId} {w : World} {base g n cap : Nat} {l : List α} (h : Ow f 1 e w base (.slice (some ⟨g, 0, none⟩) n cap) l) (hs : ∀ x, (f x).length = 1) (hn : n = l.length) (i : Nat) (x : α) (u : Value) (hu : f x = [u]) : Ow f 1 e (w.setCell ⟨g, i, none⟩ u) base (.slice (some ⟨g, 0, none⟩) n cap) (l.set i x) := by
  subst hn
  have h1 := (World.ownsRow.stored h i u).1
  have e2 : ∀ (l : List α) (i : Nat), (l.flatMap f).set i u = (l.set i x).flatMap f := by
    intro l
    induction l with
    | nil => intro i; simp
    | cons a l ih =>
      intro i
      obtain ⟨y, hy⟩ : ∃ y, f a = [y] := by
        match hf : f a, hs a with
        | [y], _ => exact ⟨y, rfl⟩
      cases i with
      | zero => simp [List.flatMap_cons, hy, hu]
      | succ i =>
        simp only [List.flatMap_cons, hy, List.cons_append, List.nil_append, List.set_cons_succ]
        rw [ih i]
  rw [e2] at h1
  unfold Ow
  rw [List.length_set]
  exact h1
/-- a slice of one value, just made -/
theorem Rw.one (w : World) (T : TypeId) (x : α) (cs : Array Value) (h : cs.toList = f x) (cap : Nat) : Rw f sz (w.alloc (.cells cs T)) (.slice (some ⟨w.heap.size, 0, none⟩) 1 cap) [x] :=
  .inr ⟨by simp, by simp [maxLen], _, 0, cap, rfl, by simp, fun i y hi j u hu => by
    have hi0 : i = 0 := by have := (List.getElem?_eq_some_iff.1 hi).1; simp at this; omega
    subst hi0
    simp at hi
    subst hi
    rw [show 0 + (0 * sz + j) = j by omega, cell_of_row (w.alloc (.cells cs T)) w.heap.size j cs T (0, 0) (heap_alloc_new w _), ← Array.getElem?_toList, h, hu]⟩
theorem Rw.one2 (w : World) (T : TypeId) (x : α) (cs : Array Value) (h : cs.toList = f x) (cap n : Nat) (hn : n = w.heap.size) : Rw f sz (w.alloc (.cells cs T)) (.slice (some ⟨n, 0, none⟩) 1 cap) [x] := by
  subst hn
  exact Rw.one w T x cs h cap
theorem Onl.grown {S : List Nat} {w W W' : World} {row : Option Nat} (h : Onl S w W) (g : W.grownBy W' row) (hr : ∀ k, row = some k → k ∈ S ∨ w.heap.size ≤ k) : Onl S w W' :=
  ⟨g.os.trans h.os, g.tape.trans h.tape, g.output.trans h.output, Nat.le_trans h.size g.size, fun k hk hne => (g.block k (Nat.lt_of_lt_of_le hk h.size) (by
    intro e
    rcases hr k e.symm with h1 | h1
    · exact hne h1
    · omega)).trans (h.block k hk hne)⟩

/-- append(s, x...): s a row of our own, x any slice -/
theorem wpList_append_ow {P : Program} {w : World} {ops : Array Oper} {rest : List Oper} {o : Oper} {a : Act} {Q : Exit → Act → World → Prop} (hgd : o.guard = none) (s x : Operand) (t : TypeId)
    (ho : o.op = .call { callee := .builtin .append, args := #[s, x], argTypes := #[t, t] })
    (base : Nat) (e : TypeId) (z : Value) (bytes : Nat) (ht : P.underlying t = some (.slice e)) (hi : (P.info? e).map (fun i => (i.zero, i.size, i.bytes)) = some (some z, sz, bytes))
    (hzs : z.cells.size = sz) (hsz : 0 < sz) (v : Value) (l : List α) (hs : a.eval s = v) (hown : Ow f sz e w base v l) (hf : ∀ x, (f x).length = sz ∧ ∀ u ∈ f x, u.oneCell' = true)
    (u : Value) (m : List α) (hx : a.eval x = u) (hm : Rw f sz w u m) (h63 : l.length + m.length ≤ maxLen) (hbytes : (l.length + m.length) * bytes ≤ 140737488355328) (hbase : base ≤ w.heap.size)
    (h : ∀ v' w', Ow f sz e w' base v' (l ++ m) → w.grownBy w' v.ownBlock → (v'.ownBlock = v.ownBlock ∨ v'.ownBlock = some w.heap.size) → wpList P ops Q rest (a.put o.dst v') w') : wpList P ops Q (o :: rest) a w := by
  obtain ⟨i, hi2, hz, hsize, hby⟩ : ∃ i, P.info? e = some i ∧ i.zero = some z ∧ i.size = sz ∧ i.bytes = bytes := by
    cases hi0 : P.info? e with
    | none => rw [hi0] at hi; simp at hi
    | some i =>
      rw [hi0] at hi
      simp at hi
      exact ⟨i, rfl, hi.1, hi.2.1, hi.2.2⟩
  have go : ∀ (ad : Addr) (c : Nat), a.eval x = .slice (some ad) m.length c → (∀ j u, (m.flatMap f)[j]? = some u → w.cell? (ad.add j) = some u) → wpList P ops Q (o :: rest) a w := by
    intro ad c hx2 hc
    refine wpList_append_own_at w hgd s x t ho base e i z sz bytes ht hi2 hz hsize hby hzs hsz v l.length (l.flatMap f) hs hown ad m.length c (m.flatMap f) hx2 (flat_length (fun x _ => (hf x).1)) hc (fun u hu => ?_) h63 hbytes hbase ?_
    · obtain ⟨x, _, hx3⟩ := List.mem_flatMap.1 hu
      exact (hf x).2 u hx3
    · intro v' w' h1 h2 _ h4
      refine h v' w' ?_ h2 h4
      unfold Ow
      rw [List.length_append, List.flatMap_append]
      exact h1
  rcases hm with ⟨rfl, rfl | ⟨ad, cap, rfl⟩⟩ | ⟨h0, h1, b, off, cap, rfl, hlt, hc⟩
  · exact wpList_append_own_none hgd s x t ho base e i sz ht hi2 v l.length (l.flatMap f) hs hown hx (h _ _ (by rw [List.append_nil]; exact hown) ⟨rfl, rfl, rfl, Nat.le_refl _, fun _ _ _ => rfl⟩ (.inl rfl))
  · exact go ad cap hx (by simp)
  · refine go _ cap hx (fun j u hj => ?_)
    obtain ⟨i, j', y, h2, h3, rfl⟩ := flat_of (fun x _ => (hf x).1) hj
    rw [WideShapes.add_plain]
    exact hc i y h2 j' u h3
end
end Go.Proofs.Yteoeahmnonolmaa
