/- What Take changes in memory. -/
import Derived.Test.YteocplabibhecaaDr
import Derived.Lib.SliceRun
namespace Go.Proofs.Yteocplabibhecaa
open Go.RowKit Plain
set_option linter.unusedVariables false
set_option linter.unusedSimpArgs false

theorem Oe.notS {α : Type} {f : α → List Value} {e e' : TypeId} {w : World} {v : Value} {l : List α} {T : List Nat} (h : Oe f e w v l) (hT : ∀ b ∈ T, Ty w (some b) e') (he : e' ≠ e) : ∀ b, blk v = some b → b ∉ T := fun b hb hm => h.notT (hT b hm) he b hb (by simp)
theorem Ty.onl {w w' : World} {S : List Nat} {g : Nat} {e : TypeId} (h : Ty w (some g) e) (ho : Onl S w w') (hg : g ∉ S) (hl : g < w.heap.size) : Ty w' (some g) e := fun b hb => by
  cases hb
  obtain ⟨c, hc⟩ := h g rfl
  exact ⟨c, (ho.block g hl hg).trans hc⟩
theorem Oe.ty {α : Type} {f : α → List Value} {e : TypeId} {w : World} {v : Value} {l : List α} (h : Oe f e w v l) {b : Nat} (hb : blk v = some b) : Ty w (some b) e := fun c hc => by
  cases hc
  exact (h.typ b hb).2
theorem set2_eq {α : Type} {l : List (List α)} {i k : Nat} {x : α} {r : List α} (h : l[i]? = some r) : set2 l i k x = l.set i (r.set k x) := by
  apply List.ext_getElem?
  intro j
  rw [set2_row, List.getElem?_set]
  have := (List.getElem?_eq_some_iff.1 h).1
  split
  · rename_i e
    subst e
    rw [h]
    first | rfl | (rw [if_pos this]; rfl)
  · rfl
theorem set_same {α : Type} {l : List α} {i : Nat} {x : α} (h : l[i]? = some x) : l.set i x = l := by
  apply List.ext_getElem?
  intro j
  rw [List.getElem?_set]
  split
  · rename_i e
    subst e
    rw [if_pos (List.getElem?_eq_some_iff.1 h).1, h]
  · rfl
/-- a row of numbers is another one, and its cell as well -/
theorem DrM.putc {w w2 : World} {B : Nat} {S S' T : List Nat} {P : Nat} {d d' : Dr} {so st sm : Sl} {rvs : List Sl} {vss : List (List Sl)} (h : DrM w B S P d so st sm rvs vss) {i k g n rc : Nat} {old s' : Sl} {l' : List Int}
    (hold : at2 vss i k = some old) (hrow : (rvs ++ [st])[i]? = some ⟨some ⟨g, 0, none⟩, n, rc⟩) (ho : Onl T w w2) (hT : ∀ b ∈ T, blk old.v = some b) (hs : Oe ic 3 w2 s'.v l') (hb : ∀ b, blk s'.v = some b → blk old.v = some b ∨ w.heap.size ≤ b)
    (hS : ∀ b ∈ S, b ∈ S') (hS2 : ∀ b, blk s'.v = some b → b ∈ S') (hS3 : ∀ b ∈ S', b ∈ S ∨ (w.heap.size ≤ b ∧ b < w2.heap.size)) (hd : d'.rs ++ [d'.tk] = set2 (d.rs ++ [d.tk]) i k l') (hmv : d'.mv = d.mv) (hrd : d'.rd = d.rd) (htn : d'.tn = d.tn) :
    DrM (w2.setCell ⟨g, k, none⟩ s'.v) B S' P d' so st sm rvs (set2 vss i k s') ∧ Onl S w (w2.setCell ⟨g, k, none⟩ s'.v) := by
  obtain ⟨lo, _, hro⟩ := h.mat.of hold
  have hTt : ∀ b ∈ T, Ty w (some b) 3 := fun b hb => hro.ty (hT b hb)
  obtain ⟨r, hr, hk⟩ := at2_row hold
  have hor := h.rows.row i _ r hrow hr
  have hbg : blk (Sl.v ⟨some ⟨g, 0, none⟩, n, rc⟩) = some g := rfl
  have hgt : Ty w (some g) 32 := hor.ty hbg
  have hgl : g < w.heap.size := hor.lt hbg
  have hgT : g ∉ T := hor.notS hTt (by decide) g hbg
  have hgt2 : Ty w2 (some g) 32 := hgt.onl ho hgT hgl
  have ho3 : Onl [g] w2 (w2.setCell ⟨g, k, none⟩ s'.v) := (Onl.refl _ _).setCell (.inl (by simp)) _
  have hPl := h.lt
  have tyP : Ty w (some P) 56 := fun b hb => by cases hb; exact ⟨_, h.hp⟩
  have diff : ∀ {a b : Nat} {e e' : TypeId} {W : World}, Ty W (some a) e → Ty W (some b) e' → e ≠ e' → a ≠ b := fun h1 h2 hne e => by
    subst e
    obtain ⟨c1, h3⟩ := h1 _ rfl
    obtain ⟨c2, h4⟩ := h2 _ rfl
    rw [h3] at h4
    simp at h4
    exact hne h4.2
  have hPT : P ∉ T := fun hm => diff tyP (hTt P hm) (by decide) rfl
  have hPg : P ≠ g := diff tyP hgt (by decide)
  have hp2 := (ho.block P hPl hPT).trans h.hp
  have hrows2 : Fam vc 32 w2 (rvs ++ [st]) vss := h.rows.onl ho (fun s hs b hb => by
    obtain ⟨j, l, _, _, ho⟩ := h.rows.mem hs
    exact ho.notS hTt (by decide) b hb)
  have hor2 : Oe vc 32 w2 (Sl.v ⟨some ⟨g, 0, none⟩, n, rc⟩) r := hrows2.row i _ r hrow hr
  have hrow3 : Oe vc 32 (w2.setCell ⟨g, k, none⟩ s'.v) (Sl.v ⟨some ⟨g, 0, none⟩, n, rc⟩) (r.set k s') := by
    obtain ⟨a, c, hl⟩ := hor2.form
    simp only [Sl.v, Value.slice.injEq] at hl
    exact Ow.set1 hor2 (fun _ => rfl) hl.2.1 k s' s'.v rfl
  have hmat3 := h.mat.set i k old s' l' hold ho (fun b hb => .inr (hT b hb)) hs hb
  refine ⟨⟨?_, ?_, ?_, ?_, ?_, hS P h.inP, fun b hb => hS b (h.ino b hb), fun b hb => hS b (h.inm b hb), fun s hs b hb => hS b (h.inr s hs b hb), fun j m s b hs1 hb1 => ?_, fun b hb => ?_⟩, ?_⟩
  · rw [hrd, htn]
    exact (ho3.block P (Nat.lt_of_lt_of_le hPl ho.size) (by simpa using hPg)).trans hp2
  · exact (h.out.onl ho (h.out.notS hTt (by decide))).onlT ho3 hgt2 (by decide)
  · have h1 := hrows2.set (S := [g]) (w' := w2.setCell ⟨g, k, none⟩ s'.v) i _ ⟨some ⟨g, 0, none⟩, n, rc⟩ (r.set k s') hrow ho3 (fun b hb => by simp at hb; subst hb; exact .inr hbg) hrow3 (fun b hb => .inl hb)
    rw [set_same hrow] at h1
    rw [set2_eq hr]
    exact h1
  · rw [hd]
    exact hmat3.onlT ho3 hgt2 (by decide)
  · rw [hmv]
    exact (h.mov.onl ho (h.mov.notS hTt (by decide))).onlT ho3 hgt2 (by decide)
  · rcases at2_set2 _ _ _ _ _ _ _ hs1 with ⟨_, _, h5⟩ | ⟨_, h5⟩
    · rw [h5] at hb1
      exact hS2 b hb1
    · exact hS b (h.ini j m s b h5 hb1)
  · have hsz : (w2.setCell ⟨g, k, none⟩ s'.v).heap.size = w2.heap.size := by simp [World.setCell]
    rw [hsz]
    rcases hS3 b hb with h5 | h5
    · exact ⟨(h.new b h5).1, Nat.lt_of_lt_of_le (h.new b h5).2 ho.size⟩
    · have := h.new P h.inP
      exact ⟨by omega, h5.2⟩
  · refine Onl.trans (b := w2) (ho.less (fun b hb => .inl ?_)) ?_
    · exact h.ini i k old b hold (hT b hb)
    · exact (Onl.refl _ _).setCell (.inl (h.inr _ (List.mem_of_getElem? hrow) g hbg)) _
/-- somebody has moved, or nobody -/
theorem DrM.putm {w w2 : World} {B : Nat} {S : List Nat} {P : Nat} {d d' : Dr} {so st sm : Sl} {rvs : List Sl} {vss : List (List Sl)} (h : DrM w B S P d so st sm rvs vss) {g : Nat} (hg : blk sm.v = some g) (ho : Onl [g] w w2) (hm : Oe bc 4 w2 sm.v d'.mv) (hrs : d'.rs = d.rs) (htk : d'.tk = d.tk) (hrd : d'.rd = d.rd) (htn : d'.tn = d.tn) : DrM w2 B S P d' so st sm rvs vss ∧ Onl S w w2 := by
  have hgt : Ty w (some g) 4 := h.mov.ty hg
  have hPg : P ≠ g := fun e => by
    obtain ⟨c1, h3⟩ := hgt g rfl
    rw [← e, h.hp] at h3
    simp at h3
  refine ⟨⟨?_, h.out.onlT ho hgt (by decide), h.rows.onlT ho hgt (by decide), ?_, hm, h.inP, h.ino, h.inm, h.inr, h.ini, fun b hb => ⟨(h.new b hb).1, Nat.lt_of_lt_of_le (h.new b hb).2 ho.size⟩⟩, ho.less (fun b hb => .inl ?_)⟩
  · rw [hrd, htn]
    exact (ho.block P h.lt (by simpa using hPg)).trans h.hp
  · rw [hrs, htk]
    exact h.mat.onlT ho hgt (by decide)
  · simp at hb
    subst hb
    exact h.inm b hg
/-- the round and the turn are others -/
theorem DrM.putp {w w2 : World} {B : Nat} {S : List Nat} {P : Nat} {d d' : Dr} {so st sm : Sl} {rvs : List Sl} {vss : List (List Sl)} (h : DrM w B S P d so st sm rvs vss) (ho : Onl [P] w w2) (hp : w2.heap[P]? = some (.cells #[so.v, st.v, sm.v, .int .i64 d'.rd, .int .i64 d'.tn] 56 (0, 0))) (hrs : d'.rs = d.rs) (htk : d'.tk = d.tk) (hmv : d'.mv = d.mv) : DrM w2 B S P d' so st sm rvs vss ∧ Onl S w w2 := by
  have tyP : Ty w (some P) 56 := fun b hb => by cases hb; exact ⟨_, h.hp⟩
  refine ⟨⟨hp, h.out.onlT ho tyP (by decide), h.rows.onlT ho tyP (by decide), ?_, ?_, h.inP, h.ino, h.inm, h.inr, h.ini, fun b hb => ⟨(h.new b hb).1, Nat.lt_of_lt_of_le (h.new b hb).2 ho.size⟩⟩, ho.less (fun b hb => .inl ?_)⟩
  · rw [hrs, htk]
    exact h.mat.onlT ho tyP (by decide)
  · rw [hmv]
    exact h.mov.onlT ho tyP (by decide)
  · simp at hb
    subst hb
    exact h.inP
def fill {α : Type} (xs : List α) (o : Nat) : Nat → α → List α
  | 0, _ => xs
  | m + 1, u => fill (xs.set o u) (o + 1) m u
theorem fill_at {α : Type} (xs : List α) (o m : Nat) (u : α) (j : Nat) : (fill xs o m u)[j]? = if o ≤ j ∧ j < o + m ∧ j < xs.length then some u else xs[j]? := by
  induction m generalizing xs o with
  | zero => rw [if_neg (by omega)]; rfl
  | succ m ih =>
    unfold fill
    rw [ih, List.length_set, List.getElem?_set]
    by_cases h1 : j < xs.length
    · by_cases h2 : o = j
      · subst h2
        rw [if_pos rfl, if_pos h1, if_neg (by omega), if_pos (by omega)]
      · rw [if_neg h2]
        by_cases h3 : o + 1 ≤ j ∧ j < o + 1 + m ∧ j < xs.length
        · rw [if_pos h3, if_pos (by omega)]
        · rw [if_neg h3, if_neg (by omega)]
    · rw [if_neg (by omega)]
      by_cases h2 : o = j
      · subst h2
        rw [if_pos rfl, if_neg h1, if_neg (by omega), List.getElem?_eq_none (by omega)]
      · rw [if_neg h2, if_neg (by omega)]
theorem fill_all {α : Type} (xs : List α) (u : α) : fill xs 0 xs.length u = List.replicate xs.length u := by
  apply List.ext_getElem?
  intro j
  rw [fill_at, List.getElem?_replicate]
  by_cases h : j < xs.length
  · rw [if_pos (by omega), if_pos h]
  · rw [if_neg (by omega), if_neg h, List.getElem?_eq_none (by omega)]
theorem owns_fill {base g n cap : Nat} {e : TypeId} (u : Value) : ∀ (m o : Nat) (w : World) (xs : List Value), w.ownsRow base e 1 (.slice (some ⟨g, 0, none⟩) n cap) n xs → (w.setCells g o (List.replicate m u)).ownsRow base e 1 (.slice (some ⟨g, 0, none⟩) n cap) n (fill xs o m u)
  | 0, _, _, _, h => h
  | m + 1, o, w, xs, h => by
    rw [List.replicate_succ]
    exact owns_fill u m (o + 1) _ _ (h.stored o u).1
theorem Ow.cleared {w : World} {base g cap : Nat} {l : List Bool} (h : Ow bc 1 4 w base (.slice (some ⟨g, 0, none⟩) l.length cap) l) : Ow bc 1 4 (w.setCells g 0 (List.replicate l.length (.bool false))) base (.slice (some ⟨g, 0, none⟩) l.length cap) (List.replicate l.length false) := by
  have h1 := owns_fill (.bool false) l.length 0 w _ h
  have e1 : ∀ l : List Bool, l.flatMap bc = l.map Value.bool := by
    intro l
    induction l with
    | nil => rfl
    | cons a l ih => rw [List.flatMap_cons, ih]; rfl
  have h2 : (l.map Value.bool).length = l.length := List.length_map ..
  rw [e1] at h1
  have h3 := fill_all (l.map Value.bool) (.bool false)
  rw [h2] at h3
  rw [h3] at h1
  unfold Ow
  rw [List.length_replicate, e1, List.map_replicate]
  exact h1
def obl (v : Value) : List Nat := match v.ownBlock with
  | some b => [b]
  | none => []
theorem mem_obl {v : Value} {b : Nat} : b ∈ obl v ↔ v.ownBlock = some b := by
  unfold obl
  split
  · rename_i c h
    rw [h]
    simp [eq_comm]
  · rename_i h
    rw [h]
    simp
theorem Oe.oblT {α : Type} {f : α → List Value} {e : TypeId} {w : World} {v : Value} {l : List α} (h : Oe f e w v l) : ∀ b ∈ obl v, Ty w (some b) e := fun b hb => h.ty (mem_obl.1 hb)
theorem ty_frozen {w : World} {g : Nat} {e : TypeId} (h : Ty w (some g) e) (i : Nat) : w.frozen? ⟨g, i, none⟩ = false := by
  obtain ⟨c, hc⟩ := h g rfl
  exact frozen_of_row w g i c e hc
theorem ty_ne {w : World} {a b : Nat} {e e' : TypeId} (h1 : Ty w (some a) e) (h2 : Ty w (some b) e') (hne : e ≠ e') : a ≠ b := fun e => by
  subst e
  obtain ⟨c1, h3⟩ := h1 _ rfl
  obtain ⟨c2, h4⟩ := h2 _ rfl
  rw [h3] at h4
  simp at h4
  exact hne h4.2
theorem set2_left {α : Type} (l : List (List α)) (r : List α) (i k : Nat) (x : α) (hi : i < l.length) : set2 (l ++ [r]) i k x = set2 l i k x ++ [r] := by
  have h0 := List.getElem?_eq_getElem hi
  rw [set2_eq h0, set2_eq (r := l[i]) (by rw [List.getElem?_append_left hi]; exact h0), List.set_append_left _ _ hi]
theorem set2_last {α : Type} (l : List (List α)) (r : List α) (k : Nat) (x : α) : set2 (l ++ [r]) l.length k x = l ++ [r.set k x] := by
  rw [set2_eq (r := r) (by simp), List.set_append_right _ _ (Nat.le_refl _)]
  simp
theorem any_not (l : List Bool) : (l.any fun z => !z) = l.contains false := by
  induction l with
  | nil => rfl
  | cons a l ih =>
    rw [List.any_cons, List.contains_cons, ih]
    cases a <;> rfl
theorem DrM.tyP {w : World} {B : Nat} {S : List Nat} {P : Nat} {d : Dr} {so st sm : Sl} {rvs : List Sl} {vss : List (List Sl)} (h : DrM w B S P d so st sm rvs vss) : Ty w (some P) 56 := fun b hb => by cases hb; exact ⟨_, h.hp⟩
/-- a call that changes a draft -/
def TakeAt (w : World) (B : Nat) (S : List Nat) (P : Nat) (d' : Dr) (card er : Int) (e : Ending) (w' : World) : Prop := ∃ S', e = .returned (.tuple #[.int .i64 card, .int .i64 er]) ∧ DrAt w' B S' P d' ∧ (∀ b ∈ S', b ∈ S ∨ w.heap.size ≤ b) ∧ (∀ b ∈ S, b ∈ S') ∧ Onl S w w'
theorem TakeAt.same {w w' : World} {B : Nat} {S : List Nat} {P : Nat} {d : Dr} {er : Int} (h : DrAt w B S P d) (hb : Below w.heap.size w w') : TakeAt w B S P d 0 er (.returned (.tuple #[.int .i64 0, .int .i64 er])) w' := ⟨S, rfl, h.below hb, fun b hb => .inl hb, fun b hb => hb, .of hb⟩
theorem stp_bad {d : Dr} {p i e : Int} (h : d.err p i = e) (h0 : e ≠ 0) : d.stp p i = d ∧ d.got p i = 0 := by
  unfold Dr.stp Dr.got
  rw [h, if_neg h0, if_neg h0]
  exact ⟨rfl, rfl⟩
end Go.Proofs.Yteocplabibhecaa
