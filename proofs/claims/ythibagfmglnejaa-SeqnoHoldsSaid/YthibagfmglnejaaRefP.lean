/- The reference's window: the plain law of Accept. -/
import Derived.Test.YthibagfmglnejaaRefB
namespace Go.Proofs.Ythibagfmglnejaa
open Go.RowKit Plain
set_option linter.unusedVariables false
set_option linter.unusedSimpArgs false

theorem dist_inj {f a b : Int} (ha : U16 a) (hb : U16 b) (h : dist f a = dist f b) : a = b := by unfold dist U16 at *; omega
theorem accL_head {l : List Bool} {d : Nat} (h : 1 ≤ l.length) : (accL l d)[0]? = some false := by
  unfold accL shift
  have hl : (l.set d true).length = l.length := by simp
  rcases Nat.lt_or_ge (gone (l.set d true)) l.length with h1 | h1
  · rw [List.getElem?_append_left (by simp; omega), List.getElem?_drop, Nat.add_zero]
    exact gone_false _ (by omega)
  · have h2 := gone_le (l.set d true)
    have h3 : gone (l.set d true) = l.length := by omega
    rw [h3, List.drop_eq_nil_of_le (by omega), List.nil_append, List.getElem?_replicate, if_pos (by omega)]
theorem rep_add {f n : Int} {l : List Bool} {zs : List Int} {d : Nat} (hr : RepR f l zs) (hf : U16 f) (hn : U16 n) (h0 : l[0]? = some false) (hd : dist f n = (d : Int)) (h1 : 1 ≤ d) (h2 : d < l.length) : RepR (accF f l d) (accL l d) (zs ++ [n]) := by
  rw [accF_set f l d hf h1 h0, accL_set l d h1 h0]
  intro m hm
  rw [List.mem_append, hr m hm, List.mem_singleton]
  constructor
  · rintro (⟨e, h3, h4⟩ | rfl)
    · refine ⟨e, h3, ?_⟩
      by_cases he : d = e
      · subst he; rw [List.getElem?_set_self h2]
      · rw [List.getElem?_set_ne he]; exact h4
    · exact ⟨d, hd, List.getElem?_set_self h2⟩
  · rintro ⟨e, h3, h4⟩
    by_cases he : d = e
    · subst he
      exact .inr (dist_inj hm hn (h3.trans hd.symm))
    · rw [List.getElem?_set_ne he] at h4
      exact .inl ⟨e, h3, h4⟩
/-- the numbers zs are those that are pending beyond a distance -/
def RepT (f : Int) (l : List Bool) (t : Nat) (zs : List Int) : Prop := ∀ n, U16 n → (n ∈ zs ↔ ∃ d : Nat, dist f n = (d : Int) ∧ t < d ∧ l[d]? = some true)
theorem repT_zero {f : Int} {l : List Bool} {zs : List Int} (hr : RepR f l zs) (h0 : l[0]? = some false) : RepT f l 0 zs := by
  intro n hn
  rw [hr n hn]
  constructor
  · rintro ⟨d, h1, h2⟩
    refine ⟨d, h1, ?_, h2⟩
    rcases Nat.eq_zero_or_pos d with h3 | h3
    · subst h3; rw [h0] at h2; simp at h2
    · exact h3
  · rintro ⟨d, h1, _, h2⟩
    exact ⟨d, h1, h2⟩
theorem repT_next {f : Int} {l : List Bool} {zs : List Int} {t : Nat} (hr : RepT f l t zs) (hf : U16 f) (ht : t + 1 < 65536) : RepT f l (t + 1) (wo (at5 f (t + 1)) zs) := by
  intro n hn
  unfold wo
  rw [List.mem_filter, hr n hn]
  have hd : dist f (at5 f (t + 1)) = ((t + 1 : Nat) : Int) := dist_add f (t + 1) hf ht
  constructor
  · rintro ⟨⟨d, h1, h2, h3⟩, h4⟩
    refine ⟨d, h1, ?_, h3⟩
    have : d ≠ t + 1 := by
      rintro rfl
      simp at h4
      exact h4 (dist_inj hn (at5_U f _) (h1.trans hd.symm))
    omega
  · rintro ⟨d, h1, h2, h3⟩
    refine ⟨⟨d, h1, by omega, h3⟩, ?_⟩
    simp
    rintro rfl
    rw [hd] at h1
    omega
theorem repT_dec {f : Int} {l : List Bool} {zs : List Int} {t : Nat} (hr : RepT f l t zs) (hf : U16 f) (ht : t + 1 < 65536) : decide (at5 f (t + 1) ∈ zs) = l.getD (t + 1) false := by
  have hd : dist f (at5 f (t + 1)) = ((t + 1 : Nat) : Int) := dist_add f (t + 1) hf ht
  cases h : l.getD (t + 1) false with
  | true =>
    have h1 : l[t + 1]? = some true := by
      rw [List.getD_eq_getElem?_getD] at h
      cases h2 : l[t + 1]? with
      | none => rw [h2] at h; simp at h
      | some b => rw [h2] at h; simp at h; rw [h]
    simpa using (hr _ (at5_U f _)).2 ⟨t + 1, hd, by omega, h1⟩
  | false =>
    simp
    intro hm
    obtain ⟨d, h1, _, h2⟩ := (hr _ (at5_U f _)).1 hm
    rw [hd] at h1
    have : d = t + 1 := by omega
    subst this
    rw [List.getD_eq_getElem?_getD, h2] at h
    simp at h
theorem gone_at {l : List Bool} {t : Nat} (ht : t < l.length) (h1 : ∀ j, j ≤ t → (l.set 0 true)[j]? = some true) (h2 : l.getD (t + 1) false = false) : gone (l.set 0 true) = t + 1 := by
  have hl : (l.set 0 true).length = l.length := by simp
  rcases Nat.lt_or_ge (t + 1) l.length with h3 | h3
  · refine gone_eq _ _ (fun j hj => h1 j (by omega)) ?_
    rw [List.getElem?_set_ne (by omega)]
    rw [List.getD_eq_getElem?_getD, List.getElem?_eq_getElem h3] at h2
    rw [List.getElem?_eq_getElem h3]
    simpa using h2
  · have h4 : t + 1 = l.length := by omega
    rw [h4, ← hl]
    exact gone_all _ (fun j hj => h1 j (by omega))
theorem rep_end {f : Int} {l : List Bool} {zs : List Int} {t : Nat} (hr : RepT f l t zs) (hf : U16 f) (hl : l.length ≤ 1024) (hg : gone (l.set 0 true) = t + 1) (ht : t < l.length) : RepR (accF f l 0) (accL l 0) zs ∧ accF f l 0 = at5 f (t + 1) := by
  have hF : accF f l 0 = at5 f (t + 1) := by unfold accF at5; rw [hg]
  refine ⟨?_, hF⟩
  have hA : ∀ i, (accL l 0)[i]? = some true ↔ l[i + (t + 1)]? = some true := by
    intro i
    unfold accL shift
    rw [hg]
    rcases Nat.lt_or_ge (i + (t + 1)) l.length with h1 | h1
    · rw [List.getElem?_append_left (by simp; omega), List.getElem?_drop, List.getElem?_set_ne (by omega), Nat.add_comm (t + 1)]
    · rw [List.getElem?_eq_none (l := l) h1]
      rw [List.getElem?_append_right (by simp; omega), List.getElem?_replicate]
      simp
  rw [hF]
  intro n hn
  rw [hr n hn]
  constructor
  · rintro ⟨d, h1, h2, h3⟩
    have hdl := (List.getElem?_eq_some_iff.1 h3).1
    refine ⟨d - (t + 1), ?_, ?_⟩
    · unfold dist at5 U16 at *
      omega
    · rw [hA, show d - (t + 1) + (t + 1) = d by omega]
      exact h3
  · rintro ⟨d, h1, h2⟩
    rw [hA] at h2
    have hdl := (List.getElem?_eq_some_iff.1 h2).1
    exact ⟨d + (t + 1), by unfold dist at5 U16 at *; omega, by omega, h2⟩
theorem set_true {l : List Bool} {t : Nat} (h : l.getD (t + 1) false = true) : (l.set 0 true)[t + 1]? = some true ∧ t + 1 < l.length := by
  rw [List.getD_eq_getElem?_getD] at h
  cases h2 : l[t + 1]? with
  | none => rw [h2] at h; simp at h
  | some b =>
    rw [h2] at h; simp at h
    exact ⟨by rw [List.getElem?_set_ne (by omega), h2, h], (List.getElem?_eq_some_iff.1 h2).1⟩
/-- such a slice lies outside some blocks -/
def SegX (w : World) (k : IntKind) (v : Value) (zs : List Int) (X : List Nat) : Prop := Seg w k v zs ∧ (zs ≠ [] → ∀ b off n cap, v = .slice (some ⟨b, off, none⟩) n cap → b ∉ X)
theorem SegX.seg {w : World} {k : IntKind} {v : Value} {zs : List Int} {X : List Nat} (h : SegX w k v zs X) : Seg w k v zs := And.left h
theorem SegX.set {w : World} {k : IntKind} {v : Value} {zs : List Int} {X : List Nat} (h : SegX w k v zs X) {q : Addr} (hq : q.block ∈ X) (u : Value) : SegX (w.setCell q u) k v zs X := by
  refine ⟨?_, h.2⟩
  rcases h.1 with h1 | ⟨h0, h1, b, off, cap, hv, hlt, hc⟩
  · exact .inl h1
  · have hb := h.2 h0 _ _ _ _ hv
    exact .inr ⟨h0, h1, b, off, cap, hv, by simpa [World.setCell] using hlt, fun i z hi => (World.cell?_of_block (w := w) (Below.heap_setCell _ _ _ _ (fun e => hb (by have e2 : b = q.block := e; rw [e2]; exact hq)))).trans (hc i z hi)⟩
theorem SegX.below {w w' : World} {k : IntKind} {v : Value} {zs : List Int} {X : List Nat} (h : SegX w k v zs X) (hb : Below w.heap.size w w') : SegX w' k v zs X := ⟨h.1.below hb, h.2⟩
theorem SegX.of_owns {w : World} {base : Nat} {e : TypeId} {k : IntKind} {v : Value} {zs : List Int} {X : List Nat} (h : w.ownsRow base e 1 v zs.length (zs.map (Value.int k))) (hm : zs.length ≤ maxLen) (hX : ∀ x ∈ X, x < base) : SegX w k v zs X :=
  ⟨seg_of_owns h hm, fun _ b off n cap hv hb => by
    rcases h.2 with ⟨h1, _⟩ | ⟨g, c, cur, h1, h2, _⟩
    · rw [h1] at hv; simp at hv
    · rw [h1] at hv
      simp at hv
      have := hX b hb
      omega⟩
theorem SegX.of_old {w w' : World} {k : IntKind} {v : Value} {zs : List Int} {X : List Nat} (h : Seg w k v zs) (hb : Below w.heap.size w w') (hX : ∀ x ∈ X, w.heap.size ≤ x) : SegX w' k v zs X :=
  ⟨h.below hb, fun h0 b off n cap hv hm => by
    obtain ⟨_, b', off', cap', hv', hlt, _⟩ := h.some h0
    rw [hv] at hv'
    simp at hv'
    have := hX b hm
    omega⟩
theorem SegX.more {w : World} {k : IntKind} {v : Value} {zs : List Int} {X : List Nat} (h : SegX w k v zs X) : SegX w k v zs (w.heap.size :: (w.heap.size + 1) :: X) :=
  ⟨h.seg, fun h0 b off n cap hv hm => by
    obtain ⟨_, b', off', cap', hv', hlt, _⟩ := h.seg.some h0
    have h2 := h.2 h0 _ _ _ _ hv
    rw [hv] at hv'
    simp at hv' hm
    rcases hm with h3 | h3 | h3
    · omega
    · omega
    · exact h2 h3⟩
theorem SegX.less {w : World} {k : IntKind} {v : Value} {zs : List Int} {X Y : List Nat} (h : SegX w k v zs X) (hs : ∀ x ∈ Y, x ∈ X) : SegX w k v zs Y := ⟨h.seg, fun h0 b off n cap hv hm => h.2 h0 b off n cap hv (hs b hm)⟩
def AccAt (w : World) (F S : Int) (L : List Bool) (r : Int) (m : Nat) (X : List Nat) (e : Ending) (w' : World) : Prop := ∃ a c zs, e = .returned (.tuple #[.agg #[.int .u16 F, .int .i64 S, .slice a zs.length c], .int .i64 r]) ∧ SegX w' .u16 (.slice a zs.length c) zs X ∧ RepR F L zs ∧ zs.length ≤ m ∧ Below w.heap.size w w'
end Go.Proofs.Ythibagfmglnejaa
