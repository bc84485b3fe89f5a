/- Rounds and drafts in memory. -/
import Derived.Test.YteocplabibhecaaDe
namespace Go.Proofs.Yteocplabibhecaa
open Go.RowKit Plain
set_option linter.unusedVariables false
set_option linter.unusedSimpArgs false

/-- packs that can be read -/
def Rw2 (w : World) (v : Value) (l : List (List Int)) : Prop := ∃ vs : List Sl, Rw vc 1 w v vs ∧ vs.length = l.length ∧ ∀ (i : Nat) s m, vs[i]? = some s → l[i]? = some m → Rw ic 1 w s.v m
/-- rounds that can be read -/
def Rw3 (w : World) (v : Value) (l : List (List (List Int))) : Prop := ∃ vs : List Sl, Rw vc 1 w v vs ∧ vs.length = l.length ∧ ∀ (i : Nat) s m, vs[i]? = some s → l[i]? = some m → Rw2 w s.v m
theorem Rw2.below {w w' : World} {v : Value} {l : List (List Int)} (h : Rw2 w v l) (hb : Below w.heap.size w w') : Rw2 w' v l := by
  obtain ⟨vs, h1, h2, h3⟩ := h
  exact ⟨vs, h1.below hb, h2, fun i s m hs hm => (h3 i s m hs hm).below hb⟩
theorem Rw3.below {w w' : World} {v : Value} {l : List (List (List Int))} (h : Rw3 w v l) (hb : Below w.heap.size w w') : Rw3 w' v l := by
  obtain ⟨vs, h1, h2, h3⟩ := h
  exact ⟨vs, h1.below hb, h2, fun i s m hs hm => (h3 i s m hs hm).below hb⟩
theorem rw_slice {α : Type} {f : α → List Value} {w : World} {s : Sl} {m : List α} (h : Rw f 1 w s.v m) : s.v = .slice s.a m.length s.c := by
  obtain ⟨_, a, c, hv, _⟩ := h.form
  unfold Sl.v at hv ⊢
  simp only [Value.slice.injEq] at hv
  rw [hv.2.1]
theorem Rw2.at {w : World} {v : Value} {l : List (List Int)} (h : Rw2 w v l) : l.length ≤ 9223372036854775807 ∧ ∃ a cap, v = .slice a l.length cap ∧ (0 < l.length → ∃ b off, a = some ⟨b, off, none⟩ ∧ b < w.heap.size ∧ ∀ (i : Nat) m, l[i]? = some m → ∃ a' c', w.cell? ⟨b, off + i, none⟩ = some (.slice a' m.length c') ∧ Rw ic 1 w (.slice a' m.length c') m) := by
  obtain ⟨vs, h1, h2, h3⟩ := h
  obtain ⟨h4, a, cap, hv, h5⟩ := h1.at1 vc1
  rw [h2] at h4 hv h5
  refine ⟨h4, a, cap, hv, fun h0 => ?_⟩
  obtain ⟨b, off, h6, h7, h8⟩ := h5 h0
  refine ⟨b, off, h6, h7, fun i m hm => ?_⟩
  have hi : i < vs.length := by rw [h2]; exact (List.getElem?_eq_some_iff.1 hm).1
  have hs := List.getElem?_eq_getElem hi
  have h9 := h3 i _ m hs hm
  have h10 := rw_slice h9
  rw [h10] at h9
  exact ⟨_, _, by rw [h8 i _ hs, h10], h9⟩
theorem Rw3.at {w : World} {v : Value} {l : List (List (List Int))} (h : Rw3 w v l) : l.length ≤ 9223372036854775807 ∧ ∃ a cap, v = .slice a l.length cap ∧ (0 < l.length → ∃ b off, a = some ⟨b, off, none⟩ ∧ b < w.heap.size ∧ ∀ (i : Nat) m, l[i]? = some m → ∃ a' c', w.cell? ⟨b, off + i, none⟩ = some (.slice a' m.length c') ∧ Rw2 w (.slice a' m.length c') m) := by
  obtain ⟨vs, h1, h2, h3⟩ := h
  obtain ⟨h4, a, cap, hv, h5⟩ := h1.at1 vc1
  rw [h2] at h4 hv h5
  refine ⟨h4, a, cap, hv, fun h0 => ?_⟩
  obtain ⟨b, off, h6, h7, h8⟩ := h5 h0
  refine ⟨b, off, h6, h7, fun i m hm => ?_⟩
  have hi : i < vs.length := by rw [h2]; exact (List.getElem?_eq_some_iff.1 hm).1
  have hs := List.getElem?_eq_getElem hi
  have h9 := h3 i _ m hs hm
  have h10 : vs[i].v = .slice vs[i].a m.length vs[i].c := by
    obtain ⟨us, g1, g2, _⟩ := h9
    rw [rw_slice g1, g2]
  rw [h10] at h9
  exact ⟨_, _, by rw [h8 i _ hs, h10], h9⟩
theorem all_next {α : Type} {f : α → Bool} {zs : List α} {k : Nat} {z : α} (h : (zs.take k).all f = true) (h1 : zs[k]? = some z) (h2 : f z = true) : (zs.take (k + 1)).all f = true := by
  rw [List.take_add_one, h1, List.all_append, h]
  simp [h2]
theorem all_bad {α : Type} {f : α → Bool} {zs : List α} {k : Nat} {z : α} (h1 : zs[k]? = some z) (h2 : f z = false) : zs.all f = false := by
  rw [List.all_eq_false]
  exact ⟨z, List.mem_of_getElem? h1, by simp [h2]⟩
theorem all_end {α : Type} {f : α → Bool} {zs : List α} (h : (zs.take zs.length).all f = true) : zs.all f = true := by rwa [List.take_length] at h
/-- rounds in memory of our own, nothing of which is older than base -/
structure MxM (w : World) (base : Nat) (so : Sl) (rvs : List Sl) (vss : List (List Sl)) (ls : List (List (List Int))) : Prop where
  out : Oe vc 30 w so.v rvs
  rows : Fam vc 32 w rvs vss
  mat : Mat ic 3 w vss ls
  bo : ∀ b, blk so.v = some b → base ≤ b
  br : ∀ s ∈ rvs, ∀ b, blk s.v = some b → base ≤ b
  bi : ∀ i k s b, at2 vss i k = some s → blk s.v = some b → base ≤ b
def MxAt (w : World) (base : Nat) (v : Value) (ls : List (List (List Int))) : Prop := ∃ so rvs vss, v = so.v ∧ MxM w base so rvs vss ls
theorem vc_len {l : List Sl} : ∀ x ∈ l, (vc x).length = 1 := fun _ _ => rfl
theorem ic_len {l : List Int} : ∀ x ∈ l, (ic x).length = 1 := fun _ _ => rfl
theorem bc_len {l : List Bool} : ∀ x ∈ l, (bc x).length = 1 := fun _ _ => rfl
theorem MxM.rw3 {w : World} {base : Nat} {so : Sl} {rvs : List Sl} {vss : List (List Sl)} {ls : List (List (List Int))} (h : MxM w base so rvs vss ls) : Rw3 w so.v ls := by
  refine ⟨rvs, h.out.rw vc_len, by rw [h.rows.len, h.mat.len], fun i s m hs hm => ?_⟩
  obtain ⟨r, hr, hl⟩ := h.mat.getr hm
  refine ⟨r, (h.rows.row i s r hs hr).rw vc_len, hl, fun k t p ht hp => (h.mat.row i k t p (at2_of hr ht) (at2_of hm hp)).rw ic_len⟩
theorem MxAt.rw3 {w : World} {base : Nat} {v : Value} {ls : List (List (List Int))} (h : MxAt w base v ls) : Rw3 w v ls := by
  obtain ⟨so, rvs, vss, rfl, h⟩ := h
  exact h.rw3
theorem MxM.below {w w' : World} {base : Nat} {so : Sl} {rvs : List Sl} {vss : List (List Sl)} {ls : List (List (List Int))} (h : MxM w base so rvs vss ls) (hb : Below w.heap.size w w') : MxM w' base so rvs vss ls :=
  ⟨h.out.below hb, h.rows.below hb, h.mat.below hb, h.bo, h.br, h.bi⟩
theorem MxAt.below {w w' : World} {base : Nat} {v : Value} {ls : List (List (List Int))} (h : MxAt w base v ls) (hb : Below w.heap.size w w') : MxAt w' base v ls := by
  obtain ⟨so, rvs, vss, e, h⟩ := h
  exact ⟨so, rvs, vss, e, h.below hb⟩
/-- block P is the draft d; all its blocks are of the list S -/
structure DrM (w : World) (B : Nat) (S : List Nat) (P : Nat) (d : Dr) (so st sm : Sl) (rvs : List Sl) (vss : List (List Sl)) : Prop where
  hp : w.heap[P]? = some (.cells #[so.v, st.v, sm.v, .int .i64 d.rd, .int .i64 d.tn] 56 (0, 0))
  out : Oe vc 30 w so.v rvs
  rows : Fam vc 32 w (rvs ++ [st]) vss
  mat : Mat ic 3 w vss (d.rs ++ [d.tk])
  mov : Oe bc 4 w sm.v d.mv
  inP : P ∈ S
  ino : ∀ b, blk so.v = some b → b ∈ S
  inm : ∀ b, blk sm.v = some b → b ∈ S
  inr : ∀ s ∈ rvs ++ [st], ∀ b, blk s.v = some b → b ∈ S
  ini : ∀ i k s b, at2 vss i k = some s → blk s.v = some b → b ∈ S
  new : ∀ b ∈ S, B ≤ b ∧ b < w.heap.size
def DrAt (w : World) (B : Nat) (S : List Nat) (P : Nat) (d : Dr) : Prop := ∃ so st sm rvs vss, DrM w B S P d so st sm rvs vss
theorem DrM.onl {w w' : World} {B : Nat} {S T : List Nat} {P : Nat} {d : Dr} {so st sm : Sl} {rvs : List Sl} {vss : List (List Sl)} (h : DrM w B S P d so st sm rvs vss) (ho : Onl T w w') (hT : ∀ b ∈ S, b ∉ T) : DrM w' B S P d so st sm rvs vss :=
  ⟨(ho.block P (h.new P h.inP).2 (hT P h.inP)).trans h.hp, h.out.onl ho (fun b hb => hT b (h.ino b hb)), h.rows.onl ho (fun s hs b hb => hT b (h.inr s hs b hb)), h.mat.onl ho (fun i k s b hs hb => hT b (h.ini i k s b hs hb)), h.mov.onl ho (fun b hb => hT b (h.inm b hb)), h.inP, h.ino, h.inm, h.inr, h.ini, fun b hb => ⟨(h.new b hb).1, Nat.lt_of_lt_of_le (h.new b hb).2 ho.size⟩⟩
theorem DrAt.onl {w w' : World} {B : Nat} {S T : List Nat} {P : Nat} {d : Dr} (h : DrAt w B S P d) (ho : Onl T w w') (hT : ∀ b ∈ S, b ∉ T) : DrAt w' B S P d := by
  obtain ⟨so, st, sm, rvs, vss, h⟩ := h
  exact ⟨so, st, sm, rvs, vss, h.onl ho hT⟩
theorem DrAt.below {w w' : World} {B : Nat} {S : List Nat} {P : Nat} {d : Dr} (h : DrAt w B S P d) (hb : Below w.heap.size w w') : DrAt w' B S P d := h.onl (T := []) (.of hb) (fun _ _ => by simp)
theorem DrM.below {w w' : World} {B : Nat} {S : List Nat} {P : Nat} {d : Dr} {so st sm : Sl} {rvs : List Sl} {vss : List (List Sl)} (h : DrM w B S P d so st sm rvs vss) (hb : Below w.heap.size w w') : DrM w' B S P d so st sm rvs vss := h.onl (T := []) (.of hb) (fun _ _ => by simp)
theorem DrM.lt {w : World} {B : Nat} {S : List Nat} {P : Nat} {d : Dr} {so st sm : Sl} {rvs : List Sl} {vss : List (List Sl)} (h : DrM w B S P d so st sm rvs vss) : P < w.heap.size := (h.new P h.inP).2
theorem DrM.cell {w : World} {B : Nat} {S : List Nat} {P : Nat} {d : Dr} {so st sm : Sl} {rvs : List Sl} {vss : List (List Sl)} (h : DrM w B S P d so st sm rvs vss) (i : Nat) : w.cell? ⟨P, i, none⟩ = #[so.v, st.v, sm.v, .int .i64 d.rd, .int .i64 d.tn][i]? := cell_of_row w P i _ 56 (0, 0) h.hp
theorem DrM.free {w : World} {B : Nat} {S : List Nat} {P : Nat} {d : Dr} {so st sm : Sl} {rvs : List Sl} {vss : List (List Sl)} (h : DrM w B S P d so st sm rvs vss) (i : Nat) : w.frozen? ⟨P, i, none⟩ = false := frozen_of_row w P i _ 56 h.hp
theorem oe_slice {α : Type} {f : α → List Value} {e : TypeId} {w : World} {s : Sl} {m : List α} (h : Oe f e w s.v m) : s.v = .slice s.a m.length s.c := by
  obtain ⟨a, c, hv⟩ := h.form
  unfold Sl.v at hv ⊢
  simp only [Value.slice.injEq] at hv
  rw [hv.2.1]
theorem DrM.rlen {w : World} {B : Nat} {S : List Nat} {P : Nat} {d : Dr} {so st sm : Sl} {rvs : List Sl} {vss : List (List Sl)} (h : DrM w B S P d so st sm rvs vss) : rvs.length = d.rs.length := by
  have h1 := h.rows.len
  have h2 := h.mat.len
  simp at h1 h2
  omega
theorem DrM.tval {w : World} {B : Nat} {S : List Nat} {P : Nat} {d : Dr} {so st sm : Sl} {rvs : List Sl} {vss : List (List Sl)} (h : DrM w B S P d so st sm rvs vss) : ∃ tvs, vss[d.rs.length]? = some tvs ∧ tvs.length = d.n ∧ Oe vc 32 w st.v tvs := by
  obtain ⟨r, hr, hl⟩ := h.mat.getr (i := d.rs.length) (m := d.tk) (by simp)
  refine ⟨r, hr, hl, h.rows.row d.rs.length st r ?_ hr⟩
  rw [← h.rlen]
  simp
/-- the five cells -/
theorem DrM.cells {w : World} {B : Nat} {S : List Nat} {P : Nat} {d : Dr} {so st sm : Sl} {rvs : List Sl} {vss : List (List Sl)} (h : DrM w B S P d so st sm rvs vss) : w.cell? ⟨P, 0, none⟩ = some (.slice so.a d.rs.length so.c) ∧ w.cell? ⟨P, 1, none⟩ = some (.slice st.a d.n st.c) ∧ w.cell? ⟨P, 2, none⟩ = some (.slice sm.a d.mv.length sm.c) ∧ w.cell? ⟨P, 3, none⟩ = some (.int .i64 d.rd) ∧ w.cell? ⟨P, 4, none⟩ = some (.int .i64 d.tn) := by
  obtain ⟨tvs, _, h2, h3⟩ := h.tval
  refine ⟨?_, ?_, ?_, h.cell 3, h.cell 4⟩
  · rw [h.cell 0, ← h.rlen, ← oe_slice h.out]; rfl
  · rw [h.cell 1, ← h2, ← oe_slice h3]; rfl
  · rw [h.cell 2, ← oe_slice h.mov]; rfl
theorem Rw2.fm {w : World} {a : Option Addr} {c : Nat} {l : List (List Int)} (h : Rw2 w (.slice a l.length c) l) : l.length ≤ 9223372036854775807 ∧ (0 < l.length → ∃ b off, a = some ⟨b, off, none⟩ ∧ b < w.heap.size ∧ ∀ (i : Nat) m, l[i]? = some m → ∃ a' c', w.cell? ⟨b, off + i, none⟩ = some (.slice a' m.length c') ∧ Rw ic 1 w (.slice a' m.length c') m) := by
  obtain ⟨h1, a', c', hv, h2⟩ := h.at
  simp only [Value.slice.injEq] at hv
  obtain ⟨rfl, _, rfl⟩ := hv
  exact ⟨h1, h2⟩
theorem Rw.fm {α : Type} {f : α → List Value} {u : α → Value} (hf : ∀ x, f x = [u x]) {w : World} {a : Option Addr} {c : Nat} {l : List α} (h : Rw f 1 w (.slice a l.length c) l) : l.length ≤ 9223372036854775807 ∧ (0 < l.length → ∃ b off, a = some ⟨b, off, none⟩ ∧ b < w.heap.size ∧ ∀ (i : Nat) x, l[i]? = some x → w.cell? ⟨b, off + i, none⟩ = some (u x)) := by
  obtain ⟨h1, a', c', hv, h2⟩ := h.at1 hf
  simp only [Value.slice.injEq] at hv
  obtain ⟨rfl, _, rfl⟩ := hv
  exact ⟨h1, h2⟩
def AllRel {α : Type} (w : World) (f : α → Bool) (zs : List α) (i : Value) (wr : World) : Prop := ∃ k : Nat, k ≤ zs.length ∧ i = .int .i64 k ∧ (zs.take k).all f = true ∧ Below w.heap.size w wr
theorem Onl.below' {B : Nat} {S : List Nat} {w W : World} (h : Onl S w W) (hs : ∀ k ∈ S, B ≤ k) (hB : B ≤ w.heap.size) : Below B w W :=
  ⟨h.os, h.tape, h.output, h.size, fun k hk => h.block k (by omega) (fun hm => by have := hs k hm; omega)⟩
end Go.Proofs.Yteocplabibhecaa
