/- The model of a draft in memory. -/
import Derived.Test.YteocplabibhecaaDp
import Derived.Test.YteocplabibhecaaPb
import Derived.Test.YteocplabibhecaaTk
namespace Go.Proofs.Yteocplabibhecaa
open Go.RowKit Plain
set_option linter.unusedVariables false
set_option linter.unusedSimpArgs false

/-- rows of rows that can be read -/
structure Mat0 (w : World) (vss : List (List Sl)) (lss : List (List (List Int))) : Prop where
  len : vss.length = lss.length
  lens : ∀ (i : Nat) r m, vss[i]? = some r → lss[i]? = some m → r.length = m.length
  row : ∀ i k v l, at2 vss i k = some v → at2 lss i k = some l → Oe ic 3 w v.v l
theorem Mat0.onl {S : List Nat} {w w' : World} {vss : List (List Sl)} {lss : List (List (List Int))} (h : Mat0 w vss lss) (ho : Onl S w w') (hs : ∀ i k v b, at2 vss i k = some v → blk v.v = some b → b ∉ S) : Mat0 w' vss lss :=
  ⟨h.len, h.lens, fun i k v l hv hl => (h.row i k v l hv hl).onl ho (hs i k v · hv)⟩
theorem Mat0.get {w : World} {vss : List (List Sl)} {lss : List (List (List Int))} (h : Mat0 w vss lss) {i k : Nat} {l : List Int} (hl : at2 lss i k = some l) : ∃ v, at2 vss i k = some v ∧ Oe ic 3 w v.v l := by
  obtain ⟨m, hm, hk⟩ := at2_row hl
  have hi := (List.getElem?_eq_some_iff.1 hm).1
  have h1 : i < vss.length := by rw [h.len]; exact hi
  have hr := List.getElem?_eq_getElem h1
  have h2 : k < vss[i].length := by rw [h.lens i _ _ hr hm]; exact (List.getElem?_eq_some_iff.1 hk).1
  have h3 := at2_of hr (List.getElem?_eq_getElem h2)
  exact ⟨_, h3, h.row i k _ _ h3 hl⟩
/-- block M is the model of the draft d; all its blocks are of the list S -/
structure MoM (w : World) (B : Nat) (S : List Nat) (M : Nat) (d : Dr) (sf sl st sm : Sl) (fl : List Sl) (vss : List (List Sl)) : Prop where
  hp : w.heap[M]? = some (.cells #[sf.v, sl.v, st.v, sm.v, .int .i64 d.rd, .int .i64 d.tn, .bool d.over] 39 (0, 0))
  rows : Fam vc 32 w (st :: fl) vss
  mat : Mat0 w vss (d.tk :: d.live)
  mov : Oe bc 4 w sm.v d.mv
  fln : d.over = false → ∃ lvs, fl = sf :: lvs ∧ Rw vc 1 w sl.v lvs
  lcap : d.over = false → sl.n ≤ sl.c ∧ sl.c ≤ 9223372036854775807
  lty : ∀ b, sl.v.ownBlock = some b → Ty w (some b) 30 ∧ b ∈ S
  inM : M ∈ S
  inm : ∀ b, blk sm.v = some b → b ∈ S
  inr : ∀ s ∈ st :: fl, ∀ b, blk s.v = some b → b ∈ S
  ini : ∀ i k s b, at2 vss i k = some s → blk s.v = some b → b ∈ S
  new : ∀ b ∈ S, B ≤ b ∧ b < w.heap.size
def MoAt (w : World) (B : Nat) (S : List Nat) (M : Nat) (d : Dr) : Prop := ∃ sf sl st sm fl vss, MoM w B S M d sf sl st sm fl vss
theorem MoM.onl {w w' : World} {B : Nat} {S T : List Nat} {M : Nat} {d : Dr} {sf sl st sm : Sl} {fl : List Sl} {vss : List (List Sl)} (h : MoM w B S M d sf sl st sm fl vss) (ho : Onl T w w') (hT : ∀ b ∈ S, b ∉ T) : MoM w' B S M d sf sl st sm fl vss :=
  ⟨(ho.block M (h.new M h.inM).2 (hT M h.inM)).trans h.hp, h.rows.onl ho (fun s hs b hb => hT b (h.inr s hs b hb)), h.mat.onl ho (fun i k s b hs hb => hT b (h.ini i k s b hs hb)), h.mov.onl ho (fun b hb => hT b (h.inm b hb)), fun hov => by
    obtain ⟨lvs, h1, h2⟩ := h.fln hov
    exact ⟨lvs, h1, h2.onl ho (fun b hb => hT b (h.lty b hb).2)⟩, h.lcap, fun b hb => ⟨Ty.onl (h.lty b hb).1 ho (hT b (h.lty b hb).2) (h.new b (h.lty b hb).2).2, (h.lty b hb).2⟩, h.inM, h.inm, h.inr, h.ini, fun b hb => ⟨(h.new b hb).1, Nat.lt_of_lt_of_le (h.new b hb).2 ho.size⟩⟩
theorem MoM.below {w w' : World} {B : Nat} {S : List Nat} {M : Nat} {d : Dr} {sf sl st sm : Sl} {fl : List Sl} {vss : List (List Sl)} (h : MoM w B S M d sf sl st sm fl vss) (hb : Below w.heap.size w w') : MoM w' B S M d sf sl st sm fl vss := h.onl (T := []) (.of hb) (fun _ _ => by simp)
theorem MoAt.onl {w w' : World} {B : Nat} {S T : List Nat} {M : Nat} {d : Dr} (h : MoAt w B S M d) (ho : Onl T w w') (hT : ∀ b ∈ S, b ∉ T) : MoAt w' B S M d := by
  obtain ⟨sf, sl, st, sm, fl, vss, h⟩ := h
  exact ⟨sf, sl, st, sm, fl, vss, h.onl ho hT⟩
theorem MoAt.below {w w' : World} {B : Nat} {S : List Nat} {M : Nat} {d : Dr} (h : MoAt w B S M d) (hb : Below w.heap.size w w') : MoAt w' B S M d := h.onl (T := []) (.of hb) (fun _ _ => by simp)
theorem MoM.lt {w : World} {B : Nat} {S : List Nat} {M : Nat} {d : Dr} {sf sl st sm : Sl} {fl : List Sl} {vss : List (List Sl)} (h : MoM w B S M d sf sl st sm fl vss) : M < w.heap.size := (h.new M h.inM).2
theorem MoM.cell {w : World} {B : Nat} {S : List Nat} {M : Nat} {d : Dr} {sf sl st sm : Sl} {fl : List Sl} {vss : List (List Sl)} (h : MoM w B S M d sf sl st sm fl vss) (i : Nat) : w.cell? ⟨M, i, none⟩ = #[sf.v, sl.v, st.v, sm.v, .int .i64 d.rd, .int .i64 d.tn, .bool d.over][i]? := cell_of_row w M i _ 39 (0, 0) h.hp
theorem MoM.free {w : World} {B : Nat} {S : List Nat} {M : Nat} {d : Dr} {sf sl st sm : Sl} {fl : List Sl} {vss : List (List Sl)} (h : MoM w B S M d sf sl st sm fl vss) (i : Nat) : w.frozen? ⟨M, i, none⟩ = false := frozen_of_row w M i _ 39 h.hp
/-- what was taken -/
theorem MoM.tval {w : World} {B : Nat} {S : List Nat} {M : Nat} {d : Dr} {sf sl st sm : Sl} {fl : List Sl} {vss : List (List Sl)} (h : MoM w B S M d sf sl st sm fl vss) : ∃ tvs, vss[0]? = some tvs ∧ tvs.length = d.n ∧ Oe vc 32 w st.v tvs := by
  have h0 : 0 < vss.length := by rw [h.mat.len]; simp
  have h1 := List.getElem?_eq_getElem h0
  exact ⟨vss[0], h1, h.mat.lens 0 _ d.tk h1 rfl, h.rows.row 0 st _ rfl h1⟩
/-- the packs in front -/
theorem MoM.fval {w : World} {B : Nat} {S : List Nat} {M : Nat} {d : Dr} {sf sl st sm : Sl} {fl : List Sl} {vss : List (List Sl)} (h : MoM w B S M d sf sl st sm fl vss) (ho : d.over = false) : ∃ fvs, vss[1]? = some fvs ∧ fvs.length = d.n ∧ Oe vc 32 w sf.v fvs := by
  obtain ⟨lvs, hf, _⟩ := h.fln ho
  have hlv : d.live = d.fronts :: d.rs.drop (d.rd + 1) := by unfold Dr.live; rw [ho]; rfl
  have h0 : 1 < vss.length := by rw [h.mat.len, hlv]; simp
  have h1 := List.getElem?_eq_getElem h0
  refine ⟨vss[1], h1, ?_, h.rows.row 1 sf _ (by rw [hf]; rfl) h1⟩
  have := h.mat.lens 1 _ d.fronts h1 (by rw [hlv]; rfl)
  rw [this, fronts_len]
/-- a cell of a row of slices whose list is known by length only -/
theorem row_cell {w : World} {s t : Sl} {l : List Sl} {n i : Nat} (h : Oe vc 32 w s.v l) (hn : l.length = n) (ht : l[i]? = some t) : ∃ g, s.a = some ⟨g, 0, none⟩ ∧ s.n = n ∧ g < w.heap.size ∧ blk s.v = some g ∧ w.cell? ⟨g, i, none⟩ = some (.slice t.a t.n t.c) := by
  obtain ⟨g, h1, _, h3, h4, h5, h6, _⟩ := h.cell1 vc1 ht
  exact ⟨g, h1, by rw [h3, hn], h4, h5, h6⟩
theorem sl_len {w : World} {s : Sl} {m : List Int} (h : Oe ic 3 w s.v m) : s.n = m.length := by
  have := oe_slice h
  unfold Sl.v at this
  simp only [Value.slice.injEq] at this
  exact this.2.1
theorem sl_rw {w : World} {s : Sl} {m : List Int} (h : Oe ic 3 w s.v m) : Rw ic 1 w (.slice s.a m.length s.c) m := by
  rw [← oe_slice h]
  exact h.rw ic_len
theorem Oe.cap' {α : Type} {f : α → List Value} {e : TypeId} {w : World} {a : Option Addr} {n c : Nat} {l : List α} (h : Oe f e w (.slice a n c) l) : n ≤ c := by
  rcases h.2 with ⟨h1, h2⟩ | ⟨g, cap, cur, h1, _, _, h2, _⟩
  · simp at h1; omega
  · simp only [Value.slice.injEq] at h1
    omega
theorem Oe.max' {α : Type} {f : α → List Value} {e : TypeId} {w : World} {a : Option Addr} {n c : Nat} {l : List α} (h : Oe f e w (.slice a n c) l) : c ≤ 9223372036854775807 := by
  rcases h.2 with ⟨h1, h2⟩ | ⟨g, cap, cur, h1, _, _, h2, h3, _⟩
  · simp at h1; omega
  · simp only [Value.slice.injEq] at h1
    unfold maxLen at h3
    omega
end Go.Proofs.Yteocplabibhecaa
