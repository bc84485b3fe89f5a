/- What the model's take changes in memory. -/
import Derived.Test.YteocplabibhecaaBg
import Derived.Test.YteocplabibhecaaPc
namespace Go.Proofs.Yteocplabibhecaa
open Go.RowKit Plain
set_option linter.unusedVariables false
set_option linter.unusedSimpArgs false

theorem Mat0.set {w w' : World} {vss : List (List Sl)} {lss : List (List (List Int))} (h : Mat0 w vss lss) (i k : Nat) (u v : Sl) (l : List Int) (hu : at2 vss i k = some u) (hk : ∀ j m x y, at2 vss j m = some x → at2 lss j m = some y → Oe ic 3 w' x.v y) (hv : Oe ic 3 w' v.v l) : Mat0 w' (set2 vss i k v) (set2 lss i k l) := by
  refine ⟨by rw [set2_length, set2_length, h.len], fun j r m hr hm => ?_, fun j m x y hx hy => ?_⟩
  · rw [set2_row] at hr hm
    split at hr
    · rename_i h1
      rw [if_pos h1] at hm
      cases h2 : vss[j]? with
      | none => rw [h2] at hr; cases hr
      | some r' =>
        cases h3 : lss[j]? with
        | none => rw [h3] at hm; cases hm
        | some m' =>
          rw [h2] at hr
          rw [h3] at hm
          simp at hr hm
          subst hr hm
          simp [h.lens j r' m' h2 h3]
    · rename_i h1
      rw [if_neg h1] at hm
      exact h.lens j r m hr hm
  · rcases at2_set2 _ _ _ _ _ _ _ hx with ⟨rfl, rfl, rfl⟩ | ⟨h1, h2⟩
    · rcases at2_set2 _ _ _ _ _ _ _ hy with ⟨_, _, rfl⟩ | ⟨h3, _⟩
      · exact hv
      · exact absurd rfl h3
    · rcases at2_set2 _ _ _ _ _ _ _ hy with ⟨rfl, rfl, _⟩ | ⟨_, h4⟩
      · exact absurd rfl h1
      · exact hk j m x y h2 h4
theorem rw_onlT {α : Type} {f : α → List Value} {w w' : World} {v : Value} {l : List α} {g : Nat} {e e' : TypeId} (h : Rw f 1 w v l) (ho : Onl [g] w w') (ht : Ty w (some g) e') (hv : ∀ b, v.ownBlock = some b → Ty w (some b) e) (he : e' ≠ e) : Rw f 1 w' v l :=
  h.onl ho (fun b hb => by simp only [List.mem_singleton]; exact ty_ne (hv b hb) ht (fun e => he e.symm))
theorem MoM.tyM {w : World} {B : Nat} {S : List Nat} {M : Nat} {d : Dr} {sf sl st sm : Sl} {fl : List Sl} {vss : List (List Sl)} (h : MoM w B S M d sf sl st sm fl vss) : Ty w (some M) 39 := fun b hb => by cases hb; exact ⟨_, h.hp⟩
/-- a row of numbers is another one, in new memory, and its cell as well -/
theorem MoM.putc {w w2 : World} {B : Nat} {S S' : List Nat} {M : Nat} {d d' : Dr} {sf sl st sm : Sl} {fl : List Sl} {vss : List (List Sl)} (h : MoM w B S M d sf sl st sm fl vss) {i k g n rc : Nat} {old s' : Sl} {l' : List Int}
    (hold : at2 vss i k = some old) (hrow : (st :: fl)[i]? = some ⟨some ⟨g, 0, none⟩, n, rc⟩) (hb : Below w.heap.size w w2) (hs : Oe ic 3 w2 s'.v l')
    (hS : ∀ b ∈ S, b ∈ S') (hS2 : ∀ b, blk s'.v = some b → b ∈ S') (hS3 : ∀ b ∈ S', b ∈ S ∨ (w.heap.size ≤ b ∧ b < w2.heap.size)) (hd : d'.tk :: d'.live = set2 (d.tk :: d.live) i k l') (hmv : d'.mv = d.mv) (hrd : d'.rd = d.rd) (htn : d'.tn = d.tn) (hov : d'.over = d.over) :
    MoM (w2.setCell ⟨g, k, none⟩ s'.v) B S' M d' sf sl st sm fl (set2 vss i k s') ∧ Onl S w (w2.setCell ⟨g, k, none⟩ s'.v) := by
  obtain ⟨r, hr, hk⟩ := at2_row hold
  have hor := h.rows.row i _ r hrow hr
  have hbg : blk (Sl.v ⟨some ⟨g, 0, none⟩, n, rc⟩) = some g := rfl
  have hgt : Ty w (some g) 32 := hor.ty hbg
  have hgl : g < w.heap.size := hor.lt hbg
  have ho : Onl [] w w2 := .of hb
  have hgt2 : Ty w2 (some g) 32 := hgt.onl ho (by simp) hgl
  have ho3 : Onl [g] w2 (w2.setCell ⟨g, k, none⟩ s'.v) := (Onl.refl _ _).setCell (.inl (by simp)) _
  have hMl := h.lt
  have hMg : M ≠ g := ty_ne h.tyM hgt (by decide)
  have hrows2 : Fam vc 32 w2 (st :: fl) vss := h.rows.below hb
  have hor2 : Oe vc 32 w2 (Sl.v ⟨some ⟨g, 0, none⟩, n, rc⟩) r := hor.below hb
  have hrow3 : Oe vc 32 (w2.setCell ⟨g, k, none⟩ s'.v) (Sl.v ⟨some ⟨g, 0, none⟩, n, rc⟩) (r.set k s') := by
    obtain ⟨a, c, hl⟩ := hor2.form
    simp only [Sl.v, Value.slice.injEq] at hl
    exact Ow.set1 hor2 (fun _ => rfl) hl.2.1 k s' s'.v rfl
  refine ⟨⟨?_, ?_, ?_, ?_, fun hov' => ?_, fun hov' => h.lcap (hov ▸ hov'), fun b hb' => ⟨?_, hS b (h.lty b hb').2⟩, hS M h.inM, fun b hb => hS b (h.inm b hb), fun s hs b hb => hS b (h.inr s hs b hb), fun j m s b hs1 hb1 => ?_, fun b hb' => ?_⟩, ?_⟩
  · rw [hrd, htn, hov]
    exact (ho3.block M (Nat.lt_of_lt_of_le hMl hb.size) (by simpa using hMg)).trans ((hb.block M hMl).trans h.hp)
  · have h1 := hrows2.set (S := [g]) (w' := w2.setCell ⟨g, k, none⟩ s'.v) i _ ⟨some ⟨g, 0, none⟩, n, rc⟩ (r.set k s') hrow ho3 (fun b hb => by simp at hb; subst hb; exact .inr hbg) hrow3 (fun b hb => .inl hb)
    rw [set_same hrow] at h1
    rw [set2_eq hr]
    exact h1
  · rw [hd]
    exact h.mat.set i k old s' l' hold (fun j m x y hx hy => (((h.mat.row j m x y hx hy).below hb).onlT ho3 hgt2 (by decide))) (hs.onlT ho3 hgt2 (by decide))
  · rw [hmv]
    exact (h.mov.below hb).onlT ho3 hgt2 (by decide)
  · obtain ⟨lvs, h1, h2⟩ := h.fln (hov ▸ hov')
    exact ⟨lvs, h1, rw_onlT (h2.below hb) ho3 hgt2 (fun b hb' => Ty.onl (h.lty b hb').1 ho (by simp) (h.new b (h.lty b hb').2).2) (by decide)⟩
  · have h1 := (h.lty b hb').1
    have h2 := (h.new b (h.lty b hb').2).2
    have h3 : Ty w2 (some b) 30 := h1.onl ho (by simp) h2
    exact h3.onl ho3 (by simpa using ty_ne h3 hgt2 (by decide)) (Nat.lt_of_lt_of_le h2 hb.size)
  · rcases at2_set2 _ _ _ _ _ _ _ hs1 with ⟨_, _, h5⟩ | ⟨_, h5⟩
    · rw [h5] at hb1
      exact hS2 b hb1
    · exact hS b (h.ini j m s b h5 hb1)
  · have hsz : (w2.setCell ⟨g, k, none⟩ s'.v).heap.size = w2.heap.size := by simp [World.setCell]
    rw [hsz]
    rcases hS3 b hb' with h5 | h5
    · exact ⟨(h.new b h5).1, Nat.lt_of_lt_of_le (h.new b h5).2 hb.size⟩
    · have := h.new M h.inM
      exact ⟨by omega, h5.2⟩
  · exact (Onl.of hb).setCell (q := ⟨g, k, none⟩) (.inl (h.inr _ (List.mem_of_getElem? hrow) g hbg)) _
theorem MoM.putm {w w2 : World} {B : Nat} {S : List Nat} {M : Nat} {d d' : Dr} {sf sl st sm : Sl} {fl : List Sl} {vss : List (List Sl)} (h : MoM w B S M d sf sl st sm fl vss) {g : Nat} (hg : blk sm.v = some g) (ho : Onl [g] w w2) (hm : Oe bc 4 w2 sm.v d'.mv) (hl : d'.live = d.live) (htk : d'.tk = d.tk) (hrd : d'.rd = d.rd) (htn : d'.tn = d.tn) (hov : d'.over = d.over) : MoM w2 B S M d' sf sl st sm fl vss ∧ Onl S w w2 := by
  have hgt : Ty w (some g) 4 := h.mov.ty hg
  have hMg : M ≠ g := ty_ne h.tyM hgt (by decide)
  refine ⟨⟨?_, h.rows.onlT ho hgt (by decide), ?_, hm, fun hov' => ?_, fun hov' => h.lcap (hov ▸ hov'), fun b hb' => ⟨Ty.onl (h.lty b hb').1 ho (by simpa using ty_ne (h.lty b hb').1 hgt (by decide)) (h.new b (h.lty b hb').2).2, (h.lty b hb').2⟩, h.inM, h.inm, h.inr, h.ini, fun b hb => ⟨(h.new b hb).1, Nat.lt_of_lt_of_le (h.new b hb).2 ho.size⟩⟩, ho.less (fun b hb => .inl ?_)⟩
  · rw [hrd, htn, hov]
    exact (ho.block M h.lt (by simpa using hMg)).trans h.hp
  · rw [htk, hl]
    exact ⟨h.mat.len, h.mat.lens, fun i k v l hv hl => (h.mat.row i k v l hv hl).onlT ho hgt (by decide)⟩
  · obtain ⟨lvs, h1, h2⟩ := h.fln (hov ▸ hov')
    exact ⟨lvs, h1, rw_onlT h2 ho hgt (fun b hb' => (h.lty b hb').1) (by decide)⟩
  · simp at hb
    subst hb
    exact h.inm b hg
theorem at2_set1 {α : Type} {l : List (List α)} {r : List α} {i j k : Nat} {x : α} (h : at2 (l.set i r) j k = some x) : (j = i ∧ r[k]? = some x) ∨ (j ≠ i ∧ at2 l j k = some x) := by
  obtain ⟨s, hs, hk⟩ := at2_row h
  by_cases e : i = j
  · subst e
    have hi : i < l.length := by have := (List.getElem?_eq_some_iff.1 hs).1; rwa [List.length_set] at this
    rw [List.getElem?_set_self hi] at hs
    simp at hs
    subst hs
    exact .inl ⟨rfl, hk⟩
  · rw [List.getElem?_set_ne e] at hs
    exact .inr ⟨fun h => e h.symm, at2_of hs hk⟩
theorem same_ne {t : List (List Int)} {a b : List (List Int)} {l A C : List (List (List Int))} (hA : A = a :: l) (hC : C = b :: l) {i : Nat} (hi : i ≠ 1) {m : List (List Int)} (h : (t :: C)[i]? = some m) : (t :: A)[i]? = some m := by
  subst hA hC
  match i with
  | 0 => simpa using h
  | 1 => exact absurd rfl hi
  | i + 2 => simpa using h
/-- the packs have gone round -/
theorem MoM.turn {w w2 : World} {B c : Nat} {S S' : List Nat} {M : Nat} {x : Dr} {sf sl st sm : Sl} {lvs : List Sl} {vss : List (List Sl)} (h : MoM w B S M x sf sl st sm (sf :: lvs) vss) (hx : x.Mid c) (hl : Rw vc 1 w sl.v lvs) (ho : Onl [M] w w2) {nf sm' : Sl} {fvs nvs : List Sl} (hfv : vss[1]? = some fvs) (hnf : Oe vc 32 w2 nf.v nvs) (hnl : nvs.length = x.n) (hnv : ∀ i s, i < x.n → fvs[i]? = some s → nvs[to' x.n x.rd i]? = some s) (hnew : ∀ b, blk nf.v = some b → w.heap.size ≤ b)
    (hsm : Oe bc 4 w2 sm'.v (List.replicate x.mv.length false)) (hp : w2.heap[M]? = some (.cells #[nf.v, sl.v, st.v, sm'.v, .int .i64 x.rd, .int .i64 ((x.tn + 1 : Nat) : Int), .bool false] 39 (0, 0))) (hS : ∀ b ∈ S, b ∈ S') (hS1 : ∀ b, blk nf.v = some b → b ∈ S') (hS2 : ∀ b, blk sm'.v = some b → b ∈ S') (hS3 : ∀ b ∈ S', b ∈ S ∨ (w.heap.size ≤ b ∧ b < w2.heap.size)) :
    MoM w2 B S' M ⟨x.rs, x.tk, List.replicate x.mv.length false, x.rd, x.tn + 1⟩ nf sl st sm' (nf :: lvs) (vss.set 1 nvs) := by
  have tyM := h.tyM
  have hov : Dr.over ⟨x.rs, x.tk, List.replicate x.mv.length false, x.rd, x.tn + 1⟩ = false := by
    have := hx.rd
    show (x.rd == x.rs.length) = false
    simp
    omega
  have hov0 : x.over = false := hov
  have hlen : vss.length = (x.tk :: x.live).length := h.mat.len
  have hlive : x.live = x.fronts :: x.rs.drop (x.rd + 1) := by unfold Dr.live; rw [hov0]; rfl
  have hlive' : Dr.live ⟨x.rs, x.tk, List.replicate x.mv.length false, x.rd, x.tn + 1⟩ = Dr.fronts ⟨x.rs, x.tk, List.replicate x.mv.length false, x.rd, x.tn + 1⟩ :: x.rs.drop (x.rd + 1) := by
    unfold Dr.live
    rw [hov]
    rfl
  have h1l : 1 < vss.length := (List.getElem?_eq_some_iff.1 hfv).1
  have ints : ∀ i k v l, at2 vss i k = some v → at2 (x.tk :: x.live) i k = some l → Oe ic 3 w2 v.v l := fun i k v l hv hl => (h.mat.row i k v l hv hl).onlT ho tyM (by decide)
  have hback : ∀ j s, nvs[j]? = some s → ∃ i, i < x.n ∧ to' x.n x.rd i = j ∧ fvs[i]? = some s := fun j s hs => by
    have hj : j < x.n := by rw [← hnl]; exact (List.getElem?_eq_some_iff.1 hs).1
    obtain ⟨i, hi, he⟩ := to_surj (rd := x.rd) hx.n2 hx.n8 hj
    have hfl : fvs.length = x.n := by
      have := h.mat.lens 1 fvs x.fronts hfv (by rw [hlive]; rfl)
      rw [this, fronts_len]
    have hfi := List.getElem?_eq_getElem (show i < fvs.length by omega)
    have h2 := hnv i _ hi hfi
    rw [he, hs] at h2
    simp at h2
    exact ⟨i, hi, he, by rw [hfi, h2]⟩
  refine ⟨?_, ?_, ⟨by rw [List.length_set, hlen, hlive, hlive']; rfl, fun i r m hr hm => ?_, fun i k v l hv hl' => ?_⟩, hsm, fun _ => ⟨lvs, rfl, rw_onlT hl ho tyM (fun b hb' => (h.lty b hb').1) (by decide)⟩, fun _ => h.lcap hov0, fun b hb' => ⟨Ty.onl (h.lty b hb').1 ho (by simpa using ty_ne (h.lty b hb').1 tyM (by decide)) (h.new b (h.lty b hb').2).2, hS b (h.lty b hb').2⟩, hS M h.inM, hS2, fun s hs b hb => ?_, fun i k s b hs hb => ?_, fun b hb => ?_⟩
  · rw [hov]
    exact hp
  · exact h.rows.set (S := [M]) (w' := w2) 1 sf nf nvs rfl ho (fun b hb => by
      simp at hb
      subst hb
      exact .inl (fun y hy hby => by
        obtain ⟨_, _, _, _, hor⟩ := h.rows.mem hy
        exact hor.notT tyM (by decide) _ hby (by simp))) hnf (fun b hb => .inr (hnew b hb))
  · by_cases h1 : i = 1
    · subst h1
      rw [List.getElem?_set_self h1l] at hr
      rw [hlive'] at hm
      simp at hr hm
      subst hr hm
      rw [hnl, fronts_len]
      rfl
    · rw [List.getElem?_set_ne (Ne.symm h1)] at hr
      exact h.mat.lens i r m hr (same_ne hlive hlive' h1 hm)
  · rcases at2_set1 hv with ⟨rfl, h2⟩ | ⟨h1, h2⟩
    · obtain ⟨i0, hi0, he, hf0⟩ := hback k v h2
      have h3 : l = x.pk i0 := by
        obtain ⟨m, hm, hk⟩ := at2_row hl'
        rw [hlive'] at hm
        simp at hm
        subst hm
        have hkn : k < Dr.n ⟨x.rs, x.tk, List.replicate x.mv.length false, x.rd, x.tn + 1⟩ := by have := (List.getElem?_eq_some_iff.1 hk).1; rw [fronts_len] at this; exact this
        rw [fronts_at hkn] at hk
        simp at hk
        rw [← hk, ← he]
        exact next_pk hx.n2 hx.n8 _ hi0
      rw [h3]
      exact ints 1 i0 v _ (at2_of hfv hf0) (at2_of (r := x.fronts) (by rw [hlive]; rfl) (fronts_at hi0))
    · obtain ⟨m, hm, hk⟩ := at2_row hl'
      exact ints i k v l h2 (at2_of (same_ne hlive hlive' h1 hm) hk)
  · rcases List.mem_cons.1 hs with rfl | hs
    · exact hS b (h.inr s (by simp) b hb)
    · rcases List.mem_cons.1 hs with rfl | hs
      · exact hS1 b hb
      · exact hS b (h.inr s (by simp [hs]) b hb)
  · rcases at2_set1 hs with ⟨rfl, h2⟩ | ⟨h1, h2⟩
    · obtain ⟨i0, hi0, he, hf0⟩ := hback k s h2
      exact hS b (h.ini 1 i0 s b (at2_of hfv hf0) hb)
    · exact hS b (h.ini i k s b h2 hb)
  · rcases hS3 b hb with h5 | h5
    · exact ⟨(h.new b h5).1, Nat.lt_of_lt_of_le (h.new b h5).2 ho.size⟩
    · have := h.new M h.inM
      exact ⟨by omega, h5.2⟩
/-- the last round is over -/
theorem MoM.last {w w2 : World} {B c : Nat} {S : List Nat} {M : Nat} {x : Dr} {sf sl st sm : Sl} {fl : List Sl} {vss : List (List Sl)} {mv : List Bool} (h : MoM w B S M ⟨x.rs, x.tk, mv, x.rd, x.tn + 1⟩ sf sl st sm fl vss) (hn : x.rd + 1 = x.rs.length) (ho : Onl [M] w w2) (hp : w2.heap[M]? = some (.cells #[sf.v, sl.v, st.v, sm.v, .int .i64 ((x.rd + 1 : Nat) : Int), .int .i64 0, .bool true] 39 (0, 0))) : ∃ tvs, MoM w2 B S M ⟨x.rs, x.tk, mv, x.rd + 1, 0⟩ sf sl st sm [] [tvs] := by
  have tyM := h.tyM
  obtain ⟨tvs, h0, hl, hto⟩ := h.tval
  have hov : Dr.over ⟨x.rs, x.tk, mv, x.rd + 1, 0⟩ = true := by
    show (x.rd + 1 == x.rs.length) = true
    simp [hn]
  have hlive : Dr.live ⟨x.rs, x.tk, mv, x.rd + 1, 0⟩ = [] := by unfold Dr.live; rw [hov]; rfl
  refine ⟨tvs, by rw [hov]; exact hp, ?_, ?_, h.mov.onlT ho tyM (by decide), fun hov' => (by rw [hov] at hov'; cases hov'), fun hov' => (by rw [hov] at hov'; cases hov'), fun b hb' => ⟨Ty.onl (h.lty b hb').1 ho (by simpa using ty_ne (h.lty b hb').1 tyM (by decide)) (h.new b (h.lty b hb').2).2, (h.lty b hb').2⟩, h.inM, h.inm, fun s hs b hb => h.inr s (by simp at hs; subst hs; simp) b hb, fun i k s b hs hb => ?_, fun b hb => ⟨(h.new b hb).1, Nat.lt_of_lt_of_le (h.new b hb).2 ho.size⟩⟩
  · exact (Fam.nil (f := vc) 32 w2).cons st tvs (hto.onlT ho tyM (by decide)) (by simp)
  · rw [hlive]
    refine ⟨rfl, fun i r m hr hm => ?_, fun i k v l hv hl' => ?_⟩
    · cases i with
      | zero => simp at hr hm; subst hr hm; exact hl
      | succ i => simp at hr
    · rcases at2_cons hv with ⟨rfl, h1⟩ | ⟨j, rfl, h1⟩
      · rcases at2_cons hl' with ⟨_, h2⟩ | ⟨j, h3, _⟩
        · exact (h.mat.row 0 k v l (at2_of h0 h1) (at2_of rfl h2)).onlT ho tyM (by decide)
        · omega
      · simp [at2] at h1
  · rcases at2_cons hs with ⟨rfl, h1⟩ | ⟨j, rfl, h1⟩
    · exact h.ini 0 k s b (at2_of h0 h1) hb
    · simp [at2] at h1
/-- the next round begins -/
theorem MoM.round {w w2 : World} {B c : Nat} {S : List Nat} {M : Nat} {x : Dr} {sf sl st sm l0 sl' : Sl} {lt : List Sl} {vss : List (List Sl)} {mv : List Bool} (h : MoM w B S M ⟨x.rs, x.tk, mv, x.rd, x.tn + 1⟩ sf sl st sm (sf :: l0 :: lt) vss) (hx : x.Mid c) (hn : x.rd + 1 < x.rs.length) (ho : Onl [M] w w2) (hsl : Rw vc 1 w sl'.v lt) (hcp : sl'.n ≤ sl'.c ∧ sl'.c ≤ 9223372036854775807) (hob : ∀ b, sl'.v.ownBlock = some b → sl.v.ownBlock = some b) (hp : w2.heap[M]? = some (.cells #[l0.v, sl'.v, st.v, sm.v, .int .i64 ((x.rd + 1 : Nat) : Int), .int .i64 0, .bool false] 39 (0, 0))) : ∃ vs2, MoM w2 B S M ⟨x.rs, x.tk, mv, x.rd + 1, 0⟩ l0 sl' st sm (l0 :: lt) vs2 := by
  have tyM := h.tyM
  have hov : Dr.over ⟨x.rs, x.tk, mv, x.rd + 1, 0⟩ = false := by
    show (x.rd + 1 == x.rs.length) = false
    simp
    omega
  have hov1 : Dr.over ⟨x.rs, x.tk, mv, x.rd, x.tn + 1⟩ = false := by
    show (x.rd == x.rs.length) = false
    simp
    omega
  have hl1 : Dr.live ⟨x.rs, x.tk, mv, x.rd, x.tn + 1⟩ = Dr.fronts ⟨x.rs, x.tk, mv, x.rd, x.tn + 1⟩ :: x.rs.drop (x.rd + 1) := by
    unfold Dr.live
    rw [hov1]
    rfl
  have hlive := round_live hx mv hn
  obtain ⟨tvs, h0, hl, hto⟩ := h.tval
  obtain ⟨t0, f0, rest, hv⟩ : ∃ t0 f0 rest, vss = t0 :: f0 :: rest := by
    have := h.mat.len
    rw [hl1] at this
    match vss, this with
    | a :: b :: c, _ => exact ⟨a, b, c, rfl⟩
    | [], h => simp at h
    | [a], h => simp at h
  subst hv
  have hm : ∀ i k v l, at2 (t0 :: rest) i k = some v → at2 (x.tk :: x.rs.drop (x.rd + 1)) i k = some l → Oe ic 3 w v.v l := fun i k v l hv hl' => by
    rcases at2_cons hv with ⟨rfl, h1⟩ | ⟨j, rfl, h1⟩
    · rcases at2_cons hl' with ⟨_, h2⟩ | ⟨j, h3, _⟩
      · exact h.mat.row 0 k v l (at2_of rfl h1) (at2_of rfl h2)
      · omega
    · rcases at2_cons hl' with ⟨h3, _⟩ | ⟨j', h3, h2⟩
      · omega
      · obtain rfl : j = j' := by omega
        refine h.mat.row (j + 2) k v l (by simpa [at2] using h1) (by rw [hl1]; simpa [at2] using h2)
  refine ⟨t0 :: rest, by rw [hov]; exact hp, ?_, ?_, h.mov.onlT ho tyM (by decide), fun _ => ⟨lt, rfl, rw_onlT hsl ho tyM (fun b hb' => (h.lty b (hob b hb')).1) (by decide)⟩, fun _ => hcp, fun b hb' => ⟨Ty.onl (h.lty b (hob b hb')).1 ho (by simpa using ty_ne (h.lty b (hob b hb')).1 tyM (by decide)) (h.new b (h.lty b (hob b hb')).2).2, (h.lty b (hob b hb')).2⟩, h.inM, h.inm, fun s hs b hb => ?_, fun i k s b hs hb => ?_, fun b hb => ⟨(h.new b hb).1, Nat.lt_of_lt_of_le (h.new b hb).2 ho.size⟩⟩
  · have hr := h.rows.onlT ho tyM (by decide)
    refine ⟨by have := hr.len; simp at this ⊢; omega, fun i v l hv hl' => ?_, fun i j u v b hu hv hij hbu hbv => ?_⟩
    · cases i with
      | zero => exact hr.row 0 v l (by simpa using hv) (by simpa using hl')
      | succ i => exact hr.row (i + 2) v l (by simpa using hv) (by simpa using hl')
    · refine hr.ne (if i = 0 then 0 else i + 1) (if j = 0 then 0 else j + 1) u v b ?_ ?_ (by split <;> split <;> omega) hbu hbv
      · cases i with
        | zero => simpa using hu
        | succ i => simpa using hu
      · cases j with
        | zero => simpa using hv
        | succ j => simpa using hv
  · rw [hlive]
    refine ⟨by have := h.mat.len; rw [hl1] at this; simp at this ⊢; omega, fun i r m hr hm' => ?_, fun i k v l hv hl' => (hm i k v l hv hl').onlT ho tyM (by decide)⟩
    cases i with
    | zero => exact h.mat.lens 0 r m (by simpa using hr) (by simpa using hm')
    | succ i => exact h.mat.lens (i + 2) r m (by simpa using hr) (by rw [hl1]; simpa using hm')
  · refine h.inr s ?_ b hb
    simp at hs ⊢
    rcases hs with h1 | h1 | h1
    · exact .inl h1
    · exact .inr (.inr (.inl h1))
    · exact .inr (.inr (.inr h1))
  · rcases at2_cons hs with ⟨rfl, h1⟩ | ⟨j, rfl, h1⟩
    · exact h.ini 0 k s b (at2_of rfl h1) hb
    · exact h.ini (j + 2) k s b (by simpa [at2] using h1) hb
end Go.Proofs.Yteocplabibhecaa
