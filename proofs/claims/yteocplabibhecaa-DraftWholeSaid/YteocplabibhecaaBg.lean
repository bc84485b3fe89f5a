/- A new model. -/
import Derived.Test.YteocplabibhecaaMd
import Derived.Test.YteocplabibhecaaNw
import Derived.Deep.OwnRows
namespace Go.Proofs.Yteocplabibhecaa
open Go.RowKit Plain
set_option linter.unusedVariables false
set_option linter.unusedSimpArgs false

theorem rg15_3 {P : Program} {B n : Nat} {w0 : World} {L : List (Nat × Nat × Value)} {E F : World → Prop} {id : Nat} {Q : Exit → Act → World → Prop} {a : Act} {w : World} {o0 o1 o2 o3 o4 o5 o6 o7 o8 o9 o10 o11 : Oper} (hm : P.follows .mixedOrders = true)
    (hB : (Region.noSelect [o0, o1, o2, o3, o4, o5, o6, o7, o8, o9, o10, o11].toArray && Scr.ok .any [o0, o1, o2, o3, o4, o5, o6, o7, o8, o9, o10, o11].toArray [2] [0, 1, 3, 4, 5, 7, 9, 11] (.free 0 (.free 1 (.free 3 (.free 4 (.free 5 (.free 7 (.read 2 (.alt 6 (.alt 8 (.free 9 (.altc 10 (.free 11 .done) .stop)) .stop) (.alt 8 (.alt 6 (.free 9 (.altc 10 (.free 11 .done) .stop)) .stop) .stop))))))))) true true [o0, o1, o2, o3, o4, o5, o6, o7, o8, o9, o10, o11].toArray.size (Array.replicate [o0, o1, o2, o3, o4, o5, o6, o7, o8, o9, o10, o11].toArray.size false)) = true)
    (k : Kept B w0 n L w) (he : E w) (hE : ∀ W W', E W → Below W.heap.size W W' → E W') (hf : F w) (hF : ∀ W W', F W → Below W.heap.size W W' → F W')
    (h : ∀ wk, Kept B w0 n L wk → E wk → F wk → wpQuiet P [o0, o1, o2, o3, o4, o5, o6, o7, o8, o9, o10, o11].toArray (fun _ => True) (fun a0 => wpQuiet P [o0, o1, o2, o3, o4, o5, o6, o7, o8, o9, o10, o11].toArray (fun w' => ∃ s : KX B w0 n L E, w' = s.val) (fun a1 => ((∀ K2 : Act → World → Prop, (∀ a2 w2, ((∀ K3 : Act → World → Prop, (∀ a3 w3, wpQuiet P [o0, o1, o2, o3, o4, o5, o6, o7, o8, o9, o10, o11].toArray (fun _ => True) (fun a4 => ((∀ K5 : Act → World → Prop, (∀ a5 w5, wpQuiet P [o0, o1, o2, o3, o4, o5, o6, o7, o8, o9, o10, o11].toArray (fun _ => True) (fun a6 => Q .normal a6 w5) [o11] a5 → K5 a5 w5) → wpList P [o0, o1, o2, o3, o4, o5, o6, o7, o8, o9, o10, o11].toArray (fun e a5 w5 => e = .normal ∧ K5 a5 w5) [o10] a4 w3) ∧ True)) [o9] a3 → K3 a3 w3) → wpList P [o0, o1, o2, o3, o4, o5, o6, o7, o8, o9, o10, o11].toArray (fun e a3 w3 => e = .normal ∧ (∃ s : KX B w0 n L E, w3 = s.val) ∧ K3 a3 w3) [o8] a2 w2) ∧ True) → K2 a2 w2) → wpList P [o0, o1, o2, o3, o4, o5, o6, o7, o8, o9, o10, o11].toArray (fun e a2 w2 => e = .normal ∧ (∃ s : KX B w0 n L E, w2 = s.val) ∧ K2 a2 w2) [o6] a1 wk) ∧ (∀ K2 : Act → World → Prop, (∀ a2 w2, ((∀ K3 : Act → World → Prop, (∀ a3 w3, wpQuiet P [o0, o1, o2, o3, o4, o5, o6, o7, o8, o9, o10, o11].toArray (fun _ => True) (fun a4 => ((∀ K5 : Act → World → Prop, (∀ a5 w5, wpQuiet P [o0, o1, o2, o3, o4, o5, o6, o7, o8, o9, o10, o11].toArray (fun _ => True) (fun a6 => Q .normal a6 w5) [o11] a5 → K5 a5 w5) → wpList P [o0, o1, o2, o3, o4, o5, o6, o7, o8, o9, o10, o11].toArray (fun e a5 w5 => e = .normal ∧ K5 a5 w5) [o10] a4 w3) ∧ True)) [o9] a3 → K3 a3 w3) → wpList P [o0, o1, o2, o3, o4, o5, o6, o7, o8, o9, o10, o11].toArray (fun e a3 w3 => e = .normal ∧ (∃ s : KX B w0 n L E, w3 = s.val) ∧ K3 a3 w3) [o6] a2 w2) ∧ True) → K2 a2 w2) → wpList P [o0, o1, o2, o3, o4, o5, o6, o7, o8, o9, o10, o11].toArray (fun e a2 w2 => e = .normal ∧ (∃ s : KX B w0 n L E, w2 = s.val) ∧ K2 a2 w2) [o8] a1 wk) ∧ True)) [o2] a0) [o0, o1, o3, o4, o5, o7] a) : (Code.region id [o0, o1, o2, o3, o4, o5, o6, o7, o8, o9, o10, o11].toArray true).wp P Q a w := by
  have e1 : E w.drew := hE _ _ he ((Below.refl _ _).drew)
  have g := h _ k.drew e1 (hF _ _ hf ((Below.refl _ _).drew))
  exact wp_region_scr (U := (fun w' => ∃ s : KX B w0 n L E, w' = s.val)) (ops := [o0, o1, o2, o3, o4, o5, o6, o7, o8, o9, o10, o11].toArray) (.free 0 (.free 1 (.free 3 (.free 4 (.free 5 (.free 7 (.read 2 (.alt 6 (.alt 8 (.free 9 (.altc 10 (.free 11 .done) .stop)) .stop) (.alt 8 (.alt 6 (.free 9 (.altc 10 (.free 11 .done) .stop)) .stop) .stop))))))))) [2] [0, 1, 3, 4, 5, 7, 9, 11] hm hB ⟨⟨_, k.drew, e1⟩, rfl⟩ (Scr.of_free rfl g (fun _ g0 => Scr.of_free rfl g0 (fun _ g1 => Scr.of_free rfl g1 (fun _ g2 => Scr.of_free rfl g2 (fun _ g3 => Scr.of_free rfl g3 (fun _ g4 => Scr.of_free rfl g4 (fun _ g5 => Scr.of_read rfl g5 (fun _ g6 => (Scr.of_alt rfl (g6.1 _ (fun _ _ g => g)) (fun _ _ g7 => (Scr.of_alt rfl (g7.1 _ (fun _ _ g => g)) (fun _ _ g8 => Scr.of_free rfl g8 (fun _ g9 => (Scr.of_altc rfl (g9.1 _ (fun _ _ g => g)) (fun _ _ g10 => Scr.of_free rfl g10 (fun _ g11 => g11)) trivial))) trivial)) (Scr.of_alt rfl (g6.2.1 _ (fun _ _ g => g)) (fun _ _ g7 => (Scr.of_alt rfl (g7.1 _ (fun _ _ g => g)) (fun _ _ g8 => Scr.of_free rfl g8 (fun _ g9 => (Scr.of_altc rfl (g9.1 _ (fun _ _ g => g)) (fun _ _ g10 => Scr.of_free rfl g10 (fun _ g11 => g11)) trivial))) trivial)) trivial))))))))))
theorem Fam.cons {α : Type} {f : α → List Value} {e : TypeId} {w : World} {vs : List Sl} {ls : List (List α)} (h : Fam f e w vs ls) (v : Sl) (l : List α) (hv : Oe f e w v.v l) (hn : ∀ b, blk v.v = some b → ∀ x ∈ vs, blk x.v ≠ some b) : Fam f e w (v :: vs) (l :: ls) := by
  refine ⟨by simp [h.len], fun i x m hx hm => ?_, fun i j x y b hx hy hij hbx hby => ?_⟩
  · cases i with
    | zero => simp at hx hm; subst hx hm; exact hv
    | succ i => exact h.row i x m (by simpa using hx) (by simpa using hm)
  · cases i with
    | zero =>
      simp at hx
      subst hx
      cases j with
      | zero => exact hij rfl
      | succ j => exact hn b hbx y (List.mem_of_getElem? (by simpa using hy)) hby
    | succ i =>
      cases j with
      | zero => simp at hy; subst hy; exact hn b hby x (List.mem_of_getElem? (by simpa using hx)) hbx
      | succ j => exact h.ne i j x y b (by simpa using hx) (by simpa using hy) (by omega) hbx hby
theorem Mat.zero {w : World} {vss : List (List Sl)} {lss : List (List (List Int))} (h : Mat ic 3 w vss lss) : Mat0 w vss lss := ⟨h.len, h.lens, h.row⟩
theorem at2_cons {α : Type} {r : List α} {l : List (List α)} {i k : Nat} {x : α} (h : at2 (r :: l) i k = some x) : (i = 0 ∧ r[k]? = some x) ∨ ∃ j, i = j + 1 ∧ at2 l j k = some x := by
  cases i with
  | zero => exact .inl ⟨rfl, by simpa [at2] using h⟩
  | succ j => exact .inr ⟨j, rfl, by simpa [at2] using h⟩
theorem Mat0.consNil {w : World} {vss : List (List Sl)} {lss : List (List (List Int))} (h : Mat0 w vss lss) (n : Nat) : Mat0 w (List.replicate n Sl.nil :: vss) (List.replicate n [] :: lss) := by
  refine ⟨by simp [h.len], fun i r m hr hm => ?_, fun i k v l hv hl => ?_⟩
  · cases i with
    | zero => simp at hr hm; subst hr hm; simp
    | succ i => exact h.lens i r m (by simpa using hr) (by simpa using hm)
  · rcases at2_cons hv with ⟨rfl, h1⟩ | ⟨j, rfl, h1⟩
    · rcases at2_cons hl with ⟨_, h2⟩ | ⟨j, h3, _⟩
      · rw [List.eq_of_mem_replicate (List.mem_of_getElem? h1), List.eq_of_mem_replicate (List.mem_of_getElem? h2)]
        exact Oe.nil _ _
      · omega
    · rcases at2_cons hl with ⟨h3, _⟩ | ⟨i, h3, h2⟩
      · omega
      · obtain rfl : j = i := by omega
        exact h.row j k v l h1 h2
theorem newMo {w w2 W : World} {gt gv ob oc : Nat} {rvs : List Sl} {vss : List (List Sl)} {ls : List (List (List Int))} {r : List (List Int)} {sf sl : Sl} {lvs : List Sl} (hm : MxM W w.heap.size ⟨some ⟨ob, 0, none⟩, ls.length, oc⟩ rvs vss ls) (ht : Ow vc 1 32 W gt (.slice (some ⟨gt, 0, none⟩) r.length r.length) (List.replicate r.length Sl.nil)) (hv : Ow bc 1 4 W gv (.slice (some ⟨gv, 0, none⟩) r.length r.length) (List.replicate r.length false)) (h2 : w2.heap.size ≤ gt) (h3 : w2.heap.size ≤ gv) (h0 : ls[0]? = some r) (hr2 : 2 ≤ r.length)
    (hl : rvs = sf :: lvs ∧ Rw vc 1 W sl.v lvs ∧ (∀ b, sl.v.ownBlock = some b → b = ob) ∧ (∀ x ∈ rvs, ∀ b, blk x.v = some b → b < w2.heap.size)) (hb : Below w.heap.size w W) (hz : w.heap.size ≤ w2.heap.size) (hcp : sl.n ≤ sl.c ∧ sl.c ≤ 9223372036854775807) : MoAt (W.alloc (.cells #[sf.v, sl.v, .slice (some ⟨gt, 0, none⟩) r.length r.length, .slice (some ⟨gv, 0, none⟩) r.length r.length, .int .i64 0, .int .i64 0, .bool false] 39)) w.heap.size (since w.heap.size (W.heap.size + 1)) W.heap.size (Dr.init ls) := by
  have ha : Below W.heap.size W (W.alloc (.cells #[sf.v, sl.v, .slice (some ⟨gt, 0, none⟩) r.length r.length, .slice (some ⟨gv, 0, none⟩) r.length r.length, .int .i64 0, .int .i64 0, .bool false] 39)) := (Below.refl _ _).alloc (Nat.le_refl _) _
  obtain ⟨hl1, hl2, hl3, hl4⟩ := hl
  have hsz := hb.size
  have e0 : ls.getD 0 [] = r := getD_lt h0
  have hlen := (List.getElem?_eq_some_iff.1 h0).1
  have hown : ∀ (a : Addr) n c b, blk (.slice (some a) n c) = some b → b = a.block := fun a n c b h => by
    have := blk_own h
    simp [Value.ownBlock] at this
    exact this.symm
  have hov : (Dr.init ls).over = false := by
    unfold Dr.over Dr.init
    simp
    omega
  have htk : (Dr.init ls).tk = List.replicate r.length [] := by show List.replicate (ls.getD 0 []).length _ = _; rw [e0]
  refine ⟨sf, sl, ⟨some ⟨gt, 0, none⟩, r.length, r.length⟩, ⟨some ⟨gv, 0, none⟩, r.length, r.length⟩, rvs, List.replicate r.length Sl.nil :: vss, ?_, ?_, ?_, ?_, fun _ => ⟨lvs, hl1, hl2.below ha⟩, fun _ => hcp, fun b hbb => ⟨?_, ?_⟩, mem_since.2 ⟨hsz, by omega⟩, fun b h => ?_, fun s hs b h => ?_, fun i k s b hs h => ?_, fun b h => by have := mem_since.1 h; simp; omega⟩
  · rw [heap_alloc_new, hov]
    rfl
  · refine (hm.rows.below ha).cons _ _ ((Oe.of_ow ht).below ha) (fun b hb' x hx hbx => ?_)
    have h5 := hown _ _ _ _ hb'
    have h6 := hl4 x hx b hbx
    simp at h5
    omega
  · rw [init_live h0 hr2, htk]
    exact ((hm.mat.below ha).zero).consNil r.length
  · have : (Dr.init ls).mv = List.replicate r.length false := by show List.replicate (ls.getD 0 []).length _ = _; rw [e0]
    rw [this]
    exact (Oe.of_ow hv).below ha
  · rw [hl3 b hbb]
    exact Ty.onl (S := []) (hm.out.ty rfl) (.of ha) (by simp) (hm.out.lt rfl)
  · rw [hl3 b hbb]
    have := hm.bo ob rfl
    have := hm.out.lt (b := ob) rfl
    exact mem_since.2 ⟨by omega, by omega⟩
  · have := hown _ _ _ _ h
    have h4 := (hv.typ gv rfl).2.1
    exact mem_since.2 ⟨by simp at this; omega, by simp at this; omega⟩
  · rcases List.mem_cons.1 hs with rfl | h5
    · have := hown _ _ _ _ h
      have h4 := (ht.typ gt rfl).2.1
      exact mem_since.2 ⟨by simp at this; omega, by simp at this; omega⟩
    · have := hm.br s h5 b h
      have := hm.rows.lt h5 h
      exact mem_since.2 ⟨by omega, by omega⟩
  · rcases at2_cons hs with ⟨rfl, h1⟩ | ⟨j, rfl, h1⟩
    · rw [List.eq_of_mem_replicate (List.mem_of_getElem? h1)] at h
      simp [Sl.nil, Sl.v, blk, Value.ownBlock] at h
    · have := hm.bi j k s b h1 h
      have := hm.mat.lt h1 h
      exact mem_since.2 ⟨by omega, by omega⟩
/-- a new model, which nothing else knows -/
def MoNew (w : World) (ls : List (List (List Int))) (e : Ending) (w' : World) : Prop := ∃ M S, e = .returned (.pointer (some ⟨M, 0, none⟩)) ∧ MoAt w' w.heap.size S M (Dr.init ls) ∧ Below w.heap.size w w'
theorem MoNew.of {w w1 : World} {ls : List (List (List Int))} {e : Ending} {w' : World} (hb : Below w.heap.size w w1) (h : MoNew w1 ls e w') : MoNew w ls e w' := by
  obtain ⟨M, S, h1, ⟨sf, sl, st, sm, fl, vss, h2⟩, h3⟩ := h
  exact ⟨M, S, h1, ⟨sf, sl, st, sm, fl, vss, h2.hp, h2.rows, h2.mat, h2.mov, h2.fln, h2.lcap, h2.lty, h2.inM, h2.inm, h2.inr, h2.ini, fun b hb' => ⟨Nat.le_trans hb.size (h2.new b hb').1, (h2.new b hb').2⟩⟩, below_via hb h3⟩
set_option maxRecDepth 100000 in
set_option maxHeartbeats 4000000 in
theorem begin15 (v : Value) (ls : List (List (List Int))) (w : World) (hs : Rw3 w v ls) (hr : right ls = true) : Calls Try.prog 15 #[v] w (MoNew w ls) := by
  have HSM := Lib.hid (right_small hr)
  obtain ⟨r, h0, h2, h8, h1, h4⟩ := right_row0 hr
  have HR0 := Lib.hid h0
  have HR2 := Lib.hid h2
  obtain ⟨m1, a1, c1, rfl, f1⟩ := hs.at
  obtain ⟨b1, o1, rfl, hlt1, hc1⟩ := f1 (by omega)
  obtain ⟨a2, c2, e1, _⟩ := hc1 0 r h0
  rw [Nat.add_zero] at e1
  have HS := Lib.hid hs
  have hmk3 := fun w => run_make_row' (P := Try.prog) 30 32 (.slice none 0 0) 24 Try.underlying30 (by kernel_rfl) rfl .i64 .i64 r.length (by omega) (by omega) w
  have hmk5 := fun w => run_make_row' (P := Try.prog) 37 4 (.bool false) 1 Try.underlying37 (by kernel_rfl) rfl .i64 .i64 r.length (by omega) (by omega) w
  clear hs hr h0 f1 hc1
  obtain ⟨w1, rfl⟩ : ∃ w1, w1 = w := ⟨_, rfl⟩
  have HB1 := Lib.hid (Below.refl w1.heap.size w1)
  go_enter Try.func15, Try.ntmps15
  go_wp2_with fail
  with_reducible refine (own10 _ ls _ HS.out HSM.out).mono ?_
  rintro e w2 ⟨⟨oa, on, oc⟩, rvs, vss, he, hmx, hb2⟩
  obtain ⟨sf, hsf⟩ : ∃ s, rvs[0]? = some s := ⟨_, List.getElem?_eq_getElem (show 0 < rvs.length by have a := hmx.rows.len; have b := hmx.mat.len; omega)⟩
  obtain ⟨ob, ha, hc, hn, hobl, hobb, e0, _⟩ := hmx.out.cell1 vc1 hsf
  change oa = _ at ha
  change 0 < oc at hc
  change on = rvs.length at hn
  have hnl : rvs.length = ls.length := by rw [hmx.rows.len, hmx.mat.len]
  subst ha
  rw [hnl] at hn
  subst hn
  replace he : e = .returned (.slice (some ⟨ob, 0, none⟩) ls.length oc) := he
  subst he
  have hoc : oc ≤ 9223372036854775807 := hmx.out.max'
  have hcp : ls.length ≤ oc := hmx.out.cap'
  have hob2 := hobl
  obtain ⟨o', hA, hA2⟩ : ∃ o' : Nat, (if oc = 1 then (some (⟨ob, 0, none⟩ : Addr)) else some ⟨ob, 1, none⟩) = some ⟨ob, o', none⟩ ∧ (1 < ls.length → o' = 0 + 1 * 1) := by
    by_cases h : oc = 1
    · exact ⟨0, by rw [if_pos h], fun h2 => by omega⟩
    · exact ⟨1, by rw [if_neg h], fun _ => rfl⟩
  have HCP : Hid ((⟨some ⟨ob, o', none⟩, ls.length - 1, oc - 1⟩ : Sl).n ≤ (⟨some ⟨ob, o', none⟩, ls.length - 1, oc - 1⟩ : Sl).c ∧ (⟨some ⟨ob, o', none⟩, ls.length - 1, oc - 1⟩ : Sl).c ≤ 9223372036854775807) := Lib.hid (by show ls.length - 1 ≤ oc - 1 ∧ oc - 1 ≤ _; omega)
  have HLV : Hid (∀ W, Below w2.heap.size w2 W → rvs = sf :: rvs.drop 1 ∧ Rw vc 1 W (.slice (some ⟨ob, o', none⟩) (ls.length - 1) (oc - 1)) (rvs.drop 1) ∧ (∀ b, (Value.slice (some ⟨ob, o', none⟩) (ls.length - 1) (oc - 1)).ownBlock = some b → b = ob) ∧ (∀ x ∈ rvs, ∀ b, blk x.v = some b → b < w2.heap.size)) := Lib.hid (fun W hb => by
    refine ⟨?_, (((hmx.out.rw vc_len).drop (k := 1) (by omega) (oc - 1) o' hA2)).below hb, fun b h => ?_, fun x hx b h => hmx.rows.lt hx h⟩
    · cases rvs with
      | nil => simp at hsf
      | cons a l => simp at hsf; rw [hsf]; rfl
    · simp [Value.ownBlock] at h
      exact h.symm)
  have HMX := Lib.hid hmx
  have HB2 := Lib.hid hb2
  have HSZ : Hid (w1.heap.size ≤ w2.heap.size) := Lib.hid hb2.size
  clear hmx hb2 hsf hA2 hobb hnl
  go_wp2_with fail
  refine rg15_3 (w0 := w2) (B := w2.heap.size) (n := w2.heap.size) (L := []) (E := fun _ => True) (F := fun _ => True) (by kernel_rfl) (by kernel_rfl) ⟨by go_grown, by go_size, (by simp [go_sem] <;> omega)⟩ trivial (fun _ _ _ _ => trivial) trivial (fun _ _ _ _ => trivial) (fun w21 K_w21 E_w21 F_w21 => ?_)
  have _ne : Nonempty (KX (w2.heap.size) w2 (w2.heap.size) [] (fun _ => True)) := ⟨⟨_, K_w21, E_w21⟩⟩
  repeat (go_big_quiet_step (fail))
  refine wpQuiet_nil ?_
  have rx0 : ∀ s : KX (w2.heap.size) w2 (w2.heap.size) [] (fun _ => True), s.val.cell? ⟨ob, 0, none⟩ = some (.slice sf.a sf.n sf.c) := fun s => (s.kept.below.cell (p := ⟨ob, 0, none⟩) hob2).trans e0
  repeat (go_big_quiet_step (fail))
  refine wpQuiet_nil ?_
  clear rx0
  have KH_w21 := Lib.hid K_w21
  have hw_w21 := K_w21.below
  have hz_w21 := K_w21.size
  clear K_w21
  clear E_w21 F_w21
  refine ⟨fun K hK0 => ?_, fun K hK0 => ?_, trivial⟩
  · skip
    have hK := Lib.hid hK0
    clear hK0
    go_wp2_with fail
    obtain ⟨w22, hW⟩ : ∃ W, W = w21.alloc (.cells (madeCells #[.slice none 0 0] r.length) 32) := ⟨_, rfl⟩
    have hbn : Below w21.heap.size w21 w22 := by rw [hW]; exact (Below.refl _ _).alloc (Nat.le_refl _) _
    have hnew := made_ow (f := vc) (d := Sl.nil) (z := .slice none 0 0) (fun _ => rfl) rfl w21 32 r.length (by omega)
    rw [← hW] at hnew ⊢
    obtain ⟨gt, hg⟩ : ∃ g, g = w21.heap.size := ⟨_, rfl⟩
    rw [← hg] at hnew ⊢
    have HGT : Hid (w2.heap.size ≤ gt) := Lib.hid (by have := hw_w21.size; omega)
    have HT : Hid (Ow vc 1 32 w22 gt (.slice (some ⟨gt, 0, none⟩) r.length r.length) (List.replicate r.length Sl.nil)) := Lib.hid (hnew)
    clear hW hnew hg
    have K_w22 := KH_w21.out.step (by omega) hbn
    have KH_w22 := Lib.hid K_w22
    have hz_w22 := K_w22.size
    have hw_w22 := K_w22.below
    clear K_w22 hbn
    first | (refine ⟨rfl, ⟨⟨_, KH_w22.out, trivial⟩, rfl⟩, hK.out _ _ ?_⟩; clear hK K) | (refine ⟨⟨⟨_, KH_w22.out, trivial⟩, rfl⟩, hK.out _ _ ?_⟩; clear hK K)
    refine ⟨fun K hK0 => ?_, trivial⟩
    have hK := Lib.hid hK0
    clear hK0
    go_wp2_with fail
    obtain ⟨w23, hW⟩ : ∃ W, W = w22.alloc (.cells (madeCells #[.bool false] r.length) 4) := ⟨_, rfl⟩
    have hbn : Below w22.heap.size w22 w23 := by rw [hW]; exact (Below.refl _ _).alloc (Nat.le_refl _) _
    have hnew := made_ow (f := bc) (d := false) (z := .bool false) (fun _ => rfl) rfl w22 4 r.length (by omega)
    rw [← hW] at hnew ⊢
    obtain ⟨gv, hg⟩ : ∃ g, g = w22.heap.size := ⟨_, rfl⟩
    rw [← hg] at hnew ⊢
    have HGV : Hid (w2.heap.size ≤ gv) := Lib.hid (by have := hw_w22.size; omega)
    have HT : Hid (Ow vc 1 32 w23 gt (.slice (some ⟨gt, 0, none⟩) r.length r.length) (List.replicate r.length Sl.nil)) := Lib.hid (HT.out.below hbn)
    have HV : Hid (Ow bc 1 4 w23 gv (.slice (some ⟨gv, 0, none⟩) r.length r.length) (List.replicate r.length false)) := Lib.hid (hnew)
    clear hW hnew hg
    have K_w23 := KH_w22.out.step (by omega) hbn
    have KH_w23 := Lib.hid K_w23
    have hz_w23 := K_w23.size
    have hw_w23 := K_w23.below
    clear K_w23 hbn
    first | (refine ⟨rfl, ⟨⟨_, KH_w23.out, trivial⟩, rfl⟩, hK.out _ _ ?_⟩; clear hK K) | (refine ⟨⟨⟨_, KH_w23.out, trivial⟩, rfl⟩, hK.out _ _ ?_⟩; clear hK K)
    repeat (go_big_quiet_step (fail))
    refine wpQuiet_nil ?_
    refine ⟨fun K hK0 => ?_, trivial⟩
    have hK := Lib.hid hK0
    clear hK0
    go_wp2_with fail
    first | (refine ⟨rfl, hK.out _ _ ?_⟩; clear hK K) | (refine hK.out _ _ ?_; clear hK K)
    repeat (go_big_quiet_step (fail))
    refine wpQuiet_nil ?_
    clear _ne
    go_wp2_with fail
    go_returns
    exact MoNew.of HB1.out ⟨_, _, rfl, newMo (sf := sf) (sl := ⟨some ⟨ob, o', none⟩, ls.length - 1, oc - 1⟩) (lvs := rvs.drop 1) (HMX.out.below hw_w23) HT.out HV.out HGT.out HGV.out HR0.out HR2.out (HLV.out _ hw_w23) (below_via HB2.out hw_w23) HSZ.out HCP.out, (below_via HB2.out hw_w23).alloc (below_via HB2.out hw_w23).size _⟩
  · skip
    have hK := Lib.hid hK0
    clear hK0
    go_wp2_with fail
    obtain ⟨w22, hW⟩ : ∃ W, W = w21.alloc (.cells (madeCells #[.bool false] r.length) 4) := ⟨_, rfl⟩
    have hbn : Below w21.heap.size w21 w22 := by rw [hW]; exact (Below.refl _ _).alloc (Nat.le_refl _) _
    have hnew := made_ow (f := bc) (d := false) (z := .bool false) (fun _ => rfl) rfl w21 4 r.length (by omega)
    rw [← hW] at hnew ⊢
    obtain ⟨gv, hg⟩ : ∃ g, g = w21.heap.size := ⟨_, rfl⟩
    rw [← hg] at hnew ⊢
    have HGV : Hid (w2.heap.size ≤ gv) := Lib.hid (by have := hw_w21.size; omega)
    have HV : Hid (Ow bc 1 4 w22 gv (.slice (some ⟨gv, 0, none⟩) r.length r.length) (List.replicate r.length false)) := Lib.hid (hnew)
    clear hW hnew hg
    have K_w22 := KH_w21.out.step (by omega) hbn
    have KH_w22 := Lib.hid K_w22
    have hz_w22 := K_w22.size
    have hw_w22 := K_w22.below
    clear K_w22 hbn
    first | (refine ⟨rfl, ⟨⟨_, KH_w22.out, trivial⟩, rfl⟩, hK.out _ _ ?_⟩; clear hK K) | (refine ⟨⟨⟨_, KH_w22.out, trivial⟩, rfl⟩, hK.out _ _ ?_⟩; clear hK K)
    refine ⟨fun K hK0 => ?_, trivial⟩
    have hK := Lib.hid hK0
    clear hK0
    go_wp2_with fail
    obtain ⟨w23, hW⟩ : ∃ W, W = w22.alloc (.cells (madeCells #[.slice none 0 0] r.length) 32) := ⟨_, rfl⟩
    have hbn : Below w22.heap.size w22 w23 := by rw [hW]; exact (Below.refl _ _).alloc (Nat.le_refl _) _
    have hnew := made_ow (f := vc) (d := Sl.nil) (z := .slice none 0 0) (fun _ => rfl) rfl w22 32 r.length (by omega)
    rw [← hW] at hnew ⊢
    obtain ⟨gt, hg⟩ : ∃ g, g = w22.heap.size := ⟨_, rfl⟩
    rw [← hg] at hnew ⊢
    have HGT : Hid (w2.heap.size ≤ gt) := Lib.hid (by have := hw_w22.size; omega)
    have HV : Hid (Ow bc 1 4 w23 gv (.slice (some ⟨gv, 0, none⟩) r.length r.length) (List.replicate r.length false)) := Lib.hid (HV.out.below hbn)
    have HT : Hid (Ow vc 1 32 w23 gt (.slice (some ⟨gt, 0, none⟩) r.length r.length) (List.replicate r.length Sl.nil)) := Lib.hid (hnew)
    clear hW hnew hg
    have K_w23 := KH_w22.out.step (by omega) hbn
    have KH_w23 := Lib.hid K_w23
    have hz_w23 := K_w23.size
    have hw_w23 := K_w23.below
    clear K_w23 hbn
    first | (refine ⟨rfl, ⟨⟨_, KH_w23.out, trivial⟩, rfl⟩, hK.out _ _ ?_⟩; clear hK K) | (refine ⟨⟨⟨_, KH_w23.out, trivial⟩, rfl⟩, hK.out _ _ ?_⟩; clear hK K)
    repeat (go_big_quiet_step (fail))
    refine wpQuiet_nil ?_
    refine ⟨fun K hK0 => ?_, trivial⟩
    have hK := Lib.hid hK0
    clear hK0
    go_wp2_with fail
    first | (refine ⟨rfl, hK.out _ _ ?_⟩; clear hK K) | (refine hK.out _ _ ?_; clear hK K)
    repeat (go_big_quiet_step (fail))
    refine wpQuiet_nil ?_
    clear _ne
    go_wp2_with fail
    go_returns
    exact MoNew.of HB1.out ⟨_, _, rfl, newMo (sf := sf) (sl := ⟨some ⟨ob, o', none⟩, ls.length - 1, oc - 1⟩) (lvs := rvs.drop 1) (HMX.out.below hw_w23) HT.out HV.out HGT.out HGV.out HR0.out HR2.out (HLV.out _ hw_w23) (below_via HB2.out hw_w23) HSZ.out HCP.out, (below_via HB2.out hw_w23).alloc (below_via HB2.out hw_w23).size _⟩

end Go.Proofs.Yteocplabibhecaa
