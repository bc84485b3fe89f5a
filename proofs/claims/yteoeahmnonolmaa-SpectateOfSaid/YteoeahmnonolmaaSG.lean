/- The time of a stand goes on, and boards are forgotten. -/
import Derived.Test.YteoeahmnonolmaaSNw
import Derived.Test.YteoeahmnonolmaaSOf
import Derived.Test.YteoeahmnonolmaaSE4
import Derived.Deep.DeepCutAuto
import Derived.LoopTactic
import Derived.Deep.MidRow
namespace Go.Proofs.Yteoeahmnonolmaa
open Go.RowKit Plain
set_option linter.unusedVariables false
set_option linter.unusedSimpArgs false

theorem ShR.onlT {w w' : World} {v : Value} {l : List (Pu × Int)} {g : Nat} {cur : Array Value} (h : ShR w v l) (ho : Onl [g] w w') (hg : w.heap[g]? = some (.cells cur 73 (0, 0))) : ShR w' v l := by
  obtain ⟨l', h1, h2, h3, h4, h5⟩ := h
  have ne : ∀ b, v.ownBlock = some b → b ∉ [g] := fun b hv hm => by
    obtain ⟨c, hc⟩ := h4 b hv
    simp at hm
    subst hm
    rw [hg] at hc
    simp at hc
  exact ⟨l', h1, h2.onl ho ne, fun x hx => (PuO.onlT (h3 x hx) ho hg (by decide)).mono (Nat.le_refl _) ho.size, fun b hv => by
    obtain ⟨c, hc⟩ := h4 b hv
    exact ⟨c, (ho.block b (Array.getElem?_eq_some_iff.1 hc).1 (ne b hv)).trans hc⟩, h5⟩
theorem SdAt.lt {w : World} {P : Nat} {s : Sd} {v : Sl} (h : SdAt w P s v) : P < w.heap.size := (Array.getElem?_eq_some_iff.1 h.blk).1
theorem SdAt.below {w w' : World} {P : Nat} {s : Sd} {v : Sl} (h : SdAt w P s v) (hb : Below w.heap.size w w') : SdAt w' P s v := ⟨(hb.block P h.lt).trans h.blk, h.list.below hb, h.dl, h.nw, h.at'⟩
/-- another stand changes -/
theorem SdAt.other {w w' : World} {P g : Nat} {s : Sd} {v : Sl} {cur : Array Value} (h : SdAt w P s v) (ho : Onl [g] w w') (hg : w.heap[g]? = some (.cells cur 73 (0, 0))) (hne : P ≠ g) : SdAt w' P s v := ⟨(ho.block P h.lt (by simpa using hne)).trans h.blk, h.list.onlT ho hg, h.dl, h.nw, h.at'⟩
theorem SdAt.len {w : World} {P : Nat} {s : Sd} {v : Sl} (h : SdAt w P s v) : v.n = s.l.length := by
  obtain ⟨l', h1, h2, _⟩ := h.list
  rw [rw_len h2, ← h1, List.length_map]
/-- a store into the stand's own block -/
theorem SdAt.put {w : World} {P : Nat} {s : Sd} {v : Sl} (h : SdAt w P s v) (i : Nat) (u : Value) (s' : Sd) (v' : Sl) (he : (#[.bool true, .int .u64 s.dl, .int .u64 s.nw, v.v] : Array Value).setIfInBounds i u = #[.bool true, .int .u64 s'.dl, .int .u64 s'.nw, v'.v]) (hl : ShR w v'.v s'.l) (hd : U s'.dl) (hn : U s'.nw) (ha : ∀ x ∈ s'.l, U x.2) : SdAt (w.setCell ⟨P, i, none⟩ u) P s' v' ∧ Onl [P] w (w.setCell ⟨P, i, none⟩ u) := by
  have ho : Onl [P] w (w.setCell ⟨P, i, none⟩ u) := Onl.setCell (Onl.refl _ _) (.inl (by simp)) _
  refine ⟨⟨?_, hl.onlT ho h.blk, hd, hn, ha⟩, ho⟩
  rw [← he]
  exact heap_setCell_same w P i _ _ u h.blk
theorem drp_two {dl nw : Int} {a b : Pu × Int} {r : List (Pu × Int)} (h : dueT dl nw b.2 = true) : drp dl nw (a :: b :: r) = drp dl nw (b :: r) := by rw [drp, if_pos h]
theorem drp_stop {dl nw : Int} {a b : Pu × Int} {r : List (Pu × Int)} (h : dueT dl nw b.2 = false) : drp dl nw (a :: b :: r) = a :: b :: r := by rw [drp, if_neg (by rw [h]; simp)]
def GoR (w : World) (P : Nat) (s : Sd) (t : Int) (g : Nat) (wr : World) : Prop := ∃ l v, l.length = g ∧ SdAt wr P ⟨s.dl, max s.nw t, l⟩ v ∧ drp s.dl (max s.nw t) l = drp s.dl (max s.nw t) s.l ∧ Onl [P] w wr
set_option maxRecDepth 100000 in
set_option maxHeartbeats 4000000 in
theorem goOn (P : Nat) (s : Sd) (v : Sl) (t : Int) (w : World) (h : SdAt w P s v) (ht : U t) : Calls Try.prog 31 #[.pointer (some ⟨P, 0, none⟩), .int .u64 t] w fun e w' => e = .returned (.tuple #[]) ∧ ∃ v', SdAt w' P (s.go t) v' ∧ Onl [P] w w' := by
  have HS := Lib.hid h
  have c2 : w.cell? ⟨P, 2, none⟩ = some (.int .u64 s.nw) := cell_of_row _ _ 2 _ 73 (0, 0) h.blk
  have f2 : w.frozen? ⟨P, 2, none⟩ = false := by unfold World.frozen?; rw [h.blk]; simp
  have HU : Hid (U t) := Lib.hid ht
  clear h ht
  rcases Int.lt_or_le s.nw t with hmx | hmx
  · skip
    have HN : Hid (max s.nw t = t) := Lib.hid (by rw [Int.max_def, if_pos (by omega)])
    have HZ := HS.out.put 2 (.int .u64 t) ⟨s.dl, t, s.l⟩ v rfl HS.out.list HS.out.dl HU.out HS.out.at'
    replace HZ := Lib.hid HZ
    go_enter Try.func31, Try.ntmps31
    go_wp2_with fail
    obtain ⟨wz, hwz⟩ : ∃ W, W = w.setCell ⟨P, 2, none⟩ (.int .u64 t) := ⟨_, rfl⟩
    rw [← hwz] at HZ ⊢
    clear hwz c2 f2 hmx
    go_loopg [] s.l.length (fun g wr => GoR w P s t g wr)
    case atStart => exact ⟨s.l, v, rfl, by rw [HN.out]; exact HZ.out.1, rfl, HZ.out.2⟩
    case round =>
      obtain ⟨l, v', hg, hs, hd, ho⟩ := hrel
      subst hg
      rw [HN.out] at hs hd
      replace HS := Lib.hid hs
      have HD := Lib.hid hd
      have HO := Lib.hid ho
      have hlen := hs.len
      obtain ⟨va, vn, vc⟩ := v'
      change vn = l.length at hlen
      subst hlen
      have c1 : wr.cell? ⟨P, 1, none⟩ = some (.int .u64 s.dl) := cell_of_row _ _ 1 _ 73 (0, 0) hs.blk
      have c2 : wr.cell? ⟨P, 2, none⟩ = some (.int .u64 t) := cell_of_row _ _ 2 _ 73 (0, 0) hs.blk
      have c3 : wr.cell? ⟨P, 3, none⟩ = some (.slice va l.length vc) := cell_of_row _ _ 3 _ 73 (0, 0) hs.blk
      have f3 : wr.frozen? ⟨P, 3, none⟩ = false := by unfold World.frozen?; rw [hs.blk]; simp
      have lp := hs.lt
      obtain ⟨l', hl', hrw, hpu, hty, hcap⟩ := hs.list
      clear hs hd ho HZ
      have hcl : l.length ≤ vc := hcap va l.length vc rfl
      clear hcap
      replace hl' : l'.map (fun x => (x.1.1, x.2)) = l := hl'
      replace hrw : Rw shc 38 wr (.slice va l.length vc) l' := hrw
      replace hty : ∀ b, (Value.slice va l.length vc).ownBlock = some b → ∃ cur, wr.heap[b]? = some (.cells cur 93 (0, 0)) := hty
      by_cases h2 : l.length ≤ 1
      · have t1 : decide ((l.length : Int) > 1) = false := decide_eq_false (by omega)
        have HF : Hid (drp s.dl t l = l) := Lib.hid (by
          match l, h2 with
          | [], _ => rfl
          | [a], _ => rfl
          | a :: b :: r, h => simp at h)
        clear hrw hpu hty c1
        go_wp2_with fail
        go_returns
        refine And.intro rfl (Exists.intro (⟨va, l.length, vc⟩ : Sl) (And.intro ?_ HO.out))
        have e : s.go t = ⟨s.dl, t, l⟩ := by unfold Sd.go; rw [HN.out, ← HD.out, HF.out]
        rw [e]
        exact HS.out
      · have t1 : decide ((l.length : Int) > 1) = true := decide_eq_true (by omega)
        have hll : l'.length = l.length := by rw [← hl', List.length_map]
        obtain ⟨x, r, rfl⟩ : ∃ x r, l' = x :: r := by
          cases l' with
          | nil => simp at hll; omega
          | cons x r => exact ⟨x, r, rfl⟩
        obtain ⟨y, r, rfl⟩ : ∃ y q, r = y :: q := by
          cases r with
          | nil => simp at hll; omega
          | cons x r => exact ⟨x, r, rfl⟩
        have hl2 : l = (x.1.1, x.2) :: (y.1.1, y.2) :: r.map (fun x => (x.1.1, x.2)) := hl'.symm
        obtain ⟨hmx, _, _, hv, hc⟩ := hrw.form
        rw [hll] at hmx
        obtain ⟨b, off, rfl, hb, hc⟩ := hc (by simp)
        simp only [Value.slice.injEq] at hv
        obtain ⟨rfl, hz1, rfl⟩ := hv
        clear hz1
        have HQ : Hid (wr.rangeAt b (off + 38) (shc y)) := Lib.hid (fun j u hu => by
          have := hc 1 y rfl j u hu
          rw [show off + 38 + j = off + (1 * 38 + j) by omega]
          exact this)
        have HY : Hid (U y.2 ∧ U s.dl) := Lib.hid ⟨HS.out.at' (y.1.1, y.2) (by show (y.1.1, y.2) ∈ l; rw [hl2]; simp), HS.out.dl⟩
        have i1 : (1 : Int) < (l.length : Int) := by omega
        have HDR : Hid (Rw shc 38 wr (.slice (some ⟨b, off + 38, none⟩) (l.length - 1) (vc - 1)) (y :: r)) := Lib.hid (by
          have h0 : Rw shc 38 wr (.slice (some ⟨b, off, none⟩) (x :: y :: r).length vc) (x :: y :: r) := by rw [hll]; exact hrw
          have h1 := Rw.drop h0 (k := 1) (by simp) (vc - 1) (off + 38) (fun _ => by omega)
          rw [hll] at h1
          exact h1)
        clear hrw hc hll hb
        have HP : Hid (∀ x ∈ y :: r, PuO 0 wr.heap.size wr x.1.2 x.1.1) := Lib.hid (fun x hx => hpu x (by simp at hx ⊢; right; exact hx))
        have HT : Hid (∃ cur, wr.heap[b]? = some (.cells cur 93 (0, 0))) := Lib.hid (hty b rfl)
        have HL2 := Lib.hid hl2
        clear hpu hty hl' hl2
        go_wp2_with (refine wpList_load_g _ rfl rfl HQ.out Try.underlying93 rfl rfl (by kernel_rfl) ?_)
        with_reducible refine (sdue P s.dl t y _ lp c1 c2 HY.out.1 HY.out.2).mono ?_
        rintro e w2 ⟨rfl, hb2⟩
        have HB2 := Lib.hid hb2
        clear hb2 c1 HQ
        cases hdd : dueT s.dl t y.2
        · have HF : Hid (drp s.dl t l = l) := Lib.hid (by rw [HL2.out]; exact drp_stop hdd)
          go_wp2_with fail
          go_returns
          refine And.intro rfl (Exists.intro (⟨some ⟨b, off, none⟩, l.length, vc⟩ : Sl) (And.intro ?_ (HO.out.grow HB2.out)))
          have e : s.go t = ⟨s.dl, t, l⟩ := by unfold Sd.go; rw [HN.out, ← HD.out, HF.out]
          rw [e]
          exact HS.out.below HB2.out
        · have HF : Hid (drp s.dl t ((y.1.1, y.2) :: r.map (fun x => (x.1.1, x.2))) = drp s.dl t s.l) := Lib.hid (by rw [← HD.out, HL2.out]; exact (drp_two hdd).symm)
          have c3' : w2.cell? ⟨P, 3, none⟩ = some (.slice (some ⟨b, off, none⟩) l.length vc) := (HB2.out.cell (p := ⟨P, 3, none⟩) lp).trans c3
          have f3' : w2.frozen? ⟨P, 3, none⟩ = false := (HB2.out.frozen (p := ⟨P, 3, none⟩) lp).trans f3
          have HLS : Hid (ShR w2 (Value.slice (some ⟨b, off + 38, none⟩) (l.length - 1) (vc - 1)) ((y.1.1, y.2) :: r.map (fun x => (x.1.1, x.2)))) := Lib.hid (ShR.below ⟨y :: r, rfl, HDR.out, HP.out, fun q hq => by
            have e : b = q := by simpa [Value.ownBlock] using hq
            rw [← e]
            exact HT.out, fun a n c h => by cases h; omega⟩ HB2.out)
          have HPUT := Lib.hid ((HS.out.below HB2.out).put 3 (Value.slice (some ⟨b, off + 38, none⟩) (l.length - 1) (vc - 1)) ⟨s.dl, t, (y.1.1, y.2) :: r.map (fun x => (x.1.1, x.2))⟩ ⟨some ⟨b, off + 38, none⟩, l.length - 1, vc - 1⟩ rfl HLS.out HS.out.dl HS.out.nw (fun x hx => HS.out.at' x (by show x ∈ l; rw [HL2.out]; exact List.mem_cons_of_mem _ hx)))
          have HGL : Hid (r.length + 2 = l.length) := Lib.hid (by rw [HL2.out]; simp)
          clear c2 c3 f3 lp HDR HT HP
          have hv1 : ¬ vc = 1 := by omega
          go_wp2_with fail
          go_roundg (l.length - 1)
          case rel => exact ⟨(y.1.1, y.2) :: r.map (fun x => (x.1.1, x.2)), _, by have := HGL.out; simp; omega, by rw [HN.out]; exact HPUT.out.1, by rw [HN.out]; exact HF.out, (HO.out.grow HB2.out).trans HPUT.out.2⟩
          case measure => omega
  · skip
    have HN : Hid (max s.nw t = s.nw) := Lib.hid (by rw [Int.max_def]; split <;> omega)
    have HZ := HS.out.put 2 (.int .u64 s.nw) ⟨s.dl, s.nw, s.l⟩ v rfl HS.out.list HS.out.dl HS.out.nw HS.out.at'
    replace HZ := Lib.hid HZ
    go_enter Try.func31, Try.ntmps31
    go_wp2_with fail
    obtain ⟨wz, hwz⟩ : ∃ W, W = w.setCell ⟨P, 2, none⟩ (.int .u64 s.nw) := ⟨_, rfl⟩
    rw [← hwz] at HZ ⊢
    clear hwz c2 f2 hmx
    go_loopg [] s.l.length (fun g wr => GoR w P s t g wr)
    case atStart => exact ⟨s.l, v, rfl, by rw [HN.out]; exact HZ.out.1, rfl, HZ.out.2⟩
    case round =>
      obtain ⟨l, v', hg, hs, hd, ho⟩ := hrel
      subst hg
      rw [HN.out] at hs hd
      replace HS := Lib.hid hs
      have HD := Lib.hid hd
      have HO := Lib.hid ho
      have hlen := hs.len
      obtain ⟨va, vn, vc⟩ := v'
      change vn = l.length at hlen
      subst hlen
      have c1 : wr.cell? ⟨P, 1, none⟩ = some (.int .u64 s.dl) := cell_of_row _ _ 1 _ 73 (0, 0) hs.blk
      have c2 : wr.cell? ⟨P, 2, none⟩ = some (.int .u64 s.nw) := cell_of_row _ _ 2 _ 73 (0, 0) hs.blk
      have c3 : wr.cell? ⟨P, 3, none⟩ = some (.slice va l.length vc) := cell_of_row _ _ 3 _ 73 (0, 0) hs.blk
      have f3 : wr.frozen? ⟨P, 3, none⟩ = false := by unfold World.frozen?; rw [hs.blk]; simp
      have lp := hs.lt
      obtain ⟨l', hl', hrw, hpu, hty, hcap⟩ := hs.list
      clear hs hd ho HZ
      have hcl : l.length ≤ vc := hcap va l.length vc rfl
      clear hcap
      replace hl' : l'.map (fun x => (x.1.1, x.2)) = l := hl'
      replace hrw : Rw shc 38 wr (.slice va l.length vc) l' := hrw
      replace hty : ∀ b, (Value.slice va l.length vc).ownBlock = some b → ∃ cur, wr.heap[b]? = some (.cells cur 93 (0, 0)) := hty
      by_cases h2 : l.length ≤ 1
      · have t1 : decide ((l.length : Int) > 1) = false := decide_eq_false (by omega)
        have HF : Hid (drp s.dl s.nw l = l) := Lib.hid (by
          match l, h2 with
          | [], _ => rfl
          | [a], _ => rfl
          | a :: b :: r, h => simp at h)
        clear hrw hpu hty c1
        go_wp2_with fail
        go_returns
        refine And.intro rfl (Exists.intro (⟨va, l.length, vc⟩ : Sl) (And.intro ?_ HO.out))
        have e : s.go t = ⟨s.dl, s.nw, l⟩ := by unfold Sd.go; rw [HN.out, ← HD.out, HF.out]
        rw [e]
        exact HS.out
      · have t1 : decide ((l.length : Int) > 1) = true := decide_eq_true (by omega)
        have hll : l'.length = l.length := by rw [← hl', List.length_map]
        obtain ⟨x, r, rfl⟩ : ∃ x r, l' = x :: r := by
          cases l' with
          | nil => simp at hll; omega
          | cons x r => exact ⟨x, r, rfl⟩
        obtain ⟨y, r, rfl⟩ : ∃ y q, r = y :: q := by
          cases r with
          | nil => simp at hll; omega
          | cons x r => exact ⟨x, r, rfl⟩
        have hl2 : l = (x.1.1, x.2) :: (y.1.1, y.2) :: r.map (fun x => (x.1.1, x.2)) := hl'.symm
        obtain ⟨hmx, _, _, hv, hc⟩ := hrw.form
        rw [hll] at hmx
        obtain ⟨b, off, rfl, hb, hc⟩ := hc (by simp)
        simp only [Value.slice.injEq] at hv
        obtain ⟨rfl, hz1, rfl⟩ := hv
        clear hz1
        have HQ : Hid (wr.rangeAt b (off + 38) (shc y)) := Lib.hid (fun j u hu => by
          have := hc 1 y rfl j u hu
          rw [show off + 38 + j = off + (1 * 38 + j) by omega]
          exact this)
        have HY : Hid (U y.2 ∧ U s.dl) := Lib.hid ⟨HS.out.at' (y.1.1, y.2) (by show (y.1.1, y.2) ∈ l; rw [hl2]; simp), HS.out.dl⟩
        have i1 : (1 : Int) < (l.length : Int) := by omega
        have HDR : Hid (Rw shc 38 wr (.slice (some ⟨b, off + 38, none⟩) (l.length - 1) (vc - 1)) (y :: r)) := Lib.hid (by
          have h0 : Rw shc 38 wr (.slice (some ⟨b, off, none⟩) (x :: y :: r).length vc) (x :: y :: r) := by rw [hll]; exact hrw
          have h1 := Rw.drop h0 (k := 1) (by simp) (vc - 1) (off + 38) (fun _ => by omega)
          rw [hll] at h1
          exact h1)
        clear hrw hc hll hb
        have HP : Hid (∀ x ∈ y :: r, PuO 0 wr.heap.size wr x.1.2 x.1.1) := Lib.hid (fun x hx => hpu x (by simp at hx ⊢; right; exact hx))
        have HT : Hid (∃ cur, wr.heap[b]? = some (.cells cur 93 (0, 0))) := Lib.hid (hty b rfl)
        have HL2 := Lib.hid hl2
        clear hpu hty hl' hl2
        go_wp2_with (refine wpList_load_g _ rfl rfl HQ.out Try.underlying93 rfl rfl (by kernel_rfl) ?_)
        with_reducible refine (sdue P s.dl s.nw y _ lp c1 c2 HY.out.1 HY.out.2).mono ?_
        rintro e w2 ⟨rfl, hb2⟩
        have HB2 := Lib.hid hb2
        clear hb2 c1 HQ
        cases hdd : dueT s.dl s.nw y.2
        · have HF : Hid (drp s.dl s.nw l = l) := Lib.hid (by rw [HL2.out]; exact drp_stop hdd)
          go_wp2_with fail
          go_returns
          refine And.intro rfl (Exists.intro (⟨some ⟨b, off, none⟩, l.length, vc⟩ : Sl) (And.intro ?_ (HO.out.grow HB2.out)))
          have e : s.go t = ⟨s.dl, s.nw, l⟩ := by unfold Sd.go; rw [HN.out, ← HD.out, HF.out]
          rw [e]
          exact HS.out.below HB2.out
        · have HF : Hid (drp s.dl s.nw ((y.1.1, y.2) :: r.map (fun x => (x.1.1, x.2))) = drp s.dl s.nw s.l) := Lib.hid (by rw [← HD.out, HL2.out]; exact (drp_two hdd).symm)
          have c3' : w2.cell? ⟨P, 3, none⟩ = some (.slice (some ⟨b, off, none⟩) l.length vc) := (HB2.out.cell (p := ⟨P, 3, none⟩) lp).trans c3
          have f3' : w2.frozen? ⟨P, 3, none⟩ = false := (HB2.out.frozen (p := ⟨P, 3, none⟩) lp).trans f3
          have HLS : Hid (ShR w2 (Value.slice (some ⟨b, off + 38, none⟩) (l.length - 1) (vc - 1)) ((y.1.1, y.2) :: r.map (fun x => (x.1.1, x.2)))) := Lib.hid (ShR.below ⟨y :: r, rfl, HDR.out, HP.out, fun q hq => by
            have e : b = q := by simpa [Value.ownBlock] using hq
            rw [← e]
            exact HT.out, fun a n c h => by cases h; omega⟩ HB2.out)
          have HPUT := Lib.hid ((HS.out.below HB2.out).put 3 (Value.slice (some ⟨b, off + 38, none⟩) (l.length - 1) (vc - 1)) ⟨s.dl, s.nw, (y.1.1, y.2) :: r.map (fun x => (x.1.1, x.2))⟩ ⟨some ⟨b, off + 38, none⟩, l.length - 1, vc - 1⟩ rfl HLS.out HS.out.dl HS.out.nw (fun x hx => HS.out.at' x (by show x ∈ l; rw [HL2.out]; exact List.mem_cons_of_mem _ hx)))
          have HGL : Hid (r.length + 2 = l.length) := Lib.hid (by rw [HL2.out]; simp)
          clear c2 c3 f3 lp HDR HT HP
          have hv1 : ¬ vc = 1 := by omega
          go_wp2_with fail
          go_roundg (l.length - 1)
          case rel => exact ⟨(y.1.1, y.2) :: r.map (fun x => (x.1.1, x.2)), _, by have := HGL.out; simp; omega, by rw [HN.out]; exact HPUT.out.1, by rw [HN.out]; exact HF.out, (HO.out.grow HB2.out).trans HPUT.out.2⟩
          case measure => omega
end Go.Proofs.Yteoeahmnonolmaa
