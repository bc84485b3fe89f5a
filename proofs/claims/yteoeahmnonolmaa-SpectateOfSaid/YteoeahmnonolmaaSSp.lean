/- What is public is spoilt: the memory of one's own is changed. -/
import Derived.Test.YteoeahmnonolmaaSPs
import Derived.Test.YteoeahmnonolmaaSE1
import Derived.Deep.DeepCutAuto
import Derived.LoopTactic
import Derived.Deep.MidRow
namespace Go.Proofs.Yteoeahmnonolmaa
open Go.RowKit Plain
set_option linter.unusedVariables false
set_option linter.unusedSimpArgs false

/-- numbers have changed, in blocks of [lo, hi) alone -/
structure Stn (lo hi : Nat) (w0 w : World) : Prop where
  rng : Rng lo hi w0 w
  ints : ∀ a z, w0.cell? a = some (.int .i64 z) → ∃ z', w.cell? a = some (.int .i64 z')
  rest : ∀ a v, w0.cell? a = some v → (∀ z, v ≠ .int .i64 z) → w.cell? a = some v
  free : ∀ a v, w0.cell? a = some v → w0.frozen? a = false → w.frozen? a = false
theorem cell_lt {w : World} {a : Addr} {v : Value} (h : w.cell? a = some v) : a.block < w.heap.size := World.block_lt_of_cell? w a h
theorem Ro.onlS {w w' : World} {P : Nat} {C : Array Value} {t : TypeId} {S : List Nat} (h : Ro w P C t) (ho : Onl S w w') (hS : P ∉ S) : Ro w' P C t := (ho.block P h.lt hS).trans h
theorem Stn.refl (lo hi : Nat) (w : World) : Stn lo hi w w := ⟨Rng.refl _ _ _, fun a z h => ⟨z, h⟩, fun a v h _ => h, fun a v _ h => h⟩
theorem Stn.grow {lo hi : Nat} {w0 w w' : World} (h : Stn lo hi w0 w) (hb : Below w.heap.size w w') : Stn lo hi w0 w' := by
  have e : ∀ a v, w0.cell? a = some v → w'.cell? a = w.cell? a ∧ w'.frozen? a = w.frozen? a := fun a v hc => by
    have h1 : a.block < w.heap.size := Nat.lt_of_lt_of_le (cell_lt hc) h.rng.size
    exact ⟨hb.cell h1, hb.frozen h1⟩
  exact ⟨h.rng.grow hb, fun a z hc => by rw [(e a _ hc).1]; exact h.ints a z hc, fun a v hc hn => by rw [(e a _ hc).1]; exact h.rest a v hc hn, fun a v hc hf => by rw [(e a _ hc).2]; exact h.free a v hc hf⟩
/-- a number is stored -/
theorem Stn.put {lo hi : Nat} {w0 w : World} (h : Stn lo hi w0 w) {g q : Nat} {y : Int} (hc : w0.cell? ⟨g, q, none⟩ = some (.int .i64 y)) (h1 : lo ≤ g) (h2 : g < hi) (z : Int) : Stn lo hi w0 (w.setCell ⟨g, q, none⟩ (.int .i64 z)) := by
  obtain ⟨z1, hz1⟩ := h.ints _ _ hc
  have key : ∀ a, (w.setCell ⟨g, q, none⟩ (.int .i64 z)).cell? a = if a = ⟨g, q, none⟩ then some (.int .i64 z) else w.cell? a := fun a => by
    split
    · rename_i e; rw [e]; exact World.cell?_setCell_same _ _ _ hz1
    · rename_i e; exact World.cell?_setCell_other _ _ _ _ (Ne.symm e)
  refine ⟨h.rng.trans (Rng.setCell (q := ⟨g, q, none⟩) ⟨h1, h2⟩ _), fun a y' ha => ?_, fun a v ha hn => ?_, fun a v ha hf => ?_⟩
  · rw [key]
    split
    · exact ⟨z, rfl⟩
    · exact h.ints a y' ha
  · rw [key]
    split
    · rename_i e
      rw [e, hc] at ha
      simp at ha
      exact absurd ha.symm (hn y)
    · exact h.rest a v ha hn
  · rw [World.frozen?_setCell]; exact h.free a v ha hf
def StR (w0 : World) (lo hi n : Nat) (v : Value) (wr : World) : Prop := ∃ k : Nat, k ≤ n ∧ v = .int .i64 k ∧ Stn lo hi w0 wr
def StI (w0 : World) (lo hi C : Nat) (Z : Array Value) (n : Nat) (v : Value) (wr : World) : Prop := ∃ k : Nat, k ≤ n ∧ v = .int .i64 k ∧ Stn lo hi w0 wr ∧ Ro wr C Z 30
theorem ox_len {α : Type} {f : α → List Value} {sz : Nat} {e : TypeId} {lo hi : Nat} {w : World} {s : Sl} {l : List α} (h : Ox f sz e lo hi w s.v l) : s.n = l.length := by
  obtain ⟨_, _, h⟩ := h.1.form
  simp only [Sl.v, Value.slice.injEq] at h
  exact h.2.1
theorem PuO.seat {lo hi : Nat} {w : World} {s : Ps} {P : Pu} (h : PuO lo hi w s P) (p : Nat) : Ox oc 12 79 lo hi w (s.fs p).v (P.seat p).fld ∧ Ox oc 12 79 lo hi w (s.gs p).v (P.seat p).grv := by
  unfold Ps.fs Ps.gs Plain.Pu.seat
  split
  · exact ⟨h.f0, h.g0⟩
  · exact ⟨h.f1, h.g1⟩
set_option maxRecDepth 100000 in
set_option maxHeartbeats 4000000 in
theorem spoil (s : Ps) (P : Pu) (lo hi : Nat) (w : World) (ho : PuO lo hi w s P) (hhi : hi ≤ w.heap.size) : Calls Try.prog 18 #[pv s P] w fun e w' => e = .returned (.tuple #[]) ∧ Rng lo hi w w' := by
  obtain ⟨ba, bc, hvb⟩ := ho.bl.1.form
  obtain ⟨aa, ac, hva⟩ := ho.att.1.form
  obtain ⟨l1, hl1, hs1, ht1⟩ := ho.st
  obtain ⟨l2, hl2, hs2, ht2⟩ := ho.qu
  obtain ⟨sta, stc, hvs⟩ := hs1.1.form
  obtain ⟨qua, quc, hvq⟩ := hs2.1.form
  have en1 : l1.length = P.st.length := by rw [← hl1, List.length_map]
  have en2 : l2.length = P.qu.length := by rw [← hl2, List.length_map]
  rw [en1] at hvs
  rw [en2] at hvq
  go_enter Try.func18, Try.ntmps18
  go_upto_region 1 with fail
  change Code.wp Try.prog _ _ _ (w.alloc (.cells (pcells s P) 49))
  obtain ⟨wz, hwz⟩ : ∃ W, W = w.alloc (.cells (pcells s P) 49) := ⟨_, rfl⟩
  have hx : Px wz w.heap.size s P := by rw [hwz]; exact heap_alloc_new _ _
  have hb : Below w.heap.size w wz := by rw [hwz]; exact (Below.refl _ _).alloc (Nat.le_refl _) _
  have HHI : Hid (hi ≤ wz.heap.size) := Lib.hid (Nat.le_trans hhi hb.size)
  rw [← hwz]
  clear hwz
  have HBX : Hid (∀ W, Stn lo hi wz W → Px W w.heap.size s P) := Lib.hid (fun W h => (h.rng.block _ hx.lt (by omega)).trans hx)
  have HO := Lib.hid (ho.below hb)
  have HB0 := Lib.hid hb
  have HRb : Hid (Ox kc 2 107 lo hi wz (.slice ba P.bl.length bc) P.bl) := Lib.hid (by rw [← hvb]; exact ho.bl.below hb)
  have HRa : Hid (Ox ic 1 3 lo hi wz (.slice aa P.att.length ac) P.att) := Lib.hid (by rw [← hva]; exact ho.att.below hb)
  have HITS : Hid (∀ i, i < 2 → ∃ (L : List It) (l' : List (It × Sl)) (a0 : Option Addr) (c0 : Nat), (#[.slice sta P.st.length stc, .slice qua P.qu.length quc] : Array Value)[i]? = some (.slice a0 L.length c0) ∧ l'.map Prod.fst = L ∧ Ox itc 5 100 lo hi wz (.slice a0 L.length c0) l' ∧ ∀ x ∈ l', Ox tc 2 105 lo hi wz x.2.v x.1.tg) := Lib.hid (fun i hi2 => by
    have : i = 0 ∨ i = 1 := by omega
    rcases this with rfl | rfl
    · exact ⟨P.st, l1, sta, stc, rfl, hl1, by rw [← hvs]; exact hs1.below hb, fun x hx => (ht1 x hx).below hb⟩
    · exact ⟨P.qu, l2, qua, quc, rfl, hl2, by rw [← hvq]; exact hs2.below hb, fun x hx => (ht2 x hx).below hb⟩)
  have HVb := Lib.hid hvb
  have HVa := Lib.hid hva
  have HVs := Lib.hid hvs
  have HVq := Lib.hid hvq
  have HST : Hid (Stn lo hi wz wz) := Lib.hid (Stn.refl _ _ _)
  have hm2 : P.att.length ≤ 9223372036854775807 := by have := ho.att.1.max; unfold maxLen at this; omega
  have hm3 : P.bl.length ≤ 9223372036854775807 := by have := ho.bl.1.max; unfold maxLen at this; omega
  clear hvb hva hvs hvq ho hl1 hl2 hs1 hs2 ht1 ht2 en1 en2 hhi hx hb
  go_wp2_with fail
  go_loopw [2] (fun v wr => StR wz lo hi 2 v wr) (fun v _ => 2 - (intOf v).toNat)
  case atStart => exact ⟨0, by omega, rfl, HST.out⟩
  case round =>
    obtain ⟨n, hn, rfl, hst⟩ := hrel
    replace HST := Lib.hid hst
    by_cases hn2 : n < 2
    · have i1 : (0 : Int) ≤ (n : Int) := by omega
      have i2 : (n : Int) < 2 := by omega
      obtain ⟨x, hx⟩ : ∃ S, P.seat n = S := ⟨_, rfl⟩
      obtain ⟨⟨pa, pn, pc⟩, ep⟩ : ∃ q, s.fs n = q := ⟨_, rfl⟩
      obtain ⟨⟨qa, qn, qc⟩, eq⟩ : ∃ q, s.gs n = q := ⟨_, rfl⟩
      have hs1 := HO.out.seat n
      rw [ep, eq, hx] at hs1
      have z1 : pn = x.fld.length := ox_len hs1.1
      have z2 : qn = x.grv.length := ox_len hs1.2
      subst z1 z2
      have HRf : Hid (Ox oc 12 79 lo hi wz (.slice pa x.fld.length pc) x.fld) := Lib.hid hs1.1
      have HRg : Hid (Ox oc 12 79 lo hi wz (.slice qa x.grv.length qc) x.grv) := Lib.hid hs1.2
      have HSEAT : Hid (∀ W, Stn lo hi wz W → W.rangeAt w.heap.size (n * 14) [.int .i64 x.li, .int .i64 x.p0, .int .i64 x.p1, .int .i64 x.p2, .int .i64 x.p3, .int .i64 x.lib, .int .i64 x.hand, .slice pa x.fld.length pc, .slice qa x.grv.length qc, .bool x.em, .bool x.py, .bool x.kp, .int .i64 x.mu, .int .i64 x.ac]) := Lib.hid (fun W h => (HBX.out W h).seatAt hn2 hx ep eq)
      have hm4 : x.fld.length ≤ 9223372036854775807 := by have := hs1.1.1.max; unfold maxLen at this; omega
      have hm5 : x.grv.length ≤ 9223372036854775807 := by have := hs1.2.1.max; unfold maxLen at this; omega
      clear hst hs1 hx ep eq
      go_wp2_with fail
      go_loopw [3] (fun v wr => StR wz lo hi x.fld.length v wr) (fun v _ => x.fld.length - (intOf v).toNat)
      case atStart => exact ⟨0, by omega, rfl, HST.out⟩
      case round =>
        obtain ⟨k, hk, rfl, hst⟩ := hrel
        replace HST := Lib.hid hst
        have cf : wr.cell? ⟨w.heap.size, n * 14 + 7, none⟩ = some (.slice pa x.fld.length pc) := (HSEAT.out _ hst) 7 _ rfl
        clear hst
        by_cases hkl : k < x.fld.length
        · obtain ⟨z, hx⟩ : ∃ z, x.fld[k]? = some z := ⟨_, List.getElem?_eq_getElem hkl⟩
          obtain ⟨g0, cap, hv, hg1, hg2, hg3⟩ := HRf.out.pos (by omega)
          simp only [Value.slice.injEq] at hv
          obtain ⟨rfl, hzz, rfl⟩ := hv
          clear hzz
          have hcc := HRf.out.at (fun _ _ => rfl) hx (j := 5) (u := .int .i64 (z.da)) rfl (k * 12 + 5) (by omega)
          obtain ⟨z1, hz1⟩ := HST.out.ints _ _ hcc.1
          have hz2 := HST.out.free _ _ hcc.1 hcc.2
          have HPUT : Hid (Stn lo hi wz (wr.setCell ⟨g0, k * 12 + 5, none⟩ (.int .i64 (wrap64 (z1 + 1))))) := Lib.hid (HST.out.put hcc.1 hg1 hg2 _)
          have i1 : (0 : Int) ≤ (k : Int) := by omega
          have i2 : (k : Int) < (x.fld.length : Int) := by omega
          clear hx hcc hg1 hg2 hg3
          go_wp2_with fail
          go_roundw
          case rel => exact ⟨k + 1, by omega, by go_num, HPUT.out⟩
          case measure => simp [intOf]; omega
        · go_wp2_with fail
          clear hkl hk
          go_loopw [4] (fun v wr => StR wz lo hi x.grv.length v wr) (fun v _ => x.grv.length - (intOf v).toNat)
          case atStart => exact ⟨0, by omega, rfl, HST.out⟩
          case round =>
            obtain ⟨k, hk, rfl, hst⟩ := hrel
            replace HST := Lib.hid hst
            have cg : wr.cell? ⟨w.heap.size, n * 14 + 8, none⟩ = some (.slice qa x.grv.length qc) := (HSEAT.out _ hst) 8 _ rfl
            clear hst
            by_cases hkl : k < x.grv.length
            · obtain ⟨z, hx⟩ : ∃ z, x.grv[k]? = some z := ⟨_, List.getElem?_eq_getElem hkl⟩
              obtain ⟨g0, cap, hv, hg1, hg2, hg3⟩ := HRg.out.pos (by omega)
              simp only [Value.slice.injEq] at hv
              obtain ⟨rfl, hzz, rfl⟩ := hv
              clear hzz
              have hcc := HRg.out.at (fun _ _ => rfl) hx (j := 1) (u := .int .i64 (z.cd)) rfl (k * 12 + 1) (by omega)
              obtain ⟨z1, hz1⟩ := HST.out.ints _ _ hcc.1
              have hz2 := HST.out.free _ _ hcc.1 hcc.2
              have HPUT : Hid (Stn lo hi wz (wr.setCell ⟨g0, k * 12 + 1, none⟩ (.int .i64 (wrap64 (z1 + 1))))) := Lib.hid (HST.out.put hcc.1 hg1 hg2 _)
              have i1 : (0 : Int) ≤ (k : Int) := by omega
              have i2 : (k : Int) < (x.grv.length : Int) := by omega
              clear hx hcc hg1 hg2 hg3
              go_wp2_with fail
              go_roundw
              case rel => exact ⟨k + 1, by omega, by go_num, HPUT.out⟩
              case measure => simp [intOf]; omega
            · go_wp2_with fail
              clear hkl hk
              go_roundw
              case rel => exact ⟨n + 1, by omega, by go_num, HST.out⟩
              case measure => simp [intOf]; omega
    · have c29 : wr.cell? ⟨w.heap.size, 28, none⟩ = some (.slice sta P.st.length stc) := by rw [(HBX.out _ hst).cell 28, ← HVs.out]; rfl
      have c30 : wr.cell? ⟨w.heap.size, 29, none⟩ = some (.slice qua P.qu.length quc) := by rw [(HBX.out _ hst).cell 29, ← HVq.out]; rfl
      clear hst
      go_upto_region 13 with fail
      clear hn hn2
      obtain ⟨wq, hwq⟩ : ∃ W, W = wr.alloc (.cells #[.slice sta P.st.length stc, .slice qua P.qu.length quc] 30) := ⟨_, rfl⟩
      rw [← hwq]
      have hqb : Below wr.heap.size wr wq := by rw [hwq]; exact (Below.refl _ _).alloc (Nat.le_refl _) _
      have hqr : Ro wq wr.heap.size #[.slice sta P.st.length stc, .slice qua P.qu.length quc] 30 := by rw [hwq]; exact Ro.new _ _ _
      obtain ⟨n0, hn0⟩ : ∃ n, n = wr.heap.size := ⟨_, rfl⟩
      rw [← hn0] at hqr ⊢
      have HGE : Hid (hi ≤ n0) := Lib.hid (by have h1 := HST.out.rng.size; have h2 := HHI.out; omega)
      replace HST := Lib.hid (HST.out.grow hqb)
      have HC := Lib.hid hqr
      clear hwq hqb hqr hn0 c29 c30
      go_loopw [65] (fun v wr => StI wz lo hi n0 #[.slice sta P.st.length stc, .slice qua P.qu.length quc] 2 v wr) (fun v _ => 2 - (intOf v).toNat)
      case atStart => exact ⟨0, by omega, rfl, HST.out, HC.out⟩
      case round =>
        obtain ⟨i, hi2, rfl, hst, hc⟩ := hrel
        replace HST := Lib.hid hst
        replace HC := Lib.hid hc
        clear hst
        by_cases hi3 : i < 2
        · have i1 : (0 : Int) ≤ (i : Int) := by omega
          have i2 : (i : Int) < 2 := by omega
          obtain ⟨L, l', a0, c0, hci, hlm, hox, htg⟩ := HITS.out i hi3
          have ci : wr.cell? ⟨n0, i, none⟩ = some (.slice a0 L.length c0) := by rw [hc.cell i]; exact hci
          have HOX := Lib.hid hox
          have HTG := Lib.hid htg
          have hlen : l'.length = L.length := by rw [← hlm, List.length_map]
          rw [← hlen] at ci
          rw [← hlen] at HOX
          have hmL : l'.length ≤ 9223372036854775807 := by have := hox.1.max; unfold maxLen at this; omega
          clear hci hlm hox htg hlen hc
          go_wp2_with fail
          clear ci
          go_loopw [7] (fun v wr => StI wz lo hi n0 #[.slice sta P.st.length stc, .slice qua P.qu.length quc] l'.length v wr) (fun v _ => l'.length - (intOf v).toNat)
          case atStart => exact ⟨0, by omega, rfl, HST.out, HC.out⟩
          case round =>
            obtain ⟨m, hm, rfl, hst, hc⟩ := hrel
            replace HST := Lib.hid hst
            replace HC := Lib.hid hc
            clear hst hc
            by_cases hml : m < l'.length
            · obtain ⟨y, hy⟩ : ∃ y, l'[m]? = some y := ⟨_, List.getElem?_eq_getElem hml⟩
              obtain ⟨g1, cap, hv, hg1, hg2, hg3⟩ := HOX.out.pos (by omega)
              simp only [Value.slice.injEq] at hv
              obtain ⟨rfl, hzz, rfl⟩ := hv
              clear hzz
              have htw := HTG.out y (List.mem_of_getElem? hy)
              obtain ⟨y, ⟨ta, tn, tc'⟩⟩ := y
              change Ox tc 2 105 lo hi wz (.slice ta tn tc') y.tg at htw
              have etn : tn = y.tg.length := by
                obtain ⟨_, _, h⟩ := htw.1.form
                simp only [Value.slice.injEq] at h
                exact h.2.1
              subst etn
              have HTW := Lib.hid htw
              have hmt : y.tg.length ≤ 9223372036854775807 := by have := htw.1.max; unfold maxLen at this; omega
              have HCA := Lib.hid (HOX.out.at (fun _ _ => rfl) hy (j := 1) (u := .int .i64 y.id) rfl (m * 5 + 1) rfl)
              have hcb := HOX.out.at (fun _ _ => rfl) hy (j := 4) (u := .slice ta y.tg.length tc') rfl (m * 5 + 4) rfl
              have HSL : Hid (∀ W, Stn lo hi wz W → W.cell? ⟨g1, m * 5 + 4, none⟩ = some (.slice ta y.tg.length tc')) := Lib.hid (fun W h => h.rest _ _ hcb.1 (fun z e => by cases e))
              have HNE : Hid (n0 ≠ g1) := Lib.hid (by have := HGE.out; omega)
              have HG12 : Hid (lo ≤ g1 ∧ g1 < hi) := Lib.hid ⟨hg1, hg2⟩
              have j1 : (0 : Int) ≤ (m : Int) := by omega
              have j2 : (m : Int) < (l'.length : Int) := by omega
              clear hy hcb hg1 hg2 hg3 htw
              go_wp2_with fail
              obtain ⟨wo, rfl⟩ : ∃ W, W = wr := ⟨_, rfl⟩
              go_loopw [8] (fun v wr => StI wz lo hi n0 #[.slice sta P.st.length stc, .slice qua P.qu.length quc] y.tg.length v wr) (fun v _ => y.tg.length - (intOf v).toNat)
              case atStart => exact ⟨0, by omega, rfl, HST.out, HC.out⟩
              case round =>
                obtain ⟨k, hk, rfl, hst, hc⟩ := hrel
                replace HST := Lib.hid hst
                replace HC := Lib.hid hc
                have csl := HSL.out wr hst
                clear hst hc
                by_cases hkl : k < y.tg.length
                · obtain ⟨x, hx⟩ : ∃ x, y.tg[k]? = some x := ⟨_, List.getElem?_eq_getElem hkl⟩
                  obtain ⟨g0, cap, hv, hg1, hg2, hg3⟩ := HTW.out.pos (by omega)
                  simp only [Value.slice.injEq] at hv
                  obtain ⟨rfl, hzz, rfl⟩ := hv
                  clear hzz
                  have hcc := HTW.out.at (fun _ _ => rfl) hx (j := 0) (u := .int .i64 x.id) rfl (k * 2) (by omega)
                  obtain ⟨z1, hz1⟩ := HST.out.ints _ _ hcc.1
                  have hz2 := HST.out.free _ _ hcc.1 hcc.2
                  have HPUT : Hid (Stn lo hi wz (wr.setCell ⟨g0, k * 2, none⟩ (.int .i64 (wrap64 (z1 + 1))))) := Lib.hid (HST.out.put hcc.1 hg1 hg2 _)
                  have HCP : Hid (Ro (wr.setCell ⟨g0, k * 2, none⟩ (.int .i64 (wrap64 (z1 + 1)))) n0 #[.slice sta P.st.length stc, .slice qua P.qu.length quc] 30) := Lib.hid (Ro.onlS (S := [g0]) HC.out (Onl.setCell (Onl.refl _ _) (.inl (by simp)) _) (by have := HGE.out; simp; omega))
                  have k1 : (0 : Int) ≤ (k : Int) := by omega
                  have k2 : (k : Int) < (y.tg.length : Int) := by omega
                  clear hx hcc hg1 hg2 hg3
                  go_wp2_with fail
                  go_roundw
                  case rel => exact ⟨k + 1, by omega, by go_num, HPUT.out, HCP.out⟩
                  case measure => simp [intOf]; omega
                · have hca := HCA.out
                  obtain ⟨z1, hz1⟩ := HST.out.ints _ _ hca.1
                  have hz2 := HST.out.free _ _ hca.1 hca.2
                  have HPUT : Hid (Stn lo hi wz (wr.setCell ⟨g1, m * 5 + 1, none⟩ (.int .i64 (wrap64 (z1 + 1))))) := Lib.hid (HST.out.put hca.1 HG12.out.1 HG12.out.2 _)
                  have HCP : Hid (Ro (wr.setCell ⟨g1, m * 5 + 1, none⟩ (.int .i64 (wrap64 (z1 + 1)))) n0 #[.slice sta P.st.length stc, .slice qua P.qu.length quc] 30) := Lib.hid (Ro.onlS (S := [g1]) HC.out (Onl.setCell (Onl.refl _ _) (.inl (by simp)) _) (by have := HNE.out; simpa using this))
                  clear hca
                  go_wp2_with fail
                  go_roundw
                  case rel => exact ⟨m + 1, by omega, by go_num, HPUT.out, HCP.out⟩
                  case measure => simp [intOf]; omega
            · go_wp2_with fail
              go_roundw
              case rel => exact ⟨i + 1, by omega, by go_num, HST.out, HC.out⟩
              case measure => simp [intOf]; omega
        · clear hc
          go_wp2_with fail
          go_loopw [9] (fun v wr => StR wz lo hi P.att.length v wr) (fun v _ => P.att.length - (intOf v).toNat)
          case atStart => exact ⟨0, by omega, rfl, HST.out⟩
          case round =>
            obtain ⟨k, hk, rfl, hst⟩ := hrel
            replace HST := Lib.hid hst
            have ca : wr.cell? ⟨w.heap.size, 30, none⟩ = some (.slice aa P.att.length ac) := by rw [(HBX.out _ hst).cell 30, ← HVa.out]; rfl
            clear hst
            by_cases hkl : k < P.att.length
            · obtain ⟨x, hx⟩ : ∃ x, P.att[k]? = some x := ⟨_, List.getElem?_eq_getElem hkl⟩
              obtain ⟨g0, cap, hv, hg1, hg2, hg3⟩ := HRa.out.pos (by omega)
              simp only [Value.slice.injEq] at hv
              obtain ⟨rfl, hzz, rfl⟩ := hv
              clear hzz
              have hcc := HRa.out.at (fun _ _ => rfl) hx (j := 0) (u := .int .i64 (x)) rfl (k) (by omega)
              obtain ⟨z1, hz1⟩ := HST.out.ints _ _ hcc.1
              have hz2 := HST.out.free _ _ hcc.1 hcc.2
              have HPUT : Hid (Stn lo hi wz (wr.setCell ⟨g0, k, none⟩ (.int .i64 (wrap64 (z1 + 1))))) := Lib.hid (HST.out.put hcc.1 hg1 hg2 _)
              have i1 : (0 : Int) ≤ (k : Int) := by omega
              have i2 : (k : Int) < (P.att.length : Int) := by omega
              clear hx hcc hg1 hg2 hg3
              go_wp2_with fail
              go_roundw
              case rel => exact ⟨k + 1, by omega, by go_num, HPUT.out⟩
              case measure => simp [intOf]; omega
            · go_wp2_with fail
              clear hkl hk
              go_loopw [10] (fun v wr => StR wz lo hi P.bl.length v wr) (fun v _ => P.bl.length - (intOf v).toNat)
              case atStart => exact ⟨0, by omega, rfl, HST.out⟩
              case round =>
                obtain ⟨k, hk, rfl, hst⟩ := hrel
                replace HST := Lib.hid hst
                have cb : wr.cell? ⟨w.heap.size, 31, none⟩ = some (.slice ba P.bl.length bc) := by rw [(HBX.out _ hst).cell 31, ← HVb.out]; rfl
                clear hst
                by_cases hkl : k < P.bl.length
                · obtain ⟨x, hx⟩ : ∃ x, P.bl[k]? = some x := ⟨_, List.getElem?_eq_getElem hkl⟩
                  obtain ⟨g0, cap, hv, hg1, hg2, hg3⟩ := HRb.out.pos (by omega)
                  simp only [Value.slice.injEq] at hv
                  obtain ⟨rfl, hzz, rfl⟩ := hv
                  clear hzz
                  have hcc := HRb.out.at (fun _ _ => rfl) hx (j := 0) (u := .int .i64 (x.bl)) rfl (k * 2) (by omega)
                  obtain ⟨z1, hz1⟩ := HST.out.ints _ _ hcc.1
                  have hz2 := HST.out.free _ _ hcc.1 hcc.2
                  have HPUT : Hid (Stn lo hi wz (wr.setCell ⟨g0, k * 2, none⟩ (.int .i64 (wrap64 (z1 + 1))))) := Lib.hid (HST.out.put hcc.1 hg1 hg2 _)
                  have i1 : (0 : Int) ≤ (k : Int) := by omega
                  have i2 : (k : Int) < (P.bl.length : Int) := by omega
                  clear hx hcc hg1 hg2 hg3
                  go_wp2_with fail
                  go_roundw
                  case rel => exact ⟨k + 1, by omega, by go_num, HPUT.out⟩
                  case measure => simp [intOf]; omega
                · go_wp2_with fail
                  clear hkl hk
                  go_returns
                  exact ⟨rfl, (Rng.of HB0.out).trans HST.out.rng⟩
end Go.Proofs.Yteoeahmnonolmaa
