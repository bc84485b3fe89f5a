/- The law about many turns: the walk. -/
import Derived.Test.YtkkpckkkcclhhaaDoorBTk
import Derived.Test.YtkkpckkkcclhhaaDoorBOp
import Derived.Test.YtkkpckkkcclhhaaDoorBRv
namespace Go.Proofs.YtkkpckkkcclhhaaDoor
open Go.RowKit Plain
set_option linter.unusedVariables false
set_option linter.unusedSimpArgs false

def Plain.rowB (f a : Int) : Bd := { nw0 5 with tu := f, ac := a }
theorem rowB_rd {w : World} {s : Bs} {f a : Int} (h : BdR w s (nw0 5)) : BdR w s (rowB f a) := ⟨h.ob, h.s0, h.s1, h.st, h.qu, h.att, h.bl⟩
theorem rowB_ok (f a : Int) : (rowB f a).Ok := by
  have h := nw0_ok 5
  exact ⟨⟨h.i.zs, h.i.ob, h.i.st, h.i.att, h.i.bl⟩, ⟨h.sm.zs, h.sm.ob, h.sm.st, h.sm.qu, h.sm.att, h.sm.bl⟩, h.st, h.qu⟩
theorem rowB_vb {f a : Int} (hf : 0 ≤ f ∧ f ≤ 1000) (ha : 0 ≤ a ∧ a ≤ 1) : VB (rowB f a) := by
  have h := nw0_vb (life := 5) (by omega)
  obtain ⟨h1, h2, h3, h4, h5, h6⟩ := h
  exact ⟨by unfold vNum rowB nw0 zeroB; dsimp only; simp; omega, h2, h3, h4, ⟨h5.1, h5.2, h5.3⟩, ⟨List.nodup_nil, (fun a ha => by cases ha), List.nodup_nil, List.nodup_nil, (fun x hx => by cases hx)⟩⟩
def Plain.ph9 (b : Bool) (m : Nat) : Int := if b = true then m + 1 else if m ≤ 4 then m + 1 else m + 4
def Plain.top9 (b : Bool) : Nat := if b = true then 9 else 6
theorem ph_next {b : Bool} {m : Nat} (h : m < top9 b) : nxP (ph9 b m) b = ph9 b (m + 1) ∧ ph9 b m < ph9 b (m + 1) ∧ ph9 b m ≠ 10 := by
  cases b
  · have : m = 0 ∨ m = 1 ∨ m = 2 ∨ m = 3 ∨ m = 4 ∨ m = 5 := by unfold top9 at h; simp at h; omega
    rcases this with rfl | rfl | rfl | rfl | rfl | rfl <;> decide
  · have : m = 0 ∨ m = 1 ∨ m = 2 ∨ m = 3 ∨ m = 4 ∨ m = 5 ∨ m = 6 ∨ m = 7 ∨ m = 8 := by unfold top9 at h; simp at h; omega
    rcases this with rfl | rfl | rfl | rfl | rfl | rfl | rfl | rfl | rfl <;> decide
theorem ph_top (b : Bool) : ph9 b (top9 b) = 10 := by cases b <;> decide
def Plain.phB (B : Bd) : Bd := { B with ph := 10 }
theorem phB_ok {B : Bd} (h : B.Ok) : (phB B).Ok := ⟨⟨h.i.zs, h.i.ob, h.i.st, h.i.att, h.i.bl⟩, ⟨h.sm.zs, h.sm.ob, h.sm.st, h.sm.qu, h.sm.att, h.sm.bl⟩, h.st, h.qu⟩
theorem phB_vb {B : Bd} (h : VB B) : VB (phB B) := by
  obtain ⟨h1, h2, h3, h4, h5, h6⟩ := h
  exact ⟨by unfold vNum at h1 ⊢; exact ⟨h1.1, h1.2.1, by show (0 : Int) ≤ 10 ∧ (10 : Int) ≤ 10; omega, h1.2.2.2⟩, h2, h3, h4, ⟨h5.1, h5.2, h5.3⟩, ⟨h6.1, h6.2, h6.3, h6.4, h6.5⟩⟩
theorem phB_rd {w : World} {s : Bs} {B : Bd} (h : BdR w s B) : BdR w s (phB B) := ⟨h.ob, h.s0, h.s1, h.st, h.qu, h.att, h.bl⟩
theorem be_num (B : Bd) : (beB B).tu = B.tu + 1 ∧ (beB B).ac = nxA B ∧ (beB B).ph = 1 := by
  unfold beB be1 Bd.every Bd.fresh be0
  simp
theorem cl_num (B : Bd) : (clB B).tu = B.tu ∧ (clB B).ac = B.ac := by
  unfold clB clP Bd.every Bd.noPool
  simp
def RwL (w : World) (nb : Nat) (f : Int) (n : Nat) (v : Value) (wr : World) : Prop := ∃ k : Nat, k ≤ n ∧ v = .int .i64 k ∧ Below w.heap.size w wr ∧ Wds wr ∧ ∃ s' B', Bx wr nb s' B' ∧ BdR wr s' B' ∧ VB B' ∧ B'.Ok ∧ B'.tu = f + k ∧ (B'.tu ≠ 0 → B'.ac = (f + k + 1) % 2)
def bc1 (b : Bool) : List Value := [.bool b]
set_option maxRecDepth 100000 in
set_option maxHeartbeats 4000000 in
theorem rows_ok (at' : Option Addr) (cp : Nat) (l : List Bool) (f : Int) (w : World) (hl : Rw bc1 1 w (.slice at' l.length cp) l) (hwd : Wds w) (hn : l.length ≤ 60) (hf : 0 ≤ f ∧ f ≤ 1000) : Calls Tryd.prog 6 #[.slice at' l.length cp, .int .i64 f] w fun e w' => e = .returned (.bool true) ∧ Below w.heap.size w w' := by
  have t0 : decide ((l.length : Int) > 60) = false := decide_eq_false (by omega)
  have t1 : decide (f < 0) = false := decide_eq_false (by omega)
  have t2 : decide (f > 1000) = false := decide_eq_false (by omega)
  have HWD := Lib.hid hwd
  have HL := Lib.hid hl
  have HB : Hid (Below w.heap.size w w) := Lib.hid (Below.refl _ _)
  have HWZ : Hid (0 < w.heap.size) := Lib.hid hwd.2.2.2.2.2.2.2.2.2.2.2
  have HF := Lib.hid hf
  have HL6 := Lib.hid hn
  clear hl hwd
  go_enter Tryd.func6, Tryd.ntmps6
  go_upto_region 3 with fail
  go_wp2_with fail
  with_reducible refine (rnew0 5 _ (by omega)).mono ?_
  rintro e w1 ⟨sb, rfl, ho, hb⟩
  have HC0_w1 : Hid (w.heap.size ≤ w1.heap.size) := Lib.hid hb.size
  replace HB := Lib.hid (below_via HB.out hb)
  replace HWD := Lib.hid (HWD.out.below hb)
  have HOb := Lib.hid ho
  clear ho hb
  go_wp2_with (refine wpList_store_bh rfl _ _ rfl rfl rfl (heap_alloc_new _ _) rfl ?_)
  intro w2 hw0
  have hbx := boxed hw0.out
  have hb := hbx.1
  replace HB := Lib.hid (below_via HB.out hb)
  replace HOb := Lib.hid (HOb.out.below hb)
  replace HWD := Lib.hid (HWD.out.below hb)
  have HXb := Lib.hid hbx.2
  have HC1_w2 : Hid (w1.heap.size < w2.heap.size) := Lib.hid HXb.out.lt
  clear hw0 hbx hb
  have HRb := Lib.hid (rowB_rd (f := 0) (a := 0) HOb.out.rd)
  have c33 := HXb.out.cell 33
  have f33 := HXb.out.free 33
  have c34 := HXb.out.cell 34
  have f34 := HXb.out.free 34
  change w2.cell? ⟨w1.heap.size, 33, none⟩ = some (.int .i64 0) at c33
  change w2.cell? ⟨w1.heap.size, 34, none⟩ = some (.int .i64 0) at c34
  go_upto_region 7 with fail
  obtain ⟨nb, hnb⟩ : ∃ n, n = w1.heap.size := ⟨_, rfl⟩
  rw [← hnb] at HXb c33 f33 c34 f34 ⊢
  obtain ⟨w3, hw⟩ : ∃ X, X = (w2.setCell ⟨nb, 33, none⟩ (.int .i64 f)).setCell ⟨nb, 34, none⟩ (.int .i64 ((f + 1) % 2)) := ⟨_, rfl⟩
  rw [← hw]
  have hx3 : Bx w3 nb sb (rowB f ((f + 1) % 2)) := by
    rw [hw]
    exact ((HXb.out.put (s' := sb) (B' := rowB f 0) 33 _ (by simp [bcells, rowB, nw0, zeroB])).put 34 _ (by simp [bcells, rowB, nw0, zeroB]))
  have ho3 : Onl [nb] w2 w3 := by rw [hw]; exact Onl.setCell (Onl.setCell (Onl.refl _ _) (.inl (by simp)) _) (.inl (by simp)) _
  have HN1 : Hid (w1.heap.size ≤ nb) := Lib.hid (Nat.le_of_eq hnb.symm)
  have HNB : Hid (w.heap.size ≤ nb) := Lib.hid (by rw [hnb]; exact HC0_w1.out)
  clear hnb hw c33 f33 c34 f34
  have HLN : Hid (nb < w2.heap.size) := Lib.hid HXb.out.lt
  replace HB := Lib.hid (belowOnl HB.out ho3 (by have := HNB.out; simp; omega) HB.out.size)
  have HOH : Hid (w1.heap.size ≤ nb) := Lib.hid HN1.out
  have HOc := Lib.hid (HOb.out.keep (fun k a b => ho3.block k (by have := HLN.out; have := HOH.out; omega) (by have := HOH.out; simp; omega)))
  replace HWD := Lib.hid (Wds.rng HWD.out (Rng.onl (lo := nb) (hi := nb + 1) ho3 (by simp)) (by have := HNB.out; have := HWZ.out; omega))
  replace HXb := Lib.hid hx3
  clear hx3 ho3 HOb HRb
  by_cases h0 : f = 0
  · have t3 : (f == 0) = true := by simp [h0]
    have H0 := Lib.hid h0
    clear h0
    have c34 := HXb.out.cell 34
    have f34 := HXb.out.free 34
    change w3.cell? ⟨nb, 34, none⟩ = some (.int .i64 ((f + 1) % 2)) at c34
    go_upto_region 9 with fail
    obtain ⟨w4, hw⟩ : ∃ X, X = w3.setCell ⟨nb, 34, none⟩ (.int .i64 0) := ⟨_, rfl⟩
    rw [← hw]
    have hx3 : Bx w4 nb sb (rowB f 0) := by rw [hw]; exact HXb.out.put 34 _ (by simp [bcells, rowB, nw0, zeroB])
    have ho3 : Onl [nb] w3 w4 := by rw [hw]; exact Onl.setCell (Onl.refl _ _) (.inl (by simp)) _
    have HLN2 : Hid (nb < w3.heap.size) := Lib.hid HXb.out.lt
    replace HB := Lib.hid (belowOnl HB.out ho3 (by have := HNB.out; simp; omega) HB.out.size)
    replace HOc := Lib.hid (HOc.out.keep (fun k a b => ho3.block k (by have := HLN2.out; have := HOH.out; omega) (by have := HOH.out; simp; omega)))
    replace HWD := Lib.hid (Wds.rng HWD.out (Rng.onl (lo := nb) (hi := nb + 1) ho3 (by simp)) (by have := HNB.out; have := HWZ.out; omega))
    replace HXb := Lib.hid hx3
    clear hx3 ho3 hw c34 f34
    have HRn := Lib.hid HOc.out.rd
    have HA : Hid ((0 ≤ (0 : Int) ∧ (0 : Int) ≤ 1) ∧ ((rowB f 0).tu ≠ 0 → (rowB f 0).ac = (f + ((0 : Nat) : Int) + 1) % 2)) := Lib.hid ⟨by omega, fun h => absurd H0.out h⟩
    go_wp2_with fail
    go_loopw [7] (fun v wr => RwL w nb f l.length v wr) (fun v _ => l.length - (intOf v).toNat)
    case atStart => exact ⟨0, by omega, rfl, HB.out, HWD.out, _, _, HXb.out, rowB_rd HRn.out, rowB_vb HF.out HA.out.1, rowB_ok _ _, by show f = f + 0; omega, HA.out.2⟩
    case round =>
      clear HXb HRn HA HOc t3
      obtain ⟨k, hk, rfl, hb, hd, s', B', hx, hr, hv, hk2, htu, hac⟩ := hrel
      replace HB := Lib.hid hb
      replace HWD := Lib.hid hd
      have HXb := Lib.hid hx
      have HR := Lib.hid hr
      have HV := Lib.hid hv
      have HK := Lib.hid hk2
      have HTU := Lib.hid htu
      have HAC := Lib.hid hac
      clear hb hd hx hr hv hk2 htu hac
      by_cases hkn : k < l.length
      · have i1 : decide ((k : Int) < (l.length : Int)) = true := decide_eq_true (by omega)
        obtain ⟨b, hbk⟩ : ∃ b, l[k]? = some b := ⟨l[k], List.getElem?_eq_getElem hkn⟩
        obtain ⟨_, a9, c9, hv9, hc9⟩ := HL.out.form
        obtain ⟨ba, off, ha9, hlt9, hcell⟩ := hc9 (by omega)
        have hat : at' = some ⟨ba, off, none⟩ := by simp at hv9; rw [hv9.1, ha9]
        have HCELL : Hid (∀ W, Below w.heap.size w W → W.cell? ⟨ba, off + k, none⟩ = some (.bool b)) := Lib.hid (fun W hW => (hW.cell (p := ⟨ba, off + k, none⟩) hlt9).trans (by have := hcell k b hbk 0 (.bool b) rfl; simpa using this))
        clear hv9 hc9 hcell ha9 hbk hlt9
        subst hat
        have HCr : Hid (nb < wr.heap.size) := Lib.hid HXb.out.lt
        have HBR : Hid (Below wr.heap.size wr wr) := Lib.hid (Below.refl _ _)
        have hl6 : l.length ≤ 60 := HL6.out
        have hf0 : (0 : Int) ≤ f := HF.out.1
        have hf1 : f ≤ 1000 := HF.out.2
        by_cases hT : B'.tu = 1000
        · have i2 : decide (f + (k : Int) ≥ 1000) = true := decide_eq_true (by have := HTU.out; omega)
          have HT := Lib.hid hT
          clear hT
          go_wp2_with (first | (refine wpList_load_bx _ rfl rfl HXb.out (by kernel_rfl) ?_))
          with_reducible refine (begin_end s' B' _ (HR.out.below HBR.out) HK.out HV.out HT.out).mono ?_
          rintro e w21 ⟨sx, rfl, ho, hb⟩
          have HC1_w21 : Hid (wr.heap.size ≤ w21.heap.size) := Lib.hid hb.size
          replace HB := Lib.hid (below_via HB.out hb)
          replace HBR := Lib.hid (below_via HBR.out hb)
          replace HXb := Lib.hid (HXb.out.below hb)
          replace HWD := Lib.hid (HWD.out.below hb)
          have HOx := Lib.hid ho
          clear ho hb
          go_wp2_with (refine wpList_store_bh rfl _ _ rfl rfl rfl (heap_alloc_new _ _) rfl ?_)
          intro w22 hw0
          have hbx := boxed hw0.out
          have hb := hbx.1
          replace HB := Lib.hid (below_via HB.out hb)
          replace HBR := Lib.hid (below_via HBR.out hb)
          replace HXb := Lib.hid (HXb.out.below hb)
          replace HOx := Lib.hid (HOx.out.below hb)
          replace HWD := Lib.hid (HWD.out.below hb)
          have HXx := Lib.hid hbx.2
          have HC2_w22 : Hid (w21.heap.size < w22.heap.size) := Lib.hid HXx.out.lt
          clear hw0 hbx hb
          go_wp2_with fail
          with_reducible refine (known _ HWD.out).mono ?_
          rintro e w23 ⟨rfl, hb⟩
          have HC3_w23 : Hid (w22.heap.size ≤ w23.heap.size) := Lib.hid hb.size
          replace HB := Lib.hid (below_via HB.out hb)
          replace HBR := Lib.hid (below_via HBR.out hb)
          replace HXb := Lib.hid (HXb.out.below hb)
          replace HXx := Lib.hid (HXx.out.below hb)
          replace HOx := Lib.hid (HOx.out.below hb)
          replace HWD := Lib.hid (HWD.out.below hb)
          clear hb
          go_wp2_with fail
          go_returns
          exact ⟨rfl, HB.out⟩
        · have i2 : decide (f + (k : Int) ≥ 1000) = false := decide_eq_false (by have h1 := HTU.out; have h2 := HV.out.num; unfold vNum at h2; omega)
          have HT := Lib.hid hT
          clear hT
          go_wp2_with (first | (refine wpList_load_bx _ rfl rfl HXb.out (by kernel_rfl) ?_))
          with_reducible refine (begin_ok s' B' _ (HR.out.below HBR.out) HK.out HV.out HT.out).mono ?_
          rintro e w21 ⟨sx, rfl, ho, hb⟩
          have HC1_w21 : Hid (wr.heap.size ≤ w21.heap.size) := Lib.hid hb.size
          replace HB := Lib.hid (below_via HB.out hb)
          replace HBR := Lib.hid (below_via HBR.out hb)
          replace HXb := Lib.hid (HXb.out.below hb)
          replace HWD := Lib.hid (HWD.out.below hb)
          have HOx := Lib.hid ho
          clear ho hb
          go_wp2_with (refine wpList_store_bh rfl _ _ rfl rfl rfl (heap_alloc_new _ _) rfl ?_)
          intro w22 hw0
          have hbx := boxed hw0.out
          have hb := hbx.1
          replace HB := Lib.hid (below_via HB.out hb)
          replace HBR := Lib.hid (below_via HBR.out hb)
          replace HXb := Lib.hid (HXb.out.below hb)
          replace HOx := Lib.hid (HOx.out.below hb)
          replace HWD := Lib.hid (HWD.out.below hb)
          have HXx := Lib.hid hbx.2
          have HC2_w22 : Hid (w21.heap.size < w22.heap.size) := Lib.hid HXx.out.lt
          clear hw0 hbx hb
          have c33 : w22.cell? ⟨w21.heap.size, 33, none⟩ = some (.int .i64 (B'.tu + 1)) := by rw [← (be_num B').1]; exact HXx.out.cell 33
          have c34 : w22.cell? ⟨w21.heap.size, 34, none⟩ = some (.int .i64 (nxA B')) := by rw [← (be_num B').2.1]; exact HXx.out.cell 34
          have c35 : w22.cell? ⟨w21.heap.size, 35, none⟩ = some (.int .i64 1) := by rw [← (be_num B').2.2]; exact HXx.out.cell 35
          have q1 : (B'.tu + 1 != f + (k : Int) + 1) = false := by have := HTU.out; simp; omega
          have q2 : (nxA B' != (f + (k : Int)) % 2) = false := by
            have h1 := HTU.out
            have h2 := HAC.out
            have h3 : (0 : Int) ≤ f := HF.out.1
            unfold nxA
            by_cases h : B'.tu = 0
            · rw [if_pos h]; simp; omega
            · rw [if_neg h]; have := h2 h; simp; omega
          go_wp2_with fail
          clear q1 q2 c33 c34 c35 i2
          obtain ⟨wo, hwo⟩ : ∃ wo, wo = w22 := ⟨_, rfl⟩
          go_loopw [10, 11] (fun p v wr => wr = w22 ∧ ∃ m : Nat, m ≤ top9 b ∧ p = .int .i64 (ph9 b m) ∧ v = .int .i64 m) (fun p v _ => top9 b - (intOf v).toNat)
          case atStart => exact ⟨rfl, 0, by omega, by cases b <;> rfl, rfl⟩
          case round =>
            obtain ⟨rfl, m, hm, rfl, rfl⟩ := hrel
            by_cases hmt : m < top9 b
            · have hp := ph_next hmt
              have htop : top9 b ≤ 9 := by cases b <;> decide
              have HN := Lib.hid hp.1
              have j1 : (ph9 b m != 10) = true := by simp [hp.2.2]
              have j2 : decide ((m : Int) < 20) = true := decide_eq_true (by omega)
              have j3 : decide (ph9 b (m + 1) ≤ ph9 b m) = false := decide_eq_false (by omega)
              have HTOP := Lib.hid hmt
              have cb := HCELL.out _ HB.out
              clear hp hmt
              go_wp2_with fail
              with_reducible refine (nextc _ b _ _ HWD.out HN.out).mono ?_
              rintro e w' ⟨rfl, rfl⟩
              go_wp2_with fail
              go_roundw
              case rel => exact ⟨by trivial, m + 1, HTOP.out, rfl, by go_num⟩
              case measure => have := HTOP.out; simp [intOf]; omega
            · have hbm : (b = true ∧ m = 9) ∨ (b = false ∧ m = 6) := by
                cases b
                · exact .inr ⟨rfl, by have : top9 false = 6 := rfl; omega⟩
                · exact .inl ⟨rfl, by have : top9 true = 9 := rfl; omega⟩
              have HKX : Hid (phB (beB B')).Ok := Lib.hid (phB_ok (Ok.be HK.out))
              have HVX : Hid (VB (phB (beB B'))) := Lib.hid (phB_vb (VB.be HV.out HT.out))
              clear hmt hm
              rcases hbm with ⟨rfl, rfl⟩ | ⟨rfl, rfl⟩
              · have hpt : ph9 true 9 = 10 := by decide
                rw [hpt]
                clear hpt
                have cb := HCELL.out _ HB.out
                have c35 : wr.cell? ⟨w21.heap.size, 35, none⟩ = some (.int .i64 1) := by rw [← (be_num B').2.2]; exact HXx.out.cell 35
                have f35 := HXx.out.free 35
                go_upto_region 26 with fail
                clear cb c35 f35
                obtain ⟨w30, hw⟩ : ∃ X, X = wr.setCell ⟨w21.heap.size, 35, none⟩ (.int .i64 10) := ⟨_, rfl⟩
                rw [← hw]
                have hx3 : Bx w30 (w21.heap.size) sx (phB (beB B')) := by rw [hw]; exact HXx.out.put 35 _ (by simp [bcells, phB])
                have ho3 : Onl [w21.heap.size] wr w30 := by rw [hw]; exact Onl.setCell (Onl.refl _ _) (.inl (by simp)) _
                have o0 := HCr.out
                have o1 := HC1_w21.out
                have o2 := HC2_w22.out
                have hxb := HXb.out.lt
                have hxx := HXx.out.lt
                have hs0 := HBR.out.size
                have hs9 := HB.out.size
                have hnb := HNB.out
                have hwz := HWZ.out
                replace HXb := Lib.hid (HXb.out.onl ho3 (by simp; omega))
                replace HOx := Lib.hid (HOx.out.keep (fun k a b => ho3.block k (by omega) (by simp; omega)))
                replace HB := Lib.hid (belowOnl HB.out ho3 (by simp; omega) hs9)
                replace HWD := Lib.hid (Wds.rng HWD.out (Rng.onl (lo := w21.heap.size) (hi := w21.heap.size + 1) ho3 (by simp)) (by omega))
                have HRX := Lib.hid (phB_rd HOx.out.rd)
                have HXX := Lib.hid hx3
                have HSX : Hid (w.heap.size ≤ nb ∧ nb < w30.heap.size ∧ 0 < w.heap.size) := Lib.hid ⟨hnb, HXb.out.lt, hwz⟩
                clear hnb hwz hx3 ho3 hw HXx HOx o0 o1 o2 hxb hxx hs0 hs9
                go_wp2_with (refine wpList_load_bx _ rfl rfl HXX.out (by kernel_rfl) ?_)
                with_reducible refine (close_ok sx (phB (beB B')) _ HRX.out HKX.out HVX.out).mono ?_
                rintro e w31 ⟨sc, rfl, ho, hb⟩
                replace HB := Lib.hid (below_via HB.out hb)
                replace HXb := Lib.hid (HXb.out.below hb)
                replace HWD := Lib.hid (HWD.out.below hb)
                have HSY : Hid (w30.heap.size ≤ w31.heap.size) := Lib.hid hb.size
                have HOc := Lib.hid ho
                clear ho hb HXX HRX
                go_wp2_with (refine wpList_store_bh rfl _ _ rfl rfl rfl HXb.out rfl ?_)
                intro w32 hw0
                have ho3 : Onl [nb] w31 w32 := by rw [hw0.out]; exact Onl.setRow (Onl.refl _ _) (.inl (by simp)) _
                have hbx : Bx w32 nb sc (clB (phB (beB B'))) := by rw [hw0.out]; exact Bx.row HXb.out _ _
                have h1 := HSX.out
                have h2 := HSY.out
                have h3 := HB.out.size
                replace HB := Lib.hid (belowOnl HB.out ho3 (by simp; omega) h3)
                replace HOc := Lib.hid (HOc.out.keep (fun k a b => ho3.block k (by omega) (by simp; omega)))
                replace HWD := Lib.hid (Wds.rng HWD.out (Rng.onl (lo := nb) (hi := nb + 1) ho3 (by simp)) (by omega))
                replace HXb := Lib.hid hbx
                have HRC := Lib.hid HOc.out.rd
                have HKC := Lib.hid (Ok.cl HKX.out)
                have HVC := Lib.hid (VB.cl HVX.out)
                have HTN : Hid ((clB (phB (beB B'))).tu = f + ((k + 1 : Nat) : Int) ∧ ((clB (phB (beB B'))).tu ≠ 0 → (clB (phB (beB B'))).ac = (f + ((k + 1 : Nat) : Int) + 1) % 2)) := Lib.hid (by
                  have e1 := (cl_num (phB (beB B'))).1
                  have e2 := (cl_num (phB (beB B'))).2
                  have e3 := (be_num B').1
                  have e4 := (be_num B').2.1
                  have e5 : (phB (beB B')).tu = (beB B').tu := rfl
                  have e6 : (phB (beB B')).ac = (beB B').ac := rfl
                  have h1 := HTU.out
                  have h2 := HAC.out
                  have h3 : (0 : Int) ≤ f := HF.out.1
                  rw [e1, e2, e5, e6, e3, e4]
                  refine ⟨by omega, fun _ => ?_⟩
                  unfold nxA
                  by_cases h : B'.tu = 0
                  · rw [if_pos h]; omega
                  · rw [if_neg h]; have := h2 h; omega)
                clear h1 h2 h3 ho3 hbx hw0 HOc
                go_wp2_with (refine wpList_load_bx _ rfl rfl HXb.out (by kernel_rfl) ?_)
                with_reducible refine (brvalid sc (clB (phB (beB B'))) _ HRC.out HKC.out.i HKC.out.sm).mono ?_
                rintro e w33 ⟨⟨r, rfl, hr⟩, hb⟩
                obtain rfl : r = true := hr.2 HVC.out
                replace HB := Lib.hid (below_via HB.out hb)
                replace HXb := Lib.hid (HXb.out.below hb)
                replace HWD := Lib.hid (HWD.out.below hb)
                replace HRC := Lib.hid (HRC.out.below hb)
                clear hr hb
                go_wp2_with fail
                go_roundw
                case rel => exact ⟨k + 1, by omega, by go_num, HB.out, HWD.out, _, _, HXb.out, HRC.out, HVC.out, HKC.out, HTN.out.1, HTN.out.2⟩
                case measure => simp [intOf]; omega
              · have hpt : ph9 false 6 = 10 := by decide
                rw [hpt]
                clear hpt
                have cb := HCELL.out _ HB.out
                have c35 : wr.cell? ⟨w21.heap.size, 35, none⟩ = some (.int .i64 1) := by rw [← (be_num B').2.2]; exact HXx.out.cell 35
                have f35 := HXx.out.free 35
                go_upto_region 26 with fail
                clear cb c35 f35
                obtain ⟨w30, hw⟩ : ∃ X, X = wr.setCell ⟨w21.heap.size, 35, none⟩ (.int .i64 10) := ⟨_, rfl⟩
                rw [← hw]
                have hx3 : Bx w30 (w21.heap.size) sx (phB (beB B')) := by rw [hw]; exact HXx.out.put 35 _ (by simp [bcells, phB])
                have ho3 : Onl [w21.heap.size] wr w30 := by rw [hw]; exact Onl.setCell (Onl.refl _ _) (.inl (by simp)) _
                have o0 := HCr.out
                have o1 := HC1_w21.out
                have o2 := HC2_w22.out
                have hxb := HXb.out.lt
                have hxx := HXx.out.lt
                have hs0 := HBR.out.size
                have hs9 := HB.out.size
                have hnb := HNB.out
                have hwz := HWZ.out
                replace HXb := Lib.hid (HXb.out.onl ho3 (by simp; omega))
                replace HOx := Lib.hid (HOx.out.keep (fun k a b => ho3.block k (by omega) (by simp; omega)))
                replace HB := Lib.hid (belowOnl HB.out ho3 (by simp; omega) hs9)
                replace HWD := Lib.hid (Wds.rng HWD.out (Rng.onl (lo := w21.heap.size) (hi := w21.heap.size + 1) ho3 (by simp)) (by omega))
                have HRX := Lib.hid (phB_rd HOx.out.rd)
                have HXX := Lib.hid hx3
                have HSX : Hid (w.heap.size ≤ nb ∧ nb < w30.heap.size ∧ 0 < w.heap.size) := Lib.hid ⟨hnb, HXb.out.lt, hwz⟩
                clear hnb hwz hx3 ho3 hw HXx HOx o0 o1 o2 hxb hxx hs0 hs9
                go_wp2_with (refine wpList_load_bx _ rfl rfl HXX.out (by kernel_rfl) ?_)
                with_reducible refine (close_ok sx (phB (beB B')) _ HRX.out HKX.out HVX.out).mono ?_
                rintro e w31 ⟨sc, rfl, ho, hb⟩
                replace HB := Lib.hid (below_via HB.out hb)
                replace HXb := Lib.hid (HXb.out.below hb)
                replace HWD := Lib.hid (HWD.out.below hb)
                have HSY : Hid (w30.heap.size ≤ w31.heap.size) := Lib.hid hb.size
                have HOc := Lib.hid ho
                clear ho hb HXX HRX
                go_wp2_with (refine wpList_store_bh rfl _ _ rfl rfl rfl HXb.out rfl ?_)
                intro w32 hw0
                have ho3 : Onl [nb] w31 w32 := by rw [hw0.out]; exact Onl.setRow (Onl.refl _ _) (.inl (by simp)) _
                have hbx : Bx w32 nb sc (clB (phB (beB B'))) := by rw [hw0.out]; exact Bx.row HXb.out _ _
                have h1 := HSX.out
                have h2 := HSY.out
                have h3 := HB.out.size
                replace HB := Lib.hid (belowOnl HB.out ho3 (by simp; omega) h3)
                replace HOc := Lib.hid (HOc.out.keep (fun k a b => ho3.block k (by omega) (by simp; omega)))
                replace HWD := Lib.hid (Wds.rng HWD.out (Rng.onl (lo := nb) (hi := nb + 1) ho3 (by simp)) (by omega))
                replace HXb := Lib.hid hbx
                have HRC := Lib.hid HOc.out.rd
                have HKC := Lib.hid (Ok.cl HKX.out)
                have HVC := Lib.hid (VB.cl HVX.out)
                have HTN : Hid ((clB (phB (beB B'))).tu = f + ((k + 1 : Nat) : Int) ∧ ((clB (phB (beB B'))).tu ≠ 0 → (clB (phB (beB B'))).ac = (f + ((k + 1 : Nat) : Int) + 1) % 2)) := Lib.hid (by
                  have e1 := (cl_num (phB (beB B'))).1
                  have e2 := (cl_num (phB (beB B'))).2
                  have e3 := (be_num B').1
                  have e4 := (be_num B').2.1
                  have e5 : (phB (beB B')).tu = (beB B').tu := rfl
                  have e6 : (phB (beB B')).ac = (beB B').ac := rfl
                  have h1 := HTU.out
                  have h2 := HAC.out
                  have h3 : (0 : Int) ≤ f := HF.out.1
                  rw [e1, e2, e5, e6, e3, e4]
                  refine ⟨by omega, fun _ => ?_⟩
                  unfold nxA
                  by_cases h : B'.tu = 0
                  · rw [if_pos h]; omega
                  · rw [if_neg h]; have := h2 h; omega)
                clear h1 h2 h3 ho3 hbx hw0 HOc
                go_wp2_with (refine wpList_load_bx _ rfl rfl HXb.out (by kernel_rfl) ?_)
                with_reducible refine (brvalid sc (clB (phB (beB B'))) _ HRC.out HKC.out.i HKC.out.sm).mono ?_
                rintro e w33 ⟨⟨r, rfl, hr⟩, hb⟩
                obtain rfl : r = true := hr.2 HVC.out
                replace HB := Lib.hid (below_via HB.out hb)
                replace HXb := Lib.hid (HXb.out.below hb)
                replace HWD := Lib.hid (HWD.out.below hb)
                replace HRC := Lib.hid (HRC.out.below hb)
                clear hr hb
                go_wp2_with fail
                go_roundw
                case rel => exact ⟨k + 1, by omega, by go_num, HB.out, HWD.out, _, _, HXb.out, HRC.out, HVC.out, HKC.out, HTN.out.1, HTN.out.2⟩
                case measure => simp [intOf]; omega
      · have i1 : decide ((k : Int) < (l.length : Int)) = false := decide_eq_false (by omega)
        go_wp2_with fail
        with_reducible refine (known _ HWD.out).mono ?_
        rintro e w9 ⟨rfl, hb⟩
        replace HB := Lib.hid (below_via HB.out hb)
        clear hb
        go_wp2_with fail
        go_returns
        exact ⟨rfl, HB.out⟩
  · have t3 : (f == 0) = false := by simp [h0]
    have HRn := Lib.hid HOc.out.rd
    have HA : Hid ((0 ≤ (f + 1) % 2 ∧ (f + 1) % 2 ≤ 1) ∧ ((rowB f ((f + 1) % 2)).tu ≠ 0 → (rowB f ((f + 1) % 2)).ac = (f + ((0 : Nat) : Int) + 1) % 2)) := Lib.hid ⟨by omega, fun h => by show (f + 1) % 2 = _; congr 1; omega⟩
    clear h0
    go_wp2_with fail
    go_loopw [7] (fun v wr => RwL w nb f l.length v wr) (fun v _ => l.length - (intOf v).toNat)
    case atStart => exact ⟨0, by omega, rfl, HB.out, HWD.out, _, _, HXb.out, rowB_rd HRn.out, rowB_vb HF.out HA.out.1, rowB_ok _ _, by show f = f + 0; omega, HA.out.2⟩
    case round =>
      clear HXb HRn HA HOc t3
      obtain ⟨k, hk, rfl, hb, hd, s', B', hx, hr, hv, hk2, htu, hac⟩ := hrel
      replace HB := Lib.hid hb
      replace HWD := Lib.hid hd
      have HXb := Lib.hid hx
      have HR := Lib.hid hr
      have HV := Lib.hid hv
      have HK := Lib.hid hk2
      have HTU := Lib.hid htu
      have HAC := Lib.hid hac
      clear hb hd hx hr hv hk2 htu hac
      by_cases hkn : k < l.length
      · have i1 : decide ((k : Int) < (l.length : Int)) = true := decide_eq_true (by omega)
        obtain ⟨b, hbk⟩ : ∃ b, l[k]? = some b := ⟨l[k], List.getElem?_eq_getElem hkn⟩
        obtain ⟨_, a9, c9, hv9, hc9⟩ := HL.out.form
        obtain ⟨ba, off, ha9, hlt9, hcell⟩ := hc9 (by omega)
        have hat : at' = some ⟨ba, off, none⟩ := by simp at hv9; rw [hv9.1, ha9]
        have HCELL : Hid (∀ W, Below w.heap.size w W → W.cell? ⟨ba, off + k, none⟩ = some (.bool b)) := Lib.hid (fun W hW => (hW.cell (p := ⟨ba, off + k, none⟩) hlt9).trans (by have := hcell k b hbk 0 (.bool b) rfl; simpa using this))
        clear hv9 hc9 hcell ha9 hbk hlt9
        subst hat
        have HCr : Hid (nb < wr.heap.size) := Lib.hid HXb.out.lt
        have HBR : Hid (Below wr.heap.size wr wr) := Lib.hid (Below.refl _ _)
        have hl6 : l.length ≤ 60 := HL6.out
        have hf0 : (0 : Int) ≤ f := HF.out.1
        have hf1 : f ≤ 1000 := HF.out.2
        by_cases hT : B'.tu = 1000
        · have i2 : decide (f + (k : Int) ≥ 1000) = true := decide_eq_true (by have := HTU.out; omega)
          have HT := Lib.hid hT
          clear hT
          go_wp2_with (first | (refine wpList_load_bx _ rfl rfl HXb.out (by kernel_rfl) ?_))
          with_reducible refine (begin_end s' B' _ (HR.out.below HBR.out) HK.out HV.out HT.out).mono ?_
          rintro e w21 ⟨sx, rfl, ho, hb⟩
          have HC1_w21 : Hid (wr.heap.size ≤ w21.heap.size) := Lib.hid hb.size
          replace HB := Lib.hid (below_via HB.out hb)
          replace HBR := Lib.hid (below_via HBR.out hb)
          replace HXb := Lib.hid (HXb.out.below hb)
          replace HWD := Lib.hid (HWD.out.below hb)
          have HOx := Lib.hid ho
          clear ho hb
          go_wp2_with (refine wpList_store_bh rfl _ _ rfl rfl rfl (heap_alloc_new _ _) rfl ?_)
          intro w22 hw0
          have hbx := boxed hw0.out
          have hb := hbx.1
          replace HB := Lib.hid (below_via HB.out hb)
          replace HBR := Lib.hid (below_via HBR.out hb)
          replace HXb := Lib.hid (HXb.out.below hb)
          replace HOx := Lib.hid (HOx.out.below hb)
          replace HWD := Lib.hid (HWD.out.below hb)
          have HXx := Lib.hid hbx.2
          have HC2_w22 : Hid (w21.heap.size < w22.heap.size) := Lib.hid HXx.out.lt
          clear hw0 hbx hb
          go_wp2_with fail
          with_reducible refine (known _ HWD.out).mono ?_
          rintro e w23 ⟨rfl, hb⟩
          have HC3_w23 : Hid (w22.heap.size ≤ w23.heap.size) := Lib.hid hb.size
          replace HB := Lib.hid (below_via HB.out hb)
          replace HBR := Lib.hid (below_via HBR.out hb)
          replace HXb := Lib.hid (HXb.out.below hb)
          replace HXx := Lib.hid (HXx.out.below hb)
          replace HOx := Lib.hid (HOx.out.below hb)
          replace HWD := Lib.hid (HWD.out.below hb)
          clear hb
          go_wp2_with fail
          go_returns
          exact ⟨rfl, HB.out⟩
        · have i2 : decide (f + (k : Int) ≥ 1000) = false := decide_eq_false (by have h1 := HTU.out; have h2 := HV.out.num; unfold vNum at h2; omega)
          have HT := Lib.hid hT
          clear hT
          go_wp2_with (first | (refine wpList_load_bx _ rfl rfl HXb.out (by kernel_rfl) ?_))
          with_reducible refine (begin_ok s' B' _ (HR.out.below HBR.out) HK.out HV.out HT.out).mono ?_
          rintro e w21 ⟨sx, rfl, ho, hb⟩
          have HC1_w21 : Hid (wr.heap.size ≤ w21.heap.size) := Lib.hid hb.size
          replace HB := Lib.hid (below_via HB.out hb)
          replace HBR := Lib.hid (below_via HBR.out hb)
          replace HXb := Lib.hid (HXb.out.below hb)
          replace HWD := Lib.hid (HWD.out.below hb)
          have HOx := Lib.hid ho
          clear ho hb
          go_wp2_with (refine wpList_store_bh rfl _ _ rfl rfl rfl (heap_alloc_new _ _) rfl ?_)
          intro w22 hw0
          have hbx := boxed hw0.out
          have hb := hbx.1
          replace HB := Lib.hid (below_via HB.out hb)
          replace HBR := Lib.hid (below_via HBR.out hb)
          replace HXb := Lib.hid (HXb.out.below hb)
          replace HOx := Lib.hid (HOx.out.below hb)
          replace HWD := Lib.hid (HWD.out.below hb)
          have HXx := Lib.hid hbx.2
          have HC2_w22 : Hid (w21.heap.size < w22.heap.size) := Lib.hid HXx.out.lt
          clear hw0 hbx hb
          have c33 : w22.cell? ⟨w21.heap.size, 33, none⟩ = some (.int .i64 (B'.tu + 1)) := by rw [← (be_num B').1]; exact HXx.out.cell 33
          have c34 : w22.cell? ⟨w21.heap.size, 34, none⟩ = some (.int .i64 (nxA B')) := by rw [← (be_num B').2.1]; exact HXx.out.cell 34
          have c35 : w22.cell? ⟨w21.heap.size, 35, none⟩ = some (.int .i64 1) := by rw [← (be_num B').2.2]; exact HXx.out.cell 35
          have q1 : (B'.tu + 1 != f + (k : Int) + 1) = false := by have := HTU.out; simp; omega
          have q2 : (nxA B' != (f + (k : Int)) % 2) = false := by
            have h1 := HTU.out
            have h2 := HAC.out
            have h3 : (0 : Int) ≤ f := HF.out.1
            unfold nxA
            by_cases h : B'.tu = 0
            · rw [if_pos h]; simp; omega
            · rw [if_neg h]; have := h2 h; simp; omega
          go_wp2_with fail
          clear q1 q2 c33 c34 c35 i2
          obtain ⟨wo, hwo⟩ : ∃ wo, wo = w22 := ⟨_, rfl⟩
          go_loopw [10, 11] (fun p v wr => wr = w22 ∧ ∃ m : Nat, m ≤ top9 b ∧ p = .int .i64 (ph9 b m) ∧ v = .int .i64 m) (fun p v _ => top9 b - (intOf v).toNat)
          case atStart => exact ⟨rfl, 0, by omega, by cases b <;> rfl, rfl⟩
          case round =>
            obtain ⟨rfl, m, hm, rfl, rfl⟩ := hrel
            by_cases hmt : m < top9 b
            · have hp := ph_next hmt
              have htop : top9 b ≤ 9 := by cases b <;> decide
              have HN := Lib.hid hp.1
              have j1 : (ph9 b m != 10) = true := by simp [hp.2.2]
              have j2 : decide ((m : Int) < 20) = true := decide_eq_true (by omega)
              have j3 : decide (ph9 b (m + 1) ≤ ph9 b m) = false := decide_eq_false (by omega)
              have HTOP := Lib.hid hmt
              have cb := HCELL.out _ HB.out
              clear hp hmt
              go_wp2_with fail
              with_reducible refine (nextc _ b _ _ HWD.out HN.out).mono ?_
              rintro e w' ⟨rfl, rfl⟩
              go_wp2_with fail
              go_roundw
              case rel => exact ⟨by trivial, m + 1, HTOP.out, rfl, by go_num⟩
              case measure => have := HTOP.out; simp [intOf]; omega
            · have hbm : (b = true ∧ m = 9) ∨ (b = false ∧ m = 6) := by
                cases b
                · exact .inr ⟨rfl, by have : top9 false = 6 := rfl; omega⟩
                · exact .inl ⟨rfl, by have : top9 true = 9 := rfl; omega⟩
              have HKX : Hid (phB (beB B')).Ok := Lib.hid (phB_ok (Ok.be HK.out))
              have HVX : Hid (VB (phB (beB B'))) := Lib.hid (phB_vb (VB.be HV.out HT.out))
              clear hmt hm
              rcases hbm with ⟨rfl, rfl⟩ | ⟨rfl, rfl⟩
              · have hpt : ph9 true 9 = 10 := by decide
                rw [hpt]
                clear hpt
                have cb := HCELL.out _ HB.out
                have c35 : wr.cell? ⟨w21.heap.size, 35, none⟩ = some (.int .i64 1) := by rw [← (be_num B').2.2]; exact HXx.out.cell 35
                have f35 := HXx.out.free 35
                go_upto_region 26 with fail
                clear cb c35 f35
                obtain ⟨w30, hw⟩ : ∃ X, X = wr.setCell ⟨w21.heap.size, 35, none⟩ (.int .i64 10) := ⟨_, rfl⟩
                rw [← hw]
                have hx3 : Bx w30 (w21.heap.size) sx (phB (beB B')) := by rw [hw]; exact HXx.out.put 35 _ (by simp [bcells, phB])
                have ho3 : Onl [w21.heap.size] wr w30 := by rw [hw]; exact Onl.setCell (Onl.refl _ _) (.inl (by simp)) _
                have o0 := HCr.out
                have o1 := HC1_w21.out
                have o2 := HC2_w22.out
                have hxb := HXb.out.lt
                have hxx := HXx.out.lt
                have hs0 := HBR.out.size
                have hs9 := HB.out.size
                have hnb := HNB.out
                have hwz := HWZ.out
                replace HXb := Lib.hid (HXb.out.onl ho3 (by simp; omega))
                replace HOx := Lib.hid (HOx.out.keep (fun k a b => ho3.block k (by omega) (by simp; omega)))
                replace HB := Lib.hid (belowOnl HB.out ho3 (by simp; omega) hs9)
                replace HWD := Lib.hid (Wds.rng HWD.out (Rng.onl (lo := w21.heap.size) (hi := w21.heap.size + 1) ho3 (by simp)) (by omega))
                have HRX := Lib.hid (phB_rd HOx.out.rd)
                have HXX := Lib.hid hx3
                have HSX : Hid (w.heap.size ≤ nb ∧ nb < w30.heap.size ∧ 0 < w.heap.size) := Lib.hid ⟨hnb, HXb.out.lt, hwz⟩
                clear hnb hwz hx3 ho3 hw HXx HOx o0 o1 o2 hxb hxx hs0 hs9
                go_wp2_with (refine wpList_load_bx _ rfl rfl HXX.out (by kernel_rfl) ?_)
                with_reducible refine (close_ok sx (phB (beB B')) _ HRX.out HKX.out HVX.out).mono ?_
                rintro e w31 ⟨sc, rfl, ho, hb⟩
                replace HB := Lib.hid (below_via HB.out hb)
                replace HXb := Lib.hid (HXb.out.below hb)
                replace HWD := Lib.hid (HWD.out.below hb)
                have HSY : Hid (w30.heap.size ≤ w31.heap.size) := Lib.hid hb.size
                have HOc := Lib.hid ho
                clear ho hb HXX HRX
                go_wp2_with (refine wpList_store_bh rfl _ _ rfl rfl rfl HXb.out rfl ?_)
                intro w32 hw0
                have ho3 : Onl [nb] w31 w32 := by rw [hw0.out]; exact Onl.setRow (Onl.refl _ _) (.inl (by simp)) _
                have hbx : Bx w32 nb sc (clB (phB (beB B'))) := by rw [hw0.out]; exact Bx.row HXb.out _ _
                have h1 := HSX.out
                have h2 := HSY.out
                have h3 := HB.out.size
                replace HB := Lib.hid (belowOnl HB.out ho3 (by simp; omega) h3)
                replace HOc := Lib.hid (HOc.out.keep (fun k a b => ho3.block k (by omega) (by simp; omega)))
                replace HWD := Lib.hid (Wds.rng HWD.out (Rng.onl (lo := nb) (hi := nb + 1) ho3 (by simp)) (by omega))
                replace HXb := Lib.hid hbx
                have HRC := Lib.hid HOc.out.rd
                have HKC := Lib.hid (Ok.cl HKX.out)
                have HVC := Lib.hid (VB.cl HVX.out)
                have HTN : Hid ((clB (phB (beB B'))).tu = f + ((k + 1 : Nat) : Int) ∧ ((clB (phB (beB B'))).tu ≠ 0 → (clB (phB (beB B'))).ac = (f + ((k + 1 : Nat) : Int) + 1) % 2)) := Lib.hid (by
                  have e1 := (cl_num (phB (beB B'))).1
                  have e2 := (cl_num (phB (beB B'))).2
                  have e3 := (be_num B').1
                  have e4 := (be_num B').2.1
                  have e5 : (phB (beB B')).tu = (beB B').tu := rfl
                  have e6 : (phB (beB B')).ac = (beB B').ac := rfl
                  have h1 := HTU.out
                  have h2 := HAC.out
                  have h3 : (0 : Int) ≤ f := HF.out.1
                  rw [e1, e2, e5, e6, e3, e4]
                  refine ⟨by omega, fun _ => ?_⟩
                  unfold nxA
                  by_cases h : B'.tu = 0
                  · rw [if_pos h]; omega
                  · rw [if_neg h]; have := h2 h; omega)
                clear h1 h2 h3 ho3 hbx hw0 HOc
                go_wp2_with (refine wpList_load_bx _ rfl rfl HXb.out (by kernel_rfl) ?_)
                with_reducible refine (brvalid sc (clB (phB (beB B'))) _ HRC.out HKC.out.i HKC.out.sm).mono ?_
                rintro e w33 ⟨⟨r, rfl, hr⟩, hb⟩
                obtain rfl : r = true := hr.2 HVC.out
                replace HB := Lib.hid (below_via HB.out hb)
                replace HXb := Lib.hid (HXb.out.below hb)
                replace HWD := Lib.hid (HWD.out.below hb)
                replace HRC := Lib.hid (HRC.out.below hb)
                clear hr hb
                go_wp2_with fail
                go_roundw
                case rel => exact ⟨k + 1, by omega, by go_num, HB.out, HWD.out, _, _, HXb.out, HRC.out, HVC.out, HKC.out, HTN.out.1, HTN.out.2⟩
                case measure => simp [intOf]; omega
              · have hpt : ph9 false 6 = 10 := by decide
                rw [hpt]
                clear hpt
                have cb := HCELL.out _ HB.out
                have c35 : wr.cell? ⟨w21.heap.size, 35, none⟩ = some (.int .i64 1) := by rw [← (be_num B').2.2]; exact HXx.out.cell 35
                have f35 := HXx.out.free 35
                go_upto_region 26 with fail
                clear cb c35 f35
                obtain ⟨w30, hw⟩ : ∃ X, X = wr.setCell ⟨w21.heap.size, 35, none⟩ (.int .i64 10) := ⟨_, rfl⟩
                rw [← hw]
                have hx3 : Bx w30 (w21.heap.size) sx (phB (beB B')) := by rw [hw]; exact HXx.out.put 35 _ (by simp [bcells, phB])
                have ho3 : Onl [w21.heap.size] wr w30 := by rw [hw]; exact Onl.setCell (Onl.refl _ _) (.inl (by simp)) _
                have o0 := HCr.out
                have o1 := HC1_w21.out
                have o2 := HC2_w22.out
                have hxb := HXb.out.lt
                have hxx := HXx.out.lt
                have hs0 := HBR.out.size
                have hs9 := HB.out.size
                have hnb := HNB.out
                have hwz := HWZ.out
                replace HXb := Lib.hid (HXb.out.onl ho3 (by simp; omega))
                replace HOx := Lib.hid (HOx.out.keep (fun k a b => ho3.block k (by omega) (by simp; omega)))
                replace HB := Lib.hid (belowOnl HB.out ho3 (by simp; omega) hs9)
                replace HWD := Lib.hid (Wds.rng HWD.out (Rng.onl (lo := w21.heap.size) (hi := w21.heap.size + 1) ho3 (by simp)) (by omega))
                have HRX := Lib.hid (phB_rd HOx.out.rd)
                have HXX := Lib.hid hx3
                have HSX : Hid (w.heap.size ≤ nb ∧ nb < w30.heap.size ∧ 0 < w.heap.size) := Lib.hid ⟨hnb, HXb.out.lt, hwz⟩
                clear hnb hwz hx3 ho3 hw HXx HOx o0 o1 o2 hxb hxx hs0 hs9
                go_wp2_with (refine wpList_load_bx _ rfl rfl HXX.out (by kernel_rfl) ?_)
                with_reducible refine (close_ok sx (phB (beB B')) _ HRX.out HKX.out HVX.out).mono ?_
                rintro e w31 ⟨sc, rfl, ho, hb⟩
                replace HB := Lib.hid (below_via HB.out hb)
                replace HXb := Lib.hid (HXb.out.below hb)
                replace HWD := Lib.hid (HWD.out.below hb)
                have HSY : Hid (w30.heap.size ≤ w31.heap.size) := Lib.hid hb.size
                have HOc := Lib.hid ho
                clear ho hb HXX HRX
                go_wp2_with (refine wpList_store_bh rfl _ _ rfl rfl rfl HXb.out rfl ?_)
                intro w32 hw0
                have ho3 : Onl [nb] w31 w32 := by rw [hw0.out]; exact Onl.setRow (Onl.refl _ _) (.inl (by simp)) _
                have hbx : Bx w32 nb sc (clB (phB (beB B'))) := by rw [hw0.out]; exact Bx.row HXb.out _ _
                have h1 := HSX.out
                have h2 := HSY.out
                have h3 := HB.out.size
                replace HB := Lib.hid (belowOnl HB.out ho3 (by simp; omega) h3)
                replace HOc := Lib.hid (HOc.out.keep (fun k a b => ho3.block k (by omega) (by simp; omega)))
                replace HWD := Lib.hid (Wds.rng HWD.out (Rng.onl (lo := nb) (hi := nb + 1) ho3 (by simp)) (by omega))
                replace HXb := Lib.hid hbx
                have HRC := Lib.hid HOc.out.rd
                have HKC := Lib.hid (Ok.cl HKX.out)
                have HVC := Lib.hid (VB.cl HVX.out)
                have HTN : Hid ((clB (phB (beB B'))).tu = f + ((k + 1 : Nat) : Int) ∧ ((clB (phB (beB B'))).tu ≠ 0 → (clB (phB (beB B'))).ac = (f + ((k + 1 : Nat) : Int) + 1) % 2)) := Lib.hid (by
                  have e1 := (cl_num (phB (beB B'))).1
                  have e2 := (cl_num (phB (beB B'))).2
                  have e3 := (be_num B').1
                  have e4 := (be_num B').2.1
                  have e5 : (phB (beB B')).tu = (beB B').tu := rfl
                  have e6 : (phB (beB B')).ac = (beB B').ac := rfl
                  have h1 := HTU.out
                  have h2 := HAC.out
                  have h3 : (0 : Int) ≤ f := HF.out.1
                  rw [e1, e2, e5, e6, e3, e4]
                  refine ⟨by omega, fun _ => ?_⟩
                  unfold nxA
                  by_cases h : B'.tu = 0
                  · rw [if_pos h]; omega
                  · rw [if_neg h]; have := h2 h; omega)
                clear h1 h2 h3 ho3 hbx hw0 HOc
                go_wp2_with (refine wpList_load_bx _ rfl rfl HXb.out (by kernel_rfl) ?_)
                with_reducible refine (brvalid sc (clB (phB (beB B'))) _ HRC.out HKC.out.i HKC.out.sm).mono ?_
                rintro e w33 ⟨⟨r, rfl, hr⟩, hb⟩
                obtain rfl : r = true := hr.2 HVC.out
                replace HB := Lib.hid (below_via HB.out hb)
                replace HXb := Lib.hid (HXb.out.below hb)
                replace HWD := Lib.hid (HWD.out.below hb)
                replace HRC := Lib.hid (HRC.out.below hb)
                clear hr hb
                go_wp2_with fail
                go_roundw
                case rel => exact ⟨k + 1, by omega, by go_num, HB.out, HWD.out, _, _, HXb.out, HRC.out, HVC.out, HKC.out, HTN.out.1, HTN.out.2⟩
                case measure => simp [intOf]; omega
      · have i1 : decide ((k : Int) < (l.length : Int)) = false := decide_eq_false (by omega)
        go_wp2_with fail
        with_reducible refine (known _ HWD.out).mono ?_
        rintro e w9 ⟨rfl, hb⟩
        replace HB := Lib.hid (below_via HB.out hb)
        clear hb
        go_wp2_with fail
        go_returns
        exact ⟨rfl, HB.out⟩
set_option maxRecDepth 100000 in
set_option maxHeartbeats 4000000 in
theorem rows_s1 (at' : Option Addr) (cp : Nat) (l : List Bool) (f : Int) (w : World) (hl : Rw bc1 1 w (.slice at' l.length cp) l) (hwd : Wds w) (hn : 60 < l.length) : Calls Tryd.prog 6 #[.slice at' l.length cp, .int .i64 f] w fun e w' => e = .returned (.bool true) ∧ Below w.heap.size w w' := by
  have t0 : decide ((l.length : Int) > 60) = true := by simp; omega
  have HWD := Lib.hid hwd
  clear hl hwd hn 
  go_enter Tryd.func6, Tryd.ntmps6
  go_wp2_with fail
  with_reducible refine (known _ HWD.out).mono ?_
  rintro e w2 ⟨rfl, hb⟩
  go_wp2_with fail
  go_returns
  exact ⟨rfl, hb⟩
set_option maxRecDepth 100000 in
set_option maxHeartbeats 4000000 in
theorem rows_s2 (at' : Option Addr) (cp : Nat) (l : List Bool) (f : Int) (w : World) (hl : Rw bc1 1 w (.slice at' l.length cp) l) (hwd : Wds w) (hn : l.length ≤ 60) (hf : f < 0) : Calls Tryd.prog 6 #[.slice at' l.length cp, .int .i64 f] w fun e w' => e = .returned (.bool true) ∧ Below w.heap.size w w' := by
  have t0 : decide ((l.length : Int) > 60) = false := by simp; omega
  have t1 : decide (f < 0) = true := by simp; omega
  have HWD := Lib.hid hwd
  clear hl hwd hn hf
  go_enter Tryd.func6, Tryd.ntmps6
  go_wp2_with fail
  with_reducible refine (known _ HWD.out).mono ?_
  rintro e w2 ⟨rfl, hb⟩
  go_wp2_with fail
  go_returns
  exact ⟨rfl, hb⟩
set_option maxRecDepth 100000 in
set_option maxHeartbeats 4000000 in
theorem rows_s3 (at' : Option Addr) (cp : Nat) (l : List Bool) (f : Int) (w : World) (hl : Rw bc1 1 w (.slice at' l.length cp) l) (hwd : Wds w) (hn : l.length ≤ 60) (hf : 1000 < f) : Calls Tryd.prog 6 #[.slice at' l.length cp, .int .i64 f] w fun e w' => e = .returned (.bool true) ∧ Below w.heap.size w w' := by
  have t0 : decide ((l.length : Int) > 60) = false := by simp; omega
  have t1 : decide (f < 0) = false := by simp; omega
  have t2 : decide (f > 1000) = true := by simp; omega
  have HWD := Lib.hid hwd
  clear hl hwd hn hf
  go_enter Tryd.func6, Tryd.ntmps6
  go_wp2_with fail
  with_reducible refine (known _ HWD.out).mono ?_
  rintro e w2 ⟨rfl, hb⟩
  go_wp2_with fail
  go_returns
  exact ⟨rfl, hb⟩
theorem trows (at' : Option Addr) (cp : Nat) (l : List Bool) (f : Int) (w : World) (hl : Rw bc1 1 w (.slice at' l.length cp) l) (hwd : Wds w) : Calls Tryd.prog 6 #[.slice at' l.length cp, .int .i64 f] w fun e w' => e = .returned (.bool true) ∧ Below w.heap.size w w' := by
  by_cases h1 : 60 < l.length
  · exact rows_s1 at' cp l f w hl hwd h1
  by_cases h2 : f < 0
  · exact rows_s2 at' cp l f w hl hwd (by omega) h2
  by_cases h3 : 1000 < f
  · exact rows_s3 at' cp l f w hl hwd (by omega) h3
  exact rows_ok at' cp l f w hl hwd (by omega) (by omega)
section
variable {H : Type} {enc : TypeId × Value → H} {w : World} {base : Nat} {spare : Nat → Bool} {held : Bool}
theorem open_bools {a : Option Addr} {len cap : Nat} {d : DataW H} {p : List MemPlace} (h : DataW.Trod enc Tryd.prog w base spare held 51 (.slice a len cap) d p) : ∃ l : List Bool, Rw bc1 1 w (.slice a l.length cap) l ∧ l.length = len := by
  obtain ⟨fuel, hf⟩ := h
  obtain ⟨s, l, e, r, _⟩ := rows_at (f := bc1) (sz := 1) (Q := fun _ => True) (o := 0) (cs := [.slice a len cap]) Tryd.underlying51 (by kernel_rfl) (by kernel_rfl) (by decide) (fun _ => rfl) (fun m cs y h => by
    obtain ⟨z, e, _⟩ := DataW.trod_bool Tryd.underlying4 h
    exact ⟨z, e, trivial⟩) ⟨_, by rw [show Tryd.prog.cellsOf 51 = 1 by kernel_rfl]; exact hf⟩
  have es : s.v = .slice a len cap := by simpa using e.symm
  rw [es] at r
  obtain ⟨_, a2, c2, e2, _⟩ := r.form
  have hl : l.length = len := by simp at e2; exact e2.2.1.symm
  exact ⟨l, by rw [hl]; exact r, hl⟩
end
end Go.Proofs.YtkkpckkkcclhhaaDoor
