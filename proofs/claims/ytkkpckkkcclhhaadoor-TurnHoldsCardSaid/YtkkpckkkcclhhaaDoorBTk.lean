/- The examples of the chapter. -/
import Derived.Test.YtkkpckkkcclhhaaDoorBTf
import Derived.Test.YtkkpckkkcclhhaaDoorBTn
import Derived.Test.YtkkpckkkcclhhaaDoorBNw
import Derived.Test.YtkkpckkkcclhhaaDoorBPu
import Derived.Deep.DeepCutAuto
import Derived.LoopTactic
import Derived.Deep.MidRow
namespace Go.Proofs.YtkkpckkkcclhhaaDoor
open Go.RowKit Plain
set_option linter.unusedVariables false
set_option linter.unusedSimpArgs false

namespace Plain
theorem nw0_ok (life : Int) : (nw0 life).Ok := by
  have e : ∀ p z, ((nw0 life).seat p).zs z = [] := fun p z => by
    have e : ((nw0 life).seat p).lib = [] ∧ ((nw0 life).seat p).hand = [] ∧ ((nw0 life).seat p).fld = [] ∧ ((nw0 life).seat p).grv = [] := by unfold Bd.seat; split <;> exact ⟨rfl, rfl, rfl, rfl⟩
    unfold Se.zs
    rw [e.1, e.2.1, e.2.2.1, e.2.2.2]
    split <;> (try rfl)
    split <;> (try rfl)
    split <;> rfl
  exact ⟨⟨(fun p z i hi => by rw [e] at hi; cases hi), (fun o ho => by cases ho), (fun x hx => by cases hx), (fun a ha => by cases ha), (fun x hx => by cases hx)⟩, ⟨fun p z => by rw [e]; simp, by simp [nw0, zeroB], by simp [nw0, zeroB], by simp [nw0, zeroB], by simp [nw0, zeroB], by simp [nw0, zeroB]⟩, (fun x hx => by cases hx), (fun x hx => by cases hx)⟩
theorem nw0_vb {life : Int} (h : 0 ≤ life ∧ life ≤ 9999) : VB (nw0 life) := by
  have hs : seB { zeroSe with li := life } = true := by
    unfold seB
    simp only [Bool.and_eq_true, decide_eq_true_eq]
    exact ⟨⟨⟨h, rfl⟩, by show (0 : Int) ≤ 0 ∧ (0 : Int) ≤ 7; omega⟩, by show (0 : Int) ≤ 0 ∧ (0 : Int) ≤ 255; omega⟩
  exact ⟨by unfold vNum nw0 zeroB; dsimp only; simp, hs, hs, ⟨rfl, rfl⟩, ⟨List.nodup_nil, (fun i o hi => by cases hi), rfl⟩, ⟨List.nodup_nil, (fun a ha => by cases ha), List.nodup_nil, List.nodup_nil, (fun x hx => by cases hx)⟩⟩
end Plain
theorem boxed {W W' : World} {old : Array Value} {s : Bs} {B : Bd} (h : W' = (W.alloc (.cells old 39)).setRow W.heap.size (bcells s B)) : Below W.heap.size W W' ∧ Bx W' W.heap.size s B := by
  have b1 : Below W.heap.size W (W.alloc (.cells old 39)) := (Below.refl _ _).alloc (Nat.le_refl _) _
  exact ⟨belowOnl b1 (by rw [h]; exact Onl.setRow (Onl.refl _ _) (.inl (by simp)) _ : Onl [W.heap.size] _ W') (by simp) b1.size, by rw [h]; exact Bx.row (heap_alloc_new _ _) s B⟩
theorem nextc (p : Int) (a : Bool) (r : Int) (w : World) (hw : Wds w) (h : nxP p a = r) : Calls Tryd.prog 9 #[.int .i64 p, .bool a] w fun e w' => e = .returned (.int .i64 r) ∧ w = w' := by
  subst h
  exact next p a w hw
set_option maxRecDepth 100000 in
set_option maxHeartbeats 4000000 in
theorem known (w : World) (hw : Wds w) : Calls Tryd.prog 12 #[] w fun e w' => e = .returned (.bool true) ∧ Below w.heap.size w w' := by
  have HWD := Lib.hid hw
  have HB : Hid (Below w.heap.size w w) := Lib.hid (Below.refl _ _)
  clear hw
  go_enter Tryd.func12, Tryd.ntmps12
  go_wp2_with fail
  with_reducible refine (nextc 5 true 6 _ HWD.out (by simp [nxP])).mono ?_
  rintro e w' ⟨rfl, rfl⟩
  go_wp2_with fail
  with_reducible refine (nextc 5 false 9 _ HWD.out (by simp [nxP])).mono ?_
  rintro e w' ⟨rfl, rfl⟩
  go_wp2_with fail
  with_reducible refine (nextc 10 true 1 _ HWD.out (by simp [nxP])).mono ?_
  rintro e w' ⟨rfl, rfl⟩
  go_wp2_with fail
  with_reducible refine (nextc 0 false 1 _ HWD.out (by simp [nxP])).mono ?_
  rintro e w' ⟨rfl, rfl⟩
  go_wp2_with fail
  with_reducible refine (nextc 11 true 0 _ HWD.out (by simp [nxP])).mono ?_
  rintro e w' ⟨rfl, rfl⟩
  go_wp2_with fail
  with_reducible refine (wordc 6 ⟨#[98, 108, 111, 99, 107]⟩ _ HWD.out rfl).mono ?_
  rintro e w' ⟨rfl, rfl⟩
  go_wp2_with fail
  with_reducible refine (wordc (-1) ⟨#[]⟩ _ HWD.out rfl).mono ?_
  rintro e w' ⟨rfl, rfl⟩
  go_wp2_with fail
  with_reducible refine (rnew0 20 _ (by omega)).mono ?_
  rintro e w1 ⟨sw1, rfl, ho, hb⟩
  replace HB := Lib.hid (below_via HB.out hb)
  replace HWD := Lib.hid (HWD.out.below hb)
  have HRb := Lib.hid ho.rd
  clear ho hb
  go_wp2_with (refine wpList_store_bh rfl _ _ rfl rfl rfl (heap_alloc_new _ _) rfl ?_)
  intro w2 hw0
  have hbx := boxed hw0.out
  obtain ⟨nb, hnb⟩ : ∃ n, n = w1.heap.size := ⟨_, rfl⟩
  rw [← hnb] at hbx ⊢
  have hb := hbx.1
  rw [hnb] at hb
  replace HB := Lib.hid (below_via HB.out hb)
  replace HWD := Lib.hid (HWD.out.below hb)
  replace HRb := Lib.hid (HRb.out.below hb)
  have HXb := Lib.hid hbx.2
  clear hw0 hbx hnb hb
  have HKb : Hid (nw0 20).Ok := Lib.hid (nw0_ok 20)
  have HVb : Hid (VB (nw0 20)) := Lib.hid (nw0_vb (by omega))
  go_wp2_with (refine wpList_load_bx _ rfl rfl HXb.out (by kernel_rfl) ?_)
  with_reducible refine (begin_ok _ (nw0 20) _ HRb.out HKb.out HVb.out (by decide)).mono ?_
  rintro e w3 ⟨sw3, rfl, ho, hb⟩
  replace HXb := Lib.hid (HXb.out.below hb)
  replace HRb := Lib.hid (HRb.out.below hb)
  replace HB := Lib.hid (below_via HB.out hb)
  replace HWD := Lib.hid (HWD.out.below hb)
  have HRc := Lib.hid ho.rd
  clear ho hb
  go_wp2_with (refine wpList_store_bh rfl _ _ rfl rfl rfl (heap_alloc_new _ _) rfl ?_)
  intro w4 hw0
  have hbx := boxed hw0.out
  obtain ⟨nc, hnc⟩ : ∃ n, n = w3.heap.size := ⟨_, rfl⟩
  rw [← hnc] at hbx ⊢
  have hb := hbx.1
  rw [hnc] at hb
  replace HXb := Lib.hid (HXb.out.below hb)
  replace HRb := Lib.hid (HRb.out.below hb)
  replace HB := Lib.hid (below_via HB.out hb)
  replace HWD := Lib.hid (HWD.out.below hb)
  replace HRc := Lib.hid (HRc.out.below hb)
  have HXc := Lib.hid hbx.2
  clear hw0 hbx hnc hb
  have HKc : Hid (beB (nw0 20)).Ok := Lib.hid (Ok.be HKb.out)
  have HVc : Hid (VB (beB (nw0 20))) := Lib.hid (VB.be HVb.out (by decide))
  go_wp2_with (refine wpList_load_bx _ rfl rfl HXc.out (by kernel_rfl) ?_)
  with_reducible refine (begin_ok _ (beB (nw0 20)) _ HRc.out HKc.out HVc.out (by decide)).mono ?_
  rintro e w5 ⟨sw5, rfl, ho, hb⟩
  replace HXb := Lib.hid (HXb.out.below hb)
  replace HRb := Lib.hid (HRb.out.below hb)
  replace HXc := Lib.hid (HXc.out.below hb)
  replace HRc := Lib.hid (HRc.out.below hb)
  replace HB := Lib.hid (below_via HB.out hb)
  replace HWD := Lib.hid (HWD.out.below hb)
  have HRd := Lib.hid ho.rd
  clear ho hb
  go_wp2_with (refine wpList_store_bh rfl _ _ rfl rfl rfl (heap_alloc_new _ _) rfl ?_)
  intro w6 hw0
  have hbx := boxed hw0.out
  obtain ⟨nd, hnd⟩ : ∃ n, n = w5.heap.size := ⟨_, rfl⟩
  rw [← hnd] at hbx ⊢
  have hb := hbx.1
  rw [hnd] at hb
  replace HXb := Lib.hid (HXb.out.below hb)
  replace HRb := Lib.hid (HRb.out.below hb)
  replace HXc := Lib.hid (HXc.out.below hb)
  replace HRc := Lib.hid (HRc.out.below hb)
  replace HB := Lib.hid (below_via HB.out hb)
  replace HWD := Lib.hid (HWD.out.below hb)
  replace HRd := Lib.hid (HRd.out.below hb)
  have HXd := Lib.hid hbx.2
  clear hw0 hbx hnd hb
  have c1 : w6.cell? ⟨nc, 33, none⟩ = some (.int .i64 1) := HXc.out.cell 33
  have c2 : w6.cell? ⟨nc, 34, none⟩ = some (.int .i64 0) := HXc.out.cell 34
  have c3 : w6.cell? ⟨nd, 33, none⟩ = some (.int .i64 2) := HXd.out.cell 33
  have c4 : w6.cell? ⟨nd, 34, none⟩ = some (.int .i64 1) := HXd.out.cell 34
  go_upto_region 8 with fail
  clear c1 c2 c3 c4
  go_wp2_with (refine wpList_load_bx _ rfl rfl HXb.out (by kernel_rfl) ?_)
  with_reducible refine (pass_state _ (nw0 20) _ HRb.out HKb.out HVb.out (by decide)).mono ?_
  rintro e w7 ⟨sw7, rfl, ho, hb⟩
  replace HXb := Lib.hid (HXb.out.below hb)
  replace HRb := Lib.hid (HRb.out.below hb)
  replace HXc := Lib.hid (HXc.out.below hb)
  replace HRc := Lib.hid (HRc.out.below hb)
  replace HXd := Lib.hid (HXd.out.below hb)
  replace HRd := Lib.hid (HRd.out.below hb)
  replace HB := Lib.hid (below_via HB.out hb)
  replace HWD := Lib.hid (HWD.out.below hb)
  clear ho hb
  go_upto_region 9 with fail
  go_wp2_with (refine wpList_load_bx _ rfl rfl HXb.out (by kernel_rfl) ?_)
  with_reducible refine (give_ok _ (nw0 20) 1 0 _ HRb.out HKb.out HVb.out (by omega) (by omega)).mono ?_
  rintro e w8 ⟨sw8, rfl, ho, hb⟩
  replace HXb := Lib.hid (HXb.out.below hb)
  replace HRb := Lib.hid (HRb.out.below hb)
  replace HXc := Lib.hid (HXc.out.below hb)
  replace HRc := Lib.hid (HRc.out.below hb)
  replace HXd := Lib.hid (HXd.out.below hb)
  replace HRd := Lib.hid (HRd.out.below hb)
  replace HB := Lib.hid (below_via HB.out hb)
  replace HWD := Lib.hid (HWD.out.below hb)
  have HRg := Lib.hid ho.rd
  clear ho hb
  go_wp2_with (refine wpList_store_bh rfl _ _ rfl rfl rfl (heap_alloc_new _ _) rfl ?_)
  intro w9 hw0
  have hbx := boxed hw0.out
  obtain ⟨ng, hng⟩ : ∃ n, n = w8.heap.size := ⟨_, rfl⟩
  rw [← hng] at hbx ⊢
  have hb := hbx.1
  rw [hng] at hb
  replace HXb := Lib.hid (HXb.out.below hb)
  replace HRb := Lib.hid (HRb.out.below hb)
  replace HXc := Lib.hid (HXc.out.below hb)
  replace HRc := Lib.hid (HRc.out.below hb)
  replace HXd := Lib.hid (HXd.out.below hb)
  replace HRd := Lib.hid (HRd.out.below hb)
  replace HB := Lib.hid (below_via HB.out hb)
  replace HWD := Lib.hid (HWD.out.below hb)
  replace HRg := Lib.hid (HRg.out.below hb)
  have HXg := Lib.hid hbx.2
  clear hw0 hbx hng hb
  have HKg : Hid (giB (nw0 20) 1 0).Ok := Lib.hid (giB_ok HKb.out _ _)
  have HVg : Hid (VB (giB (nw0 20) 1 0)) := Lib.hid (VB.gi HVb.out (by omega) (by omega))
  go_wp2_with (refine wpList_load_bx _ rfl rfl HXg.out (by kernel_rfl) ?_)
  with_reducible refine (pass_one _ (giB (nw0 20) 1 0) _ HRg.out HKg.out HVg.out (by decide) (by decide)).mono ?_
  rintro e w10 ⟨sw10, rfl, ho, hb⟩
  replace HXb := Lib.hid (HXb.out.below hb)
  replace HRb := Lib.hid (HRb.out.below hb)
  replace HXc := Lib.hid (HXc.out.below hb)
  replace HRc := Lib.hid (HRc.out.below hb)
  replace HXd := Lib.hid (HXd.out.below hb)
  replace HRd := Lib.hid (HRd.out.below hb)
  replace HXg := Lib.hid (HXg.out.below hb)
  replace HRg := Lib.hid (HRg.out.below hb)
  replace HB := Lib.hid (below_via HB.out hb)
  replace HWD := Lib.hid (HWD.out.below hb)
  have HRh := Lib.hid ho.rd
  clear ho hb
  go_wp2_with (refine wpList_store_bh rfl _ _ rfl rfl rfl (heap_alloc_new _ _) rfl ?_)
  intro w11 hw0
  have hbx := boxed hw0.out
  obtain ⟨nh, hnh⟩ : ∃ n, n = w10.heap.size := ⟨_, rfl⟩
  rw [← hnh] at hbx ⊢
  have hb := hbx.1
  rw [hnh] at hb
  replace HXb := Lib.hid (HXb.out.below hb)
  replace HRb := Lib.hid (HRb.out.below hb)
  replace HXc := Lib.hid (HXc.out.below hb)
  replace HRc := Lib.hid (HRc.out.below hb)
  replace HXd := Lib.hid (HXd.out.below hb)
  replace HRd := Lib.hid (HRd.out.below hb)
  replace HXg := Lib.hid (HXg.out.below hb)
  replace HRg := Lib.hid (HRg.out.below hb)
  replace HB := Lib.hid (below_via HB.out hb)
  replace HWD := Lib.hid (HWD.out.below hb)
  replace HRh := Lib.hid (HRh.out.below hb)
  have HXh := Lib.hid hbx.2
  clear hw0 hbx hnh hb
  have HKh : Hid (giB (giB (nw0 20) 1 0) (1 - (giB (nw0 20) 1 0).ho) ((giB (nw0 20) 1 0).pa + 1)).Ok := Lib.hid (giB_ok HKg.out _ _)
  have HVh : Hid (VB (giB (giB (nw0 20) 1 0) (1 - (giB (nw0 20) 1 0).ho) ((giB (nw0 20) 1 0).pa + 1))) := Lib.hid (VB.gi HVg.out (by decide) (by decide))
  have c1 : w11.cell? ⟨nh, 36, none⟩ = some (.int .i64 0) := HXh.out.cell 36
  have c2 : w11.cell? ⟨nh, 37, none⟩ = some (.int .i64 1) := HXh.out.cell 37
  go_upto_region 13 with fail
  clear c1 c2
  go_wp2_with (refine wpList_load_bx _ rfl rfl HXh.out (by kernel_rfl) ?_)
  with_reducible refine (pass_two _ (giB (giB (nw0 20) 1 0) (1 - (giB (nw0 20) 1 0).ho) ((giB (nw0 20) 1 0).pa + 1)) _ HRh.out HKh.out HVh.out (by decide) (by decide)).mono ?_
  rintro e w12 ⟨sw12, rfl, ho, hb⟩
  replace HXb := Lib.hid (HXb.out.below hb)
  replace HRb := Lib.hid (HRb.out.below hb)
  replace HXc := Lib.hid (HXc.out.below hb)
  replace HRc := Lib.hid (HRc.out.below hb)
  replace HXd := Lib.hid (HXd.out.below hb)
  replace HRd := Lib.hid (HRd.out.below hb)
  replace HXg := Lib.hid (HXg.out.below hb)
  replace HRg := Lib.hid (HRg.out.below hb)
  replace HXh := Lib.hid (HXh.out.below hb)
  replace HRh := Lib.hid (HRh.out.below hb)
  replace HB := Lib.hid (below_via HB.out hb)
  replace HWD := Lib.hid (HWD.out.below hb)
  have HRk := Lib.hid ho.rd
  clear ho hb
  go_wp2_with (refine wpList_store_bh rfl _ _ rfl rfl rfl (heap_alloc_new _ _) rfl ?_)
  intro w13 hw0
  have hbx := boxed hw0.out
  obtain ⟨nk, hnk⟩ : ∃ n, n = w12.heap.size := ⟨_, rfl⟩
  rw [← hnk] at hbx ⊢
  have hb := hbx.1
  rw [hnk] at hb
  replace HXb := Lib.hid (HXb.out.below hb)
  replace HRb := Lib.hid (HRb.out.below hb)
  replace HXc := Lib.hid (HXc.out.below hb)
  replace HRc := Lib.hid (HRc.out.below hb)
  replace HXd := Lib.hid (HXd.out.below hb)
  replace HRd := Lib.hid (HRd.out.below hb)
  replace HXg := Lib.hid (HXg.out.below hb)
  replace HRg := Lib.hid (HRg.out.below hb)
  replace HXh := Lib.hid (HXh.out.below hb)
  replace HRh := Lib.hid (HRh.out.below hb)
  replace HB := Lib.hid (below_via HB.out hb)
  replace HWD := Lib.hid (HWD.out.below hb)
  replace HRk := Lib.hid (HRk.out.below hb)
  have HXk := Lib.hid hbx.2
  clear hw0 hbx hnk hb
  have HKk : Hid (giB (giB (giB (nw0 20) 1 0) (1 - (giB (nw0 20) 1 0).ho) ((giB (nw0 20) 1 0).pa + 1)) (-1) 0).Ok := Lib.hid (giB_ok HKh.out _ _)
  have HVk : Hid (VB (giB (giB (giB (nw0 20) 1 0) (1 - (giB (nw0 20) 1 0).ho) ((giB (nw0 20) 1 0).pa + 1)) (-1) 0)) := Lib.hid (VB.gi HVh.out (by omega) (by omega))
  go_wp2_with (refine wpList_load_bx _ rfl rfl HXk.out (by kernel_rfl) ?_)
  with_reducible refine (pass_state _ (giB (giB (giB (nw0 20) 1 0) (1 - (giB (nw0 20) 1 0).ho) ((giB (nw0 20) 1 0).pa + 1)) (-1) 0) _ HRk.out HKk.out HVk.out (by decide)).mono ?_
  rintro e w14 ⟨sw14, rfl, ho, hb⟩
  replace HXb := Lib.hid (HXb.out.below hb)
  replace HRb := Lib.hid (HRb.out.below hb)
  replace HXc := Lib.hid (HXc.out.below hb)
  replace HRc := Lib.hid (HRc.out.below hb)
  replace HXd := Lib.hid (HXd.out.below hb)
  replace HRd := Lib.hid (HRd.out.below hb)
  replace HXg := Lib.hid (HXg.out.below hb)
  replace HRg := Lib.hid (HRg.out.below hb)
  replace HXh := Lib.hid (HXh.out.below hb)
  replace HRh := Lib.hid (HRh.out.below hb)
  replace HXk := Lib.hid (HXk.out.below hb)
  replace HRk := Lib.hid (HRk.out.below hb)
  replace HB := Lib.hid (below_via HB.out hb)
  replace HWD := Lib.hid (HWD.out.below hb)
  clear ho hb
  have c1 : w14.cell? ⟨nk, 36, none⟩ = some (.int .i64 (-1)) := HXk.out.cell 36
  have c2 : w14.cell? ⟨nk, 37, none⟩ = some (.int .i64 0) := HXk.out.cell 37
  go_wp2_with fail
  exact bodyPost_ret (v := .bool true) (by simp [results, Tryd.results12, go_sem]) rfl ⟨rfl, HB.out⟩
end Go.Proofs.YtkkpckkkcclhhaaDoor
