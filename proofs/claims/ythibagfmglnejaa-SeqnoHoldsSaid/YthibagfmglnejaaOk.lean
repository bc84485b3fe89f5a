/- A window accepts a number. -/
import Derived.Test.YthibagfmglnejaaAc
namespace Go.Proofs.Ythibagfmglnejaa
open Go.RowKit Plain
set_option linter.unusedVariables false
set_option linter.unusedSimpArgs false

def mid1 (l : List Bool) (g : Nat) (ex : List Value) : List Value := (l.drop g).map Value.bool ++ (l.map Value.bool ++ ex).drop (l.length - g)
theorem copy_src {W : World} {D g j : Nat} {l : List Bool} {ex : List Value} {v : Value} (h : DAt W D l ex) (hj : ((l.drop g).map Value.bool)[j]? = some v) : W.cell? ((⟨D, g, none⟩ : Addr).add j) = some v := by
  rw [Go.WideShapes.add_plain]
  rw [List.getElem?_map, List.getElem?_drop] at hj
  cases hb : l[g + j]? with
  | none => rw [hb] at hj; simp at hj
  | some b =>
    rw [hb] at hj
    simp at hj
    subst hj
    exact h.cell hb
theorem bool_one {l : List Bool} {v : Value} (h : v ∈ l.map Value.bool) : v.oneCell' = true := by
  obtain ⟨b, _, rfl⟩ := List.mem_map.1 h
  rfl
theorem row_some {W : World} {D i : Nat} {X : List Value} (h : W.heap[D]? = some (.cells X.toArray 4 (0, 0))) (hi : i < X.length) : (W.cell? ⟨D, i, none⟩).isSome = true := by
  rw [cell_of_row W D i _ 4 (0, 0) h]
  simp [hi]
theorem DAt.other {W : World} {D : Nat} {l : List Bool} {ex : List Value} (h : DAt W D l ex) {q : Addr} (hq : q.block ≠ D) (v : Value) : DAt (W.setCell q v) D l ex := (Below.heap_setCell _ _ _ _ (Ne.symm hq)).trans h
theorem index27s (D : Nat) (l : List Bool) (d cap : Nat) (ex : List Value) (v : Int) (w : World) (hd : DAt w D (l.set d true) ex) (hl1 : 1 ≤ l.length) (hl2 : l.length ≤ 1024) (hv : idxF (l.set d true) = v) : Calls Try.prog 27 #[.slice (some ⟨D, 0, none⟩) l.length cap, .bool false] w fun e w' => e = .returned (.int .i64 v) ∧ w = w' := by
  have h := index27c D (l.set d true) cap ex v w hd (by simpa using hl1) (by simpa using hl2) hv
  simpa using h
/-- what the row holds when it has been copied and cleared -/
theorem fin_mid {W : World} {D g m : Nat} {l : List Bool} {ex : List Value} (h : W.heap[D]? = some (.cells (mid1 l g ex).toArray 4 (0, 0))) (hg : g = gone l) (hm : m + g = l.length) : DAt (W.setCells D m (List.replicate g (.bool false))) D (shift l) ex := by
  have hgl := gone_le l
  have h2 := heap_setCells D 4 (List.replicate g (.bool false)) m _ W h (by simp [mid1]; omega)
  unfold DAt
  rw [h2]
  congr 3
  have e1 : l.length - g = m := by omega
  have e2 : ((l.drop g).map Value.bool).length = m := by simp; omega
  have e3 : (l.map Value.bool ++ ex).drop (m + g) = ex := by rw [hm]; simp
  unfold mid1
  rw [e1, List.take_left' e2, List.length_replicate, ← List.drop_drop, List.drop_left' e2, List.drop_drop, e3]
  simp [shift, hg]
theorem clear_none (a : Option Addr) (c : Nat) (ty : TypeId) (w : World) : (Builtin.clear_ #[48] ty #[.slice a 0 c]).run Try.prog w = .ok (.tuple #[]) w := by
  cases a <;> simp [Builtin.clear_, run_underlying Try.underlying48]
theorem fin_zero {W : World} {D : Nat} {l : List Bool} {ex : List Value} (h : W.heap[D]? = some (.cells (mid1 l 0 ex).toArray 4 (0, 0))) (hg : gone l = 0) : DAt W D (shift l) ex := by
  unfold DAt
  rw [h]
  have e3 : (l.map Value.bool ++ ex).drop l.length = ex := by simp
  simp [mid1, shift, hg]
theorem fin_all {W : World} {D : Nat} {l : List Bool} {ex : List Value} (h : DAt W D l ex) (hg : gone l = l.length) : DAt (W.setCells D 0 (List.replicate l.length (.bool false))) D (shift l) ex := by
  have h2 := heap_setCells D 4 (List.replicate l.length (.bool false)) 0 _ W h (by simp)
  unfold DAt
  rw [h2]
  congr 3
  simp [shift, hg]

theorem Onl.setCells2 {S : List Nat} {w W : World} {g o : Nat} {vs : List Value} (h : Onl S w W) (hq : g ∈ S ∨ w.heap.size ≤ g) : Onl S w (W.setCells g o vs) := Onl.setCells vs o W h hq

set_option maxRecDepth 100000 in
set_option maxHeartbeats 2000000 in
theorem accept17_gze (P D : Nat) (f : Int) (l : List Bool) (ex : List Value) (w : World) (hw : WinAt w P D f l l.length ex) (n : Int) (d : Nat) (hn : U16 n) (HD : Hid (dist f n = (d : Int))) (HV : Hid (hasN l d = false)) (hdl : d < l.length) (hdf : Hid (l[d]? = some false))  (HI : Hid (idxF (l.set d true) = 0)) (HG : Hid (gone (l.set d true) = 0)) :
    Calls Try.prog 17 #[.pointer (some ⟨P, 0, none⟩), .int .u16 n] w fun e w' => e = .returned (.int .i64 0) ∧ (w'.heap[P]? = some (.cells #[.int .u16 f, .slice (some ⟨D, 0, none⟩) l.length l.length] 50 (0, 0)) ∧ DAt w' D (shift (l.set d true)) ex) ∧ Onl [P, D] w w' := by
  have k0 := hw.cell0
  have k1 := hw.cell1
  have hl1 := hw.l1
  have hl2 := hw.l2
  have hf := hw.f0
  have HW := Lib.hid hw
  clear hw
  have fp0 := HW.out.free 0
  have fp1 := HW.out.free 1
  have hlt := HW.out.plt
  have HD0 := Lib.hid HW.out.d
  have HO := Lib.hid (Below.refl w.heap.size w)
  have hs1 := hl1
  have hs2 := hl2
  have hcap := HW.out.c
  have hfa := hf.1
  have hfb := hf.2
  have q1 : decide ((l.length : Int) ≤ (d : Int)) = false := by simp; omega
  have q2 : (0 : Int) ≤ (d : Int) := by omega
  have q3 : (d : Int) < (l.length : Int) := by omega
  go_enter Try.func17, Try.ntmps17
  go_wp2_with fail
  with_reducible refine (zero26 P D l l.length _ k1 hl1).mono ?_
  rintro e w' ⟨rfl, rfl⟩
  go_wp2_with fail
  with_reducible refine (has21c P D f l l.length ex _ HW.out n d _ hn HD HV.out).mono ?_
  rintro e w' ⟨rfl, rfl⟩
  go_wp2_with fail
  refine rg17_5 (w0 := w) (B := 0) (n := w.heap.size) (L := [(P, 0, .int .u16 f), (P, 1, .slice (some ⟨D, 0, none⟩) l.length l.length)]) (E := fun _ => True) (F := fun W => DAt W D l ex ∧ Below w.heap.size w W) (by kernel_rfl) (by kernel_rfl) ⟨by go_grown, by go_size, (by simp [go_sem, k0, k1, fp0, fp1] <;> omega)⟩ trivial (fun _ _ _ _ => trivial) ⟨HD0.out, HO.out⟩ (fun _ _ h hb => ⟨h.1.below hb, below_via h.2 hb⟩) (fun w1 K_w1 E_w1 F_w1 => ?_)
  have _ne : Nonempty (KX (0) w (w.heap.size) [(P, 0, .int .u16 f), (P, 1, .slice (some ⟨D, 0, none⟩) l.length l.length)] (fun _ => True)) := ⟨⟨_, K_w1, E_w1⟩⟩
  repeat (go_big_quiet_step (fail))
  refine wpQuiet_nil ?_
  have rP0 : ∀ s : KX (0) w (w.heap.size) [(P, 0, .int .u16 f), (P, 1, .slice (some ⟨D, 0, none⟩) l.length l.length)] (fun _ => True), s.val.cell? ⟨P, 0, none⟩ = some (.int .u16 f) := fun s => s.kept.at (by simp)
  have rP1 : ∀ s : KX (0) w (w.heap.size) [(P, 0, .int .u16 f), (P, 1, .slice (some ⟨D, 0, none⟩) l.length l.length)] (fun _ => True), s.val.cell? ⟨P, 1, none⟩ = some (.slice (some ⟨D, 0, none⟩) l.length l.length) := fun s => s.kept.at (by simp)
  repeat (go_big_quiet_step (fail))
  refine wpQuiet_nil ?_
  clear rP0 rP1
  repeat (go_big_quiet_step (fail))
  refine wpQuiet_nil ?_
  have KH_w1 := Lib.hid K_w1
  have hw_w1 := K_w1.below
  have hz_w1 := K_w1.size
  have lP_w1 : P < w1.heap.size := by omega
  clear k0 k1 fp0 fp1
  clear K_w1
  have HD0 := Lib.hid (F_w1.1)
  have HO := Lib.hid (F_w1.2)
  clear E_w1 F_w1
  refine ⟨fun K hK0 => ?_, trivial⟩
  have hK := Lib.hid hK0
  clear hK0
  go_wp2_with fail
  with_reducible refine (dist11c f n d _ hf hn HD.out).mono ?_
  rintro e w' ⟨rfl, rfl⟩
  go_wp2_with fail
  first | (refine ⟨rfl, ⟨⟨_, KH_w1.out, trivial⟩, rfl⟩, hK.out _ _ ?_⟩; clear hK K) | (refine ⟨⟨⟨_, KH_w1.out, trivial⟩, rfl⟩, hK.out _ _ ?_⟩; clear hK K)
  repeat (go_big_quiet_step (fail))
  refine wpQuiet_nil ?_
  clear _ne
  go_wp2_with fail
  refine rg17_7 (w0 := w) (B := 0) (n := w.heap.size) (L := [(P, 0, .int .u16 f), (P, 1, .slice (some ⟨D, 0, none⟩) l.length l.length)]) (E := fun _ => True) (F := fun W => DAt W D l ex ∧ Below w.heap.size w W) (by kernel_rfl) (by kernel_rfl) (KH_w1.out.step (by omega) (by go_grown)) trivial (fun _ _ _ _ => trivial) ⟨HD0.out.below (by go_grown), below_via HO.out (by go_grown)⟩ (fun _ _ h hb => ⟨h.1.below hb, below_via h.2 hb⟩) (fun w2 K_w2 E_w2 F_w2 => ?_)
  have _ne : Nonempty (KX (0) w (w.heap.size) [(P, 0, .int .u16 f), (P, 1, .slice (some ⟨D, 0, none⟩) l.length l.length)] (fun _ => True)) := ⟨⟨_, K_w2, E_w2⟩⟩
  repeat (go_big_quiet_step (fail))
  refine wpQuiet_nil ?_
  have rP0 : ∀ s : KX (0) w (w.heap.size) [(P, 0, .int .u16 f), (P, 1, .slice (some ⟨D, 0, none⟩) l.length l.length)] (fun _ => True), s.val.cell? ⟨P, 0, none⟩ = some (.int .u16 f) := fun s => s.kept.at (by simp)
  have rP1 : ∀ s : KX (0) w (w.heap.size) [(P, 0, .int .u16 f), (P, 1, .slice (some ⟨D, 0, none⟩) l.length l.length)] (fun _ => True), s.val.cell? ⟨P, 1, none⟩ = some (.slice (some ⟨D, 0, none⟩) l.length l.length) := fun s => s.kept.at (by simp)
  repeat (go_big_quiet_step (fail))
  refine wpQuiet_nil ?_
  clear rP0 rP1
  have KH_w2 := Lib.hid K_w2
  have hw_w2 := K_w2.below
  have hz_w2 := K_w2.size
  have lP_w2 : P < w2.heap.size := by omega
  clear lP_w1
  clear K_w2
  have HD0 := Lib.hid (F_w2.1)
  have HO := Lib.hid (F_w2.2)
  clear E_w2 F_w2
  refine ⟨fun K hK0 => ?_, trivial⟩
  have hK := Lib.hid hK0
  clear hK0
  go_wp2_with fail
  with_reducible refine (dist11c f n d _ hf hn HD.out).mono ?_
  rintro e w' ⟨rfl, rfl⟩
  go_wp2_with fail
  first | (refine ⟨rfl, ⟨⟨_, KH_w2.out, trivial⟩, rfl⟩, hK.out _ _ ?_⟩; clear hK K) | (refine ⟨⟨⟨_, KH_w2.out, trivial⟩, rfl⟩, hK.out _ _ ?_⟩; clear hK K)
  repeat (go_big_quiet_step (fail))
  refine wpQuiet_nil ?_
  refine ⟨fun K hK0 => ?_, trivial⟩
  have hK := Lib.hid hK0
  clear hK0
  have kd_w2 : w2.cell? ⟨D, d, none⟩ = some (.bool false) := HD0.out.cell hdf.out
  have fd_w2 : w2.frozen? ⟨D, d, none⟩ = false := HD0.out.free d
  go_wp2_with fail
  first | (refine ⟨rfl, hK.out _ _ ?_⟩; clear hK K) | (refine hK.out _ _ ?_; clear hK K)
  clear _ne
  obtain ⟨w3, hw3⟩ : ∃ w3, w3 = w2.setCell ⟨D, d, none⟩ (.bool true) := ⟨_, rfl⟩
  rw [← hw3]
  have HD1 : Hid (DAt w3 D (l.set d true) ex) := Lib.hid (by rw [hw3]; exact HD0.out.set d true hdl)
  have HO3 : Hid (Onl [D] w w3) := Lib.hid (by rw [hw3]; exact (Onl.of HO.out).setCell (.inl (by simp)) _)
  replace HO : Hid (Onl [P, D] w w3) := Lib.hid (by rw [hw3]; exact (Onl.of HO.out).setCell (.inl (by simp)) _)
  have KH_w3 : Hid (Kept 0 w (w.heap.size) [(P, 0, .int .u16 f), (P, 1, .slice (some ⟨D, 0, none⟩) l.length l.length)] w3) := Lib.hid (by rw [hw3]; exact KH_w2.out.onl (S := [D]) ((Onl.refl _ _).setCell (.inl (by simp)) _) (by omega) (by simp) (by simp [Ne.symm HW.out.ne]))
  have hz_w3 := KH_w3.out.size
  clear hw3 kd_w2 fd_w2
  have cP0_w3 := KH_w3.out.at (b := P) (o := 0) (v := .int .u16 f) (by simp)
  have fP0_w3 := KH_w3.out.free (b := P) (o := 0) (v := .int .u16 f) (by simp)
  have cP1_w3 := KH_w3.out.at (b := P) (o := 1) (v := .slice (some ⟨D, 0, none⟩) l.length l.length) (by simp)
  have fP1_w3 := KH_w3.out.free (b := P) (o := 1) (v := .slice (some ⟨D, 0, none⟩) l.length l.length) (by simp)
  go_wp2_with fail
  with_reducible refine (index27s D l d l.length ex _ _ HD1.out hs1 hs2 HI.out).mono ?_
  rintro e w' ⟨rfl, rfl⟩
  go_wp2_with fail
  obtain ⟨w4, hw4⟩ : ∃ w4, w4 = w3.setCell ⟨P, 0, none⟩ (.int .u16 f) := ⟨_, rfl⟩
  rw [← hw4]
  replace HD1 : Hid (DAt w4 D (l.set d true) ex) := Lib.hid (by rw [hw4]; exact HD1.out.other (Ne.symm HW.out.ne) _)
  replace HO : Hid (Onl [P, D] w w4) := Lib.hid (by rw [hw4]; exact HO.out.setCell (.inl (by simp)) _)
  have KH_w4 : Hid (Kept 0 w (w.heap.size) [(P, 0, .int .u16 f), (P, 1, .slice (some ⟨D, 0, none⟩) l.length l.length)] w4) := Lib.hid (by rw [hw4]; exact ⟨KH_w3.out.below.setCell (Nat.zero_le _) _, by simpa [World.setCell] using KH_w3.out.size, by simp [go_sem, cP0_w3, cP1_w3, fP0_w3, fP1_w3]; omega⟩)
  have hz_w4 := KH_w4.out.size
  have hlt4 : P < w4.heap.size := by omega
  have HP4 : Hid (w4.heap[P]? = some (.cells #[.int .u16 f, .slice (some ⟨D, 0, none⟩) l.length l.length] 50 (0, 0))) := Lib.hid (by rw [hw4, heap_setCell_same w3 P 0 _ 50 _ ((HO3.out.block P hlt (by simpa using Ne.symm HW.out.ne)).trans HW.out.p)]; rfl)
  clear hw4 cP0_w3 cP1_w3 fP0_w3 fP1_w3
  refine rg17_12 (w0 := w) (B := 0) (n := w.heap.size) (L := [(P, 0, .int .u16 f), (P, 1, .slice (some ⟨D, 0, none⟩) l.length l.length)]) (E := fun _ => True) (F := fun W => DAt W D (l.set d true) ex ∧ Onl [P, D] w W ∧ Onl [D] w4 W) (by kernel_rfl) (by kernel_rfl) (KH_w4.out.step (by omega) (by go_grown)) trivial (fun _ _ _ _ => trivial) ⟨HD1.out, HO.out, Onl.refl _ _⟩ (fun _ _ h hb => ⟨h.1.below hb, h.2.1.grow hb, h.2.2.grow hb⟩) (fun w5 K_w5 E_w5 F_w5 => ?_)
  have _ne : Nonempty (KX (0) w (w.heap.size) [(P, 0, .int .u16 f), (P, 1, .slice (some ⟨D, 0, none⟩) l.length l.length)] (fun _ => True)) := ⟨⟨_, K_w5, E_w5⟩⟩
  repeat (go_big_quiet_step (fail))
  refine wpQuiet_nil ?_
  have rP0 : ∀ s : KX (0) w (w.heap.size) [(P, 0, .int .u16 f), (P, 1, .slice (some ⟨D, 0, none⟩) l.length l.length)] (fun _ => True), s.val.cell? ⟨P, 0, none⟩ = some (.int .u16 f) := fun s => s.kept.at (by simp)
  have rP1 : ∀ s : KX (0) w (w.heap.size) [(P, 0, .int .u16 f), (P, 1, .slice (some ⟨D, 0, none⟩) l.length l.length)] (fun _ => True), s.val.cell? ⟨P, 1, none⟩ = some (.slice (some ⟨D, 0, none⟩) l.length l.length) := fun s => s.kept.at (by simp)
  repeat (go_big_quiet_step (fail))
  refine wpQuiet_nil ?_
  clear rP0 rP1
  repeat (go_big_quiet_step (fail))
  refine wpQuiet_nil ?_
  have KH_w5 := Lib.hid K_w5
  have hw_w5 := K_w5.below
  have hz_w5 := K_w5.size
  have lP_w5 : P < w5.heap.size := by omega
  clear K_w5
  have HD1 := Lib.hid (F_w5.1)
  have HO := Lib.hid (F_w5.2.1)
  have HQ := Lib.hid (F_w5.2.2)
  clear E_w5 F_w5
  refine ⟨fun K hK0 => ?_, trivial⟩
  have hK := Lib.hid hK0
  clear hK0
  refine wpList_copy_own rfl (.tmp 61) (.tmp 67) 48 48 rfl 4 Try.underlying48 (by kernel_rfl) D 0 _ _ ⟨D, 0, none⟩ _ _ rfl rfl _ 4 HD1.out (((l.set d true).drop 0).map Value.bool) (by rw [List.length_map, List.length_drop, List.length_set]; show _ = min _ _; omega) (fun j v hj => copy_src HD1.out hj) (by simp) (fun v hv => bool_one hv) ?_
  obtain ⟨w9, hw9⟩ : ∃ w9, w9 = w5.setRow D (((((l.set d true).map Value.bool ++ ex).toArray.toList.take 0) ++ ((((l.set d true).drop 0).map Value.bool) ++ (((l.set d true).map Value.bool ++ ex).toArray.toList.drop (0 + (((l.set d true).drop 0).map Value.bool).length))))).toArray := ⟨_, rfl⟩
  rw [← hw9]
  have HR : Hid (w9.heap[D]? = some (.cells (mid1 (l.set d true) 0 ex).toArray 4 (0, 0))) := Lib.hid (by rw [hw9, setRow_heap _ D _ _ 4 (0, 0) HD1.out]; simp [mid1])
  replace HO : Hid (Onl [P, D] w w9) := Lib.hid (by rw [hw9]; exact HO.out.setRow (.inl (by simp)) _)
  replace HQ : Hid (Onl [D] w4 w9) := Lib.hid (by rw [hw9]; exact HQ.out.setRow (.inl (by simp)) _)
  have KH_w9 : Hid (Kept 0 w (w.heap.size) [(P, 0, .int .u16 f), (P, 1, .slice (some ⟨D, 0, none⟩) l.length l.length)] w9) := Lib.hid (by rw [hw9]; exact KH_w5.out.onl (S := [D]) ((Onl.refl _ _).setRow (.inl (by simp)) _) (by omega) (by simp) (by simp [Ne.symm HW.out.ne]))
  have hz_w9 := KH_w9.out.size
  clear hw9
  go_wp2_with fail
  first | (refine ⟨rfl, hK.out _ _ ?_⟩; clear hK K) | (refine hK.out _ _ ?_; clear hK K)
  clear _ne
  go_wp2_with fail
  refine rg17_13 (w0 := w) (B := 0) (n := w.heap.size) (L := [(P, 0, .int .u16 f), (P, 1, .slice (some ⟨D, 0, none⟩) l.length l.length)]) (E := fun _ => True) (F := fun W => W.heap[D]? = some (.cells (mid1 (l.set d true) 0 ex).toArray 4 (0, 0)) ∧ Onl [P, D] w W ∧ Onl [D] w4 W) (by kernel_rfl) (by kernel_rfl) (KH_w9.out.step (by omega) (by go_grown)) trivial (fun _ _ _ _ => trivial) ⟨HR.out, HO.out, HQ.out⟩ (fun _ _ h hb => ⟨(hb.block D (Array.getElem?_eq_some_iff.1 h.1).1).trans h.1, h.2.1.grow hb, h.2.2.grow hb⟩) (fun w10 K_w10 E_w10 F_w10 => ?_)
  have _ne : Nonempty (KX (0) w (w.heap.size) [(P, 0, .int .u16 f), (P, 1, .slice (some ⟨D, 0, none⟩) l.length l.length)] (fun _ => True)) := ⟨⟨_, K_w10, E_w10⟩⟩
  repeat (go_big_quiet_step (fail))
  refine wpQuiet_nil ?_
  have rP0 : ∀ s : KX (0) w (w.heap.size) [(P, 0, .int .u16 f), (P, 1, .slice (some ⟨D, 0, none⟩) l.length l.length)] (fun _ => True), s.val.cell? ⟨P, 0, none⟩ = some (.int .u16 f) := fun s => s.kept.at (by simp)
  have rP1 : ∀ s : KX (0) w (w.heap.size) [(P, 0, .int .u16 f), (P, 1, .slice (some ⟨D, 0, none⟩) l.length l.length)] (fun _ => True), s.val.cell? ⟨P, 1, none⟩ = some (.slice (some ⟨D, 0, none⟩) l.length l.length) := fun s => s.kept.at (by simp)
  repeat (go_big_quiet_step (fail))
  refine wpQuiet_nil ?_
  clear rP0 rP1
  repeat (go_big_quiet_step (fail))
  refine wpQuiet_nil ?_
  have KH_w10 := Lib.hid K_w10
  have hw_w10 := K_w10.below
  have hz_w10 := K_w10.size
  have lP_w10 : P < w10.heap.size := by omega
  clear K_w10
  have HR := Lib.hid (F_w10.1)
  have HO := Lib.hid (F_w10.2.1)
  have HQ := Lib.hid (F_w10.2.2)
  clear E_w10 F_w10
  refine ⟨fun K hK0 => ?_, trivial⟩
  have hK := Lib.hid hK0
  clear hK0
  have hcl := fun ty a c => clear_none a c ty w10
  go_wp2_with fail
  first | (refine ⟨rfl, hK.out _ _ ?_⟩; clear hK K) | (refine hK.out _ _ ?_; clear hK K)
  clear _ne
  go_wp2_with fail
  go_returns
  exact ⟨rfl, ⟨(HQ.out.block P hlt4 (by simpa using Ne.symm HW.out.ne)).trans HP4.out, fin_zero HR.out HG.out⟩, HO.out⟩

set_option maxRecDepth 100000 in
set_option maxHeartbeats 2000000 in
theorem accept17_gzl (P D : Nat) (f : Int) (l : List Bool) (cap : Nat) (ex : List Value) (w : World) (hw : WinAt w P D f l cap ex) (n : Int) (d : Nat) (hcp : l.length < cap) (hn : U16 n) (HD : Hid (dist f n = (d : Int))) (HV : Hid (hasN l d = false)) (hdl : d < l.length) (hdf : Hid (l[d]? = some false))  (HI : Hid (idxF (l.set d true) = 0)) (HG : Hid (gone (l.set d true) = 0)) :
    Calls Try.prog 17 #[.pointer (some ⟨P, 0, none⟩), .int .u16 n] w fun e w' => e = .returned (.int .i64 0) ∧ (w'.heap[P]? = some (.cells #[.int .u16 f, .slice (some ⟨D, 0, none⟩) l.length cap] 50 (0, 0)) ∧ DAt w' D (shift (l.set d true)) ex) ∧ Onl [P, D] w w' := by
  have k0 := hw.cell0
  have k1 := hw.cell1
  have hl1 := hw.l1
  have hl2 := hw.l2
  have hf := hw.f0
  have HW := Lib.hid hw
  clear hw
  have fp0 := HW.out.free 0
  have fp1 := HW.out.free 1
  have hlt := HW.out.plt
  have HD0 := Lib.hid HW.out.d
  have HO := Lib.hid (Below.refl w.heap.size w)
  have hs1 := hl1
  have hs2 := hl2
  have hcap := HW.out.c
  have hfa := hf.1
  have hfb := hf.2
  have q1 : decide ((l.length : Int) ≤ (d : Int)) = false := by simp; omega
  have q2 : (0 : Int) ≤ (d : Int) := by omega
  have q3 : (d : Int) < (l.length : Int) := by omega
  have hcq : (l.length : Int) < (cap : Int) := by omega
  go_enter Try.func17, Try.ntmps17
  go_wp2_with fail
  with_reducible refine (zero26 P D l cap _ k1 hl1).mono ?_
  rintro e w' ⟨rfl, rfl⟩
  go_wp2_with fail
  with_reducible refine (has21c P D f l cap ex _ HW.out n d _ hn HD HV.out).mono ?_
  rintro e w' ⟨rfl, rfl⟩
  go_wp2_with fail
  refine rg17_5 (w0 := w) (B := 0) (n := w.heap.size) (L := [(P, 0, .int .u16 f), (P, 1, .slice (some ⟨D, 0, none⟩) l.length cap)]) (E := fun _ => True) (F := fun W => DAt W D l ex ∧ Below w.heap.size w W) (by kernel_rfl) (by kernel_rfl) ⟨by go_grown, by go_size, (by simp [go_sem, k0, k1, fp0, fp1] <;> omega)⟩ trivial (fun _ _ _ _ => trivial) ⟨HD0.out, HO.out⟩ (fun _ _ h hb => ⟨h.1.below hb, below_via h.2 hb⟩) (fun w1 K_w1 E_w1 F_w1 => ?_)
  have _ne : Nonempty (KX (0) w (w.heap.size) [(P, 0, .int .u16 f), (P, 1, .slice (some ⟨D, 0, none⟩) l.length cap)] (fun _ => True)) := ⟨⟨_, K_w1, E_w1⟩⟩
  repeat (go_big_quiet_step (fail))
  refine wpQuiet_nil ?_
  have rP0 : ∀ s : KX (0) w (w.heap.size) [(P, 0, .int .u16 f), (P, 1, .slice (some ⟨D, 0, none⟩) l.length cap)] (fun _ => True), s.val.cell? ⟨P, 0, none⟩ = some (.int .u16 f) := fun s => s.kept.at (by simp)
  have rP1 : ∀ s : KX (0) w (w.heap.size) [(P, 0, .int .u16 f), (P, 1, .slice (some ⟨D, 0, none⟩) l.length cap)] (fun _ => True), s.val.cell? ⟨P, 1, none⟩ = some (.slice (some ⟨D, 0, none⟩) l.length cap) := fun s => s.kept.at (by simp)
  repeat (go_big_quiet_step (fail))
  refine wpQuiet_nil ?_
  clear rP0 rP1
  repeat (go_big_quiet_step (fail))
  refine wpQuiet_nil ?_
  have KH_w1 := Lib.hid K_w1
  have hw_w1 := K_w1.below
  have hz_w1 := K_w1.size
  have lP_w1 : P < w1.heap.size := by omega
  clear k0 k1 fp0 fp1
  clear K_w1
  have HD0 := Lib.hid (F_w1.1)
  have HO := Lib.hid (F_w1.2)
  clear E_w1 F_w1
  refine ⟨fun K hK0 => ?_, trivial⟩
  have hK := Lib.hid hK0
  clear hK0
  go_wp2_with fail
  with_reducible refine (dist11c f n d _ hf hn HD.out).mono ?_
  rintro e w' ⟨rfl, rfl⟩
  go_wp2_with fail
  first | (refine ⟨rfl, ⟨⟨_, KH_w1.out, trivial⟩, rfl⟩, hK.out _ _ ?_⟩; clear hK K) | (refine ⟨⟨⟨_, KH_w1.out, trivial⟩, rfl⟩, hK.out _ _ ?_⟩; clear hK K)
  repeat (go_big_quiet_step (fail))
  refine wpQuiet_nil ?_
  clear _ne
  go_wp2_with fail
  refine rg17_7 (w0 := w) (B := 0) (n := w.heap.size) (L := [(P, 0, .int .u16 f), (P, 1, .slice (some ⟨D, 0, none⟩) l.length cap)]) (E := fun _ => True) (F := fun W => DAt W D l ex ∧ Below w.heap.size w W) (by kernel_rfl) (by kernel_rfl) (KH_w1.out.step (by omega) (by go_grown)) trivial (fun _ _ _ _ => trivial) ⟨HD0.out.below (by go_grown), below_via HO.out (by go_grown)⟩ (fun _ _ h hb => ⟨h.1.below hb, below_via h.2 hb⟩) (fun w2 K_w2 E_w2 F_w2 => ?_)
  have _ne : Nonempty (KX (0) w (w.heap.size) [(P, 0, .int .u16 f), (P, 1, .slice (some ⟨D, 0, none⟩) l.length cap)] (fun _ => True)) := ⟨⟨_, K_w2, E_w2⟩⟩
  repeat (go_big_quiet_step (fail))
  refine wpQuiet_nil ?_
  have rP0 : ∀ s : KX (0) w (w.heap.size) [(P, 0, .int .u16 f), (P, 1, .slice (some ⟨D, 0, none⟩) l.length cap)] (fun _ => True), s.val.cell? ⟨P, 0, none⟩ = some (.int .u16 f) := fun s => s.kept.at (by simp)
  have rP1 : ∀ s : KX (0) w (w.heap.size) [(P, 0, .int .u16 f), (P, 1, .slice (some ⟨D, 0, none⟩) l.length cap)] (fun _ => True), s.val.cell? ⟨P, 1, none⟩ = some (.slice (some ⟨D, 0, none⟩) l.length cap) := fun s => s.kept.at (by simp)
  repeat (go_big_quiet_step (fail))
  refine wpQuiet_nil ?_
  clear rP0 rP1
  have KH_w2 := Lib.hid K_w2
  have hw_w2 := K_w2.below
  have hz_w2 := K_w2.size
  have lP_w2 : P < w2.heap.size := by omega
  clear lP_w1
  clear K_w2
  have HD0 := Lib.hid (F_w2.1)
  have HO := Lib.hid (F_w2.2)
  clear E_w2 F_w2
  refine ⟨fun K hK0 => ?_, trivial⟩
  have hK := Lib.hid hK0
  clear hK0
  go_wp2_with fail
  with_reducible refine (dist11c f n d _ hf hn HD.out).mono ?_
  rintro e w' ⟨rfl, rfl⟩
  go_wp2_with fail
  first | (refine ⟨rfl, ⟨⟨_, KH_w2.out, trivial⟩, rfl⟩, hK.out _ _ ?_⟩; clear hK K) | (refine ⟨⟨⟨_, KH_w2.out, trivial⟩, rfl⟩, hK.out _ _ ?_⟩; clear hK K)
  repeat (go_big_quiet_step (fail))
  refine wpQuiet_nil ?_
  refine ⟨fun K hK0 => ?_, trivial⟩
  have hK := Lib.hid hK0
  clear hK0
  have kd_w2 : w2.cell? ⟨D, d, none⟩ = some (.bool false) := HD0.out.cell hdf.out
  have fd_w2 : w2.frozen? ⟨D, d, none⟩ = false := HD0.out.free d
  go_wp2_with fail
  first | (refine ⟨rfl, hK.out _ _ ?_⟩; clear hK K) | (refine hK.out _ _ ?_; clear hK K)
  clear _ne
  obtain ⟨w3, hw3⟩ : ∃ w3, w3 = w2.setCell ⟨D, d, none⟩ (.bool true) := ⟨_, rfl⟩
  rw [← hw3]
  have HD1 : Hid (DAt w3 D (l.set d true) ex) := Lib.hid (by rw [hw3]; exact HD0.out.set d true hdl)
  have HO3 : Hid (Onl [D] w w3) := Lib.hid (by rw [hw3]; exact (Onl.of HO.out).setCell (.inl (by simp)) _)
  replace HO : Hid (Onl [P, D] w w3) := Lib.hid (by rw [hw3]; exact (Onl.of HO.out).setCell (.inl (by simp)) _)
  have KH_w3 : Hid (Kept 0 w (w.heap.size) [(P, 0, .int .u16 f), (P, 1, .slice (some ⟨D, 0, none⟩) l.length cap)] w3) := Lib.hid (by rw [hw3]; exact KH_w2.out.onl (S := [D]) ((Onl.refl _ _).setCell (.inl (by simp)) _) (by omega) (by simp) (by simp [Ne.symm HW.out.ne]))
  have hz_w3 := KH_w3.out.size
  clear hw3 kd_w2 fd_w2
  have cP0_w3 := KH_w3.out.at (b := P) (o := 0) (v := .int .u16 f) (by simp)
  have fP0_w3 := KH_w3.out.free (b := P) (o := 0) (v := .int .u16 f) (by simp)
  have cP1_w3 := KH_w3.out.at (b := P) (o := 1) (v := .slice (some ⟨D, 0, none⟩) l.length cap) (by simp)
  have fP1_w3 := KH_w3.out.free (b := P) (o := 1) (v := .slice (some ⟨D, 0, none⟩) l.length cap) (by simp)
  go_wp2_with fail
  with_reducible refine (index27s D l d cap ex _ _ HD1.out hs1 hs2 HI.out).mono ?_
  rintro e w' ⟨rfl, rfl⟩
  go_wp2_with fail
  obtain ⟨w4, hw4⟩ : ∃ w4, w4 = w3.setCell ⟨P, 0, none⟩ (.int .u16 f) := ⟨_, rfl⟩
  rw [← hw4]
  replace HD1 : Hid (DAt w4 D (l.set d true) ex) := Lib.hid (by rw [hw4]; exact HD1.out.other (Ne.symm HW.out.ne) _)
  replace HO : Hid (Onl [P, D] w w4) := Lib.hid (by rw [hw4]; exact HO.out.setCell (.inl (by simp)) _)
  have KH_w4 : Hid (Kept 0 w (w.heap.size) [(P, 0, .int .u16 f), (P, 1, .slice (some ⟨D, 0, none⟩) l.length cap)] w4) := Lib.hid (by rw [hw4]; exact ⟨KH_w3.out.below.setCell (Nat.zero_le _) _, by simpa [World.setCell] using KH_w3.out.size, by simp [go_sem, cP0_w3, cP1_w3, fP0_w3, fP1_w3]; omega⟩)
  have hz_w4 := KH_w4.out.size
  have hlt4 : P < w4.heap.size := by omega
  have HP4 : Hid (w4.heap[P]? = some (.cells #[.int .u16 f, .slice (some ⟨D, 0, none⟩) l.length cap] 50 (0, 0))) := Lib.hid (by rw [hw4, heap_setCell_same w3 P 0 _ 50 _ ((HO3.out.block P hlt (by simpa using Ne.symm HW.out.ne)).trans HW.out.p)]; rfl)
  clear hw4 cP0_w3 cP1_w3 fP0_w3 fP1_w3
  refine rg17_12 (w0 := w) (B := 0) (n := w.heap.size) (L := [(P, 0, .int .u16 f), (P, 1, .slice (some ⟨D, 0, none⟩) l.length cap)]) (E := fun _ => True) (F := fun W => DAt W D (l.set d true) ex ∧ Onl [P, D] w W ∧ Onl [D] w4 W) (by kernel_rfl) (by kernel_rfl) (KH_w4.out.step (by omega) (by go_grown)) trivial (fun _ _ _ _ => trivial) ⟨HD1.out, HO.out, Onl.refl _ _⟩ (fun _ _ h hb => ⟨h.1.below hb, h.2.1.grow hb, h.2.2.grow hb⟩) (fun w5 K_w5 E_w5 F_w5 => ?_)
  have _ne : Nonempty (KX (0) w (w.heap.size) [(P, 0, .int .u16 f), (P, 1, .slice (some ⟨D, 0, none⟩) l.length cap)] (fun _ => True)) := ⟨⟨_, K_w5, E_w5⟩⟩
  repeat (go_big_quiet_step (fail))
  refine wpQuiet_nil ?_
  have rP0 : ∀ s : KX (0) w (w.heap.size) [(P, 0, .int .u16 f), (P, 1, .slice (some ⟨D, 0, none⟩) l.length cap)] (fun _ => True), s.val.cell? ⟨P, 0, none⟩ = some (.int .u16 f) := fun s => s.kept.at (by simp)
  have rP1 : ∀ s : KX (0) w (w.heap.size) [(P, 0, .int .u16 f), (P, 1, .slice (some ⟨D, 0, none⟩) l.length cap)] (fun _ => True), s.val.cell? ⟨P, 1, none⟩ = some (.slice (some ⟨D, 0, none⟩) l.length cap) := fun s => s.kept.at (by simp)
  repeat (go_big_quiet_step (fail))
  refine wpQuiet_nil ?_
  clear rP0 rP1
  repeat (go_big_quiet_step (fail))
  refine wpQuiet_nil ?_
  have KH_w5 := Lib.hid K_w5
  have hw_w5 := K_w5.below
  have hz_w5 := K_w5.size
  have lP_w5 : P < w5.heap.size := by omega
  clear K_w5
  have HD1 := Lib.hid (F_w5.1)
  have HO := Lib.hid (F_w5.2.1)
  have HQ := Lib.hid (F_w5.2.2)
  clear E_w5 F_w5
  refine ⟨fun K hK0 => ?_, trivial⟩
  have hK := Lib.hid hK0
  clear hK0
  refine wpList_copy_own rfl (.tmp 61) (.tmp 67) 48 48 rfl 4 Try.underlying48 (by kernel_rfl) D 0 _ _ ⟨D, 0, none⟩ _ _ rfl rfl _ 4 HD1.out (((l.set d true).drop 0).map Value.bool) (by rw [List.length_map, List.length_drop, List.length_set]; show _ = min _ _; omega) (fun j v hj => copy_src HD1.out hj) (by simp) (fun v hv => bool_one hv) ?_
  obtain ⟨w9, hw9⟩ : ∃ w9, w9 = w5.setRow D (((((l.set d true).map Value.bool ++ ex).toArray.toList.take 0) ++ ((((l.set d true).drop 0).map Value.bool) ++ (((l.set d true).map Value.bool ++ ex).toArray.toList.drop (0 + (((l.set d true).drop 0).map Value.bool).length))))).toArray := ⟨_, rfl⟩
  rw [← hw9]
  have HR : Hid (w9.heap[D]? = some (.cells (mid1 (l.set d true) 0 ex).toArray 4 (0, 0))) := Lib.hid (by rw [hw9, setRow_heap _ D _ _ 4 (0, 0) HD1.out]; simp [mid1])
  replace HO : Hid (Onl [P, D] w w9) := Lib.hid (by rw [hw9]; exact HO.out.setRow (.inl (by simp)) _)
  replace HQ : Hid (Onl [D] w4 w9) := Lib.hid (by rw [hw9]; exact HQ.out.setRow (.inl (by simp)) _)
  have KH_w9 : Hid (Kept 0 w (w.heap.size) [(P, 0, .int .u16 f), (P, 1, .slice (some ⟨D, 0, none⟩) l.length cap)] w9) := Lib.hid (by rw [hw9]; exact KH_w5.out.onl (S := [D]) ((Onl.refl _ _).setRow (.inl (by simp)) _) (by omega) (by simp) (by simp [Ne.symm HW.out.ne]))
  have hz_w9 := KH_w9.out.size
  clear hw9
  go_wp2_with fail
  first | (refine ⟨rfl, hK.out _ _ ?_⟩; clear hK K) | (refine hK.out _ _ ?_; clear hK K)
  clear _ne
  go_wp2_with fail
  refine rg17_13 (w0 := w) (B := 0) (n := w.heap.size) (L := [(P, 0, .int .u16 f), (P, 1, .slice (some ⟨D, 0, none⟩) l.length cap)]) (E := fun _ => True) (F := fun W => W.heap[D]? = some (.cells (mid1 (l.set d true) 0 ex).toArray 4 (0, 0)) ∧ Onl [P, D] w W ∧ Onl [D] w4 W) (by kernel_rfl) (by kernel_rfl) (KH_w9.out.step (by omega) (by go_grown)) trivial (fun _ _ _ _ => trivial) ⟨HR.out, HO.out, HQ.out⟩ (fun _ _ h hb => ⟨(hb.block D (Array.getElem?_eq_some_iff.1 h.1).1).trans h.1, h.2.1.grow hb, h.2.2.grow hb⟩) (fun w10 K_w10 E_w10 F_w10 => ?_)
  have _ne : Nonempty (KX (0) w (w.heap.size) [(P, 0, .int .u16 f), (P, 1, .slice (some ⟨D, 0, none⟩) l.length cap)] (fun _ => True)) := ⟨⟨_, K_w10, E_w10⟩⟩
  repeat (go_big_quiet_step (fail))
  refine wpQuiet_nil ?_
  have rP0 : ∀ s : KX (0) w (w.heap.size) [(P, 0, .int .u16 f), (P, 1, .slice (some ⟨D, 0, none⟩) l.length cap)] (fun _ => True), s.val.cell? ⟨P, 0, none⟩ = some (.int .u16 f) := fun s => s.kept.at (by simp)
  have rP1 : ∀ s : KX (0) w (w.heap.size) [(P, 0, .int .u16 f), (P, 1, .slice (some ⟨D, 0, none⟩) l.length cap)] (fun _ => True), s.val.cell? ⟨P, 1, none⟩ = some (.slice (some ⟨D, 0, none⟩) l.length cap) := fun s => s.kept.at (by simp)
  repeat (go_big_quiet_step (fail))
  refine wpQuiet_nil ?_
  clear rP0 rP1
  repeat (go_big_quiet_step (fail))
  refine wpQuiet_nil ?_
  have KH_w10 := Lib.hid K_w10
  have hw_w10 := K_w10.below
  have hz_w10 := K_w10.size
  have lP_w10 : P < w10.heap.size := by omega
  clear K_w10
  have HR := Lib.hid (F_w10.1)
  have HO := Lib.hid (F_w10.2.1)
  have HQ := Lib.hid (F_w10.2.2)
  clear E_w10 F_w10
  refine ⟨fun K hK0 => ?_, trivial⟩
  have hK := Lib.hid hK0
  clear hK0
  have hcl := fun ty a c => clear_none a c ty w10
  go_wp2_with fail
  first | (refine ⟨rfl, hK.out _ _ ?_⟩; clear hK K) | (refine hK.out _ _ ?_; clear hK K)
  clear _ne
  go_wp2_with fail
  go_returns
  exact ⟨rfl, ⟨(HQ.out.block P hlt4 (by simpa using Ne.symm HW.out.ne)).trans HP4.out, fin_zero HR.out HG.out⟩, HO.out⟩

set_option maxRecDepth 100000 in
set_option maxHeartbeats 2000000 in
theorem accept17_gm (P D : Nat) (f : Int) (l : List Bool) (cap : Nat) (ex : List Value) (w : World) (hw : WinAt w P D f l cap ex) (n : Int) (d : Nat) (hn : U16 n) (HD : Hid (dist f n = (d : Int))) (HV : Hid (hasN l d = false)) (hdl : d < l.length) (hdf : Hid (l[d]? = some false)) (f2 : Int) (g m : Nat) (hg : 0 < g ∧ g < l.length) (hm : m + g = l.length) (hfw : IntKind.u16.wrap (f + (g : Int)) = f2) (HI : Hid (idxF (l.set d true) = (g : Int))) (HG : Hid (gone (l.set d true) = g)) :
    Calls Try.prog 17 #[.pointer (some ⟨P, 0, none⟩), .int .u16 n] w fun e w' => e = .returned (.int .i64 0) ∧ (w'.heap[P]? = some (.cells #[.int .u16 f2, .slice (some ⟨D, 0, none⟩) l.length cap] 50 (0, 0)) ∧ DAt w' D (shift (l.set d true)) ex) ∧ Onl [P, D] w w' := by
  have k0 := hw.cell0
  have k1 := hw.cell1
  have hl1 := hw.l1
  have hl2 := hw.l2
  have hf := hw.f0
  have HW := Lib.hid hw
  clear hw
  have fp0 := HW.out.free 0
  have fp1 := HW.out.free 1
  have hlt := HW.out.plt
  have HD0 := Lib.hid HW.out.d
  have HO := Lib.hid (Below.refl w.heap.size w)
  have hs1 := hl1
  have hs2 := hl2
  have hcap := HW.out.c
  have hfa := hf.1
  have hfb := hf.2
  have q1 : decide ((l.length : Int) ≤ (d : Int)) = false := by simp; omega
  have q2 : (0 : Int) ≤ (d : Int) := by omega
  have q3 : (d : Int) < (l.length : Int) := by omega
  have g0 : (0 : Int) ≤ (g : Int) := by omega
  have g1 : (g : Int) ≤ (l.length : Int) := by omega
  have gm : (l.length : Int) - (g : Int) = (m : Int) := by omega
  have gn : l.length - g = m := by omega
  have gk : l.length - m = g := by omega
  go_enter Try.func17, Try.ntmps17
  go_wp2_with fail
  with_reducible refine (zero26 P D l cap _ k1 hl1).mono ?_
  rintro e w' ⟨rfl, rfl⟩
  go_wp2_with fail
  with_reducible refine (has21c P D f l cap ex _ HW.out n d _ hn HD HV.out).mono ?_
  rintro e w' ⟨rfl, rfl⟩
  go_wp2_with fail
  refine rg17_5 (w0 := w) (B := 0) (n := w.heap.size) (L := [(P, 0, .int .u16 f), (P, 1, .slice (some ⟨D, 0, none⟩) l.length cap)]) (E := fun _ => True) (F := fun W => DAt W D l ex ∧ Below w.heap.size w W) (by kernel_rfl) (by kernel_rfl) ⟨by go_grown, by go_size, (by simp [go_sem, k0, k1, fp0, fp1] <;> omega)⟩ trivial (fun _ _ _ _ => trivial) ⟨HD0.out, HO.out⟩ (fun _ _ h hb => ⟨h.1.below hb, below_via h.2 hb⟩) (fun w1 K_w1 E_w1 F_w1 => ?_)
  have _ne : Nonempty (KX (0) w (w.heap.size) [(P, 0, .int .u16 f), (P, 1, .slice (some ⟨D, 0, none⟩) l.length cap)] (fun _ => True)) := ⟨⟨_, K_w1, E_w1⟩⟩
  repeat (go_big_quiet_step (fail))
  refine wpQuiet_nil ?_
  have rP0 : ∀ s : KX (0) w (w.heap.size) [(P, 0, .int .u16 f), (P, 1, .slice (some ⟨D, 0, none⟩) l.length cap)] (fun _ => True), s.val.cell? ⟨P, 0, none⟩ = some (.int .u16 f) := fun s => s.kept.at (by simp)
  have rP1 : ∀ s : KX (0) w (w.heap.size) [(P, 0, .int .u16 f), (P, 1, .slice (some ⟨D, 0, none⟩) l.length cap)] (fun _ => True), s.val.cell? ⟨P, 1, none⟩ = some (.slice (some ⟨D, 0, none⟩) l.length cap) := fun s => s.kept.at (by simp)
  repeat (go_big_quiet_step (fail))
  refine wpQuiet_nil ?_
  clear rP0 rP1
  repeat (go_big_quiet_step (fail))
  refine wpQuiet_nil ?_
  have KH_w1 := Lib.hid K_w1
  have hw_w1 := K_w1.below
  have hz_w1 := K_w1.size
  have lP_w1 : P < w1.heap.size := by omega
  clear k0 k1 fp0 fp1
  clear K_w1
  have HD0 := Lib.hid (F_w1.1)
  have HO := Lib.hid (F_w1.2)
  clear E_w1 F_w1
  refine ⟨fun K hK0 => ?_, trivial⟩
  have hK := Lib.hid hK0
  clear hK0
  go_wp2_with fail
  with_reducible refine (dist11c f n d _ hf hn HD.out).mono ?_
  rintro e w' ⟨rfl, rfl⟩
  go_wp2_with fail
  first | (refine ⟨rfl, ⟨⟨_, KH_w1.out, trivial⟩, rfl⟩, hK.out _ _ ?_⟩; clear hK K) | (refine ⟨⟨⟨_, KH_w1.out, trivial⟩, rfl⟩, hK.out _ _ ?_⟩; clear hK K)
  repeat (go_big_quiet_step (fail))
  refine wpQuiet_nil ?_
  clear _ne
  go_wp2_with fail
  refine rg17_7 (w0 := w) (B := 0) (n := w.heap.size) (L := [(P, 0, .int .u16 f), (P, 1, .slice (some ⟨D, 0, none⟩) l.length cap)]) (E := fun _ => True) (F := fun W => DAt W D l ex ∧ Below w.heap.size w W) (by kernel_rfl) (by kernel_rfl) (KH_w1.out.step (by omega) (by go_grown)) trivial (fun _ _ _ _ => trivial) ⟨HD0.out.below (by go_grown), below_via HO.out (by go_grown)⟩ (fun _ _ h hb => ⟨h.1.below hb, below_via h.2 hb⟩) (fun w2 K_w2 E_w2 F_w2 => ?_)
  have _ne : Nonempty (KX (0) w (w.heap.size) [(P, 0, .int .u16 f), (P, 1, .slice (some ⟨D, 0, none⟩) l.length cap)] (fun _ => True)) := ⟨⟨_, K_w2, E_w2⟩⟩
  repeat (go_big_quiet_step (fail))
  refine wpQuiet_nil ?_
  have rP0 : ∀ s : KX (0) w (w.heap.size) [(P, 0, .int .u16 f), (P, 1, .slice (some ⟨D, 0, none⟩) l.length cap)] (fun _ => True), s.val.cell? ⟨P, 0, none⟩ = some (.int .u16 f) := fun s => s.kept.at (by simp)
  have rP1 : ∀ s : KX (0) w (w.heap.size) [(P, 0, .int .u16 f), (P, 1, .slice (some ⟨D, 0, none⟩) l.length cap)] (fun _ => True), s.val.cell? ⟨P, 1, none⟩ = some (.slice (some ⟨D, 0, none⟩) l.length cap) := fun s => s.kept.at (by simp)
  repeat (go_big_quiet_step (fail))
  refine wpQuiet_nil ?_
  clear rP0 rP1
  have KH_w2 := Lib.hid K_w2
  have hw_w2 := K_w2.below
  have hz_w2 := K_w2.size
  have lP_w2 : P < w2.heap.size := by omega
  clear lP_w1
  clear K_w2
  have HD0 := Lib.hid (F_w2.1)
  have HO := Lib.hid (F_w2.2)
  clear E_w2 F_w2
  refine ⟨fun K hK0 => ?_, trivial⟩
  have hK := Lib.hid hK0
  clear hK0
  go_wp2_with fail
  with_reducible refine (dist11c f n d _ hf hn HD.out).mono ?_
  rintro e w' ⟨rfl, rfl⟩
  go_wp2_with fail
  first | (refine ⟨rfl, ⟨⟨_, KH_w2.out, trivial⟩, rfl⟩, hK.out _ _ ?_⟩; clear hK K) | (refine ⟨⟨⟨_, KH_w2.out, trivial⟩, rfl⟩, hK.out _ _ ?_⟩; clear hK K)
  repeat (go_big_quiet_step (fail))
  refine wpQuiet_nil ?_
  refine ⟨fun K hK0 => ?_, trivial⟩
  have hK := Lib.hid hK0
  clear hK0
  have kd_w2 : w2.cell? ⟨D, d, none⟩ = some (.bool false) := HD0.out.cell hdf.out
  have fd_w2 : w2.frozen? ⟨D, d, none⟩ = false := HD0.out.free d
  go_wp2_with fail
  first | (refine ⟨rfl, hK.out _ _ ?_⟩; clear hK K) | (refine hK.out _ _ ?_; clear hK K)
  clear _ne
  obtain ⟨w3, hw3⟩ : ∃ w3, w3 = w2.setCell ⟨D, d, none⟩ (.bool true) := ⟨_, rfl⟩
  rw [← hw3]
  have HD1 : Hid (DAt w3 D (l.set d true) ex) := Lib.hid (by rw [hw3]; exact HD0.out.set d true hdl)
  have HO3 : Hid (Onl [D] w w3) := Lib.hid (by rw [hw3]; exact (Onl.of HO.out).setCell (.inl (by simp)) _)
  replace HO : Hid (Onl [P, D] w w3) := Lib.hid (by rw [hw3]; exact (Onl.of HO.out).setCell (.inl (by simp)) _)
  have KH_w3 : Hid (Kept 0 w (w.heap.size) [(P, 0, .int .u16 f), (P, 1, .slice (some ⟨D, 0, none⟩) l.length cap)] w3) := Lib.hid (by rw [hw3]; exact KH_w2.out.onl (S := [D]) ((Onl.refl _ _).setCell (.inl (by simp)) _) (by omega) (by simp) (by simp [Ne.symm HW.out.ne]))
  have hz_w3 := KH_w3.out.size
  clear hw3 kd_w2 fd_w2
  have cP0_w3 := KH_w3.out.at (b := P) (o := 0) (v := .int .u16 f) (by simp)
  have fP0_w3 := KH_w3.out.free (b := P) (o := 0) (v := .int .u16 f) (by simp)
  have cP1_w3 := KH_w3.out.at (b := P) (o := 1) (v := .slice (some ⟨D, 0, none⟩) l.length cap) (by simp)
  have fP1_w3 := KH_w3.out.free (b := P) (o := 1) (v := .slice (some ⟨D, 0, none⟩) l.length cap) (by simp)
  go_wp2_with fail
  with_reducible refine (index27s D l d cap ex _ _ HD1.out hs1 hs2 HI.out).mono ?_
  rintro e w' ⟨rfl, rfl⟩
  go_wp2_with fail
  obtain ⟨w4, hw4⟩ : ∃ w4, w4 = w3.setCell ⟨P, 0, none⟩ (.int .u16 f2) := ⟨_, rfl⟩
  rw [← hw4]
  replace HD1 : Hid (DAt w4 D (l.set d true) ex) := Lib.hid (by rw [hw4]; exact HD1.out.other (Ne.symm HW.out.ne) _)
  replace HO : Hid (Onl [P, D] w w4) := Lib.hid (by rw [hw4]; exact HO.out.setCell (.inl (by simp)) _)
  have KH_w4 : Hid (Kept 0 w (w.heap.size) [(P, 0, .int .u16 f2), (P, 1, .slice (some ⟨D, 0, none⟩) l.length cap)] w4) := Lib.hid (by rw [hw4]; exact ⟨KH_w3.out.below.setCell (Nat.zero_le _) _, by simpa [World.setCell] using KH_w3.out.size, by simp [go_sem, cP0_w3, cP1_w3, fP0_w3, fP1_w3]; omega⟩)
  have hz_w4 := KH_w4.out.size
  have hlt4 : P < w4.heap.size := by omega
  have HP4 : Hid (w4.heap[P]? = some (.cells #[.int .u16 f2, .slice (some ⟨D, 0, none⟩) l.length cap] 50 (0, 0))) := Lib.hid (by rw [hw4, heap_setCell_same w3 P 0 _ 50 _ ((HO3.out.block P hlt (by simpa using Ne.symm HW.out.ne)).trans HW.out.p)]; rfl)
  clear hw4 cP0_w3 cP1_w3 fP0_w3 fP1_w3
  refine rg17_12 (w0 := w) (B := 0) (n := w.heap.size) (L := [(P, 0, .int .u16 f2), (P, 1, .slice (some ⟨D, 0, none⟩) l.length cap)]) (E := fun _ => True) (F := fun W => DAt W D (l.set d true) ex ∧ Onl [P, D] w W ∧ Onl [D] w4 W) (by kernel_rfl) (by kernel_rfl) (KH_w4.out.step (by omega) (by go_grown)) trivial (fun _ _ _ _ => trivial) ⟨HD1.out, HO.out, Onl.refl _ _⟩ (fun _ _ h hb => ⟨h.1.below hb, h.2.1.grow hb, h.2.2.grow hb⟩) (fun w5 K_w5 E_w5 F_w5 => ?_)
  have _ne : Nonempty (KX (0) w (w.heap.size) [(P, 0, .int .u16 f2), (P, 1, .slice (some ⟨D, 0, none⟩) l.length cap)] (fun _ => True)) := ⟨⟨_, K_w5, E_w5⟩⟩
  repeat (go_big_quiet_step (fail))
  refine wpQuiet_nil ?_
  have rP0 : ∀ s : KX (0) w (w.heap.size) [(P, 0, .int .u16 f2), (P, 1, .slice (some ⟨D, 0, none⟩) l.length cap)] (fun _ => True), s.val.cell? ⟨P, 0, none⟩ = some (.int .u16 f2) := fun s => s.kept.at (by simp)
  have rP1 : ∀ s : KX (0) w (w.heap.size) [(P, 0, .int .u16 f2), (P, 1, .slice (some ⟨D, 0, none⟩) l.length cap)] (fun _ => True), s.val.cell? ⟨P, 1, none⟩ = some (.slice (some ⟨D, 0, none⟩) l.length cap) := fun s => s.kept.at (by simp)
  repeat (go_big_quiet_step (fail))
  refine wpQuiet_nil ?_
  clear rP0 rP1
  repeat (go_big_quiet_step (fail))
  refine wpQuiet_nil ?_
  have KH_w5 := Lib.hid K_w5
  have hw_w5 := K_w5.below
  have hz_w5 := K_w5.size
  have lP_w5 : P < w5.heap.size := by omega
  clear K_w5
  have HD1 := Lib.hid (F_w5.1)
  have HO := Lib.hid (F_w5.2.1)
  have HQ := Lib.hid (F_w5.2.2)
  clear E_w5 F_w5
  refine ⟨fun K hK0 => ?_, trivial⟩
  have hK := Lib.hid hK0
  clear hK0
  refine wpList_copy_own rfl (.tmp 61) (.tmp 67) 48 48 rfl 4 Try.underlying48 (by kernel_rfl) D 0 _ _ ⟨D, g, none⟩ _ _ rfl rfl _ 4 HD1.out (((l.set d true).drop g).map Value.bool) (by rw [List.length_map, List.length_drop, List.length_set]; show _ = min _ _; omega) (fun j v hj => copy_src HD1.out hj) (by simp; omega) (fun v hv => bool_one hv) ?_
  obtain ⟨w9, hw9⟩ : ∃ w9, w9 = w5.setRow D (((((l.set d true).map Value.bool ++ ex).toArray.toList.take 0) ++ ((((l.set d true).drop g).map Value.bool) ++ (((l.set d true).map Value.bool ++ ex).toArray.toList.drop (0 + (((l.set d true).drop g).map Value.bool).length))))).toArray := ⟨_, rfl⟩
  rw [← hw9]
  have HR : Hid (w9.heap[D]? = some (.cells (mid1 (l.set d true) g ex).toArray 4 (0, 0))) := Lib.hid (by rw [hw9, setRow_heap _ D _ _ 4 (0, 0) HD1.out]; simp [mid1])
  replace HO : Hid (Onl [P, D] w w9) := Lib.hid (by rw [hw9]; exact HO.out.setRow (.inl (by simp)) _)
  replace HQ : Hid (Onl [D] w4 w9) := Lib.hid (by rw [hw9]; exact HQ.out.setRow (.inl (by simp)) _)
  have KH_w9 : Hid (Kept 0 w (w.heap.size) [(P, 0, .int .u16 f2), (P, 1, .slice (some ⟨D, 0, none⟩) l.length cap)] w9) := Lib.hid (by rw [hw9]; exact KH_w5.out.onl (S := [D]) ((Onl.refl _ _).setRow (.inl (by simp)) _) (by omega) (by simp) (by simp [Ne.symm HW.out.ne]))
  have hz_w9 := KH_w9.out.size
  clear hw9
  go_wp2_with fail
  first | (refine ⟨rfl, hK.out _ _ ?_⟩; clear hK K) | (refine hK.out _ _ ?_; clear hK K)
  clear _ne
  go_wp2_with fail
  refine rg17_13 (w0 := w) (B := 0) (n := w.heap.size) (L := [(P, 0, .int .u16 f2), (P, 1, .slice (some ⟨D, 0, none⟩) l.length cap)]) (E := fun _ => True) (F := fun W => W.heap[D]? = some (.cells (mid1 (l.set d true) g ex).toArray 4 (0, 0)) ∧ Onl [P, D] w W ∧ Onl [D] w4 W) (by kernel_rfl) (by kernel_rfl) (KH_w9.out.step (by omega) (by go_grown)) trivial (fun _ _ _ _ => trivial) ⟨HR.out, HO.out, HQ.out⟩ (fun _ _ h hb => ⟨(hb.block D (Array.getElem?_eq_some_iff.1 h.1).1).trans h.1, h.2.1.grow hb, h.2.2.grow hb⟩) (fun w10 K_w10 E_w10 F_w10 => ?_)
  have _ne : Nonempty (KX (0) w (w.heap.size) [(P, 0, .int .u16 f2), (P, 1, .slice (some ⟨D, 0, none⟩) l.length cap)] (fun _ => True)) := ⟨⟨_, K_w10, E_w10⟩⟩
  repeat (go_big_quiet_step (fail))
  refine wpQuiet_nil ?_
  have rP0 : ∀ s : KX (0) w (w.heap.size) [(P, 0, .int .u16 f2), (P, 1, .slice (some ⟨D, 0, none⟩) l.length cap)] (fun _ => True), s.val.cell? ⟨P, 0, none⟩ = some (.int .u16 f2) := fun s => s.kept.at (by simp)
  have rP1 : ∀ s : KX (0) w (w.heap.size) [(P, 0, .int .u16 f2), (P, 1, .slice (some ⟨D, 0, none⟩) l.length cap)] (fun _ => True), s.val.cell? ⟨P, 1, none⟩ = some (.slice (some ⟨D, 0, none⟩) l.length cap) := fun s => s.kept.at (by simp)
  repeat (go_big_quiet_step (fail))
  refine wpQuiet_nil ?_
  clear rP0 rP1
  repeat (go_big_quiet_step (fail))
  refine wpQuiet_nil ?_
  have KH_w10 := Lib.hid K_w10
  have hw_w10 := K_w10.below
  have hz_w10 := K_w10.size
  have lP_w10 : P < w10.heap.size := by omega
  clear K_w10
  have HR := Lib.hid (F_w10.1)
  have HO := Lib.hid (F_w10.2.1)
  have HQ := Lib.hid (F_w10.2.2)
  clear E_w10 F_w10
  refine ⟨fun K hK0 => ?_, trivial⟩
  have hK := Lib.hid hK0
  clear hK0
  have hcl := fun ty c => Lib.run_clear_slice (P := Try.prog) w10 48 4 ty (.bool false) Try.underlying48 (fun w => by kernel_rfl) rfl rfl D m g c (by omega) (fun j hj => row_some HR.out (by simp [mid1]; omega)) (fun j hj => frozen_of_row _ _ _ _ 4 HR.out)
  go_wp2_with fail
  first | (refine ⟨rfl, hK.out _ _ ?_⟩; clear hK K) | (refine hK.out _ _ ?_; clear hK K)
  clear _ne
  go_wp2_with fail
  go_returns
  exact ⟨rfl, ⟨((HQ.out.setCells2 (.inl (by simp))).block P hlt4 (by simpa using Ne.symm HW.out.ne)).trans HP4.out, fin_mid HR.out HG.out.symm (by simpa using hm)⟩, HO.out.setCells2 (.inl (by simp))⟩

set_option maxRecDepth 100000 in
set_option maxHeartbeats 2000000 in
theorem accept17_gae (P D : Nat) (f : Int) (l : List Bool) (ex : List Value) (w : World) (hw : WinAt w P D f l l.length ex) (n : Int) (d : Nat) (hn : U16 n) (HD : Hid (dist f n = (d : Int))) (HV : Hid (hasN l d = false)) (hdl : d < l.length) (hdf : Hid (l[d]? = some false)) (f2 : Int) (hfw : IntKind.u16.wrap (f + (l.length : Int)) = f2) (HI : Hid (idxF (l.set d true) = -1)) (HG : Hid (gone (l.set d true) = l.length)) :
    Calls Try.prog 17 #[.pointer (some ⟨P, 0, none⟩), .int .u16 n] w fun e w' => e = .returned (.int .i64 0) ∧ (w'.heap[P]? = some (.cells #[.int .u16 f2, .slice (some ⟨D, 0, none⟩) l.length l.length] 50 (0, 0)) ∧ DAt w' D (shift (l.set d true)) ex) ∧ Onl [P, D] w w' := by
  have k0 := hw.cell0
  have k1 := hw.cell1
  have hl1 := hw.l1
  have hl2 := hw.l2
  have hf := hw.f0
  have HW := Lib.hid hw
  clear hw
  have fp0 := HW.out.free 0
  have fp1 := HW.out.free 1
  have hlt := HW.out.plt
  have HD0 := Lib.hid HW.out.d
  have HO := Lib.hid (Below.refl w.heap.size w)
  have hs1 := hl1
  have hs2 := hl2
  have hcap := HW.out.c
  have hfa := hf.1
  have hfb := hf.2
  have q1 : decide ((l.length : Int) ≤ (d : Int)) = false := by simp; omega
  have q2 : (0 : Int) ≤ (d : Int) := by omega
  have q3 : (d : Int) < (l.length : Int) := by omega
  go_enter Try.func17, Try.ntmps17
  go_wp2_with fail
  with_reducible refine (zero26 P D l l.length _ k1 hl1).mono ?_
  rintro e w' ⟨rfl, rfl⟩
  go_wp2_with fail
  with_reducible refine (has21c P D f l l.length ex _ HW.out n d _ hn HD HV.out).mono ?_
  rintro e w' ⟨rfl, rfl⟩
  go_wp2_with fail
  refine rg17_5 (w0 := w) (B := 0) (n := w.heap.size) (L := [(P, 0, .int .u16 f), (P, 1, .slice (some ⟨D, 0, none⟩) l.length l.length)]) (E := fun _ => True) (F := fun W => DAt W D l ex ∧ Below w.heap.size w W) (by kernel_rfl) (by kernel_rfl) ⟨by go_grown, by go_size, (by simp [go_sem, k0, k1, fp0, fp1] <;> omega)⟩ trivial (fun _ _ _ _ => trivial) ⟨HD0.out, HO.out⟩ (fun _ _ h hb => ⟨h.1.below hb, below_via h.2 hb⟩) (fun w1 K_w1 E_w1 F_w1 => ?_)
  have _ne : Nonempty (KX (0) w (w.heap.size) [(P, 0, .int .u16 f), (P, 1, .slice (some ⟨D, 0, none⟩) l.length l.length)] (fun _ => True)) := ⟨⟨_, K_w1, E_w1⟩⟩
  repeat (go_big_quiet_step (fail))
  refine wpQuiet_nil ?_
  have rP0 : ∀ s : KX (0) w (w.heap.size) [(P, 0, .int .u16 f), (P, 1, .slice (some ⟨D, 0, none⟩) l.length l.length)] (fun _ => True), s.val.cell? ⟨P, 0, none⟩ = some (.int .u16 f) := fun s => s.kept.at (by simp)
  have rP1 : ∀ s : KX (0) w (w.heap.size) [(P, 0, .int .u16 f), (P, 1, .slice (some ⟨D, 0, none⟩) l.length l.length)] (fun _ => True), s.val.cell? ⟨P, 1, none⟩ = some (.slice (some ⟨D, 0, none⟩) l.length l.length) := fun s => s.kept.at (by simp)
  repeat (go_big_quiet_step (fail))
  refine wpQuiet_nil ?_
  clear rP0 rP1
  repeat (go_big_quiet_step (fail))
  refine wpQuiet_nil ?_
  have KH_w1 := Lib.hid K_w1
  have hw_w1 := K_w1.below
  have hz_w1 := K_w1.size
  have lP_w1 : P < w1.heap.size := by omega
  clear k0 k1 fp0 fp1
  clear K_w1
  have HD0 := Lib.hid (F_w1.1)
  have HO := Lib.hid (F_w1.2)
  clear E_w1 F_w1
  refine ⟨fun K hK0 => ?_, trivial⟩
  have hK := Lib.hid hK0
  clear hK0
  go_wp2_with fail
  with_reducible refine (dist11c f n d _ hf hn HD.out).mono ?_
  rintro e w' ⟨rfl, rfl⟩
  go_wp2_with fail
  first | (refine ⟨rfl, ⟨⟨_, KH_w1.out, trivial⟩, rfl⟩, hK.out _ _ ?_⟩; clear hK K) | (refine ⟨⟨⟨_, KH_w1.out, trivial⟩, rfl⟩, hK.out _ _ ?_⟩; clear hK K)
  repeat (go_big_quiet_step (fail))
  refine wpQuiet_nil ?_
  clear _ne
  go_wp2_with fail
  refine rg17_7 (w0 := w) (B := 0) (n := w.heap.size) (L := [(P, 0, .int .u16 f), (P, 1, .slice (some ⟨D, 0, none⟩) l.length l.length)]) (E := fun _ => True) (F := fun W => DAt W D l ex ∧ Below w.heap.size w W) (by kernel_rfl) (by kernel_rfl) (KH_w1.out.step (by omega) (by go_grown)) trivial (fun _ _ _ _ => trivial) ⟨HD0.out.below (by go_grown), below_via HO.out (by go_grown)⟩ (fun _ _ h hb => ⟨h.1.below hb, below_via h.2 hb⟩) (fun w2 K_w2 E_w2 F_w2 => ?_)
  have _ne : Nonempty (KX (0) w (w.heap.size) [(P, 0, .int .u16 f), (P, 1, .slice (some ⟨D, 0, none⟩) l.length l.length)] (fun _ => True)) := ⟨⟨_, K_w2, E_w2⟩⟩
  repeat (go_big_quiet_step (fail))
  refine wpQuiet_nil ?_
  have rP0 : ∀ s : KX (0) w (w.heap.size) [(P, 0, .int .u16 f), (P, 1, .slice (some ⟨D, 0, none⟩) l.length l.length)] (fun _ => True), s.val.cell? ⟨P, 0, none⟩ = some (.int .u16 f) := fun s => s.kept.at (by simp)
  have rP1 : ∀ s : KX (0) w (w.heap.size) [(P, 0, .int .u16 f), (P, 1, .slice (some ⟨D, 0, none⟩) l.length l.length)] (fun _ => True), s.val.cell? ⟨P, 1, none⟩ = some (.slice (some ⟨D, 0, none⟩) l.length l.length) := fun s => s.kept.at (by simp)
  repeat (go_big_quiet_step (fail))
  refine wpQuiet_nil ?_
  clear rP0 rP1
  have KH_w2 := Lib.hid K_w2
  have hw_w2 := K_w2.below
  have hz_w2 := K_w2.size
  have lP_w2 : P < w2.heap.size := by omega
  clear lP_w1
  clear K_w2
  have HD0 := Lib.hid (F_w2.1)
  have HO := Lib.hid (F_w2.2)
  clear E_w2 F_w2
  refine ⟨fun K hK0 => ?_, trivial⟩
  have hK := Lib.hid hK0
  clear hK0
  go_wp2_with fail
  with_reducible refine (dist11c f n d _ hf hn HD.out).mono ?_
  rintro e w' ⟨rfl, rfl⟩
  go_wp2_with fail
  first | (refine ⟨rfl, ⟨⟨_, KH_w2.out, trivial⟩, rfl⟩, hK.out _ _ ?_⟩; clear hK K) | (refine ⟨⟨⟨_, KH_w2.out, trivial⟩, rfl⟩, hK.out _ _ ?_⟩; clear hK K)
  repeat (go_big_quiet_step (fail))
  refine wpQuiet_nil ?_
  refine ⟨fun K hK0 => ?_, trivial⟩
  have hK := Lib.hid hK0
  clear hK0
  have kd_w2 : w2.cell? ⟨D, d, none⟩ = some (.bool false) := HD0.out.cell hdf.out
  have fd_w2 : w2.frozen? ⟨D, d, none⟩ = false := HD0.out.free d
  go_wp2_with fail
  first | (refine ⟨rfl, hK.out _ _ ?_⟩; clear hK K) | (refine hK.out _ _ ?_; clear hK K)
  clear _ne
  obtain ⟨w3, hw3⟩ : ∃ w3, w3 = w2.setCell ⟨D, d, none⟩ (.bool true) := ⟨_, rfl⟩
  rw [← hw3]
  have HD1 : Hid (DAt w3 D (l.set d true) ex) := Lib.hid (by rw [hw3]; exact HD0.out.set d true hdl)
  have HO3 : Hid (Onl [D] w w3) := Lib.hid (by rw [hw3]; exact (Onl.of HO.out).setCell (.inl (by simp)) _)
  replace HO : Hid (Onl [P, D] w w3) := Lib.hid (by rw [hw3]; exact (Onl.of HO.out).setCell (.inl (by simp)) _)
  have KH_w3 : Hid (Kept 0 w (w.heap.size) [(P, 0, .int .u16 f), (P, 1, .slice (some ⟨D, 0, none⟩) l.length l.length)] w3) := Lib.hid (by rw [hw3]; exact KH_w2.out.onl (S := [D]) ((Onl.refl _ _).setCell (.inl (by simp)) _) (by omega) (by simp) (by simp [Ne.symm HW.out.ne]))
  have hz_w3 := KH_w3.out.size
  clear hw3 kd_w2 fd_w2
  have cP0_w3 := KH_w3.out.at (b := P) (o := 0) (v := .int .u16 f) (by simp)
  have fP0_w3 := KH_w3.out.free (b := P) (o := 0) (v := .int .u16 f) (by simp)
  have cP1_w3 := KH_w3.out.at (b := P) (o := 1) (v := .slice (some ⟨D, 0, none⟩) l.length l.length) (by simp)
  have fP1_w3 := KH_w3.out.free (b := P) (o := 1) (v := .slice (some ⟨D, 0, none⟩) l.length l.length) (by simp)
  go_wp2_with fail
  with_reducible refine (index27s D l d l.length ex _ _ HD1.out hs1 hs2 HI.out).mono ?_
  rintro e w' ⟨rfl, rfl⟩
  go_wp2_with fail
  obtain ⟨w4, hw4⟩ : ∃ w4, w4 = w3.setCell ⟨P, 0, none⟩ (.int .u16 f2) := ⟨_, rfl⟩
  rw [← hw4]
  replace HD1 : Hid (DAt w4 D (l.set d true) ex) := Lib.hid (by rw [hw4]; exact HD1.out.other (Ne.symm HW.out.ne) _)
  replace HO : Hid (Onl [P, D] w w4) := Lib.hid (by rw [hw4]; exact HO.out.setCell (.inl (by simp)) _)
  have KH_w4 : Hid (Kept 0 w (w.heap.size) [(P, 0, .int .u16 f2), (P, 1, .slice (some ⟨D, 0, none⟩) l.length l.length)] w4) := Lib.hid (by rw [hw4]; exact ⟨KH_w3.out.below.setCell (Nat.zero_le _) _, by simpa [World.setCell] using KH_w3.out.size, by simp [go_sem, cP0_w3, cP1_w3, fP0_w3, fP1_w3]; omega⟩)
  have hz_w4 := KH_w4.out.size
  have hlt4 : P < w4.heap.size := by omega
  have HP4 : Hid (w4.heap[P]? = some (.cells #[.int .u16 f2, .slice (some ⟨D, 0, none⟩) l.length l.length] 50 (0, 0))) := Lib.hid (by rw [hw4, heap_setCell_same w3 P 0 _ 50 _ ((HO3.out.block P hlt (by simpa using Ne.symm HW.out.ne)).trans HW.out.p)]; rfl)
  clear hw4 cP0_w3 cP1_w3 fP0_w3 fP1_w3
  refine rg17_12 (w0 := w) (B := 0) (n := w.heap.size) (L := [(P, 0, .int .u16 f2), (P, 1, .slice (some ⟨D, 0, none⟩) l.length l.length)]) (E := fun _ => True) (F := fun W => DAt W D (l.set d true) ex ∧ Onl [P, D] w W ∧ Onl [D] w4 W) (by kernel_rfl) (by kernel_rfl) (KH_w4.out.step (by omega) (by go_grown)) trivial (fun _ _ _ _ => trivial) ⟨HD1.out, HO.out, Onl.refl _ _⟩ (fun _ _ h hb => ⟨h.1.below hb, h.2.1.grow hb, h.2.2.grow hb⟩) (fun w5 K_w5 E_w5 F_w5 => ?_)
  have _ne : Nonempty (KX (0) w (w.heap.size) [(P, 0, .int .u16 f2), (P, 1, .slice (some ⟨D, 0, none⟩) l.length l.length)] (fun _ => True)) := ⟨⟨_, K_w5, E_w5⟩⟩
  repeat (go_big_quiet_step (fail))
  refine wpQuiet_nil ?_
  have rP0 : ∀ s : KX (0) w (w.heap.size) [(P, 0, .int .u16 f2), (P, 1, .slice (some ⟨D, 0, none⟩) l.length l.length)] (fun _ => True), s.val.cell? ⟨P, 0, none⟩ = some (.int .u16 f2) := fun s => s.kept.at (by simp)
  have rP1 : ∀ s : KX (0) w (w.heap.size) [(P, 0, .int .u16 f2), (P, 1, .slice (some ⟨D, 0, none⟩) l.length l.length)] (fun _ => True), s.val.cell? ⟨P, 1, none⟩ = some (.slice (some ⟨D, 0, none⟩) l.length l.length) := fun s => s.kept.at (by simp)
  repeat (go_big_quiet_step (fail))
  refine wpQuiet_nil ?_
  clear rP0 rP1
  repeat (go_big_quiet_step (fail))
  refine wpQuiet_nil ?_
  have KH_w5 := Lib.hid K_w5
  have hw_w5 := K_w5.below
  have hz_w5 := K_w5.size
  have lP_w5 : P < w5.heap.size := by omega
  clear K_w5
  have HD1 := Lib.hid (F_w5.1)
  have HO := Lib.hid (F_w5.2.1)
  have HQ := Lib.hid (F_w5.2.2)
  clear E_w5 F_w5
  refine ⟨fun K hK0 => ?_, trivial⟩
  have hK := Lib.hid hK0
  clear hK0
  refine wpList_copy_nothing rfl (.tmp 61) (.tmp 67) 48 48 rfl 4 Try.underlying48 (by kernel_rfl) _ _ _ _ _ _ rfl rfl (by simp) ?_
  go_wp2_with fail
  first | (refine ⟨rfl, hK.out _ _ ?_⟩; clear hK K) | (refine hK.out _ _ ?_; clear hK K)
  clear _ne
  go_wp2_with fail
  refine rg17_13 (w0 := w) (B := 0) (n := w.heap.size) (L := [(P, 0, .int .u16 f2), (P, 1, .slice (some ⟨D, 0, none⟩) l.length l.length)]) (E := fun _ => True) (F := fun W => W.heap[D]? = some (.cells ((l.set d true).map Value.bool ++ ex).toArray 4 (0, 0)) ∧ Onl [P, D] w W ∧ Onl [D] w4 W) (by kernel_rfl) (by kernel_rfl) (KH_w5.out.step (by omega) (by go_grown)) trivial (fun _ _ _ _ => trivial) ⟨HD1.out, HO.out, HQ.out⟩ (fun _ _ h hb => ⟨(hb.block D (Array.getElem?_eq_some_iff.1 h.1).1).trans h.1, h.2.1.grow hb, h.2.2.grow hb⟩) (fun w6 K_w6 E_w6 F_w6 => ?_)
  have _ne : Nonempty (KX (0) w (w.heap.size) [(P, 0, .int .u16 f2), (P, 1, .slice (some ⟨D, 0, none⟩) l.length l.length)] (fun _ => True)) := ⟨⟨_, K_w6, E_w6⟩⟩
  repeat (go_big_quiet_step (fail))
  refine wpQuiet_nil ?_
  have rP0 : ∀ s : KX (0) w (w.heap.size) [(P, 0, .int .u16 f2), (P, 1, .slice (some ⟨D, 0, none⟩) l.length l.length)] (fun _ => True), s.val.cell? ⟨P, 0, none⟩ = some (.int .u16 f2) := fun s => s.kept.at (by simp)
  have rP1 : ∀ s : KX (0) w (w.heap.size) [(P, 0, .int .u16 f2), (P, 1, .slice (some ⟨D, 0, none⟩) l.length l.length)] (fun _ => True), s.val.cell? ⟨P, 1, none⟩ = some (.slice (some ⟨D, 0, none⟩) l.length l.length) := fun s => s.kept.at (by simp)
  repeat (go_big_quiet_step (fail))
  refine wpQuiet_nil ?_
  clear rP0 rP1
  repeat (go_big_quiet_step (fail))
  refine wpQuiet_nil ?_
  have KH_w6 := Lib.hid K_w6
  have hw_w6 := K_w6.below
  have hz_w6 := K_w6.size
  have lP_w6 : P < w6.heap.size := by omega
  clear lP_w5
  clear K_w6
  have HD1 := Lib.hid (F_w6.1)
  have HO := Lib.hid (F_w6.2.1)
  have HQ := Lib.hid (F_w6.2.2)
  clear E_w6 F_w6
  refine ⟨fun K hK0 => ?_, trivial⟩
  have hK := Lib.hid hK0
  clear hK0
  have hcl := fun ty c => Lib.run_clear_slice (P := Try.prog) w6 48 4 ty (.bool false) Try.underlying48 (fun w => by kernel_rfl) rfl rfl D 0 l.length c (by omega) (fun j hj => row_some HD1.out (by simp; omega)) (fun j hj => frozen_of_row _ _ _ _ 4 HD1.out)
  go_wp2_with fail
  first | (refine ⟨rfl, hK.out _ _ ?_⟩; clear hK K) | (refine hK.out _ _ ?_; clear hK K)
  clear _ne
  go_wp2_with fail
  go_returns
  exact ⟨rfl, ⟨((HQ.out.setCells2 (.inl (by simp))).block P hlt4 (by simpa using Ne.symm HW.out.ne)).trans HP4.out, (by simpa using fin_all HD1.out (by simpa using HG.out))⟩, HO.out.setCells2 (.inl (by simp))⟩

set_option maxRecDepth 100000 in
set_option maxHeartbeats 2000000 in
theorem accept17_gal (P D : Nat) (f : Int) (l : List Bool) (cap : Nat) (ex : List Value) (w : World) (hw : WinAt w P D f l cap ex) (n : Int) (d : Nat) (hcp : l.length < cap) (hn : U16 n) (HD : Hid (dist f n = (d : Int))) (HV : Hid (hasN l d = false)) (hdl : d < l.length) (hdf : Hid (l[d]? = some false)) (f2 : Int) (hfw : IntKind.u16.wrap (f + (l.length : Int)) = f2) (HI : Hid (idxF (l.set d true) = -1)) (HG : Hid (gone (l.set d true) = l.length)) :
    Calls Try.prog 17 #[.pointer (some ⟨P, 0, none⟩), .int .u16 n] w fun e w' => e = .returned (.int .i64 0) ∧ (w'.heap[P]? = some (.cells #[.int .u16 f2, .slice (some ⟨D, 0, none⟩) l.length cap] 50 (0, 0)) ∧ DAt w' D (shift (l.set d true)) ex) ∧ Onl [P, D] w w' := by
  have k0 := hw.cell0
  have k1 := hw.cell1
  have hl1 := hw.l1
  have hl2 := hw.l2
  have hf := hw.f0
  have HW := Lib.hid hw
  clear hw
  have fp0 := HW.out.free 0
  have fp1 := HW.out.free 1
  have hlt := HW.out.plt
  have HD0 := Lib.hid HW.out.d
  have HO := Lib.hid (Below.refl w.heap.size w)
  have hs1 := hl1
  have hs2 := hl2
  have hcap := HW.out.c
  have hfa := hf.1
  have hfb := hf.2
  have q1 : decide ((l.length : Int) ≤ (d : Int)) = false := by simp; omega
  have q2 : (0 : Int) ≤ (d : Int) := by omega
  have q3 : (d : Int) < (l.length : Int) := by omega
  have hcq : (l.length : Int) < (cap : Int) := by omega
  go_enter Try.func17, Try.ntmps17
  go_wp2_with fail
  with_reducible refine (zero26 P D l cap _ k1 hl1).mono ?_
  rintro e w' ⟨rfl, rfl⟩
  go_wp2_with fail
  with_reducible refine (has21c P D f l cap ex _ HW.out n d _ hn HD HV.out).mono ?_
  rintro e w' ⟨rfl, rfl⟩
  go_wp2_with fail
  refine rg17_5 (w0 := w) (B := 0) (n := w.heap.size) (L := [(P, 0, .int .u16 f), (P, 1, .slice (some ⟨D, 0, none⟩) l.length cap)]) (E := fun _ => True) (F := fun W => DAt W D l ex ∧ Below w.heap.size w W) (by kernel_rfl) (by kernel_rfl) ⟨by go_grown, by go_size, (by simp [go_sem, k0, k1, fp0, fp1] <;> omega)⟩ trivial (fun _ _ _ _ => trivial) ⟨HD0.out, HO.out⟩ (fun _ _ h hb => ⟨h.1.below hb, below_via h.2 hb⟩) (fun w1 K_w1 E_w1 F_w1 => ?_)
  have _ne : Nonempty (KX (0) w (w.heap.size) [(P, 0, .int .u16 f), (P, 1, .slice (some ⟨D, 0, none⟩) l.length cap)] (fun _ => True)) := ⟨⟨_, K_w1, E_w1⟩⟩
  repeat (go_big_quiet_step (fail))
  refine wpQuiet_nil ?_
  have rP0 : ∀ s : KX (0) w (w.heap.size) [(P, 0, .int .u16 f), (P, 1, .slice (some ⟨D, 0, none⟩) l.length cap)] (fun _ => True), s.val.cell? ⟨P, 0, none⟩ = some (.int .u16 f) := fun s => s.kept.at (by simp)
  have rP1 : ∀ s : KX (0) w (w.heap.size) [(P, 0, .int .u16 f), (P, 1, .slice (some ⟨D, 0, none⟩) l.length cap)] (fun _ => True), s.val.cell? ⟨P, 1, none⟩ = some (.slice (some ⟨D, 0, none⟩) l.length cap) := fun s => s.kept.at (by simp)
  repeat (go_big_quiet_step (fail))
  refine wpQuiet_nil ?_
  clear rP0 rP1
  repeat (go_big_quiet_step (fail))
  refine wpQuiet_nil ?_
  have KH_w1 := Lib.hid K_w1
  have hw_w1 := K_w1.below
  have hz_w1 := K_w1.size
  have lP_w1 : P < w1.heap.size := by omega
  clear k0 k1 fp0 fp1
  clear K_w1
  have HD0 := Lib.hid (F_w1.1)
  have HO := Lib.hid (F_w1.2)
  clear E_w1 F_w1
  refine ⟨fun K hK0 => ?_, trivial⟩
  have hK := Lib.hid hK0
  clear hK0
  go_wp2_with fail
  with_reducible refine (dist11c f n d _ hf hn HD.out).mono ?_
  rintro e w' ⟨rfl, rfl⟩
  go_wp2_with fail
  first | (refine ⟨rfl, ⟨⟨_, KH_w1.out, trivial⟩, rfl⟩, hK.out _ _ ?_⟩; clear hK K) | (refine ⟨⟨⟨_, KH_w1.out, trivial⟩, rfl⟩, hK.out _ _ ?_⟩; clear hK K)
  repeat (go_big_quiet_step (fail))
  refine wpQuiet_nil ?_
  clear _ne
  go_wp2_with fail
  refine rg17_7 (w0 := w) (B := 0) (n := w.heap.size) (L := [(P, 0, .int .u16 f), (P, 1, .slice (some ⟨D, 0, none⟩) l.length cap)]) (E := fun _ => True) (F := fun W => DAt W D l ex ∧ Below w.heap.size w W) (by kernel_rfl) (by kernel_rfl) (KH_w1.out.step (by omega) (by go_grown)) trivial (fun _ _ _ _ => trivial) ⟨HD0.out.below (by go_grown), below_via HO.out (by go_grown)⟩ (fun _ _ h hb => ⟨h.1.below hb, below_via h.2 hb⟩) (fun w2 K_w2 E_w2 F_w2 => ?_)
  have _ne : Nonempty (KX (0) w (w.heap.size) [(P, 0, .int .u16 f), (P, 1, .slice (some ⟨D, 0, none⟩) l.length cap)] (fun _ => True)) := ⟨⟨_, K_w2, E_w2⟩⟩
  repeat (go_big_quiet_step (fail))
  refine wpQuiet_nil ?_
  have rP0 : ∀ s : KX (0) w (w.heap.size) [(P, 0, .int .u16 f), (P, 1, .slice (some ⟨D, 0, none⟩) l.length cap)] (fun _ => True), s.val.cell? ⟨P, 0, none⟩ = some (.int .u16 f) := fun s => s.kept.at (by simp)
  have rP1 : ∀ s : KX (0) w (w.heap.size) [(P, 0, .int .u16 f), (P, 1, .slice (some ⟨D, 0, none⟩) l.length cap)] (fun _ => True), s.val.cell? ⟨P, 1, none⟩ = some (.slice (some ⟨D, 0, none⟩) l.length cap) := fun s => s.kept.at (by simp)
  repeat (go_big_quiet_step (fail))
  refine wpQuiet_nil ?_
  clear rP0 rP1
  have KH_w2 := Lib.hid K_w2
  have hw_w2 := K_w2.below
  have hz_w2 := K_w2.size
  have lP_w2 : P < w2.heap.size := by omega
  clear lP_w1
  clear K_w2
  have HD0 := Lib.hid (F_w2.1)
  have HO := Lib.hid (F_w2.2)
  clear E_w2 F_w2
  refine ⟨fun K hK0 => ?_, trivial⟩
  have hK := Lib.hid hK0
  clear hK0
  go_wp2_with fail
  with_reducible refine (dist11c f n d _ hf hn HD.out).mono ?_
  rintro e w' ⟨rfl, rfl⟩
  go_wp2_with fail
  first | (refine ⟨rfl, ⟨⟨_, KH_w2.out, trivial⟩, rfl⟩, hK.out _ _ ?_⟩; clear hK K) | (refine ⟨⟨⟨_, KH_w2.out, trivial⟩, rfl⟩, hK.out _ _ ?_⟩; clear hK K)
  repeat (go_big_quiet_step (fail))
  refine wpQuiet_nil ?_
  refine ⟨fun K hK0 => ?_, trivial⟩
  have hK := Lib.hid hK0
  clear hK0
  have kd_w2 : w2.cell? ⟨D, d, none⟩ = some (.bool false) := HD0.out.cell hdf.out
  have fd_w2 : w2.frozen? ⟨D, d, none⟩ = false := HD0.out.free d
  go_wp2_with fail
  first | (refine ⟨rfl, hK.out _ _ ?_⟩; clear hK K) | (refine hK.out _ _ ?_; clear hK K)
  clear _ne
  obtain ⟨w3, hw3⟩ : ∃ w3, w3 = w2.setCell ⟨D, d, none⟩ (.bool true) := ⟨_, rfl⟩
  rw [← hw3]
  have HD1 : Hid (DAt w3 D (l.set d true) ex) := Lib.hid (by rw [hw3]; exact HD0.out.set d true hdl)
  have HO3 : Hid (Onl [D] w w3) := Lib.hid (by rw [hw3]; exact (Onl.of HO.out).setCell (.inl (by simp)) _)
  replace HO : Hid (Onl [P, D] w w3) := Lib.hid (by rw [hw3]; exact (Onl.of HO.out).setCell (.inl (by simp)) _)
  have KH_w3 : Hid (Kept 0 w (w.heap.size) [(P, 0, .int .u16 f), (P, 1, .slice (some ⟨D, 0, none⟩) l.length cap)] w3) := Lib.hid (by rw [hw3]; exact KH_w2.out.onl (S := [D]) ((Onl.refl _ _).setCell (.inl (by simp)) _) (by omega) (by simp) (by simp [Ne.symm HW.out.ne]))
  have hz_w3 := KH_w3.out.size
  clear hw3 kd_w2 fd_w2
  have cP0_w3 := KH_w3.out.at (b := P) (o := 0) (v := .int .u16 f) (by simp)
  have fP0_w3 := KH_w3.out.free (b := P) (o := 0) (v := .int .u16 f) (by simp)
  have cP1_w3 := KH_w3.out.at (b := P) (o := 1) (v := .slice (some ⟨D, 0, none⟩) l.length cap) (by simp)
  have fP1_w3 := KH_w3.out.free (b := P) (o := 1) (v := .slice (some ⟨D, 0, none⟩) l.length cap) (by simp)
  go_wp2_with fail
  with_reducible refine (index27s D l d cap ex _ _ HD1.out hs1 hs2 HI.out).mono ?_
  rintro e w' ⟨rfl, rfl⟩
  go_wp2_with fail
  obtain ⟨w4, hw4⟩ : ∃ w4, w4 = w3.setCell ⟨P, 0, none⟩ (.int .u16 f2) := ⟨_, rfl⟩
  rw [← hw4]
  replace HD1 : Hid (DAt w4 D (l.set d true) ex) := Lib.hid (by rw [hw4]; exact HD1.out.other (Ne.symm HW.out.ne) _)
  replace HO : Hid (Onl [P, D] w w4) := Lib.hid (by rw [hw4]; exact HO.out.setCell (.inl (by simp)) _)
  have KH_w4 : Hid (Kept 0 w (w.heap.size) [(P, 0, .int .u16 f2), (P, 1, .slice (some ⟨D, 0, none⟩) l.length cap)] w4) := Lib.hid (by rw [hw4]; exact ⟨KH_w3.out.below.setCell (Nat.zero_le _) _, by simpa [World.setCell] using KH_w3.out.size, by simp [go_sem, cP0_w3, cP1_w3, fP0_w3, fP1_w3]; omega⟩)
  have hz_w4 := KH_w4.out.size
  have hlt4 : P < w4.heap.size := by omega
  have HP4 : Hid (w4.heap[P]? = some (.cells #[.int .u16 f2, .slice (some ⟨D, 0, none⟩) l.length cap] 50 (0, 0))) := Lib.hid (by rw [hw4, heap_setCell_same w3 P 0 _ 50 _ ((HO3.out.block P hlt (by simpa using Ne.symm HW.out.ne)).trans HW.out.p)]; rfl)
  clear hw4 cP0_w3 cP1_w3 fP0_w3 fP1_w3
  refine rg17_12 (w0 := w) (B := 0) (n := w.heap.size) (L := [(P, 0, .int .u16 f2), (P, 1, .slice (some ⟨D, 0, none⟩) l.length cap)]) (E := fun _ => True) (F := fun W => DAt W D (l.set d true) ex ∧ Onl [P, D] w W ∧ Onl [D] w4 W) (by kernel_rfl) (by kernel_rfl) (KH_w4.out.step (by omega) (by go_grown)) trivial (fun _ _ _ _ => trivial) ⟨HD1.out, HO.out, Onl.refl _ _⟩ (fun _ _ h hb => ⟨h.1.below hb, h.2.1.grow hb, h.2.2.grow hb⟩) (fun w5 K_w5 E_w5 F_w5 => ?_)
  have _ne : Nonempty (KX (0) w (w.heap.size) [(P, 0, .int .u16 f2), (P, 1, .slice (some ⟨D, 0, none⟩) l.length cap)] (fun _ => True)) := ⟨⟨_, K_w5, E_w5⟩⟩
  repeat (go_big_quiet_step (fail))
  refine wpQuiet_nil ?_
  have rP0 : ∀ s : KX (0) w (w.heap.size) [(P, 0, .int .u16 f2), (P, 1, .slice (some ⟨D, 0, none⟩) l.length cap)] (fun _ => True), s.val.cell? ⟨P, 0, none⟩ = some (.int .u16 f2) := fun s => s.kept.at (by simp)
  have rP1 : ∀ s : KX (0) w (w.heap.size) [(P, 0, .int .u16 f2), (P, 1, .slice (some ⟨D, 0, none⟩) l.length cap)] (fun _ => True), s.val.cell? ⟨P, 1, none⟩ = some (.slice (some ⟨D, 0, none⟩) l.length cap) := fun s => s.kept.at (by simp)
  repeat (go_big_quiet_step (fail))
  refine wpQuiet_nil ?_
  clear rP0 rP1
  repeat (go_big_quiet_step (fail))
  refine wpQuiet_nil ?_
  have KH_w5 := Lib.hid K_w5
  have hw_w5 := K_w5.below
  have hz_w5 := K_w5.size
  have lP_w5 : P < w5.heap.size := by omega
  clear K_w5
  have HD1 := Lib.hid (F_w5.1)
  have HO := Lib.hid (F_w5.2.1)
  have HQ := Lib.hid (F_w5.2.2)
  clear E_w5 F_w5
  refine ⟨fun K hK0 => ?_, trivial⟩
  have hK := Lib.hid hK0
  clear hK0
  refine wpList_copy_nothing rfl (.tmp 61) (.tmp 67) 48 48 rfl 4 Try.underlying48 (by kernel_rfl) _ _ _ _ _ _ rfl rfl (by simp) ?_
  go_wp2_with fail
  first | (refine ⟨rfl, hK.out _ _ ?_⟩; clear hK K) | (refine hK.out _ _ ?_; clear hK K)
  clear _ne
  go_wp2_with fail
  refine rg17_13 (w0 := w) (B := 0) (n := w.heap.size) (L := [(P, 0, .int .u16 f2), (P, 1, .slice (some ⟨D, 0, none⟩) l.length cap)]) (E := fun _ => True) (F := fun W => W.heap[D]? = some (.cells ((l.set d true).map Value.bool ++ ex).toArray 4 (0, 0)) ∧ Onl [P, D] w W ∧ Onl [D] w4 W) (by kernel_rfl) (by kernel_rfl) (KH_w5.out.step (by omega) (by go_grown)) trivial (fun _ _ _ _ => trivial) ⟨HD1.out, HO.out, HQ.out⟩ (fun _ _ h hb => ⟨(hb.block D (Array.getElem?_eq_some_iff.1 h.1).1).trans h.1, h.2.1.grow hb, h.2.2.grow hb⟩) (fun w6 K_w6 E_w6 F_w6 => ?_)
  have _ne : Nonempty (KX (0) w (w.heap.size) [(P, 0, .int .u16 f2), (P, 1, .slice (some ⟨D, 0, none⟩) l.length cap)] (fun _ => True)) := ⟨⟨_, K_w6, E_w6⟩⟩
  repeat (go_big_quiet_step (fail))
  refine wpQuiet_nil ?_
  have rP0 : ∀ s : KX (0) w (w.heap.size) [(P, 0, .int .u16 f2), (P, 1, .slice (some ⟨D, 0, none⟩) l.length cap)] (fun _ => True), s.val.cell? ⟨P, 0, none⟩ = some (.int .u16 f2) := fun s => s.kept.at (by simp)
  have rP1 : ∀ s : KX (0) w (w.heap.size) [(P, 0, .int .u16 f2), (P, 1, .slice (some ⟨D, 0, none⟩) l.length cap)] (fun _ => True), s.val.cell? ⟨P, 1, none⟩ = some (.slice (some ⟨D, 0, none⟩) l.length cap) := fun s => s.kept.at (by simp)
  repeat (go_big_quiet_step (fail))
  refine wpQuiet_nil ?_
  clear rP0 rP1
  repeat (go_big_quiet_step (fail))
  refine wpQuiet_nil ?_
  have KH_w6 := Lib.hid K_w6
  have hw_w6 := K_w6.below
  have hz_w6 := K_w6.size
  have lP_w6 : P < w6.heap.size := by omega
  clear lP_w5
  clear K_w6
  have HD1 := Lib.hid (F_w6.1)
  have HO := Lib.hid (F_w6.2.1)
  have HQ := Lib.hid (F_w6.2.2)
  clear E_w6 F_w6
  refine ⟨fun K hK0 => ?_, trivial⟩
  have hK := Lib.hid hK0
  clear hK0
  have hcl := fun ty c => Lib.run_clear_slice (P := Try.prog) w6 48 4 ty (.bool false) Try.underlying48 (fun w => by kernel_rfl) rfl rfl D 0 l.length c (by omega) (fun j hj => row_some HD1.out (by simp; omega)) (fun j hj => frozen_of_row _ _ _ _ 4 HD1.out)
  go_wp2_with fail
  first | (refine ⟨rfl, hK.out _ _ ?_⟩; clear hK K) | (refine hK.out _ _ ?_; clear hK K)
  clear _ne
  go_wp2_with fail
  go_returns
  exact ⟨rfl, ⟨((HQ.out.setCells2 (.inl (by simp))).block P hlt4 (by simpa using Ne.symm HW.out.ne)).trans HP4.out, (by simpa using fin_all HD1.out (by simpa using HG.out))⟩, HO.out.setCells2 (.inl (by simp))⟩

end Go.Proofs.Ythibagfmglnejaa
