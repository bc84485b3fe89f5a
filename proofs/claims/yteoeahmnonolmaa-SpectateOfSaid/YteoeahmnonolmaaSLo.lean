/- The objects with some ids, by the law. -/
import Derived.Test.YteoeahmnonolmaaSO
import Derived.Deep.DeepCutAuto
import Derived.LoopTactic
import Derived.Deep.MidRow
namespace Go.Proofs.Yteoeahmnonolmaa
open Go.RowKit Plain
set_option linter.unusedVariables false
set_option linter.unusedSimpArgs false

theorem rg55_8 {P : Program} {B n : Nat} {w0 : World} {L : List (Nat × Nat × Value)} {E F : World → Prop} {id : Nat} {Q : Exit → Act → World → Prop} {a : Act} {w : World} {o0 o1 o2 o3 o4 o5 o6 o7 o8 o9 o10 : Oper} (hm : P.follows .mixedOrders = true)
    (hB : (Region.noSelect [o0, o1, o2, o3, o4, o5, o6, o7, o8, o9, o10].toArray && Scr.ok .any [o0, o1, o2, o3, o4, o5, o6, o7, o8, o9, o10].toArray [1, 5, 9] [0, 2, 3, 4, 6, 7, 8, 10] (.free 0 (.free 2 (.free 6 (.free 7 (.free 8 (.read 1 (.free 3 (.free 4 (.read 5 (.read 9 (.free 10 .done))))))))))) true true [o0, o1, o2, o3, o4, o5, o6, o7, o8, o9, o10].toArray.size (Array.replicate [o0, o1, o2, o3, o4, o5, o6, o7, o8, o9, o10].toArray.size false)) = true)
    (k : Kept B w0 n L w) (he : E w) (hE : ∀ W W', E W → Below W.heap.size W W' → E W') (hf : F w) (hF : ∀ W W', F W → Below W.heap.size W W' → F W')
    (h : ∀ wk, Kept B w0 n L wk → E wk → F wk → wpQuiet P [o0, o1, o2, o3, o4, o5, o6, o7, o8, o9, o10].toArray (fun _ => True) (fun a0 => wpQuiet P [o0, o1, o2, o3, o4, o5, o6, o7, o8, o9, o10].toArray (fun w' => ∃ s : KX B w0 n L E, w' = s.val) (fun a1 => wpQuiet P [o0, o1, o2, o3, o4, o5, o6, o7, o8, o9, o10].toArray (fun _ => True) (fun a2 => wpQuiet P [o0, o1, o2, o3, o4, o5, o6, o7, o8, o9, o10].toArray (fun w' => ∃ s : KX B w0 n L E, w' = s.val) (fun a3 => wpQuiet P [o0, o1, o2, o3, o4, o5, o6, o7, o8, o9, o10].toArray (fun _ => True) (fun a4 => Q .normal a4 wk) [o10] a3) [o5, o9] a2) [o3, o4] a1) [o1] a0) [o0, o2, o6, o7, o8] a) : (Code.region id [o0, o1, o2, o3, o4, o5, o6, o7, o8, o9, o10].toArray true).wp P Q a w := by
  have e1 : E w.drew := hE _ _ he ((Below.refl _ _).drew)
  have g := h _ k.drew e1 (hF _ _ hf ((Below.refl _ _).drew))
  exact wp_region_scr (U := (fun w' => ∃ s : KX B w0 n L E, w' = s.val)) (ops := [o0, o1, o2, o3, o4, o5, o6, o7, o8, o9, o10].toArray) (.free 0 (.free 2 (.free 6 (.free 7 (.free 8 (.read 1 (.free 3 (.free 4 (.read 5 (.read 9 (.free 10 .done))))))))))) [1, 5, 9] [0, 2, 3, 4, 6, 7, 8, 10] hm hB ⟨⟨_, k.drew, e1⟩, rfl⟩ (Scr.of_free rfl g (fun _ g0 => Scr.of_free rfl g0 (fun _ g1 => Scr.of_free rfl g1 (fun _ g2 => Scr.of_free rfl g2 (fun _ g3 => Scr.of_free rfl g3 (fun _ g4 => Scr.of_read rfl g4 (fun _ g5 => Scr.of_free rfl g5 (fun _ g6 => Scr.of_free rfl g6 (fun _ g7 => Scr.of_read rfl g7 (fun _ g8 => Scr.of_read rfl g8 (fun _ g9 => Scr.of_free rfl g9 (fun _ g10 => g10))))))))))))
theorem filter_le1 {l : List Ob} (hn : (l.map Ob.id).Nodup) (z : Int) (k : Nat) : ((l.take k).filter (isO z)).length ≤ 1 := by
  have h : ((l.take k).map Ob.id).Nodup := by rw [List.map_take]; exact hn.sublist (List.take_sublist _ _)
  rw [filter_uniq h]
  cases (l.take k).find? (isO z) <;> simp
def LbL (w : World) (s : Bs) (B : Bd) (ids : List Int) (out v : Value) (wr : World) : Prop := ∃ i : Nat, i ≤ ids.length ∧ v = .int .i64 i ∧ Below w.heap.size w wr ∧ Bx wr w.heap.size s B ∧ Ow oc 12 79 wr w.heap.size out (obF B.ob (ids.take i))
def LbI (w : World) (s : Bs) (B : Bd) (ids : List Int) (i : Nat) (x : Int) (out v : Value) (wr : World) : Prop := ∃ k : Nat, k ≤ B.ob.length ∧ v = .int .i64 k ∧ Below w.heap.size w wr ∧ Bx wr w.heap.size s B ∧ Ow oc 12 79 wr w.heap.size out (obF B.ob (ids.take i) ++ (B.ob.take k).filter (isO x))
set_option maxRecDepth 100000 in
set_option maxHeartbeats 4000000 in
theorem lobjects (s : Bs) (B : Bd) (v : Value) (ids : List Int) (w : World) (h : BdR w s B) (hv : Rw ic 1 w v ids) (hl : ids.length ≤ 1000) (hol : B.ob.length ≤ 1000) (hn : (B.ob.map Ob.id).Nodup) : Calls Try.prog 55 #[bv s B, v] w (ClA oc 12 79 w (obF B.ob ids)) := by
  have HR := Lib.hid h
  obtain ⟨_, a0, c0, rfl, hf⟩ := hv.form
  have HF := Lib.hid hf
  have HLI := Lib.hid hl
  have HLO := Lib.hid hol
  have HND := Lib.hid hn
  clear h hv hf hn
  go_enter Try.func55, Try.ntmps55
  go_upto_region 1 with fail
  change Code.wp Try.prog _ _ _ (w.alloc (.cells (bcells s B) 34))
  obtain ⟨wz, hwz⟩ : ∃ W, W = w.alloc (.cells (bcells s B) 34) := ⟨_, rfl⟩
  have HX : Hid (Bx wz w.heap.size s B) := Lib.hid (by rw [hwz]; exact heap_alloc_new _ _)
  have HB : Hid (Below w.heap.size w wz) := Lib.hid (by rw [hwz]; exact (Below.refl _ _).alloc (Nat.le_refl _) _)
  rw [← hwz]
  clear hwz
  go_wp2_with fail
  go_loopw [5, 6] (fun out i wr => LbL w s B ids out i wr) (fun _ i _ => ids.length - (intOf i).toNat)
  case atStart => exact ⟨0, by omega, rfl, HB.out, HX.out, Ow.nil _ _ _⟩
  case round =>
    clear HX HB
    obtain ⟨i, hi, rfl, hb, hx, ho⟩ := hrel
    have HB := Lib.hid hb
    have HX := Lib.hid hx
    have HO := Lib.hid ho
    obtain ⟨oa, oc', rfl⟩ := ho.form
    clear ho hx
    by_cases hil : i < ids.length
    · have HIL := Lib.hid hil
      obtain ⟨b, off, ha, hlt, hc⟩ := HF.out (by omega)
      obtain ⟨x, hx1⟩ : ∃ x, ids[i]? = some x := ⟨_, List.getElem?_eq_getElem hil⟩
      subst ha
      have HDX : Hid (∀ W, Below w.heap.size w W → W.cell? ⟨b, off + i, none⟩ = some (.int .i64 x) ∧ b < W.heap.size) := Lib.hid (fun W hw => ⟨(hw.cell (p := ⟨b, off + i, none⟩) hlt).trans (by have := hc i x hx1 0 _ rfl; simpa using this), Nat.lt_of_lt_of_le hlt hw.size⟩)
      have i1 : (0 : Int) ≤ (i : Int) := by omega
      have i2 : (i : Int) < (ids.length : Int) := by omega
      have i3 : decide ((i : Int) < (ids.length : Int)) = true := decide_eq_true i2
      have HID := Lib.hid hx1
      clear hc hb hx1
      go_wp2_with fail
      obtain ⟨wo, rfl⟩ : ∃ W, W = wr := ⟨_, rfl⟩
      go_loopw [5, 7] (fun out v wr => LbI w s B ids i x out v wr) (fun _ v _ => B.ob.length - (intOf v).toNat)
      case atStart => exact ⟨0, by omega, rfl, HB.out, HX.out, by simpa using HO.out⟩
      case round =>
        clear HX HB HO
        obtain ⟨k, hk, rfl, hb, hx, ho⟩ := hrel
        have HB := Lib.hid hb
        have HX := Lib.hid hx
        have HO := Lib.hid ho
        obtain ⟨oa2, oc2, rfl⟩ := ho.form
        obtain ⟨on, hon⟩ : ∃ n, n = (obF B.ob (ids.take i) ++ (B.ob.take k).filter (isO x)).length := ⟨_, rfl⟩
        have HON : Hid (on ≤ i + 1) := Lib.hid (by
          have h1 := obF_le B.ob (ids.take i)
          have h2 := filter_le1 HND.out x k
          rw [List.length_take] at h1
          rw [hon, List.length_append]
          omega)
        rw [← hon] at HO ⊢
        have HLN := Lib.hid hon
        clear hon ho
        by_cases hkl : k < B.ob.length
        · have HKL := Lib.hid hkl
          obtain ⟨y, hy⟩ : ∃ y, B.ob[k]? = some y := ⟨_, List.getElem?_eq_getElem hkl⟩
          obtain ⟨b1, o1, c1, e1, g1, r1⟩ := obj_at hx (HR.out.below hb) hy
          have d0 : wr.cell? ⟨b1, o1 + k * 12, none⟩ = some (.int .i64 y.id) := r1 0 _ rfl
          have d1 : wr.cell? ⟨b1, o1 + k * 12 + 1, none⟩ = some (.int .i64 y.cd) := r1 1 _ rfl
          have d2 : wr.cell? ⟨b1, o1 + k * 12 + 2, none⟩ = some (.int .i64 y.ow) := r1 2 _ rfl
          have d3 : wr.cell? ⟨b1, o1 + k * 12 + 3, none⟩ = some (.int .i64 y.po) := r1 3 _ rfl
          have d4 : wr.cell? ⟨b1, o1 + k * 12 + 4, none⟩ = some (.int .i64 y.tg) := r1 4 _ rfl
          have d5 : wr.cell? ⟨b1, o1 + k * 12 + 5, none⟩ = some (.int .i64 y.da) := r1 5 _ rfl
          have d6 : wr.cell? ⟨b1, o1 + k * 12 + 6, none⟩ = some (.int .i64 y.co) := r1 6 _ rfl
          have d7 : wr.cell? ⟨b1, o1 + k * 12 + 7, none⟩ = some (.int .i64 y.pp) := r1 7 _ rfl
          have d8 : wr.cell? ⟨b1, o1 + k * 12 + 8, none⟩ = some (.int .i64 y.pt) := r1 8 _ rfl
          have d9 : wr.cell? ⟨b1, o1 + k * 12 + 9, none⟩ = some (.bool y.ta) := r1 9 _ rfl
          have d10 : wr.cell? ⟨b1, o1 + k * 12 + 10, none⟩ = some (.bool y.si) := r1 10 _ rfl
          have d11 : wr.cell? ⟨b1, o1 + k * 12 + 11, none⟩ = some (.bool y.dm) := r1 11 _ rfl
          have dx := (HDX.out wr hb).1
          have gx := (HDX.out wr hb).2
          have lp := hx.lt
          have j1 : (0 : Int) ≤ (k : Int) := by omega
          have j2 : (k : Int) < (B.ob.length : Int) := by omega
          have j3 : decide ((k : Int) < (B.ob.length : Int)) = true := decide_eq_true j2
          obtain ⟨p, hp⟩ : ∃ p, (y.id == x) = p := ⟨_, rfl⟩
          have HSN : Hid ((obF B.ob (ids.take i) ++ (B.ob.take (k + 1)).filter (isO x)) = (obF B.ob (ids.take i) ++ (B.ob.take k).filter (isO x)) ++ (if p then [y] else [])) := Lib.hid (by
            rw [List.take_add_one, hy]
            show _ ++ List.filter (isO x) (B.ob.take k ++ [y]) = _
            rw [List.filter_append, List.append_assoc]
            congr 2
            have e : isO x y = p := hp
            cases p <;> simp [List.filter, e])
          clear r1 hy hb hx
          go_upto_region 8 with fail
          refine rg55_8 (w0 := wr) (B := wr.heap.size) (n := wr.heap.size) (L := []) (E := fun _ => True) (F := fun _ => True) (by kernel_rfl) (by kernel_rfl) ⟨by go_grown, by go_size, (by simp [go_sem] <;> omega)⟩ trivial (fun _ _ _ _ => trivial) trivial (fun _ _ _ _ => trivial) (fun w31 K_w31 E_w31 F_w31 => ?_)
          have _ne : Nonempty (KX (wr.heap.size) wr (wr.heap.size) [] (fun _ => True)) := ⟨⟨_, K_w31, E_w31⟩⟩
          repeat (go_big_quiet_step (fail))
          refine wpQuiet_nil ?_
          have ra : ∀ s : KX (wr.heap.size) wr (wr.heap.size) [] (fun _ => True), s.val.cell? ⟨w.heap.size, 0, none⟩ = some (.slice (some ⟨b1, o1, none⟩) B.ob.length c1) := fun s => (s.kept.below.cell (p := ⟨w.heap.size, 0, none⟩) lp).trans e1
          have rb : ∀ s : KX (wr.heap.size) wr (wr.heap.size) [] (fun _ => True), s.val.cell? ⟨b1, o1 + k * 12, none⟩ = some (.int .i64 y.id) := fun s => (s.kept.below.cell (p := ⟨b1, o1 + k * 12, none⟩) g1).trans d0
          have rc : ∀ s : KX (wr.heap.size) wr (wr.heap.size) [] (fun _ => True), s.val.cell? ⟨b, off + i, none⟩ = some (.int .i64 x) := fun s => (s.kept.below.cell (p := ⟨b, off + i, none⟩) gx).trans dx
          repeat (go_big_quiet_step (fail))
          refine wpQuiet_nil ?_
          repeat (go_big_quiet_step (fail))
          refine wpQuiet_nil ?_
          repeat (go_big_quiet_step (fail))
          refine wpQuiet_nil ?_
          repeat (go_big_quiet_step (fail))
          refine wpQuiet_nil ?_
          clear ra rb rc
          clear _ne
          have KH_w31 := Lib.hid K_w31
          have hw_w31 := K_w31.below
          have hz_w31 := K_w31.size
          clear K_w31
          clear E_w31 F_w31
          replace HB := Lib.hid (below_via HB.out KH_w31.out.below)
          replace HX := Lib.hid (HX.out.below KH_w31.out.below)
          replace HO := Lib.hid (HO.out.below KH_w31.out.below)
          have E1 : w31.cell? ⟨w.heap.size, 0, none⟩ = some (.slice (some ⟨b1, o1, none⟩) B.ob.length c1) := (KH_w31.out.below.cell (p := ⟨w.heap.size, 0, none⟩) lp).trans e1
          replace d0 : w31.cell? ⟨b1, o1 + k * 12, none⟩ = some (.int .i64 y.id) := (KH_w31.out.below.cell (p := ⟨b1, o1 + k * 12, none⟩) g1).trans d0
          replace d1 : w31.cell? ⟨b1, o1 + k * 12 + 1, none⟩ = some (.int .i64 y.cd) := (KH_w31.out.below.cell (p := ⟨b1, o1 + k * 12 + 1, none⟩) g1).trans d1
          replace d2 : w31.cell? ⟨b1, o1 + k * 12 + 2, none⟩ = some (.int .i64 y.ow) := (KH_w31.out.below.cell (p := ⟨b1, o1 + k * 12 + 2, none⟩) g1).trans d2
          replace d3 : w31.cell? ⟨b1, o1 + k * 12 + 3, none⟩ = some (.int .i64 y.po) := (KH_w31.out.below.cell (p := ⟨b1, o1 + k * 12 + 3, none⟩) g1).trans d3
          replace d4 : w31.cell? ⟨b1, o1 + k * 12 + 4, none⟩ = some (.int .i64 y.tg) := (KH_w31.out.below.cell (p := ⟨b1, o1 + k * 12 + 4, none⟩) g1).trans d4
          replace d5 : w31.cell? ⟨b1, o1 + k * 12 + 5, none⟩ = some (.int .i64 y.da) := (KH_w31.out.below.cell (p := ⟨b1, o1 + k * 12 + 5, none⟩) g1).trans d5
          replace d6 : w31.cell? ⟨b1, o1 + k * 12 + 6, none⟩ = some (.int .i64 y.co) := (KH_w31.out.below.cell (p := ⟨b1, o1 + k * 12 + 6, none⟩) g1).trans d6
          replace d7 : w31.cell? ⟨b1, o1 + k * 12 + 7, none⟩ = some (.int .i64 y.pp) := (KH_w31.out.below.cell (p := ⟨b1, o1 + k * 12 + 7, none⟩) g1).trans d7
          replace d8 : w31.cell? ⟨b1, o1 + k * 12 + 8, none⟩ = some (.int .i64 y.pt) := (KH_w31.out.below.cell (p := ⟨b1, o1 + k * 12 + 8, none⟩) g1).trans d8
          replace d9 : w31.cell? ⟨b1, o1 + k * 12 + 9, none⟩ = some (.bool y.ta) := (KH_w31.out.below.cell (p := ⟨b1, o1 + k * 12 + 9, none⟩) g1).trans d9
          replace d10 : w31.cell? ⟨b1, o1 + k * 12 + 10, none⟩ = some (.bool y.si) := (KH_w31.out.below.cell (p := ⟨b1, o1 + k * 12 + 10, none⟩) g1).trans d10
          replace d11 : w31.cell? ⟨b1, o1 + k * 12 + 11, none⟩ = some (.bool y.dm) := (KH_w31.out.below.cell (p := ⟨b1, o1 + k * 12 + 11, none⟩) g1).trans d11
          clear e1 dx gx lp KH_w31
          cases p
          · have HOW : Hid (Ow oc 12 79 w31 w.heap.size (.slice oa2 on oc2) (obF B.ob (ids.take i) ++ (B.ob.take (k + 1)).filter (isO x))) := Lib.hid (by rw [HSN.out]; simpa using HO.out)
            go_wp2_with fail
            go_roundw
            case rel => exact ⟨k + 1, HKL.out, by go_num, HB.out, HX.out, HOW.out⟩
            case measure => have hkl := HKL.out; simp [intOf]; omega
          · go_wp2_with (at_builtin; refine wpList_append_ow (f := oc) (sz := 12) rfl _ _ 23 rfl w.heap.size 79 _ 80 Try.underlying23 infoO rfl (by decide) _ (obF B.ob (ids.take i) ++ (B.ob.take k).filter (isO x)) rfl (HO.out.below ((Below.refl _ _).alloc (Nat.le_refl _) _)) oc_ok _ [y] rfl (Rw.one2 _ _ y _ rfl _ _ (by simp)) ?ca ?cb (by have := HB.out.size; simp; omega) ?_)
            case ca => have q1 := HLI.out; have q2 := HIL.out; have q3 := HON.out; have q4 := HLN.out; rw [List.length_append] at q4; simp [maxLen]; omega
            case cb => have q1 := HLI.out; have q2 := HIL.out; have q3 := HON.out; have q4 := HLN.out; rw [List.length_append] at q4; simp; omega
            intro v2 w5 hown hgrow hnew
            have hown : Ow oc 12 79 w5 w.heap.size v2 (obF B.ob (ids.take i) ++ (B.ob.take (k + 1)).filter (isO x)) := by rw [HSN.out]; simpa using hown
            have HOW := Lib.hid hown
            have ho4 := HO.out.below ((Below.refl w31.heap.size w31).alloc (Nat.le_refl _) (.cells #[.int .i64 y.id, .int .i64 y.cd, .int .i64 y.ow, .int .i64 y.po, .int .i64 y.tg, .int .i64 y.da, .int .i64 y.co, .int .i64 y.pp, .int .i64 y.pt, .bool y.ta, .bool y.si, .bool y.dm] 79))
            have HB5 : Hid (Below w.heap.size w w5) := Lib.hid ((below_via HB.out ((Below.refl w31.heap.size w31).alloc (Nat.le_refl _) _)).grown hgrow (by have := HB.out.size; simp; omega) (fun q hq => (ho4.typ q hq).1))
            have HX5 : Hid (Bx w5 w.heap.size s B) := Lib.hid ((hgrow.block _ (by have := HX.out.lt; simp; omega) (fun e => by
              obtain ⟨_, _, cur, hcur⟩ := ho4.typ _ e.symm
              rw [HX.out.below ((Below.refl w31.heap.size w31).alloc (Nat.le_refl _) (.cells #[.int .i64 y.id, .int .i64 y.cd, .int .i64 y.ow, .int .i64 y.po, .int .i64 y.tg, .int .i64 y.da, .int .i64 y.co, .int .i64 y.pp, .int .i64 y.pt, .bool y.ta, .bool y.si, .bool y.dm] 79))] at hcur
              simp at hcur)).trans (HX.out.below ((Below.refl w31.heap.size w31).alloc (Nat.le_refl _) _)))
            clear hown hgrow hnew ho4 HX HB HO g1 E1 d0 d1 d2 d3 d4 d5 d6 d7 d8 d9 d10 d11
            go_wp2_with fail
            go_roundw
            case rel => exact ⟨k + 1, HKL.out, by go_num, HB5.out, HX5.out, HOW.out⟩
            case measure => have hkl := HKL.out; simp [intOf]; omega
        · have hke : k = B.ob.length := by omega
          subst hke
          obtain ⟨oa3, oc3, e1, _⟩ := obs_len hx (HR.out.below hb)
          have j3 : decide (((B.ob.length : Nat) : Int) < (B.ob.length : Int)) = false := decide_eq_false (by omega)
          have HOW : Hid (Ow oc 12 79 wr w.heap.size (.slice oa2 on oc2) (obF B.ob (ids.take (i + 1)))) := Lib.hid (by
            have h := HO.out
            rw [List.take_length, filter_uniq HND.out] at h
            rw [List.take_add_one, HID.out]
            show Ow _ _ _ _ _ _ (obF B.ob (ids.take i ++ [x]))
            rw [obF_snoc]
            exact h)
          clear hb hx
          go_wp2_with fail
          go_roundw
          case rel => exact ⟨i + 1, HIL.out, by have := HIL.out; have := HLI.out; go_num, HB.out, HX.out, HOW.out⟩
          case measure => have hil := HIL.out; simp [intOf]; omega
    · have hke : i = ids.length := by omega
      subst hke
      have i3 : decide (((ids.length : Nat) : Int) < (ids.length : Int)) = false := decide_eq_false (by omega)
      clear hb
      rw [List.take_length] at HO ⊢
      go_wp2_with fail
      go_returns
      exact ⟨oa, oc', rfl, Ox.of HO.out, HB.out⟩
end Go.Proofs.Yteoeahmnonolmaa
