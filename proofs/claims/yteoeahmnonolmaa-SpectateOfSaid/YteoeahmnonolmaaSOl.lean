/- Two equal boards are equal. The law about what is public of any board: the walk. -/
import Derived.Test.YteoeahmnonolmaaSE1
import Derived.Test.YteoeahmnonolmaaBL
import Derived.Test.YteoeahmnonolmaaBOw
import Derived.Test.YteoeahmnonolmaaSE3
import Derived.Deep.DeepCutAuto
import Derived.LoopTactic
import Derived.Deep.MidRow
import Derived.Test.YteoeahmnonolmaaSNo
import Derived.Test.YteoeahmnonolmaaSOf
import Derived.Test.YteoeahmnonolmaaSE4
import Derived.Test.YteoeahmnonolmaaSE5
namespace Go.Proofs.Yteoeahmnonolmaa
open Go.RowKit Plain
set_option linter.unusedVariables false
set_option linter.unusedSimpArgs false

set_option maxRecDepth 100000 in
set_option maxHeartbeats 4000000 in
theorem ssame2 (x y : It) (pa qa : Option Addr) (pc qc : Nat) (w : World) (h1 : Rw tc 2 w (.slice pa x.tg.length pc) x.tg) (h2 : Rw tc 2 w (.slice qa y.tg.length qc) y.tg) : Calls Try.prog 59 #[.agg #[.int .i64 x.pl, .int .i64 x.id, .int .i64 x.cd, .int .i64 x.tr, .slice pa x.tg.length pc], .agg #[.int .i64 y.pl, .int .i64 y.id, .int .i64 y.cd, .int .i64 y.tr, .slice qa y.tg.length qc]] w (EqA w (x = y)) := by
  have HT1 := Lib.hid h1
  have HT2 := Lib.hid h2
  clear h1 h2
  go_enter Try.func59, Try.ntmps59
  go_upto_region 1 with fail
  obtain ⟨wz, hwz⟩ : ∃ W, W = (w.alloc (.cells #[.int .i64 x.pl, .int .i64 x.id, .int .i64 x.cd, .int .i64 x.tr, .slice pa x.tg.length pc] 100)).alloc (.cells #[.int .i64 y.pl, .int .i64 y.id, .int .i64 y.cd, .int .i64 y.tr, .slice qa y.tg.length qc] 100) := ⟨_, rfl⟩
  rw [← hwz]
  have b1' : Below w.heap.size w (w.alloc (.cells #[.int .i64 x.pl, .int .i64 x.id, .int .i64 x.cd, .int .i64 x.tr, .slice pa x.tg.length pc] 100)) := (Below.refl _ _).alloc (Nat.le_refl _) _
  have b2' : Below (w.alloc (.cells #[.int .i64 x.pl, .int .i64 x.id, .int .i64 x.cd, .int .i64 x.tr, .slice pa x.tg.length pc] 100)).heap.size (w.alloc (.cells #[.int .i64 x.pl, .int .i64 x.id, .int .i64 x.cd, .int .i64 x.tr, .slice pa x.tg.length pc] 100)) wz := by rw [hwz]; exact (Below.refl _ _).alloc (Nat.le_refl _) _
  have HR1 : Hid (Ro wz w.heap.size #[.int .i64 x.pl, .int .i64 x.id, .int .i64 x.cd, .int .i64 x.tr, .slice pa x.tg.length pc] 100) := Lib.hid ((Ro.new _ _ _).below b2')
  have HR2 : Hid (Ro wz (w.heap.size + 1) #[.int .i64 y.pl, .int .i64 y.id, .int .i64 y.cd, .int .i64 y.tr, .slice qa y.tg.length qc] 100) := Lib.hid (by rw [hwz, show w.heap.size + 1 = (w.alloc (.cells #[.int .i64 x.pl, .int .i64 x.id, .int .i64 x.cd, .int .i64 x.tr, .slice pa x.tg.length pc] 100)).heap.size by simp]; exact Ro.new _ _ _)
  have HB : Hid (Below w.heap.size w wz) := Lib.hid (below_via b1' b2')
  clear hwz b1' b2'
  have k0 : wz.cell? ⟨w.heap.size, 0, none⟩ = some (.int .i64 x.pl) := HR1.out.cell 0
  have l0 : wz.cell? ⟨w.heap.size + 1, 0, none⟩ = some (.int .i64 y.pl) := HR2.out.cell 0
  have k1 : wz.cell? ⟨w.heap.size, 1, none⟩ = some (.int .i64 x.id) := HR1.out.cell 1
  have l1 : wz.cell? ⟨w.heap.size + 1, 1, none⟩ = some (.int .i64 y.id) := HR2.out.cell 1
  have k2 : wz.cell? ⟨w.heap.size, 2, none⟩ = some (.int .i64 x.cd) := HR1.out.cell 2
  have l2 : wz.cell? ⟨w.heap.size + 1, 2, none⟩ = some (.int .i64 y.cd) := HR2.out.cell 2
  have k3 : wz.cell? ⟨w.heap.size, 3, none⟩ = some (.int .i64 x.tr) := HR1.out.cell 3
  have l3 : wz.cell? ⟨w.heap.size + 1, 3, none⟩ = some (.int .i64 y.tr) := HR2.out.cell 3
  have k4 : wz.cell? ⟨w.heap.size, 4, none⟩ = some (.slice pa x.tg.length pc) := HR1.out.cell 4
  have l4 : wz.cell? ⟨w.heap.size + 1, 4, none⟩ = some (.slice qa y.tg.length qc) := HR2.out.cell 4
  cases h0 : (x.pl == y.pl)
  · have HNE := Lib.hid (show x ≠ y from fun e => by rw [e] at h0; simp at h0)
    go_wp2_with fail
    go_returns
    exact EqA.no HNE.out HB.out
  · skip
    cases h1 : (x.id == y.id)
    · have HNE := Lib.hid (show x ≠ y from fun e => by rw [e] at h1; simp at h1)
      go_wp2_with fail
      go_returns
      exact EqA.no HNE.out HB.out
    · skip
      cases h2 : (x.cd == y.cd)
      · have HNE := Lib.hid (show x ≠ y from fun e => by rw [e] at h2; simp at h2)
        go_wp2_with fail
        go_returns
        exact EqA.no HNE.out HB.out
      · skip
        cases h3 : (x.tr == y.tr)
        · have HNE := Lib.hid (show x ≠ y from fun e => by rw [e] at h3; simp at h3)
          go_wp2_with fail
          go_returns
          exact EqA.no HNE.out HB.out
        · skip
          have HE := Lib.hid (it_tg h0 h1 h2 h3)
          go_wp2_with fail
          with_reducible refine (sqT _ _ _ _ _ (HT1.out.below HB.out) (HT2.out.below HB.out)).mono ?_
          rintro e w2 ⟨r, rfl, hr, hb⟩
          replace HB := Lib.hid (below_via HB.out hb)
          have HRR := Lib.hid hr
          clear hr hb
          go_wp2_with fail
          go_returns
          exact ⟨r, rfl, HRR.out.trans HE.out, HB.out⟩
set_option maxRecDepth 100000 in
set_option maxHeartbeats 4000000 in
theorem sqItems2 (v1 v2 : Value) (l m : List It) (w : World) (h1 : ItR w v1 l) (h2 : ItR w v2 m) : Calls Try.prog 50 #[v1, v2, .func (.func 59) #[] #[]] w (EqA w (l = m)) := by
  obtain ⟨m1, hm1, h1, ht1⟩ := h1
  obtain ⟨m2, hm2, h2, ht2⟩ := h2
  obtain ⟨hm, a1, c1, rfl, hf1⟩ := h1.form
  obtain ⟨_, a2, c2, rfl, hf2⟩ := h2.form
  have en1 : m1.length = l.length := by rw [← hm1, List.length_map]
  have en2 : m2.length = m.length := by rw [← hm2, List.length_map]
  rw [en1] at hm hf1 ⊢
  rw [en2] at hf2 ⊢
  have HF1 := Lib.hid hf1
  have HF2 := Lib.hid hf2
  have HM1 := Lib.hid hm1
  have HM2 := Lib.hid hm2
  have HE1 := Lib.hid en1
  have HE2 := Lib.hid en2
  have HU1 := Lib.hid ht1
  have HU2 := Lib.hid ht2
  clear h1 h2 hf1 hf2 hm1 hm2 en1 en2 ht1 ht2
  by_cases hl : l.length = m.length
  case neg =>
    have t1 : (l.length != m.length) = true := by simpa using hl
    have t2 : ((l.length : Int) != (m.length : Int)) = true := by simp only [bne_iff_ne, ne_eq, Int.natCast_inj]; exact hl
    have HNE := Lib.hid (ne_len hl)
    clear hl
    go_enter Try.func50, Try.ntmps50
    go_wp2_with fail
    go_returns
    exact EqA.no HNE.out (Below.refl _ _)
  rw [← hl] at HF2 HE2 ⊢
  have HL := Lib.hid hl
  clear hl
  have hne : (l.length != l.length) = false := by simp
  have hne2 : ((l.length : Int) != (l.length : Int)) = false := by simp
  go_enter Try.func50, Try.ntmps50
  go_wp2_with fail
  go_loopw [17] (fun i wr => EqL w l m i wr) (fun i _ => l.length - (intOf i).toNat)
  case atStart => exact ⟨0, by omega, rfl, rfl, Below.refl _ _⟩
  case round =>
    obtain ⟨k, hk, rfl, ht, hb⟩ := hrel
    have HB := Lib.hid hb
    have HT := Lib.hid ht
    clear ht
    by_cases hkl : k < l.length
    · obtain ⟨b1, o1, rfl, hlt1, hc1⟩ := HF1.out (by omega)
      obtain ⟨b2, o2, rfl, hlt2, hc2⟩ := HF2.out (by omega)
      obtain ⟨y1, hy1⟩ : ∃ x, m1[k]? = some x := ⟨_, List.getElem?_eq_getElem (by have := HE1.out; omega)⟩
      obtain ⟨y2, hy2⟩ : ∃ x, m2[k]? = some x := ⟨_, List.getElem?_eq_getElem (by have := HE2.out; omega)⟩
      have HX : Hid (l[k]? = some y1.1) := Lib.hid (by rw [← HM1.out, List.getElem?_map, hy1]; rfl)
      have HY : Hid (m[k]? = some y2.1) := Lib.hid (by rw [← HM2.out, List.getElem?_map, hy2]; rfl)
      have ht1 := HU1.out y1 (List.mem_of_getElem? hy1)
      have ht2 := HU2.out y2 (List.mem_of_getElem? hy2)
      obtain ⟨x, ⟨pa, pn, pc⟩⟩ := y1
      obtain ⟨y, ⟨qa, qn, qc⟩⟩ := y2
      have ez1 : pn = x.tg.length := it_len ht1
      have ez2 : qn = y.tg.length := it_len ht2
      subst ez1 ez2
      have HT1 : Hid (Rw tc 2 w (.slice pa x.tg.length pc) x.tg) := Lib.hid ht1
      have HT2 : Hid (Rw tc 2 w (.slice qa y.tg.length qc) y.tg) := Lib.hid ht2
      replace HX : Hid (l[k]? = some x) := HX
      replace HY : Hid (m[k]? = some y) := HY
      have hd : ∀ (j : Nat) (u : Value), (itc (x, ⟨pa, x.tg.length, pc⟩))[j]? = some u → wr.cell? ⟨b1, o1 + (k * 5 + j), none⟩ = some u := fun j u hu => (hb.cell (p := ⟨b1, o1 + (k * 5 + j), none⟩) hlt1).trans (hc1 k _ hy1 j u hu)
      have d0 : wr.cell? ⟨b1, o1 + k * 5, none⟩ = some (.int .i64 x.pl) := hd 0 _ rfl
      have d1 : wr.cell? ⟨b1, o1 + k * 5 + 1, none⟩ = some (.int .i64 x.id) := by rw [Nat.add_assoc]; exact hd 1 _ rfl
      have d2 : wr.cell? ⟨b1, o1 + k * 5 + 2, none⟩ = some (.int .i64 x.cd) := by rw [Nat.add_assoc]; exact hd 2 _ rfl
      have d3 : wr.cell? ⟨b1, o1 + k * 5 + 3, none⟩ = some (.int .i64 x.tr) := by rw [Nat.add_assoc]; exact hd 3 _ rfl
      have d4 : wr.cell? ⟨b1, o1 + k * 5 + 4, none⟩ = some (.slice pa x.tg.length pc) := by rw [Nat.add_assoc]; exact hd 4 _ rfl
      have he : ∀ (j : Nat) (u : Value), (itc (y, ⟨qa, y.tg.length, qc⟩))[j]? = some u → wr.cell? ⟨b2, o2 + (k * 5 + j), none⟩ = some u := fun j u hu => (hb.cell (p := ⟨b2, o2 + (k * 5 + j), none⟩) hlt2).trans (hc2 k _ hy2 j u hu)
      have e0 : wr.cell? ⟨b2, o2 + k * 5, none⟩ = some (.int .i64 y.pl) := he 0 _ rfl
      have e1 : wr.cell? ⟨b2, o2 + k * 5 + 1, none⟩ = some (.int .i64 y.id) := by rw [Nat.add_assoc]; exact he 1 _ rfl
      have e2 : wr.cell? ⟨b2, o2 + k * 5 + 2, none⟩ = some (.int .i64 y.cd) := by rw [Nat.add_assoc]; exact he 2 _ rfl
      have e3 : wr.cell? ⟨b2, o2 + k * 5 + 3, none⟩ = some (.int .i64 y.tr) := by rw [Nat.add_assoc]; exact he 3 _ rfl
      have e4 : wr.cell? ⟨b2, o2 + k * 5 + 4, none⟩ = some (.slice qa y.tg.length qc) := by rw [Nat.add_assoc]; exact he 4 _ rfl
      have g1 : b1 < wr.heap.size := Nat.lt_of_lt_of_le hlt1 hb.size
      have g2 : b2 < wr.heap.size := Nat.lt_of_lt_of_le hlt2 hb.size
      have i1 : (0 : Int) ≤ (k : Int) := by omega
      have i2 : (k : Int) < (l.length : Int) := by omega
      clear hc1 hc2 hy1 hy2 hb hd he ht1 ht2
      go_upto_region 7 with fail
      clear d0 d1 d2 d3 d4 e0 e1 e2 e3 e4 i1 i2 g1 g2
      obtain ⟨wz, hwz⟩ : ∃ W, W = (wr.alloc (.cells #[.int .i64 x.pl, .int .i64 x.id, .int .i64 x.cd, .int .i64 x.tr, .slice pa x.tg.length pc] 100)).alloc (.cells #[.int .i64 y.pl, .int .i64 y.id, .int .i64 y.cd, .int .i64 y.tr, .slice qa y.tg.length qc] 100) := ⟨_, rfl⟩
      rw [← hwz]
      have b1' : Below wr.heap.size wr (wr.alloc (.cells #[.int .i64 x.pl, .int .i64 x.id, .int .i64 x.cd, .int .i64 x.tr, .slice pa x.tg.length pc] 100)) := (Below.refl _ _).alloc (Nat.le_refl _) _
      have b2' : Below (wr.alloc (.cells #[.int .i64 x.pl, .int .i64 x.id, .int .i64 x.cd, .int .i64 x.tr, .slice pa x.tg.length pc] 100)).heap.size (wr.alloc (.cells #[.int .i64 x.pl, .int .i64 x.id, .int .i64 x.cd, .int .i64 x.tr, .slice pa x.tg.length pc] 100)) wz := by rw [hwz]; exact (Below.refl _ _).alloc (Nat.le_refl _) _
      have HR1 : Hid (Ro wz wr.heap.size #[.int .i64 x.pl, .int .i64 x.id, .int .i64 x.cd, .int .i64 x.tr, .slice pa x.tg.length pc] 100) := Lib.hid ((Ro.new _ _ _).below b2')
      have HR2 : Hid (Ro wz (wr.heap.size + 1) #[.int .i64 y.pl, .int .i64 y.id, .int .i64 y.cd, .int .i64 y.tr, .slice qa y.tg.length qc] 100) := Lib.hid (by rw [hwz, show wr.heap.size + 1 = (wr.alloc (.cells #[.int .i64 x.pl, .int .i64 x.id, .int .i64 x.cd, .int .i64 x.tr, .slice pa x.tg.length pc] 100)).heap.size by simp]; exact Ro.new _ _ _)
      replace HB : Hid (Below w.heap.size w wz) := Lib.hid (below_via HB.out (below_via b1' b2'))
      clear hwz b1' b2'
      have k0 : wz.cell? ⟨wr.heap.size, 0, none⟩ = some (.int .i64 x.pl) := HR1.out.cell 0
      have l0 : wz.cell? ⟨wr.heap.size + 1, 0, none⟩ = some (.int .i64 y.pl) := HR2.out.cell 0
      have k1 : wz.cell? ⟨wr.heap.size, 1, none⟩ = some (.int .i64 x.id) := HR1.out.cell 1
      have l1 : wz.cell? ⟨wr.heap.size + 1, 1, none⟩ = some (.int .i64 y.id) := HR2.out.cell 1
      have k2 : wz.cell? ⟨wr.heap.size, 2, none⟩ = some (.int .i64 x.cd) := HR1.out.cell 2
      have l2 : wz.cell? ⟨wr.heap.size + 1, 2, none⟩ = some (.int .i64 y.cd) := HR2.out.cell 2
      have k3 : wz.cell? ⟨wr.heap.size, 3, none⟩ = some (.int .i64 x.tr) := HR1.out.cell 3
      have l3 : wz.cell? ⟨wr.heap.size + 1, 3, none⟩ = some (.int .i64 y.tr) := HR2.out.cell 3
      have k4 : wz.cell? ⟨wr.heap.size, 4, none⟩ = some (.slice pa x.tg.length pc) := HR1.out.cell 4
      have l4 : wz.cell? ⟨wr.heap.size + 1, 4, none⟩ = some (.slice qa y.tg.length qc) := HR2.out.cell 4
      clear HR1 HR2
      go_wp2_with fail
      with_reducible refine (ssame2 x y pa qa pc qc _ (HT1.out.below HB.out) (HT2.out.below HB.out)).mono ?_
      rintro e w2 ⟨r, rfl, hr, hb⟩
      replace HB := Lib.hid (below_via HB.out hb)
      clear hb k0 k1 k2 k3 k4 l0 l1 l2 l3 l4
      cases r
      · have HN := Lib.hid (ne_at HX.out HY.out (fun h => by have := hr.2 h; cases this))
        clear hr
        go_wp2_with fail
        go_returns
        exact EqA.no HN.out HB.out
      · have HN := Lib.hid (eq_step HT.out HX.out (by rw [hr.1 rfl]; exact HY.out))
        clear hr
        go_wp2_with fail
        go_roundw
        case rel => exact ⟨k + 1, by omega, by go_num, HN.out, HB.out⟩
        case measure => simp [intOf]; omega
    · obtain rfl : k = l.length := by omega
      have HN : Hid (l = m) := Lib.hid (by have h := HT.out; rw [List.take_length, HL.out, List.take_length] at h; exact h)
      clear hb HT
      go_wp2_with fail
      go_returns
      exact EqA.yes HN.out HB.out
theorem rg27_4 {P : Program} {B n : Nat} {w0 : World} {L : List (Nat × Nat × Value)} {E F : World → Prop} {id : Nat} {Q : Exit → Act → World → Prop} {a : Act} {w : World} {o0 o1 o2 o3 o4 o5 o6 o7 : Oper} (hm : P.follows .mixedOrders = true)
    (hB : (Region.noSelect [o0, o1, o2, o3, o4, o5, o6, o7].toArray && Scr.ok .any [o0, o1, o2, o3, o4, o5, o6, o7].toArray [] [0, 1, 2, 3, 4, 5, 6, 7] (.free 0 (.free 1 (.free 2 (.free 3 (.free 4 (.free 5 (.free 6 (.free 7 .done)))))))) true true [o0, o1, o2, o3, o4, o5, o6, o7].toArray.size (Array.replicate [o0, o1, o2, o3, o4, o5, o6, o7].toArray.size false)) = true)
    (k : Kept B w0 n L w) (he : E w) (hE : ∀ W W', E W → Below W.heap.size W W' → E W') (hf : F w) (hF : ∀ W W', F W → Below W.heap.size W W' → F W')
    (h : ∀ wk, Kept B w0 n L wk → E wk → F wk → wpQuiet P [o0, o1, o2, o3, o4, o5, o6, o7].toArray (fun _ => True) (fun a0 => Q .normal a0 wk) [o0, o1, o2, o3, o4, o5, o6, o7] a) : (Code.region id [o0, o1, o2, o3, o4, o5, o6, o7].toArray true).wp P Q a w := by
  have e1 : E w.drew := hE _ _ he ((Below.refl _ _).drew)
  have g := h _ k.drew e1 (hF _ _ hf ((Below.refl _ _).drew))
  exact wp_region_scr (U := (fun w' => ∃ s : KX B w0 n L E, w' = s.val)) (ops := [o0, o1, o2, o3, o4, o5, o6, o7].toArray) (.free 0 (.free 1 (.free 2 (.free 3 (.free 4 (.free 5 (.free 6 (.free 7 .done)))))))) [] [0, 1, 2, 3, 4, 5, 6, 7] hm hB ⟨⟨_, k.drew, e1⟩, rfl⟩ (Scr.of_free rfl g (fun _ g0 => Scr.of_free rfl g0 (fun _ g1 => Scr.of_free rfl g1 (fun _ g2 => Scr.of_free rfl g2 (fun _ g3 => Scr.of_free rfl g3 (fun _ g4 => Scr.of_free rfl g4 (fun _ g5 => Scr.of_free rfl g5 (fun _ g6 => Scr.of_free rfl g6 (fun _ g7 => g7)))))))))
theorem rg27_5 {P : Program} {B n : Nat} {w0 : World} {L : List (Nat × Nat × Value)} {E F : World → Prop} {id : Nat} {Q : Exit → Act → World → Prop} {a : Act} {w : World} {o0 o1 o2 o3 o4 o5 o6 o7 o8 o9 o10 o11 o12 o13 o14 o15 o16 o17 o18 o19 o20 o21 o22 o23 o24 o25 o26 o27 o28 o29 o30 o31 o32 o33 o34 o35 o36 o37 o38 o39 o40 o41 o42 o43 o44 o45 o46 o47 o48 o49 o50 o51 o52 o53 o54 o55 o56 o57 o58 o59 o60 o61 o62 o63 o64 o65 o66 o67 o68 o69 o70 o71 o72 o73 o74 : Oper} (hm : P.follows .mixedOrders = true)
    (hB : (Region.noSelect (o0 :: o1 :: o2 :: o3 :: o4 :: o5 :: o6 :: o7 :: o8 :: o9 :: o10 :: o11 :: o12 :: o13 :: o14 :: o15 :: o16 :: o17 :: o18 :: o19 :: o20 :: o21 :: o22 :: o23 :: o24 :: o25 :: o26 :: o27 :: o28 :: o29 :: o30 :: o31 :: o32 :: o33 :: o34 :: o35 :: o36 :: o37 :: o38 :: o39 :: o40 :: o41 :: o42 :: o43 :: o44 :: o45 :: o46 :: o47 :: o48 :: o49 :: o50 :: o51 :: o52 :: o53 :: o54 :: o55 :: o56 :: o57 :: o58 :: o59 :: o60 :: o61 :: o62 :: o63 :: o64 :: o65 :: o66 :: o67 :: o68 :: o69 :: o70 :: o71 :: o72 :: o73 :: o74 :: []).toArray && Scr.ok .any (o0 :: o1 :: o2 :: o3 :: o4 :: o5 :: o6 :: o7 :: o8 :: o9 :: o10 :: o11 :: o12 :: o13 :: o14 :: o15 :: o16 :: o17 :: o18 :: o19 :: o20 :: o21 :: o22 :: o23 :: o24 :: o25 :: o26 :: o27 :: o28 :: o29 :: o30 :: o31 :: o32 :: o33 :: o34 :: o35 :: o36 :: o37 :: o38 :: o39 :: o40 :: o41 :: o42 :: o43 :: o44 :: o45 :: o46 :: o47 :: o48 :: o49 :: o50 :: o51 :: o52 :: o53 :: o54 :: o55 :: o56 :: o57 :: o58 :: o59 :: o60 :: o61 :: o62 :: o63 :: o64 :: o65 :: o66 :: o67 :: o68 :: o69 :: o70 :: o71 :: o72 :: o73 :: o74 :: []).toArray [3, 7, 13, 17, 24, 28, 35, 39, 46, 50, 57, 61, 68, 72] [0, 1, 2, 4, 5, 6, 8, 9, 10, 11, 12, 14, 15, 16, 18, 19, 20, 21, 22, 23, 25, 26, 27, 29, 30, 31, 32, 33, 34, 36, 37, 38, 40, 41, 42, 43, 44, 45, 47, 48, 49, 51, 52, 53, 54, 55, 56, 58, 59, 60, 62, 63, 64, 65, 66, 67, 69, 70, 71, 73, 74] (.free 0 (.free 1 (.free 2 (.free 4 (.free 5 (.free 6 (.read 3 (.read 7 (.free 8 (.free 9 (.free 10 (.free 11 (.free 12 (.free 14 (.free 15 (.free 16 (.read 13 (.read 17 (.free 18 (.free 19 (.free 20 (.free 21 (.free 22 (.free 23 (.free 25 (.free 26 (.free 27 (.read 24 (.read 28 (.free 29 (.free 30 (.free 31 (.free 32 (.free 33 (.free 34 (.free 36 (.free 37 (.free 38 (.read 35 (.read 39 (.free 40 (.free 41 (.free 42 (.free 43 (.free 44 (.free 45 (.free 47 (.free 48 (.free 49 (.read 46 (.read 50 (.free 51 (.free 52 (.free 53 (.free 54 (.free 55 (.free 56 (.free 58 (.free 59 (.free 60 (.read 57 (.read 61 (.free 62 (.free 63 (.free 64 (.free 65 (.free 66 (.free 67 (.free 69 (.free 70 (.free 71 (.read 68 (.read 72 (.free 73 (.free 74 .done))))))))))))))))))))))))))))))))))))))))))))))))))))))))))))))))))))))))))) true true (o0 :: o1 :: o2 :: o3 :: o4 :: o5 :: o6 :: o7 :: o8 :: o9 :: o10 :: o11 :: o12 :: o13 :: o14 :: o15 :: o16 :: o17 :: o18 :: o19 :: o20 :: o21 :: o22 :: o23 :: o24 :: o25 :: o26 :: o27 :: o28 :: o29 :: o30 :: o31 :: o32 :: o33 :: o34 :: o35 :: o36 :: o37 :: o38 :: o39 :: o40 :: o41 :: o42 :: o43 :: o44 :: o45 :: o46 :: o47 :: o48 :: o49 :: o50 :: o51 :: o52 :: o53 :: o54 :: o55 :: o56 :: o57 :: o58 :: o59 :: o60 :: o61 :: o62 :: o63 :: o64 :: o65 :: o66 :: o67 :: o68 :: o69 :: o70 :: o71 :: o72 :: o73 :: o74 :: []).toArray.size (Array.replicate (o0 :: o1 :: o2 :: o3 :: o4 :: o5 :: o6 :: o7 :: o8 :: o9 :: o10 :: o11 :: o12 :: o13 :: o14 :: o15 :: o16 :: o17 :: o18 :: o19 :: o20 :: o21 :: o22 :: o23 :: o24 :: o25 :: o26 :: o27 :: o28 :: o29 :: o30 :: o31 :: o32 :: o33 :: o34 :: o35 :: o36 :: o37 :: o38 :: o39 :: o40 :: o41 :: o42 :: o43 :: o44 :: o45 :: o46 :: o47 :: o48 :: o49 :: o50 :: o51 :: o52 :: o53 :: o54 :: o55 :: o56 :: o57 :: o58 :: o59 :: o60 :: o61 :: o62 :: o63 :: o64 :: o65 :: o66 :: o67 :: o68 :: o69 :: o70 :: o71 :: o72 :: o73 :: o74 :: []).toArray.size false)) = true)
    (k : Kept B w0 n L w) (he : E w) (hE : ∀ W W', E W → Below W.heap.size W W' → E W') (hf : F w) (hF : ∀ W W', F W → Below W.heap.size W W' → F W')
    (h : ∀ wk, Kept B w0 n L wk → E wk → F wk → wpQuiet P (o0 :: o1 :: o2 :: o3 :: o4 :: o5 :: o6 :: o7 :: o8 :: o9 :: o10 :: o11 :: o12 :: o13 :: o14 :: o15 :: o16 :: o17 :: o18 :: o19 :: o20 :: o21 :: o22 :: o23 :: o24 :: o25 :: o26 :: o27 :: o28 :: o29 :: o30 :: o31 :: o32 :: o33 :: o34 :: o35 :: o36 :: o37 :: o38 :: o39 :: o40 :: o41 :: o42 :: o43 :: o44 :: o45 :: o46 :: o47 :: o48 :: o49 :: o50 :: o51 :: o52 :: o53 :: o54 :: o55 :: o56 :: o57 :: o58 :: o59 :: o60 :: o61 :: o62 :: o63 :: o64 :: o65 :: o66 :: o67 :: o68 :: o69 :: o70 :: o71 :: o72 :: o73 :: o74 :: []).toArray (fun _ => True) (fun a0 => wpQuiet P (o0 :: o1 :: o2 :: o3 :: o4 :: o5 :: o6 :: o7 :: o8 :: o9 :: o10 :: o11 :: o12 :: o13 :: o14 :: o15 :: o16 :: o17 :: o18 :: o19 :: o20 :: o21 :: o22 :: o23 :: o24 :: o25 :: o26 :: o27 :: o28 :: o29 :: o30 :: o31 :: o32 :: o33 :: o34 :: o35 :: o36 :: o37 :: o38 :: o39 :: o40 :: o41 :: o42 :: o43 :: o44 :: o45 :: o46 :: o47 :: o48 :: o49 :: o50 :: o51 :: o52 :: o53 :: o54 :: o55 :: o56 :: o57 :: o58 :: o59 :: o60 :: o61 :: o62 :: o63 :: o64 :: o65 :: o66 :: o67 :: o68 :: o69 :: o70 :: o71 :: o72 :: o73 :: o74 :: []).toArray (fun w' => ∃ s : KX B w0 n L E, w' = s.val) (fun a1 => wpQuiet P (o0 :: o1 :: o2 :: o3 :: o4 :: o5 :: o6 :: o7 :: o8 :: o9 :: o10 :: o11 :: o12 :: o13 :: o14 :: o15 :: o16 :: o17 :: o18 :: o19 :: o20 :: o21 :: o22 :: o23 :: o24 :: o25 :: o26 :: o27 :: o28 :: o29 :: o30 :: o31 :: o32 :: o33 :: o34 :: o35 :: o36 :: o37 :: o38 :: o39 :: o40 :: o41 :: o42 :: o43 :: o44 :: o45 :: o46 :: o47 :: o48 :: o49 :: o50 :: o51 :: o52 :: o53 :: o54 :: o55 :: o56 :: o57 :: o58 :: o59 :: o60 :: o61 :: o62 :: o63 :: o64 :: o65 :: o66 :: o67 :: o68 :: o69 :: o70 :: o71 :: o72 :: o73 :: o74 :: []).toArray (fun _ => True) (fun a2 => wpQuiet P (o0 :: o1 :: o2 :: o3 :: o4 :: o5 :: o6 :: o7 :: o8 :: o9 :: o10 :: o11 :: o12 :: o13 :: o14 :: o15 :: o16 :: o17 :: o18 :: o19 :: o20 :: o21 :: o22 :: o23 :: o24 :: o25 :: o26 :: o27 :: o28 :: o29 :: o30 :: o31 :: o32 :: o33 :: o34 :: o35 :: o36 :: o37 :: o38 :: o39 :: o40 :: o41 :: o42 :: o43 :: o44 :: o45 :: o46 :: o47 :: o48 :: o49 :: o50 :: o51 :: o52 :: o53 :: o54 :: o55 :: o56 :: o57 :: o58 :: o59 :: o60 :: o61 :: o62 :: o63 :: o64 :: o65 :: o66 :: o67 :: o68 :: o69 :: o70 :: o71 :: o72 :: o73 :: o74 :: []).toArray (fun w' => ∃ s : KX B w0 n L E, w' = s.val) (fun a3 => wpQuiet P (o0 :: o1 :: o2 :: o3 :: o4 :: o5 :: o6 :: o7 :: o8 :: o9 :: o10 :: o11 :: o12 :: o13 :: o14 :: o15 :: o16 :: o17 :: o18 :: o19 :: o20 :: o21 :: o22 :: o23 :: o24 :: o25 :: o26 :: o27 :: o28 :: o29 :: o30 :: o31 :: o32 :: o33 :: o34 :: o35 :: o36 :: o37 :: o38 :: o39 :: o40 :: o41 :: o42 :: o43 :: o44 :: o45 :: o46 :: o47 :: o48 :: o49 :: o50 :: o51 :: o52 :: o53 :: o54 :: o55 :: o56 :: o57 :: o58 :: o59 :: o60 :: o61 :: o62 :: o63 :: o64 :: o65 :: o66 :: o67 :: o68 :: o69 :: o70 :: o71 :: o72 :: o73 :: o74 :: []).toArray (fun _ => True) (fun a4 => wpQuiet P (o0 :: o1 :: o2 :: o3 :: o4 :: o5 :: o6 :: o7 :: o8 :: o9 :: o10 :: o11 :: o12 :: o13 :: o14 :: o15 :: o16 :: o17 :: o18 :: o19 :: o20 :: o21 :: o22 :: o23 :: o24 :: o25 :: o26 :: o27 :: o28 :: o29 :: o30 :: o31 :: o32 :: o33 :: o34 :: o35 :: o36 :: o37 :: o38 :: o39 :: o40 :: o41 :: o42 :: o43 :: o44 :: o45 :: o46 :: o47 :: o48 :: o49 :: o50 :: o51 :: o52 :: o53 :: o54 :: o55 :: o56 :: o57 :: o58 :: o59 :: o60 :: o61 :: o62 :: o63 :: o64 :: o65 :: o66 :: o67 :: o68 :: o69 :: o70 :: o71 :: o72 :: o73 :: o74 :: []).toArray (fun w' => ∃ s : KX B w0 n L E, w' = s.val) (fun a5 => wpQuiet P (o0 :: o1 :: o2 :: o3 :: o4 :: o5 :: o6 :: o7 :: o8 :: o9 :: o10 :: o11 :: o12 :: o13 :: o14 :: o15 :: o16 :: o17 :: o18 :: o19 :: o20 :: o21 :: o22 :: o23 :: o24 :: o25 :: o26 :: o27 :: o28 :: o29 :: o30 :: o31 :: o32 :: o33 :: o34 :: o35 :: o36 :: o37 :: o38 :: o39 :: o40 :: o41 :: o42 :: o43 :: o44 :: o45 :: o46 :: o47 :: o48 :: o49 :: o50 :: o51 :: o52 :: o53 :: o54 :: o55 :: o56 :: o57 :: o58 :: o59 :: o60 :: o61 :: o62 :: o63 :: o64 :: o65 :: o66 :: o67 :: o68 :: o69 :: o70 :: o71 :: o72 :: o73 :: o74 :: []).toArray (fun _ => True) (fun a6 => wpQuiet P (o0 :: o1 :: o2 :: o3 :: o4 :: o5 :: o6 :: o7 :: o8 :: o9 :: o10 :: o11 :: o12 :: o13 :: o14 :: o15 :: o16 :: o17 :: o18 :: o19 :: o20 :: o21 :: o22 :: o23 :: o24 :: o25 :: o26 :: o27 :: o28 :: o29 :: o30 :: o31 :: o32 :: o33 :: o34 :: o35 :: o36 :: o37 :: o38 :: o39 :: o40 :: o41 :: o42 :: o43 :: o44 :: o45 :: o46 :: o47 :: o48 :: o49 :: o50 :: o51 :: o52 :: o53 :: o54 :: o55 :: o56 :: o57 :: o58 :: o59 :: o60 :: o61 :: o62 :: o63 :: o64 :: o65 :: o66 :: o67 :: o68 :: o69 :: o70 :: o71 :: o72 :: o73 :: o74 :: []).toArray (fun w' => ∃ s : KX B w0 n L E, w' = s.val) (fun a7 => wpQuiet P (o0 :: o1 :: o2 :: o3 :: o4 :: o5 :: o6 :: o7 :: o8 :: o9 :: o10 :: o11 :: o12 :: o13 :: o14 :: o15 :: o16 :: o17 :: o18 :: o19 :: o20 :: o21 :: o22 :: o23 :: o24 :: o25 :: o26 :: o27 :: o28 :: o29 :: o30 :: o31 :: o32 :: o33 :: o34 :: o35 :: o36 :: o37 :: o38 :: o39 :: o40 :: o41 :: o42 :: o43 :: o44 :: o45 :: o46 :: o47 :: o48 :: o49 :: o50 :: o51 :: o52 :: o53 :: o54 :: o55 :: o56 :: o57 :: o58 :: o59 :: o60 :: o61 :: o62 :: o63 :: o64 :: o65 :: o66 :: o67 :: o68 :: o69 :: o70 :: o71 :: o72 :: o73 :: o74 :: []).toArray (fun _ => True) (fun a8 => wpQuiet P (o0 :: o1 :: o2 :: o3 :: o4 :: o5 :: o6 :: o7 :: o8 :: o9 :: o10 :: o11 :: o12 :: o13 :: o14 :: o15 :: o16 :: o17 :: o18 :: o19 :: o20 :: o21 :: o22 :: o23 :: o24 :: o25 :: o26 :: o27 :: o28 :: o29 :: o30 :: o31 :: o32 :: o33 :: o34 :: o35 :: o36 :: o37 :: o38 :: o39 :: o40 :: o41 :: o42 :: o43 :: o44 :: o45 :: o46 :: o47 :: o48 :: o49 :: o50 :: o51 :: o52 :: o53 :: o54 :: o55 :: o56 :: o57 :: o58 :: o59 :: o60 :: o61 :: o62 :: o63 :: o64 :: o65 :: o66 :: o67 :: o68 :: o69 :: o70 :: o71 :: o72 :: o73 :: o74 :: []).toArray (fun w' => ∃ s : KX B w0 n L E, w' = s.val) (fun a9 => wpQuiet P (o0 :: o1 :: o2 :: o3 :: o4 :: o5 :: o6 :: o7 :: o8 :: o9 :: o10 :: o11 :: o12 :: o13 :: o14 :: o15 :: o16 :: o17 :: o18 :: o19 :: o20 :: o21 :: o22 :: o23 :: o24 :: o25 :: o26 :: o27 :: o28 :: o29 :: o30 :: o31 :: o32 :: o33 :: o34 :: o35 :: o36 :: o37 :: o38 :: o39 :: o40 :: o41 :: o42 :: o43 :: o44 :: o45 :: o46 :: o47 :: o48 :: o49 :: o50 :: o51 :: o52 :: o53 :: o54 :: o55 :: o56 :: o57 :: o58 :: o59 :: o60 :: o61 :: o62 :: o63 :: o64 :: o65 :: o66 :: o67 :: o68 :: o69 :: o70 :: o71 :: o72 :: o73 :: o74 :: []).toArray (fun _ => True) (fun a10 => wpQuiet P (o0 :: o1 :: o2 :: o3 :: o4 :: o5 :: o6 :: o7 :: o8 :: o9 :: o10 :: o11 :: o12 :: o13 :: o14 :: o15 :: o16 :: o17 :: o18 :: o19 :: o20 :: o21 :: o22 :: o23 :: o24 :: o25 :: o26 :: o27 :: o28 :: o29 :: o30 :: o31 :: o32 :: o33 :: o34 :: o35 :: o36 :: o37 :: o38 :: o39 :: o40 :: o41 :: o42 :: o43 :: o44 :: o45 :: o46 :: o47 :: o48 :: o49 :: o50 :: o51 :: o52 :: o53 :: o54 :: o55 :: o56 :: o57 :: o58 :: o59 :: o60 :: o61 :: o62 :: o63 :: o64 :: o65 :: o66 :: o67 :: o68 :: o69 :: o70 :: o71 :: o72 :: o73 :: o74 :: []).toArray (fun w' => ∃ s : KX B w0 n L E, w' = s.val) (fun a11 => wpQuiet P (o0 :: o1 :: o2 :: o3 :: o4 :: o5 :: o6 :: o7 :: o8 :: o9 :: o10 :: o11 :: o12 :: o13 :: o14 :: o15 :: o16 :: o17 :: o18 :: o19 :: o20 :: o21 :: o22 :: o23 :: o24 :: o25 :: o26 :: o27 :: o28 :: o29 :: o30 :: o31 :: o32 :: o33 :: o34 :: o35 :: o36 :: o37 :: o38 :: o39 :: o40 :: o41 :: o42 :: o43 :: o44 :: o45 :: o46 :: o47 :: o48 :: o49 :: o50 :: o51 :: o52 :: o53 :: o54 :: o55 :: o56 :: o57 :: o58 :: o59 :: o60 :: o61 :: o62 :: o63 :: o64 :: o65 :: o66 :: o67 :: o68 :: o69 :: o70 :: o71 :: o72 :: o73 :: o74 :: []).toArray (fun _ => True) (fun a12 => wpQuiet P (o0 :: o1 :: o2 :: o3 :: o4 :: o5 :: o6 :: o7 :: o8 :: o9 :: o10 :: o11 :: o12 :: o13 :: o14 :: o15 :: o16 :: o17 :: o18 :: o19 :: o20 :: o21 :: o22 :: o23 :: o24 :: o25 :: o26 :: o27 :: o28 :: o29 :: o30 :: o31 :: o32 :: o33 :: o34 :: o35 :: o36 :: o37 :: o38 :: o39 :: o40 :: o41 :: o42 :: o43 :: o44 :: o45 :: o46 :: o47 :: o48 :: o49 :: o50 :: o51 :: o52 :: o53 :: o54 :: o55 :: o56 :: o57 :: o58 :: o59 :: o60 :: o61 :: o62 :: o63 :: o64 :: o65 :: o66 :: o67 :: o68 :: o69 :: o70 :: o71 :: o72 :: o73 :: o74 :: []).toArray (fun w' => ∃ s : KX B w0 n L E, w' = s.val) (fun a13 => wpQuiet P (o0 :: o1 :: o2 :: o3 :: o4 :: o5 :: o6 :: o7 :: o8 :: o9 :: o10 :: o11 :: o12 :: o13 :: o14 :: o15 :: o16 :: o17 :: o18 :: o19 :: o20 :: o21 :: o22 :: o23 :: o24 :: o25 :: o26 :: o27 :: o28 :: o29 :: o30 :: o31 :: o32 :: o33 :: o34 :: o35 :: o36 :: o37 :: o38 :: o39 :: o40 :: o41 :: o42 :: o43 :: o44 :: o45 :: o46 :: o47 :: o48 :: o49 :: o50 :: o51 :: o52 :: o53 :: o54 :: o55 :: o56 :: o57 :: o58 :: o59 :: o60 :: o61 :: o62 :: o63 :: o64 :: o65 :: o66 :: o67 :: o68 :: o69 :: o70 :: o71 :: o72 :: o73 :: o74 :: []).toArray (fun _ => True) (fun a14 => Q .normal a14 wk) [o73, o74] a13) [o68, o72] a12) [o62, o63, o64, o65, o66, o67, o69, o70, o71] a11) [o57, o61] a10) [o51, o52, o53, o54, o55, o56, o58, o59, o60] a9) [o46, o50] a8) [o40, o41, o42, o43, o44, o45, o47, o48, o49] a7) [o35, o39] a6) [o29, o30, o31, o32, o33, o34, o36, o37, o38] a5) [o24, o28] a4) [o18, o19, o20, o21, o22, o23, o25, o26, o27] a3) [o13, o17] a2) [o8, o9, o10, o11, o12, o14, o15, o16] a1) [o3, o7] a0) [o0, o1, o2, o4, o5, o6] a) : (Code.region id (o0 :: o1 :: o2 :: o3 :: o4 :: o5 :: o6 :: o7 :: o8 :: o9 :: o10 :: o11 :: o12 :: o13 :: o14 :: o15 :: o16 :: o17 :: o18 :: o19 :: o20 :: o21 :: o22 :: o23 :: o24 :: o25 :: o26 :: o27 :: o28 :: o29 :: o30 :: o31 :: o32 :: o33 :: o34 :: o35 :: o36 :: o37 :: o38 :: o39 :: o40 :: o41 :: o42 :: o43 :: o44 :: o45 :: o46 :: o47 :: o48 :: o49 :: o50 :: o51 :: o52 :: o53 :: o54 :: o55 :: o56 :: o57 :: o58 :: o59 :: o60 :: o61 :: o62 :: o63 :: o64 :: o65 :: o66 :: o67 :: o68 :: o69 :: o70 :: o71 :: o72 :: o73 :: o74 :: []).toArray true).wp P Q a w := by
  have e1 : E w.drew := hE _ _ he ((Below.refl _ _).drew)
  have g := h _ k.drew e1 (hF _ _ hf ((Below.refl _ _).drew))
  exact wp_region_scr (U := (fun w' => ∃ s : KX B w0 n L E, w' = s.val)) (ops := (o0 :: o1 :: o2 :: o3 :: o4 :: o5 :: o6 :: o7 :: o8 :: o9 :: o10 :: o11 :: o12 :: o13 :: o14 :: o15 :: o16 :: o17 :: o18 :: o19 :: o20 :: o21 :: o22 :: o23 :: o24 :: o25 :: o26 :: o27 :: o28 :: o29 :: o30 :: o31 :: o32 :: o33 :: o34 :: o35 :: o36 :: o37 :: o38 :: o39 :: o40 :: o41 :: o42 :: o43 :: o44 :: o45 :: o46 :: o47 :: o48 :: o49 :: o50 :: o51 :: o52 :: o53 :: o54 :: o55 :: o56 :: o57 :: o58 :: o59 :: o60 :: o61 :: o62 :: o63 :: o64 :: o65 :: o66 :: o67 :: o68 :: o69 :: o70 :: o71 :: o72 :: o73 :: o74 :: []).toArray) (.free 0 (.free 1 (.free 2 (.free 4 (.free 5 (.free 6 (.read 3 (.read 7 (.free 8 (.free 9 (.free 10 (.free 11 (.free 12 (.free 14 (.free 15 (.free 16 (.read 13 (.read 17 (.free 18 (.free 19 (.free 20 (.free 21 (.free 22 (.free 23 (.free 25 (.free 26 (.free 27 (.read 24 (.read 28 (.free 29 (.free 30 (.free 31 (.free 32 (.free 33 (.free 34 (.free 36 (.free 37 (.free 38 (.read 35 (.read 39 (.free 40 (.free 41 (.free 42 (.free 43 (.free 44 (.free 45 (.free 47 (.free 48 (.free 49 (.read 46 (.read 50 (.free 51 (.free 52 (.free 53 (.free 54 (.free 55 (.free 56 (.free 58 (.free 59 (.free 60 (.read 57 (.read 61 (.free 62 (.free 63 (.free 64 (.free 65 (.free 66 (.free 67 (.free 69 (.free 70 (.free 71 (.read 68 (.read 72 (.free 73 (.free 74 .done))))))))))))))))))))))))))))))))))))))))))))))))))))))))))))))))))))))))))) [3, 7, 13, 17, 24, 28, 35, 39, 46, 50, 57, 61, 68, 72] [0, 1, 2, 4, 5, 6, 8, 9, 10, 11, 12, 14, 15, 16, 18, 19, 20, 21, 22, 23, 25, 26, 27, 29, 30, 31, 32, 33, 34, 36, 37, 38, 40, 41, 42, 43, 44, 45, 47, 48, 49, 51, 52, 53, 54, 55, 56, 58, 59, 60, 62, 63, 64, 65, 66, 67, 69, 70, 71, 73, 74] hm hB ⟨⟨_, k.drew, e1⟩, rfl⟩ (Scr.of_free rfl g (fun _ g0 => Scr.of_free rfl g0 (fun _ g1 => Scr.of_free rfl g1 (fun _ g2 => Scr.of_free rfl g2 (fun _ g3 => Scr.of_free rfl g3 (fun _ g4 => Scr.of_free rfl g4 (fun _ g5 => Scr.of_read rfl g5 (fun _ g6 => Scr.of_read rfl g6 (fun _ g7 => Scr.of_free rfl g7 (fun _ g8 => Scr.of_free rfl g8 (fun _ g9 => Scr.of_free rfl g9 (fun _ g10 => Scr.of_free rfl g10 (fun _ g11 => Scr.of_free rfl g11 (fun _ g12 => Scr.of_free rfl g12 (fun _ g13 => Scr.of_free rfl g13 (fun _ g14 => Scr.of_free rfl g14 (fun _ g15 => Scr.of_read rfl g15 (fun _ g16 => Scr.of_read rfl g16 (fun _ g17 => Scr.of_free rfl g17 (fun _ g18 => Scr.of_free rfl g18 (fun _ g19 => Scr.of_free rfl g19 (fun _ g20 => Scr.of_free rfl g20 (fun _ g21 => Scr.of_free rfl g21 (fun _ g22 => Scr.of_free rfl g22 (fun _ g23 => Scr.of_free rfl g23 (fun _ g24 => Scr.of_free rfl g24 (fun _ g25 => Scr.of_free rfl g25 (fun _ g26 => Scr.of_read rfl g26 (fun _ g27 => Scr.of_read rfl g27 (fun _ g28 => Scr.of_free rfl g28 (fun _ g29 => Scr.of_free rfl g29 (fun _ g30 => Scr.of_free rfl g30 (fun _ g31 => Scr.of_free rfl g31 (fun _ g32 => Scr.of_free rfl g32 (fun _ g33 => Scr.of_free rfl g33 (fun _ g34 => Scr.of_free rfl g34 (fun _ g35 => Scr.of_free rfl g35 (fun _ g36 => Scr.of_free rfl g36 (fun _ g37 => Scr.of_read rfl g37 (fun _ g38 => Scr.of_read rfl g38 (fun _ g39 => Scr.of_free rfl g39 (fun _ g40 => Scr.of_free rfl g40 (fun _ g41 => Scr.of_free rfl g41 (fun _ g42 => Scr.of_free rfl g42 (fun _ g43 => Scr.of_free rfl g43 (fun _ g44 => Scr.of_free rfl g44 (fun _ g45 => Scr.of_free rfl g45 (fun _ g46 => Scr.of_free rfl g46 (fun _ g47 => Scr.of_free rfl g47 (fun _ g48 => Scr.of_read rfl g48 (fun _ g49 => Scr.of_read rfl g49 (fun _ g50 => Scr.of_free rfl g50 (fun _ g51 => Scr.of_free rfl g51 (fun _ g52 => Scr.of_free rfl g52 (fun _ g53 => Scr.of_free rfl g53 (fun _ g54 => Scr.of_free rfl g54 (fun _ g55 => Scr.of_free rfl g55 (fun _ g56 => Scr.of_free rfl g56 (fun _ g57 => Scr.of_free rfl g57 (fun _ g58 => Scr.of_free rfl g58 (fun _ g59 => Scr.of_read rfl g59 (fun _ g60 => Scr.of_read rfl g60 (fun _ g61 => Scr.of_free rfl g61 (fun _ g62 => Scr.of_free rfl g62 (fun _ g63 => Scr.of_free rfl g63 (fun _ g64 => Scr.of_free rfl g64 (fun _ g65 => Scr.of_free rfl g65 (fun _ g66 => Scr.of_free rfl g66 (fun _ g67 => Scr.of_free rfl g67 (fun _ g68 => Scr.of_free rfl g68 (fun _ g69 => Scr.of_free rfl g69 (fun _ g70 => Scr.of_read rfl g70 (fun _ g71 => Scr.of_read rfl g71 (fun _ g72 => Scr.of_free rfl g72 (fun _ g73 => Scr.of_free rfl g73 (fun _ g74 => g74))))))))))))))))))))))))))))))))))))))))))))))))))))))))))))))))))))))))))))
theorem rg27_11 {P : Program} {B n : Nat} {w0 : World} {L : List (Nat × Nat × Value)} {E F : World → Prop} {id : Nat} {Q : Exit → Act → World → Prop} {a : Act} {w : World} {o0 o1 o2 o3 o4 o5 o6 o7 o8 o9 : Oper} (hm : P.follows .mixedOrders = true)
    (hB : (Region.noSelect [o0, o1, o2, o3, o4, o5, o6, o7, o8, o9].toArray && Scr.ok .any [o0, o1, o2, o3, o4, o5, o6, o7, o8, o9].toArray [2, 5, 7] [0, 1, 3, 4, 6, 9] (.free 0 (.free 1 (.free 3 (.free 4 (.read 2 (.read 5 (.free 6 (.read 7 (.alt 8 (.free 9 .done) .stop))))))))) true true [o0, o1, o2, o3, o4, o5, o6, o7, o8, o9].toArray.size (Array.replicate [o0, o1, o2, o3, o4, o5, o6, o7, o8, o9].toArray.size false)) = true)
    (k : Kept B w0 n L w) (he : E w) (hE : ∀ W W', E W → Below W.heap.size W W' → E W') (hf : F w) (hF : ∀ W W', F W → Below W.heap.size W W' → F W')
    (h : ∀ wk, Kept B w0 n L wk → E wk → F wk → wpQuiet P [o0, o1, o2, o3, o4, o5, o6, o7, o8, o9].toArray (fun _ => True) (fun a0 => wpQuiet P [o0, o1, o2, o3, o4, o5, o6, o7, o8, o9].toArray (fun w' => ∃ s : KX B w0 n L E, w' = s.val) (fun a1 => wpQuiet P [o0, o1, o2, o3, o4, o5, o6, o7, o8, o9].toArray (fun _ => True) (fun a2 => wpQuiet P [o0, o1, o2, o3, o4, o5, o6, o7, o8, o9].toArray (fun w' => ∃ s : KX B w0 n L E, w' = s.val) (fun a3 => ((∀ K4 : Act → World → Prop, (∀ a4 w4, wpQuiet P [o0, o1, o2, o3, o4, o5, o6, o7, o8, o9].toArray (fun _ => True) (fun a5 => Q .normal a5 w4) [o9] a4 → K4 a4 w4) → wpList P [o0, o1, o2, o3, o4, o5, o6, o7, o8, o9].toArray (fun e a4 w4 => e = .normal ∧ (∃ s : KX B w0 n L E, w4 = s.val) ∧ K4 a4 w4) [o8] a3 wk) ∧ True)) [o7] a2) [o6] a1) [o2, o5] a0) [o0, o1, o3, o4] a) : (Code.region id [o0, o1, o2, o3, o4, o5, o6, o7, o8, o9].toArray true).wp P Q a w := by
  have e1 : E w.drew := hE _ _ he ((Below.refl _ _).drew)
  have g := h _ k.drew e1 (hF _ _ hf ((Below.refl _ _).drew))
  exact wp_region_scr (U := (fun w' => ∃ s : KX B w0 n L E, w' = s.val)) (ops := [o0, o1, o2, o3, o4, o5, o6, o7, o8, o9].toArray) (.free 0 (.free 1 (.free 3 (.free 4 (.read 2 (.read 5 (.free 6 (.read 7 (.alt 8 (.free 9 .done) .stop))))))))) [2, 5, 7] [0, 1, 3, 4, 6, 9] hm hB ⟨⟨_, k.drew, e1⟩, rfl⟩ (Scr.of_free rfl g (fun _ g0 => Scr.of_free rfl g0 (fun _ g1 => Scr.of_free rfl g1 (fun _ g2 => Scr.of_free rfl g2 (fun _ g3 => Scr.of_read rfl g3 (fun _ g4 => Scr.of_read rfl g4 (fun _ g5 => Scr.of_free rfl g5 (fun _ g6 => Scr.of_read rfl g6 (fun _ g7 => (Scr.of_alt rfl (g7.1 _ (fun _ _ g => g)) (fun _ _ g8 => Scr.of_free rfl g8 (fun _ g9 => g9)) trivial))))))))))
set_option maxRecDepth 100000 in
set_option maxHeartbeats 4000000 in
theorem quiet_neq_pool {C : World → Prop} {K : Act → Prop} {a a' : Act} {op : Oper} {x y z u : Int} {t : TypeId} (p q : Operand) (ho : op.op = .binOp .neq 25 p q t) (hx : a.eval p = .agg #[.int .i64 x, .int .i64 y, .int .i64 z, .int .i64 u]) (hy : a.eval q = .agg #[.int .i64 x, .int .i64 y, .int .i64 z, .int .i64 u]) (ha : a.put op.dst (.bool false) = a') (hk : K a') : op.quiet Try.prog a C K := by
  subst ha
  refine ⟨.bool false, fun w hw => ?_, hk⟩
  have e : (execOp a.eval op).run Try.prog w = .ok (.value (.bool false)) w := by
    unfold execOp
    rw [ho]
    simp only [hx, hy]
    have hm := manaEqG x y z u x y z u w
    simp at hm
    simp [go_sem, hm]
  unfold Oper.quietAt
  rw [e]
  exact ⟨rfl, rfl⟩
def EqP (w : World) (s t : Bs) (B : Bd) (v : Value) (wr : World) : Prop := ∃ p : Nat, p ≤ 2 ∧ v = .int .i64 p ∧ Below w.heap.size w wr ∧ Bx wr w.heap.size s B ∧ Bx wr (w.heap.size + 1) t B
def EqZ (w : World) (s t : Bs) (B : Bd) (U : Nat) (C : Array Value) (v : Value) (wr : World) : Prop := ∃ z : Nat, z ≤ 4 ∧ v = .int .i64 z ∧ Below w.heap.size w wr ∧ Bx wr w.heap.size s B ∧ Bx wr (w.heap.size + 1) t B ∧ Ro wr U C 113
theorem four_at (P off z : Nat) (hz : z < 4) : (#[.pointer (some ⟨P, off + 5, none⟩), .pointer (some ⟨P, off + 6, none⟩), .pointer (some ⟨P, off + 7, none⟩), .pointer (some ⟨P, off + 8, none⟩)] : Array Value)[z]? = some (.pointer (some ⟨P, off + 5 + z, none⟩)) := by
  have : z = 0 ∨ z = 1 ∨ z = 2 ∨ z = 3 := by omega
  rcases this with rfl | rfl | rfl | rfl <;> rfl
set_option maxRecDepth 100000 in
set_option maxHeartbeats 8000000 in
theorem bequal (s t : Bs) (B : Bd) (w : World) (h1 : BdR w s B) (h2 : BdR w t B) : Calls Try.prog 27 #[bv s B, bv t B] w fun e w' => e = .returned (.bool true) ∧ Below w.heap.size w w' := by
  have HR1 := Lib.hid h1
  have HR2 := Lib.hid h2
  clear h1 h2
  go_enter Try.func27, Try.ntmps27
  go_upto_region 1 with fail
  obtain ⟨wz, hwz⟩ : ∃ W, W = (w.alloc (.cells (bcells s B) 34)).alloc (.cells (bcells t B) 34) := ⟨_, rfl⟩
  change Code.wp Try.prog _ _ _ ((w.alloc (.cells (bcells s B) 34)).alloc (.cells (bcells t B) 34))
  rw [← hwz]
  have HB : Hid (Below w.heap.size w wz) := Lib.hid (by rw [hwz]; go_grown)
  have HX1 : Hid (Bx wz w.heap.size s B) := Lib.hid (by rw [hwz]; exact Bx.below (heap_alloc_new _ _) ((Below.refl _ _).alloc (Nat.le_refl _) _))
  have HX2 : Hid (Bx wz (w.heap.size + 1) t B) := Lib.hid (by rw [hwz, show w.heap.size + 1 = (w.alloc (.cells (bcells s B) 34)).heap.size by simp]; exact heap_alloc_new _ _)
  clear hwz
  go_wp2_with fail
  go_loopw [12] (fun v wr => EqP w s t B v wr) (fun v _ => 2 - (intOf v).toNat)
  case atStart => exact ⟨0, by omega, rfl, HB.out, HX1.out, HX2.out⟩
  case round =>
    obtain ⟨p, hp, rfl, hb, hx1, hx2⟩ := hrel
    replace HB := Lib.hid hb
    replace HX1 := Lib.hid hx1
    replace HX2 := Lib.hid hx2
    by_cases hp2 : p < 2
    · obtain ⟨S, hS⟩ : ∃ S, B.seat p = S := ⟨_, rfl⟩
      have q1 := hx1.seat hp2
      have q2 := hx2.seat hp2
      rw [hS] at q1 q2
      have e1_0 : wr.cell? ⟨w.heap.size, 1 + p * 14, none⟩ = some (.int .i64 S.li) := q1 0 _ rfl
      have e1_1 : wr.cell? ⟨w.heap.size, 1 + p * 14 + 1, none⟩ = some (.int .i64 S.p0) := q1 1 _ rfl
      have e1_2 : wr.cell? ⟨w.heap.size, 1 + p * 14 + 2, none⟩ = some (.int .i64 S.p1) := q1 2 _ rfl
      have e1_3 : wr.cell? ⟨w.heap.size, 1 + p * 14 + 3, none⟩ = some (.int .i64 S.p2) := q1 3 _ rfl
      have e1_4 : wr.cell? ⟨w.heap.size, 1 + p * 14 + 4, none⟩ = some (.int .i64 S.p3) := q1 4 _ rfl
      have e1_9 : wr.cell? ⟨w.heap.size, 1 + p * 14 + 9, none⟩ = some (.bool S.em) := q1 9 _ rfl
      have e1_10 : wr.cell? ⟨w.heap.size, 1 + p * 14 + 10, none⟩ = some (.bool S.py) := q1 10 _ rfl
      have e1_11 : wr.cell? ⟨w.heap.size, 1 + p * 14 + 11, none⟩ = some (.bool S.kp) := q1 11 _ rfl
      have e1_12 : wr.cell? ⟨w.heap.size, 1 + p * 14 + 12, none⟩ = some (.int .i64 S.mu) := q1 12 _ rfl
      have e1_13 : wr.cell? ⟨w.heap.size, 1 + p * 14 + 13, none⟩ = some (.int .i64 S.ac) := q1 13 _ rfl
      have e2_0 : wr.cell? ⟨w.heap.size + 1, 1 + p * 14, none⟩ = some (.int .i64 S.li) := q2 0 _ rfl
      have e2_1 : wr.cell? ⟨w.heap.size + 1, 1 + p * 14 + 1, none⟩ = some (.int .i64 S.p0) := q2 1 _ rfl
      have e2_2 : wr.cell? ⟨w.heap.size + 1, 1 + p * 14 + 2, none⟩ = some (.int .i64 S.p1) := q2 2 _ rfl
      have e2_3 : wr.cell? ⟨w.heap.size + 1, 1 + p * 14 + 3, none⟩ = some (.int .i64 S.p2) := q2 3 _ rfl
      have e2_4 : wr.cell? ⟨w.heap.size + 1, 1 + p * 14 + 4, none⟩ = some (.int .i64 S.p3) := q2 4 _ rfl
      have e2_9 : wr.cell? ⟨w.heap.size + 1, 1 + p * 14 + 9, none⟩ = some (.bool S.em) := q2 9 _ rfl
      have e2_10 : wr.cell? ⟨w.heap.size + 1, 1 + p * 14 + 10, none⟩ = some (.bool S.py) := q2 10 _ rfl
      have e2_11 : wr.cell? ⟨w.heap.size + 1, 1 + p * 14 + 11, none⟩ = some (.bool S.kp) := q2 11 _ rfl
      have e2_12 : wr.cell? ⟨w.heap.size + 1, 1 + p * 14 + 12, none⟩ = some (.int .i64 S.mu) := q2 12 _ rfl
      have e2_13 : wr.cell? ⟨w.heap.size + 1, 1 + p * 14 + 13, none⟩ = some (.int .i64 S.ac) := q2 13 _ rfl
      have p1 := hx1.lt
      have p2 := hx2.lt
      have i1 : (0 : Int) ≤ (p : Int) := by omega
      have i2 : (p : Int) < 2 := by omega
      have u0 : (S.li != S.li) = false := by simp
      have u1 : (S.em != S.em) = false := by simp
      have u2 : (S.py != S.py) = false := by simp
      have u3 : (S.kp != S.kp) = false := by simp
      have u4 : (S.mu != S.mu) = false := by simp
      have u5 : (S.ac != S.ac) = false := by simp
      clear q1 q2 hx1 hx2 hb hS
      go_upto_region 4 with fail
      refine rg27_4 (w0 := wr) (B := wr.heap.size) (n := wr.heap.size) (L := []) (E := fun _ => True) (F := fun _ => True) (by kernel_rfl) (by kernel_rfl) ⟨by go_grown, by go_size, (by simp [go_sem] <;> omega)⟩ trivial (fun _ _ _ _ => trivial) trivial (fun _ _ _ _ => trivial) (fun w41 K_w41 E_w41 F_w41 => ?_)
      have _ne : Nonempty (KX (wr.heap.size) wr (wr.heap.size) [] (fun _ => True)) := ⟨⟨_, K_w41, E_w41⟩⟩
      repeat (go_big_quiet_step (fail))
      refine wpQuiet_nil ?_
      clear _ne
      have KH_w41 := Lib.hid K_w41
      have hw_w41 := K_w41.below
      have hz_w41 := K_w41.size
      clear K_w41
      clear E_w41 F_w41
      replace HB := Lib.hid (below_via HB.out KH_w41.out.below)
      replace HX1 := Lib.hid (HX1.out.below KH_w41.out.below)
      replace HX2 := Lib.hid (HX2.out.below KH_w41.out.below)
      go_upto_region 5 with fail
      replace e1_0 := (KH_w41.out.below.cell (p := ⟨w.heap.size, 1 + p * 14, none⟩) p1).trans e1_0
      replace e1_1 := (KH_w41.out.below.cell (p := ⟨w.heap.size, 1 + p * 14 + 1, none⟩) p1).trans e1_1
      replace e1_2 := (KH_w41.out.below.cell (p := ⟨w.heap.size, 1 + p * 14 + 2, none⟩) p1).trans e1_2
      replace e1_3 := (KH_w41.out.below.cell (p := ⟨w.heap.size, 1 + p * 14 + 3, none⟩) p1).trans e1_3
      replace e1_4 := (KH_w41.out.below.cell (p := ⟨w.heap.size, 1 + p * 14 + 4, none⟩) p1).trans e1_4
      replace e1_9 := (KH_w41.out.below.cell (p := ⟨w.heap.size, 1 + p * 14 + 9, none⟩) p1).trans e1_9
      replace e1_10 := (KH_w41.out.below.cell (p := ⟨w.heap.size, 1 + p * 14 + 10, none⟩) p1).trans e1_10
      replace e1_11 := (KH_w41.out.below.cell (p := ⟨w.heap.size, 1 + p * 14 + 11, none⟩) p1).trans e1_11
      replace e1_12 := (KH_w41.out.below.cell (p := ⟨w.heap.size, 1 + p * 14 + 12, none⟩) p1).trans e1_12
      replace e1_13 := (KH_w41.out.below.cell (p := ⟨w.heap.size, 1 + p * 14 + 13, none⟩) p1).trans e1_13
      replace e2_0 := (KH_w41.out.below.cell (p := ⟨w.heap.size + 1, 1 + p * 14, none⟩) p2).trans e2_0
      replace e2_1 := (KH_w41.out.below.cell (p := ⟨w.heap.size + 1, 1 + p * 14 + 1, none⟩) p2).trans e2_1
      replace e2_2 := (KH_w41.out.below.cell (p := ⟨w.heap.size + 1, 1 + p * 14 + 2, none⟩) p2).trans e2_2
      replace e2_3 := (KH_w41.out.below.cell (p := ⟨w.heap.size + 1, 1 + p * 14 + 3, none⟩) p2).trans e2_3
      replace e2_4 := (KH_w41.out.below.cell (p := ⟨w.heap.size + 1, 1 + p * 14 + 4, none⟩) p2).trans e2_4
      replace e2_9 := (KH_w41.out.below.cell (p := ⟨w.heap.size + 1, 1 + p * 14 + 9, none⟩) p2).trans e2_9
      replace e2_10 := (KH_w41.out.below.cell (p := ⟨w.heap.size + 1, 1 + p * 14 + 10, none⟩) p2).trans e2_10
      replace e2_11 := (KH_w41.out.below.cell (p := ⟨w.heap.size + 1, 1 + p * 14 + 11, none⟩) p2).trans e2_11
      replace e2_12 := (KH_w41.out.below.cell (p := ⟨w.heap.size + 1, 1 + p * 14 + 12, none⟩) p2).trans e2_12
      replace e2_13 := (KH_w41.out.below.cell (p := ⟨w.heap.size + 1, 1 + p * 14 + 13, none⟩) p2).trans e2_13
      replace p1 := HX1.out.lt
      replace p2 := HX2.out.lt
      refine rg27_5 (w0 := w41) (B := w41.heap.size) (n := w41.heap.size) (L := []) (E := fun _ => True) (F := fun _ => True) (by kernel_rfl) (by kernel_rfl) ⟨by go_grown, by go_size, (by simp [go_sem] <;> omega)⟩ trivial (fun _ _ _ _ => trivial) trivial (fun _ _ _ _ => trivial) (fun w51 K_w51 E_w51 F_w51 => ?_)
      have _ne : Nonempty (KX (w41.heap.size) w41 (w41.heap.size) [] (fun _ => True)) := ⟨⟨_, K_w51, E_w51⟩⟩
      repeat (first | (go_big_quiet_want; apply quiet_neq_pool _ _ rfl rfl rfl; (focus (simp [go_sem]; rfl)); go_big_quiet_on) | go_big_quiet_step (fail))
      refine wpQuiet_nil ?_
      have r1_0 : ∀ s : KX (w41.heap.size) w41 (w41.heap.size) [] (fun _ => True), s.val.cell? ⟨w.heap.size, 1 + p * 14, none⟩ = some (.int .i64 S.li) := fun s => (s.kept.below.cell (p := ⟨w.heap.size, 1 + p * 14, none⟩) p1).trans e1_0
      have r1_1 : ∀ s : KX (w41.heap.size) w41 (w41.heap.size) [] (fun _ => True), s.val.cell? ⟨w.heap.size, 1 + p * 14 + 1, none⟩ = some (.int .i64 S.p0) := fun s => (s.kept.below.cell (p := ⟨w.heap.size, 1 + p * 14 + 1, none⟩) p1).trans e1_1
      have r1_2 : ∀ s : KX (w41.heap.size) w41 (w41.heap.size) [] (fun _ => True), s.val.cell? ⟨w.heap.size, 1 + p * 14 + 2, none⟩ = some (.int .i64 S.p1) := fun s => (s.kept.below.cell (p := ⟨w.heap.size, 1 + p * 14 + 2, none⟩) p1).trans e1_2
      have r1_3 : ∀ s : KX (w41.heap.size) w41 (w41.heap.size) [] (fun _ => True), s.val.cell? ⟨w.heap.size, 1 + p * 14 + 3, none⟩ = some (.int .i64 S.p2) := fun s => (s.kept.below.cell (p := ⟨w.heap.size, 1 + p * 14 + 3, none⟩) p1).trans e1_3
      have r1_4 : ∀ s : KX (w41.heap.size) w41 (w41.heap.size) [] (fun _ => True), s.val.cell? ⟨w.heap.size, 1 + p * 14 + 4, none⟩ = some (.int .i64 S.p3) := fun s => (s.kept.below.cell (p := ⟨w.heap.size, 1 + p * 14 + 4, none⟩) p1).trans e1_4
      have r1_9 : ∀ s : KX (w41.heap.size) w41 (w41.heap.size) [] (fun _ => True), s.val.cell? ⟨w.heap.size, 1 + p * 14 + 9, none⟩ = some (.bool S.em) := fun s => (s.kept.below.cell (p := ⟨w.heap.size, 1 + p * 14 + 9, none⟩) p1).trans e1_9
      have r1_10 : ∀ s : KX (w41.heap.size) w41 (w41.heap.size) [] (fun _ => True), s.val.cell? ⟨w.heap.size, 1 + p * 14 + 10, none⟩ = some (.bool S.py) := fun s => (s.kept.below.cell (p := ⟨w.heap.size, 1 + p * 14 + 10, none⟩) p1).trans e1_10
      have r1_11 : ∀ s : KX (w41.heap.size) w41 (w41.heap.size) [] (fun _ => True), s.val.cell? ⟨w.heap.size, 1 + p * 14 + 11, none⟩ = some (.bool S.kp) := fun s => (s.kept.below.cell (p := ⟨w.heap.size, 1 + p * 14 + 11, none⟩) p1).trans e1_11
      have r1_12 : ∀ s : KX (w41.heap.size) w41 (w41.heap.size) [] (fun _ => True), s.val.cell? ⟨w.heap.size, 1 + p * 14 + 12, none⟩ = some (.int .i64 S.mu) := fun s => (s.kept.below.cell (p := ⟨w.heap.size, 1 + p * 14 + 12, none⟩) p1).trans e1_12
      have r1_13 : ∀ s : KX (w41.heap.size) w41 (w41.heap.size) [] (fun _ => True), s.val.cell? ⟨w.heap.size, 1 + p * 14 + 13, none⟩ = some (.int .i64 S.ac) := fun s => (s.kept.below.cell (p := ⟨w.heap.size, 1 + p * 14 + 13, none⟩) p1).trans e1_13
      have r2_0 : ∀ s : KX (w41.heap.size) w41 (w41.heap.size) [] (fun _ => True), s.val.cell? ⟨w.heap.size + 1, 1 + p * 14, none⟩ = some (.int .i64 S.li) := fun s => (s.kept.below.cell (p := ⟨w.heap.size + 1, 1 + p * 14, none⟩) p2).trans e2_0
      have r2_1 : ∀ s : KX (w41.heap.size) w41 (w41.heap.size) [] (fun _ => True), s.val.cell? ⟨w.heap.size + 1, 1 + p * 14 + 1, none⟩ = some (.int .i64 S.p0) := fun s => (s.kept.below.cell (p := ⟨w.heap.size + 1, 1 + p * 14 + 1, none⟩) p2).trans e2_1
      have r2_2 : ∀ s : KX (w41.heap.size) w41 (w41.heap.size) [] (fun _ => True), s.val.cell? ⟨w.heap.size + 1, 1 + p * 14 + 2, none⟩ = some (.int .i64 S.p1) := fun s => (s.kept.below.cell (p := ⟨w.heap.size + 1, 1 + p * 14 + 2, none⟩) p2).trans e2_2
      have r2_3 : ∀ s : KX (w41.heap.size) w41 (w41.heap.size) [] (fun _ => True), s.val.cell? ⟨w.heap.size + 1, 1 + p * 14 + 3, none⟩ = some (.int .i64 S.p2) := fun s => (s.kept.below.cell (p := ⟨w.heap.size + 1, 1 + p * 14 + 3, none⟩) p2).trans e2_3
      have r2_4 : ∀ s : KX (w41.heap.size) w41 (w41.heap.size) [] (fun _ => True), s.val.cell? ⟨w.heap.size + 1, 1 + p * 14 + 4, none⟩ = some (.int .i64 S.p3) := fun s => (s.kept.below.cell (p := ⟨w.heap.size + 1, 1 + p * 14 + 4, none⟩) p2).trans e2_4
      have r2_9 : ∀ s : KX (w41.heap.size) w41 (w41.heap.size) [] (fun _ => True), s.val.cell? ⟨w.heap.size + 1, 1 + p * 14 + 9, none⟩ = some (.bool S.em) := fun s => (s.kept.below.cell (p := ⟨w.heap.size + 1, 1 + p * 14 + 9, none⟩) p2).trans e2_9
      have r2_10 : ∀ s : KX (w41.heap.size) w41 (w41.heap.size) [] (fun _ => True), s.val.cell? ⟨w.heap.size + 1, 1 + p * 14 + 10, none⟩ = some (.bool S.py) := fun s => (s.kept.below.cell (p := ⟨w.heap.size + 1, 1 + p * 14 + 10, none⟩) p2).trans e2_10
      have r2_11 : ∀ s : KX (w41.heap.size) w41 (w41.heap.size) [] (fun _ => True), s.val.cell? ⟨w.heap.size + 1, 1 + p * 14 + 11, none⟩ = some (.bool S.kp) := fun s => (s.kept.below.cell (p := ⟨w.heap.size + 1, 1 + p * 14 + 11, none⟩) p2).trans e2_11
      have r2_12 : ∀ s : KX (w41.heap.size) w41 (w41.heap.size) [] (fun _ => True), s.val.cell? ⟨w.heap.size + 1, 1 + p * 14 + 12, none⟩ = some (.int .i64 S.mu) := fun s => (s.kept.below.cell (p := ⟨w.heap.size + 1, 1 + p * 14 + 12, none⟩) p2).trans e2_12
      have r2_13 : ∀ s : KX (w41.heap.size) w41 (w41.heap.size) [] (fun _ => True), s.val.cell? ⟨w.heap.size + 1, 1 + p * 14 + 13, none⟩ = some (.int .i64 S.ac) := fun s => (s.kept.below.cell (p := ⟨w.heap.size + 1, 1 + p * 14 + 13, none⟩) p2).trans e2_13
      repeat (first | (go_big_quiet_want; apply quiet_neq_pool _ _ rfl rfl rfl; (focus (simp [go_sem]; rfl)); go_big_quiet_on) | go_big_quiet_step (fail))
      refine wpQuiet_nil ?_
      repeat (first | (go_big_quiet_want; apply quiet_neq_pool _ _ rfl rfl rfl; (focus (simp [go_sem]; rfl)); go_big_quiet_on) | go_big_quiet_step (fail))
      refine wpQuiet_nil ?_
      repeat (first | (go_big_quiet_want; apply quiet_neq_pool _ _ rfl rfl rfl; (focus (simp [go_sem]; rfl)); go_big_quiet_on) | go_big_quiet_step (fail))
      refine wpQuiet_nil ?_
      repeat (first | (go_big_quiet_want; apply quiet_neq_pool _ _ rfl rfl rfl; (focus (simp [go_sem]; rfl)); go_big_quiet_on) | go_big_quiet_step (fail))
      refine wpQuiet_nil ?_
      repeat (first | (go_big_quiet_want; apply quiet_neq_pool _ _ rfl rfl rfl; (focus (simp [go_sem]; rfl)); go_big_quiet_on) | go_big_quiet_step (fail))
      refine wpQuiet_nil ?_
      repeat (first | (go_big_quiet_want; apply quiet_neq_pool _ _ rfl rfl rfl; (focus (simp [go_sem]; rfl)); go_big_quiet_on) | go_big_quiet_step (fail))
      refine wpQuiet_nil ?_
      repeat (first | (go_big_quiet_want; apply quiet_neq_pool _ _ rfl rfl rfl; (focus (simp [go_sem]; rfl)); go_big_quiet_on) | go_big_quiet_step (fail))
      refine wpQuiet_nil ?_
      repeat (first | (go_big_quiet_want; apply quiet_neq_pool _ _ rfl rfl rfl; (focus (simp [go_sem]; rfl)); go_big_quiet_on) | go_big_quiet_step (fail))
      refine wpQuiet_nil ?_
      repeat (first | (go_big_quiet_want; apply quiet_neq_pool _ _ rfl rfl rfl; (focus (simp [go_sem]; rfl)); go_big_quiet_on) | go_big_quiet_step (fail))
      refine wpQuiet_nil ?_
      repeat (first | (go_big_quiet_want; apply quiet_neq_pool _ _ rfl rfl rfl; (focus (simp [go_sem]; rfl)); go_big_quiet_on) | go_big_quiet_step (fail))
      refine wpQuiet_nil ?_
      repeat (first | (go_big_quiet_want; apply quiet_neq_pool _ _ rfl rfl rfl; (focus (simp [go_sem]; rfl)); go_big_quiet_on) | go_big_quiet_step (fail))
      refine wpQuiet_nil ?_
      repeat (first | (go_big_quiet_want; apply quiet_neq_pool _ _ rfl rfl rfl; (focus (simp [go_sem]; rfl)); go_big_quiet_on) | go_big_quiet_step (fail))
      refine wpQuiet_nil ?_
      repeat (first | (go_big_quiet_want; apply quiet_neq_pool _ _ rfl rfl rfl; (focus (simp [go_sem]; rfl)); go_big_quiet_on) | go_big_quiet_step (fail))
      refine wpQuiet_nil ?_
      repeat (first | (go_big_quiet_want; apply quiet_neq_pool _ _ rfl rfl rfl; (focus (simp [go_sem]; rfl)); go_big_quiet_on) | go_big_quiet_step (fail))
      refine wpQuiet_nil ?_
      clear r1_0 r1_1 r1_2 r1_3 r1_4 r1_9 r1_10 r1_11 r1_12 r1_13 r2_0 r2_1 r2_2 r2_3 r2_4 r2_9 r2_10 r2_11 r2_12 r2_13
      clear _ne
      have KH_w51 := Lib.hid K_w51
      have hw_w51 := K_w51.below
      have hz_w51 := K_w51.size
      clear K_w51
      clear E_w51 F_w51
      replace HB := Lib.hid (below_via HB.out KH_w51.out.below)
      replace HX1 := Lib.hid (HX1.out.below KH_w51.out.below)
      replace HX2 := Lib.hid (HX2.out.below KH_w51.out.below)
      clear p1 p2 e1_0 e1_1 e1_2 e1_3 e1_4 e1_9 e1_10 e1_11 e1_12 e1_13 e2_0 e2_1 e2_2 e2_3 e2_4 e2_9 e2_10 e2_11 e2_12 e2_13 u0 u1 u2 u3 u4 u5
      go_wp2_with fail
      with_reducible refine (lists (w.heap.size + 1) (1 + p * 14) _).mono ?_
      rintro e w6 ⟨rfl, hb⟩
      replace HB := Lib.hid (below_via HB.out hb)
      replace HX1 := Lib.hid (HX1.out.below hb)
      replace HX2 := Lib.hid (HX2.out.below hb)
      clear hb
      go_wp2_with (refine wpList_store_ro 113 rfl (C := #[.pointer (some ⟨w.heap.size + 1, 1 + p * 14 + 5, none⟩), .pointer (some ⟨w.heap.size + 1, 1 + p * 14 + 6, none⟩), .pointer (some ⟨w.heap.size + 1, 1 + p * 14 + 7, none⟩), .pointer (some ⟨w.heap.size + 1, 1 + p * 14 + 8, none⟩)]) _ _ rfl rfl rfl (Ro.new _ _ _) (by kernel_rfl) rfl (by simp [Value.oneCell']) ?_)
      obtain ⟨w7, hw7⟩ : ∃ W, W = (w6.alloc (.cells #[.pointer none, .pointer none, .pointer none, .pointer none] 113)).setRow w6.heap.size #[.pointer (some ⟨w.heap.size + 1, 1 + p * 14 + 5, none⟩), .pointer (some ⟨w.heap.size + 1, 1 + p * 14 + 6, none⟩), .pointer (some ⟨w.heap.size + 1, 1 + p * 14 + 7, none⟩), .pointer (some ⟨w.heap.size + 1, 1 + p * 14 + 8, none⟩)] := ⟨_, rfl⟩
      rw [← hw7]
      have hb1 : Below w6.heap.size w6 (w6.alloc (.cells #[.pointer none, .pointer none, .pointer none, .pointer none] 113)) := (Below.refl _ _).alloc (Nat.le_refl _) _
      have hb : Below w6.heap.size w6 w7 := belowOnl hb1 (by rw [hw7]; exact Onl.setRow (Onl.refl _ _) (.inl (by simp)) _ : Onl [w6.heap.size] _ w7) (by simp) hb1.size
      have HU : Hid (Ro w7 w6.heap.size #[.pointer (some ⟨w.heap.size + 1, 1 + p * 14 + 5, none⟩), .pointer (some ⟨w.heap.size + 1, 1 + p * 14 + 6, none⟩), .pointer (some ⟨w.heap.size + 1, 1 + p * 14 + 7, none⟩), .pointer (some ⟨w.heap.size + 1, 1 + p * 14 + 8, none⟩)] 113) := Lib.hid (by rw [hw7]; exact setRow_heap _ _ _ _ 113 _ (heap_alloc_new _ _))
      obtain ⟨U, hU⟩ : ∃ n, n = w6.heap.size := ⟨_, rfl⟩
      rw [← hU] at HU ⊢
      replace HB := Lib.hid (below_via HB.out hb)
      replace HX1 := Lib.hid (HX1.out.below hb)
      replace HX2 := Lib.hid (HX2.out.below hb)
      clear hw7 hb1 hb hU
      with_reducible refine (lists w.heap.size (1 + p * 14) _).mono ?_
      rintro e w8 ⟨rfl, hb⟩
      replace HB := Lib.hid (below_via HB.out hb)
      replace HX1 := Lib.hid (HX1.out.below hb)
      replace HX2 := Lib.hid (HX2.out.below hb)
      replace HU := Lib.hid (HU.out.below hb)
      clear hb
      go_wp2_with fail
      go_loopw [100] (fun v wr => EqZ w s t B U #[.pointer (some ⟨w.heap.size + 1, 1 + p * 14 + 5, none⟩), .pointer (some ⟨w.heap.size + 1, 1 + p * 14 + 6, none⟩), .pointer (some ⟨w.heap.size + 1, 1 + p * 14 + 7, none⟩), .pointer (some ⟨w.heap.size + 1, 1 + p * 14 + 8, none⟩)] v wr) (fun v _ => 4 - (intOf v).toNat)
      case atStart => exact ⟨0, by omega, rfl, HB.out, HX1.out, HX2.out, HU.out⟩
      case round =>
        obtain ⟨z, hz, rfl, hb, hx1, hx2, hu0⟩ := hrel
        replace HB := Lib.hid hb
        replace HX1 := Lib.hid hx1
        replace HX2 := Lib.hid hx2
        replace HU := Lib.hid hu0
        by_cases hz4 : z < 4
        · have j1 : (0 : Int) ≤ (z : Int) := by omega
          have j2 : (z : Int) < 4 := by omega
          have hix := idx4 w.heap.size (1 + p * 14) hz4
          obtain ⟨⟨za, zn, zc⟩, hze⟩ : ∃ q, s.zl p z = q := ⟨_, rfl⟩
          obtain ⟨⟨ya, yn, yc⟩, hye⟩ : ∃ q, t.zl p z = q := ⟨_, rfl⟩
          have HZ1 : Hid (Rw ic 1 w (.slice za zn zc) ((B.seat p).zs z)) := Lib.hid (by have h := HR1.out.zone p z; rw [hze] at h; exact h)
          have HZ2 : Hid (Rw ic 1 w (.slice ya yn yc) ((B.seat p).zs z)) := Lib.hid (by have h := HR2.out.zone p z; rw [hye] at h; exact h)
          have hz1 : wr.cell? ⟨w.heap.size, 1 + p * 14 + 5 + z, none⟩ = some (.slice za zn zc) := by have h := hx1.zone hp2 hz4; rw [hze] at h; exact h
          have hz2 : wr.cell? ⟨w.heap.size + 1, 1 + p * 14 + 5 + z, none⟩ = some (.slice ya yn yc) := by have h := hx2.zone hp2 hz4; rw [hye] at h; exact h
          have hu : wr.cell? ⟨U, z, none⟩ = some (.pointer (some ⟨w.heap.size + 1, 1 + p * 14 + 5 + z, none⟩)) := (hu0.cell z).trans (four_at (w.heap.size + 1) (1 + p * 14) z hz4)
          have p1 := hx1.lt
          have p2 := hx2.lt
          have p3 := hu0.lt
          clear hze hye hx1 hx2 hu0 hb
          go_upto_region 11 with fail
          clear hix
          refine rg27_11 (w0 := wr) (B := wr.heap.size) (n := wr.heap.size) (L := []) (E := fun _ => True) (F := fun _ => True) (by kernel_rfl) (by kernel_rfl) ⟨by go_grown, by go_size, (by simp [go_sem] <;> omega)⟩ trivial (fun _ _ _ _ => trivial) trivial (fun _ _ _ _ => trivial) (fun w61 K_w61 E_w61 F_w61 => ?_)
          have _ne : Nonempty (KX (wr.heap.size) wr (wr.heap.size) [] (fun _ => True)) := ⟨⟨_, K_w61, E_w61⟩⟩
          repeat (go_big_quiet_step (fail))
          refine wpQuiet_nil ?_
          have r1 : ∀ s : KX (wr.heap.size) wr (wr.heap.size) [] (fun _ => True), s.val.cell? ⟨w.heap.size, 1 + p * 14 + 5 + z, none⟩ = some (.slice za zn zc) := fun s => (s.kept.below.cell (p := ⟨w.heap.size, 1 + p * 14 + 5 + z, none⟩) p1).trans hz1
          have r2 : ∀ s : KX (wr.heap.size) wr (wr.heap.size) [] (fun _ => True), s.val.cell? ⟨w.heap.size + 1, 1 + p * 14 + 5 + z, none⟩ = some (.slice ya yn yc) := fun s => (s.kept.below.cell (p := ⟨w.heap.size + 1, 1 + p * 14 + 5 + z, none⟩) p2).trans hz2
          have r3 : ∀ s : KX (wr.heap.size) wr (wr.heap.size) [] (fun _ => True), s.val.cell? ⟨U, z, none⟩ = some (.pointer (some ⟨w.heap.size + 1, 1 + p * 14 + 5 + z, none⟩)) := fun s => (s.kept.below.cell (p := ⟨U, z, none⟩) p3).trans hu
          repeat (go_big_quiet_step (fail))
          refine wpQuiet_nil ?_
          repeat (go_big_quiet_step (fail))
          refine wpQuiet_nil ?_
          repeat (go_big_quiet_step (fail))
          refine wpQuiet_nil ?_
          have KH_w61 := Lib.hid K_w61
          have hw_w61 := K_w61.below
          have hz_w61 := K_w61.size
          clear K_w61
          clear E_w61 F_w61
          refine ⟨fun K hK0 => ?_, trivial⟩
          have hK := Lib.hid hK0
          clear hK0
          replace HB := Lib.hid (below_via HB.out KH_w61.out.below)
          replace HX1 := Lib.hid (HX1.out.below KH_w61.out.below)
          replace HX2 := Lib.hid (HX2.out.below KH_w61.out.below)
          replace HU := Lib.hid (HU.out.below KH_w61.out.below)
          go_wp2_with fail
          with_reducible refine (sqI _ _ _ _ _ (HZ1.out.below HB.out) (HZ2.out.below HB.out)).mono ?_
          rintro e w82 ⟨r, rfl, hr, hb⟩
          obtain rfl : r = true := hr.2 rfl
          replace HB := Lib.hid (below_via HB.out hb)
          replace HX1 := Lib.hid (HX1.out.below hb)
          replace HX2 := Lib.hid (HX2.out.below hb)
          replace HU := Lib.hid (HU.out.below hb)
          have HW := Lib.hid (KH_w61.out.step (Nat.le_refl _) hb)
          clear hb hr
          go_wp2_with fail
          first | (refine ⟨rfl, ⟨⟨_, HW.out, trivial⟩, rfl⟩, hK.out _ _ ?_⟩; clear hK K) | (refine ⟨⟨⟨_, HW.out, trivial⟩, rfl⟩, hK.out _ _ ?_⟩; clear hK K)
          repeat (go_big_quiet_step (fail))
          refine wpQuiet_nil ?_
          clear r1 r2 r3
          clear _ne
          go_wp2_with fail
          go_roundw
          case rel => exact ⟨z + 1, by omega, by go_num, HB.out, HX1.out, HX2.out, HU.out⟩
          case measure => simp [intOf]; omega
        · clear hx1 hx2 hu0 hb HU
          go_wp2_with fail
          go_roundw
          case rel => exact ⟨p + 1, by omega, by go_num, HB.out, HX1.out, HX2.out⟩
          case measure => simp [intOf]; omega
    · clear hb hx1 hx2
      have a33 : wr.cell? ⟨w.heap.size, 33, none⟩ = some (.int .i64 B.tu) := HX1.out.cell 33
      have b33 : wr.cell? ⟨w.heap.size + 1, 33, none⟩ = some (.int .i64 B.tu) := HX2.out.cell 33
      have v33 : (B.tu == B.tu) = true := by simp
      have a34 : wr.cell? ⟨w.heap.size, 34, none⟩ = some (.int .i64 B.ac) := HX1.out.cell 34
      have b34 : wr.cell? ⟨w.heap.size + 1, 34, none⟩ = some (.int .i64 B.ac) := HX2.out.cell 34
      have v34 : (B.ac == B.ac) = true := by simp
      have a35 : wr.cell? ⟨w.heap.size, 35, none⟩ = some (.int .i64 B.ph) := HX1.out.cell 35
      have b35 : wr.cell? ⟨w.heap.size + 1, 35, none⟩ = some (.int .i64 B.ph) := HX2.out.cell 35
      have v35 : (B.ph == B.ph) = true := by simp
      have a36 : wr.cell? ⟨w.heap.size, 36, none⟩ = some (.int .i64 B.ho) := HX1.out.cell 36
      have b36 : wr.cell? ⟨w.heap.size + 1, 36, none⟩ = some (.int .i64 B.ho) := HX2.out.cell 36
      have v36 : (B.ho == B.ho) = true := by simp
      have a37 : wr.cell? ⟨w.heap.size, 37, none⟩ = some (.int .i64 B.pa) := HX1.out.cell 37
      have b37 : wr.cell? ⟨w.heap.size + 1, 37, none⟩ = some (.int .i64 B.pa) := HX2.out.cell 37
      have v37 : (B.pa == B.pa) = true := by simp
      go_upto_region 16 with fail
      clear a33 b33 v33 a34 b34 v34 a35 b35 v35 a36 b36 v36 a37 b37 v37
      have a0 : wr.cell? ⟨w.heap.size, 0, none⟩ = some (.slice s.ob.a s.ob.n s.ob.c) := HX1.out.cell 0
      have b0 : wr.cell? ⟨w.heap.size + 1, 0, none⟩ = some (.slice t.ob.a t.ob.n t.ob.c) := HX2.out.cell 0
      have g1 : Rw oc 12 wr (.slice s.ob.a s.ob.n s.ob.c) B.ob := HR1.out.ob.below HB.out
      have g2 : Rw oc 12 wr (.slice t.ob.a t.ob.n t.ob.c) B.ob := HR2.out.ob.below HB.out
      have G1 := Lib.hid g1
      have G2 := Lib.hid g2
      clear g1 g2
      go_wp2_with fail
      with_reducible refine (sqO _ _ _ _ _ G1.out G2.out).mono ?_
      rintro e v1 ⟨r, rfl, hr, hb⟩
      obtain rfl : r = true := hr.2 rfl
      replace HB := Lib.hid (below_via HB.out hb)
      replace HX1 := Lib.hid (HX1.out.below hb)
      replace HX2 := Lib.hid (HX2.out.below hb)
      clear hb hr G1 G2 a0 b0
      have a29 : v1.cell? ⟨w.heap.size, 29, none⟩ = some (.slice s.st.a s.st.n s.st.c) := HX1.out.cell 29
      have b29 : v1.cell? ⟨w.heap.size + 1, 29, none⟩ = some (.slice t.st.a t.st.n t.st.c) := HX2.out.cell 29
      have g1 : ItR v1 (.slice s.st.a s.st.n s.st.c) B.st := HR1.out.st.below HB.out
      have g2 : ItR v1 (.slice t.st.a t.st.n t.st.c) B.st := HR2.out.st.below HB.out
      have G1 := Lib.hid g1
      have G2 := Lib.hid g2
      clear g1 g2
      go_wp2_with fail
      with_reducible refine (sqItems2 _ _ _ _ _ G1.out G2.out).mono ?_
      rintro e v2 ⟨r, rfl, hr, hb⟩
      obtain rfl : r = true := hr.2 rfl
      replace HB := Lib.hid (below_via HB.out hb)
      replace HX1 := Lib.hid (HX1.out.below hb)
      replace HX2 := Lib.hid (HX2.out.below hb)
      clear hb hr G1 G2 a29 b29
      have a30 : v2.cell? ⟨w.heap.size, 30, none⟩ = some (.slice s.qu.a s.qu.n s.qu.c) := HX1.out.cell 30
      have b30 : v2.cell? ⟨w.heap.size + 1, 30, none⟩ = some (.slice t.qu.a t.qu.n t.qu.c) := HX2.out.cell 30
      have g1 : ItR v2 (.slice s.qu.a s.qu.n s.qu.c) B.qu := HR1.out.qu.below HB.out
      have g2 : ItR v2 (.slice t.qu.a t.qu.n t.qu.c) B.qu := HR2.out.qu.below HB.out
      have G1 := Lib.hid g1
      have G2 := Lib.hid g2
      clear g1 g2
      go_wp2_with fail
      with_reducible refine (sqItems2 _ _ _ _ _ G1.out G2.out).mono ?_
      rintro e v3 ⟨r, rfl, hr, hb⟩
      obtain rfl : r = true := hr.2 rfl
      replace HB := Lib.hid (below_via HB.out hb)
      replace HX1 := Lib.hid (HX1.out.below hb)
      replace HX2 := Lib.hid (HX2.out.below hb)
      clear hb hr G1 G2 a30 b30
      have a31 : v3.cell? ⟨w.heap.size, 31, none⟩ = some (.slice s.at'.a s.at'.n s.at'.c) := HX1.out.cell 31
      have b31 : v3.cell? ⟨w.heap.size + 1, 31, none⟩ = some (.slice t.at'.a t.at'.n t.at'.c) := HX2.out.cell 31
      have g1 : Rw ic 1 v3 (.slice s.at'.a s.at'.n s.at'.c) B.att := HR1.out.att.below HB.out
      have g2 : Rw ic 1 v3 (.slice t.at'.a t.at'.n t.at'.c) B.att := HR2.out.att.below HB.out
      have G1 := Lib.hid g1
      have G2 := Lib.hid g2
      clear g1 g2
      go_wp2_with fail
      with_reducible refine (sqI _ _ _ _ _ G1.out G2.out).mono ?_
      rintro e v4 ⟨r, rfl, hr, hb⟩
      obtain rfl : r = true := hr.2 rfl
      replace HB := Lib.hid (below_via HB.out hb)
      replace HX1 := Lib.hid (HX1.out.below hb)
      replace HX2 := Lib.hid (HX2.out.below hb)
      clear hb hr G1 G2 a31 b31
      have a32 : v4.cell? ⟨w.heap.size, 32, none⟩ = some (.slice s.bl.a s.bl.n s.bl.c) := HX1.out.cell 32
      have b32 : v4.cell? ⟨w.heap.size + 1, 32, none⟩ = some (.slice t.bl.a t.bl.n t.bl.c) := HX2.out.cell 32
      have g1 : Rw kc 2 v4 (.slice s.bl.a s.bl.n s.bl.c) B.bl := HR1.out.bl.below HB.out
      have g2 : Rw kc 2 v4 (.slice t.bl.a t.bl.n t.bl.c) B.bl := HR2.out.bl.below HB.out
      have G1 := Lib.hid g1
      have G2 := Lib.hid g2
      clear g1 g2
      go_wp2_with fail
      with_reducible refine (sqB _ _ _ _ _ G1.out G2.out).mono ?_
      rintro e v5 ⟨r, rfl, hr, hb⟩
      obtain rfl : r = true := hr.2 rfl
      replace HB := Lib.hid (below_via HB.out hb)
      replace HX1 := Lib.hid (HX1.out.below hb)
      replace HX2 := Lib.hid (HX2.out.below hb)
      clear hb hr G1 G2 a32 b32
      go_wp2_with fail
      go_returns
      exact ⟨rfl, HB.out⟩
end Go.Proofs.Yteoeahmnonolmaa
namespace Go.Proofs.Yteoeahmnonolmaa
open Go.RowKit Plain
set_option linter.unusedVariables false
set_option linter.unusedSimpArgs false

theorem rg7_7 {P : Program} {B n : Nat} {w0 : World} {L : List (Nat × Nat × Value)} {E F : World → Prop} {id : Nat} {Q : Exit → Act → World → Prop} {a : Act} {w : World} {o0 o1 o2 o3 o4 o5 o6 o7 o8 o9 o10 o11 o12 o13 o14 o15 o16 o17 o18 o19 o20 o21 o22 o23 o24 o25 o26 o27 o28 o29 o30 o31 o32 o33 o34 o35 o36 o37 o38 o39 o40 o41 o42 o43 o44 : Oper} (hm : P.follows .mixedOrders = true)
    (hB : (Region.noSelect (o0 :: o1 :: o2 :: o3 :: o4 :: o5 :: o6 :: o7 :: o8 :: o9 :: o10 :: o11 :: o12 :: o13 :: o14 :: o15 :: o16 :: o17 :: o18 :: o19 :: o20 :: o21 :: o22 :: o23 :: o24 :: o25 :: o26 :: o27 :: o28 :: o29 :: o30 :: o31 :: o32 :: o33 :: o34 :: o35 :: o36 :: o37 :: o38 :: o39 :: o40 :: o41 :: o42 :: o43 :: o44 :: []).toArray && Scr.ok .any (o0 :: o1 :: o2 :: o3 :: o4 :: o5 :: o6 :: o7 :: o8 :: o9 :: o10 :: o11 :: o12 :: o13 :: o14 :: o15 :: o16 :: o17 :: o18 :: o19 :: o20 :: o21 :: o22 :: o23 :: o24 :: o25 :: o26 :: o27 :: o28 :: o29 :: o30 :: o31 :: o32 :: o33 :: o34 :: o35 :: o36 :: o37 :: o38 :: o39 :: o40 :: o41 :: o42 :: o43 :: o44 :: []).toArray [19, 20, 25, 26, 31, 32, 34, 35, 40, 41] [0, 1, 2, 3, 4, 5, 6, 7, 8, 9, 10, 11, 12, 13, 14, 15, 16, 17, 18, 22, 23, 24, 28, 29, 30, 37, 38, 39, 43, 44] (.free 0 (.free 1 (.free 2 (.free 3 (.free 4 (.free 5 (.free 6 (.free 7 (.free 8 (.free 9 (.free 10 (.free 11 (.free 12 (.free 13 (.free 14 (.free 15 (.free 16 (.free 17 (.free 18 (.read 19 (.read 20 (.alt 21 (.free 22 (.free 23 (.free 24 (.read 25 (.read 26 (.alt 27 (.free 28 (.free 29 (.free 30 (.read 31 (.read 32 (.read 34 (.read 35 (.alt 33 (.alt 36 (.free 37 (.free 38 (.free 39 (.read 40 (.read 41 (.alt 42 (.free 43 (.free 44 .done)) .stop)))))) .stop) .stop)))))))) .stop)))))) .stop)))))))))))))))))))))) true true (o0 :: o1 :: o2 :: o3 :: o4 :: o5 :: o6 :: o7 :: o8 :: o9 :: o10 :: o11 :: o12 :: o13 :: o14 :: o15 :: o16 :: o17 :: o18 :: o19 :: o20 :: o21 :: o22 :: o23 :: o24 :: o25 :: o26 :: o27 :: o28 :: o29 :: o30 :: o31 :: o32 :: o33 :: o34 :: o35 :: o36 :: o37 :: o38 :: o39 :: o40 :: o41 :: o42 :: o43 :: o44 :: []).toArray.size (Array.replicate (o0 :: o1 :: o2 :: o3 :: o4 :: o5 :: o6 :: o7 :: o8 :: o9 :: o10 :: o11 :: o12 :: o13 :: o14 :: o15 :: o16 :: o17 :: o18 :: o19 :: o20 :: o21 :: o22 :: o23 :: o24 :: o25 :: o26 :: o27 :: o28 :: o29 :: o30 :: o31 :: o32 :: o33 :: o34 :: o35 :: o36 :: o37 :: o38 :: o39 :: o40 :: o41 :: o42 :: o43 :: o44 :: []).toArray.size false)) = true)
    (k : Kept B w0 n L w) (he : E w) (hE : ∀ W W', E W → Below W.heap.size W W' → E W') (hf : F w) (hF : ∀ W W', F W → Below W.heap.size W W' → F W')
    (h : ∀ wk, Kept B w0 n L wk → E wk → F wk → wpQuiet P (o0 :: o1 :: o2 :: o3 :: o4 :: o5 :: o6 :: o7 :: o8 :: o9 :: o10 :: o11 :: o12 :: o13 :: o14 :: o15 :: o16 :: o17 :: o18 :: o19 :: o20 :: o21 :: o22 :: o23 :: o24 :: o25 :: o26 :: o27 :: o28 :: o29 :: o30 :: o31 :: o32 :: o33 :: o34 :: o35 :: o36 :: o37 :: o38 :: o39 :: o40 :: o41 :: o42 :: o43 :: o44 :: []).toArray (fun _ => True) (fun a0 => wpQuiet P (o0 :: o1 :: o2 :: o3 :: o4 :: o5 :: o6 :: o7 :: o8 :: o9 :: o10 :: o11 :: o12 :: o13 :: o14 :: o15 :: o16 :: o17 :: o18 :: o19 :: o20 :: o21 :: o22 :: o23 :: o24 :: o25 :: o26 :: o27 :: o28 :: o29 :: o30 :: o31 :: o32 :: o33 :: o34 :: o35 :: o36 :: o37 :: o38 :: o39 :: o40 :: o41 :: o42 :: o43 :: o44 :: []).toArray (fun w' => ∃ s : KX B w0 n L E, w' = s.val) (fun a1 => ((∀ K2 : Act → World → Prop, (∀ a2 w2, wpQuiet P (o0 :: o1 :: o2 :: o3 :: o4 :: o5 :: o6 :: o7 :: o8 :: o9 :: o10 :: o11 :: o12 :: o13 :: o14 :: o15 :: o16 :: o17 :: o18 :: o19 :: o20 :: o21 :: o22 :: o23 :: o24 :: o25 :: o26 :: o27 :: o28 :: o29 :: o30 :: o31 :: o32 :: o33 :: o34 :: o35 :: o36 :: o37 :: o38 :: o39 :: o40 :: o41 :: o42 :: o43 :: o44 :: []).toArray (fun _ => True) (fun a3 => wpQuiet P (o0 :: o1 :: o2 :: o3 :: o4 :: o5 :: o6 :: o7 :: o8 :: o9 :: o10 :: o11 :: o12 :: o13 :: o14 :: o15 :: o16 :: o17 :: o18 :: o19 :: o20 :: o21 :: o22 :: o23 :: o24 :: o25 :: o26 :: o27 :: o28 :: o29 :: o30 :: o31 :: o32 :: o33 :: o34 :: o35 :: o36 :: o37 :: o38 :: o39 :: o40 :: o41 :: o42 :: o43 :: o44 :: []).toArray (fun w' => ∃ s : KX B w0 n L E, w' = s.val) (fun a4 => ((∀ K5 : Act → World → Prop, (∀ a5 w5, wpQuiet P (o0 :: o1 :: o2 :: o3 :: o4 :: o5 :: o6 :: o7 :: o8 :: o9 :: o10 :: o11 :: o12 :: o13 :: o14 :: o15 :: o16 :: o17 :: o18 :: o19 :: o20 :: o21 :: o22 :: o23 :: o24 :: o25 :: o26 :: o27 :: o28 :: o29 :: o30 :: o31 :: o32 :: o33 :: o34 :: o35 :: o36 :: o37 :: o38 :: o39 :: o40 :: o41 :: o42 :: o43 :: o44 :: []).toArray (fun _ => True) (fun a6 => wpQuiet P (o0 :: o1 :: o2 :: o3 :: o4 :: o5 :: o6 :: o7 :: o8 :: o9 :: o10 :: o11 :: o12 :: o13 :: o14 :: o15 :: o16 :: o17 :: o18 :: o19 :: o20 :: o21 :: o22 :: o23 :: o24 :: o25 :: o26 :: o27 :: o28 :: o29 :: o30 :: o31 :: o32 :: o33 :: o34 :: o35 :: o36 :: o37 :: o38 :: o39 :: o40 :: o41 :: o42 :: o43 :: o44 :: []).toArray (fun w' => ∃ s : KX B w0 n L E, w' = s.val) (fun a7 => ((∀ K8 : Act → World → Prop, (∀ a8 w8, ((∀ K9 : Act → World → Prop, (∀ a9 w9, wpQuiet P (o0 :: o1 :: o2 :: o3 :: o4 :: o5 :: o6 :: o7 :: o8 :: o9 :: o10 :: o11 :: o12 :: o13 :: o14 :: o15 :: o16 :: o17 :: o18 :: o19 :: o20 :: o21 :: o22 :: o23 :: o24 :: o25 :: o26 :: o27 :: o28 :: o29 :: o30 :: o31 :: o32 :: o33 :: o34 :: o35 :: o36 :: o37 :: o38 :: o39 :: o40 :: o41 :: o42 :: o43 :: o44 :: []).toArray (fun _ => True) (fun a10 => wpQuiet P (o0 :: o1 :: o2 :: o3 :: o4 :: o5 :: o6 :: o7 :: o8 :: o9 :: o10 :: o11 :: o12 :: o13 :: o14 :: o15 :: o16 :: o17 :: o18 :: o19 :: o20 :: o21 :: o22 :: o23 :: o24 :: o25 :: o26 :: o27 :: o28 :: o29 :: o30 :: o31 :: o32 :: o33 :: o34 :: o35 :: o36 :: o37 :: o38 :: o39 :: o40 :: o41 :: o42 :: o43 :: o44 :: []).toArray (fun w' => ∃ s : KX B w0 n L E, w' = s.val) (fun a11 => ((∀ K12 : Act → World → Prop, (∀ a12 w12, wpQuiet P (o0 :: o1 :: o2 :: o3 :: o4 :: o5 :: o6 :: o7 :: o8 :: o9 :: o10 :: o11 :: o12 :: o13 :: o14 :: o15 :: o16 :: o17 :: o18 :: o19 :: o20 :: o21 :: o22 :: o23 :: o24 :: o25 :: o26 :: o27 :: o28 :: o29 :: o30 :: o31 :: o32 :: o33 :: o34 :: o35 :: o36 :: o37 :: o38 :: o39 :: o40 :: o41 :: o42 :: o43 :: o44 :: []).toArray (fun _ => True) (fun a13 => Q .normal a13 w12) [o43, o44] a12 → K12 a12 w12) → wpList P (o0 :: o1 :: o2 :: o3 :: o4 :: o5 :: o6 :: o7 :: o8 :: o9 :: o10 :: o11 :: o12 :: o13 :: o14 :: o15 :: o16 :: o17 :: o18 :: o19 :: o20 :: o21 :: o22 :: o23 :: o24 :: o25 :: o26 :: o27 :: o28 :: o29 :: o30 :: o31 :: o32 :: o33 :: o34 :: o35 :: o36 :: o37 :: o38 :: o39 :: o40 :: o41 :: o42 :: o43 :: o44 :: []).toArray (fun e a12 w12 => e = .normal ∧ (∃ s : KX B w0 n L E, w12 = s.val) ∧ K12 a12 w12) [o42] a11 w9) ∧ True)) [o40, o41] a10) [o37, o38, o39] a9 → K9 a9 w9) → wpList P (o0 :: o1 :: o2 :: o3 :: o4 :: o5 :: o6 :: o7 :: o8 :: o9 :: o10 :: o11 :: o12 :: o13 :: o14 :: o15 :: o16 :: o17 :: o18 :: o19 :: o20 :: o21 :: o22 :: o23 :: o24 :: o25 :: o26 :: o27 :: o28 :: o29 :: o30 :: o31 :: o32 :: o33 :: o34 :: o35 :: o36 :: o37 :: o38 :: o39 :: o40 :: o41 :: o42 :: o43 :: o44 :: []).toArray (fun e a9 w9 => e = .normal ∧ (∃ s : KX B w0 n L E, w9 = s.val) ∧ K9 a9 w9) [o36] a8 w8) ∧ True) → K8 a8 w8) → wpList P (o0 :: o1 :: o2 :: o3 :: o4 :: o5 :: o6 :: o7 :: o8 :: o9 :: o10 :: o11 :: o12 :: o13 :: o14 :: o15 :: o16 :: o17 :: o18 :: o19 :: o20 :: o21 :: o22 :: o23 :: o24 :: o25 :: o26 :: o27 :: o28 :: o29 :: o30 :: o31 :: o32 :: o33 :: o34 :: o35 :: o36 :: o37 :: o38 :: o39 :: o40 :: o41 :: o42 :: o43 :: o44 :: []).toArray (fun e a8 w8 => e = .normal ∧ (∃ s : KX B w0 n L E, w8 = s.val) ∧ K8 a8 w8) [o33] a7 w5) ∧ True)) [o31, o32, o34, o35] a6) [o28, o29, o30] a5 → K5 a5 w5) → wpList P (o0 :: o1 :: o2 :: o3 :: o4 :: o5 :: o6 :: o7 :: o8 :: o9 :: o10 :: o11 :: o12 :: o13 :: o14 :: o15 :: o16 :: o17 :: o18 :: o19 :: o20 :: o21 :: o22 :: o23 :: o24 :: o25 :: o26 :: o27 :: o28 :: o29 :: o30 :: o31 :: o32 :: o33 :: o34 :: o35 :: o36 :: o37 :: o38 :: o39 :: o40 :: o41 :: o42 :: o43 :: o44 :: []).toArray (fun e a5 w5 => e = .normal ∧ (∃ s : KX B w0 n L E, w5 = s.val) ∧ K5 a5 w5) [o27] a4 w2) ∧ True)) [o25, o26] a3) [o22, o23, o24] a2 → K2 a2 w2) → wpList P (o0 :: o1 :: o2 :: o3 :: o4 :: o5 :: o6 :: o7 :: o8 :: o9 :: o10 :: o11 :: o12 :: o13 :: o14 :: o15 :: o16 :: o17 :: o18 :: o19 :: o20 :: o21 :: o22 :: o23 :: o24 :: o25 :: o26 :: o27 :: o28 :: o29 :: o30 :: o31 :: o32 :: o33 :: o34 :: o35 :: o36 :: o37 :: o38 :: o39 :: o40 :: o41 :: o42 :: o43 :: o44 :: []).toArray (fun e a2 w2 => e = .normal ∧ (∃ s : KX B w0 n L E, w2 = s.val) ∧ K2 a2 w2) [o21] a1 wk) ∧ True)) [o19, o20] a0) [o0, o1, o2, o3, o4, o5, o6, o7, o8, o9, o10, o11, o12, o13, o14, o15, o16, o17, o18] a) : (Code.region id (o0 :: o1 :: o2 :: o3 :: o4 :: o5 :: o6 :: o7 :: o8 :: o9 :: o10 :: o11 :: o12 :: o13 :: o14 :: o15 :: o16 :: o17 :: o18 :: o19 :: o20 :: o21 :: o22 :: o23 :: o24 :: o25 :: o26 :: o27 :: o28 :: o29 :: o30 :: o31 :: o32 :: o33 :: o34 :: o35 :: o36 :: o37 :: o38 :: o39 :: o40 :: o41 :: o42 :: o43 :: o44 :: []).toArray true).wp P Q a w := by
  have e1 : E w.drew := hE _ _ he ((Below.refl _ _).drew)
  have g := h _ k.drew e1 (hF _ _ hf ((Below.refl _ _).drew))
  exact wp_region_scr (U := (fun w' => ∃ s : KX B w0 n L E, w' = s.val)) (ops := (o0 :: o1 :: o2 :: o3 :: o4 :: o5 :: o6 :: o7 :: o8 :: o9 :: o10 :: o11 :: o12 :: o13 :: o14 :: o15 :: o16 :: o17 :: o18 :: o19 :: o20 :: o21 :: o22 :: o23 :: o24 :: o25 :: o26 :: o27 :: o28 :: o29 :: o30 :: o31 :: o32 :: o33 :: o34 :: o35 :: o36 :: o37 :: o38 :: o39 :: o40 :: o41 :: o42 :: o43 :: o44 :: []).toArray) (.free 0 (.free 1 (.free 2 (.free 3 (.free 4 (.free 5 (.free 6 (.free 7 (.free 8 (.free 9 (.free 10 (.free 11 (.free 12 (.free 13 (.free 14 (.free 15 (.free 16 (.free 17 (.free 18 (.read 19 (.read 20 (.alt 21 (.free 22 (.free 23 (.free 24 (.read 25 (.read 26 (.alt 27 (.free 28 (.free 29 (.free 30 (.read 31 (.read 32 (.read 34 (.read 35 (.alt 33 (.alt 36 (.free 37 (.free 38 (.free 39 (.read 40 (.read 41 (.alt 42 (.free 43 (.free 44 .done)) .stop)))))) .stop) .stop)))))))) .stop)))))) .stop)))))))))))))))))))))) [19, 20, 25, 26, 31, 32, 34, 35, 40, 41] [0, 1, 2, 3, 4, 5, 6, 7, 8, 9, 10, 11, 12, 13, 14, 15, 16, 17, 18, 22, 23, 24, 28, 29, 30, 37, 38, 39, 43, 44] hm hB ⟨⟨_, k.drew, e1⟩, rfl⟩ (Scr.of_free rfl g (fun _ g0 => Scr.of_free rfl g0 (fun _ g1 => Scr.of_free rfl g1 (fun _ g2 => Scr.of_free rfl g2 (fun _ g3 => Scr.of_free rfl g3 (fun _ g4 => Scr.of_free rfl g4 (fun _ g5 => Scr.of_free rfl g5 (fun _ g6 => Scr.of_free rfl g6 (fun _ g7 => Scr.of_free rfl g7 (fun _ g8 => Scr.of_free rfl g8 (fun _ g9 => Scr.of_free rfl g9 (fun _ g10 => Scr.of_free rfl g10 (fun _ g11 => Scr.of_free rfl g11 (fun _ g12 => Scr.of_free rfl g12 (fun _ g13 => Scr.of_free rfl g13 (fun _ g14 => Scr.of_free rfl g14 (fun _ g15 => Scr.of_free rfl g15 (fun _ g16 => Scr.of_free rfl g16 (fun _ g17 => Scr.of_free rfl g17 (fun _ g18 => Scr.of_read rfl g18 (fun _ g19 => Scr.of_read rfl g19 (fun _ g20 => (Scr.of_alt rfl (g20.1 _ (fun _ _ g => g)) (fun _ _ g21 => Scr.of_free rfl g21 (fun _ g22 => Scr.of_free rfl g22 (fun _ g23 => Scr.of_free rfl g23 (fun _ g24 => Scr.of_read rfl g24 (fun _ g25 => Scr.of_read rfl g25 (fun _ g26 => (Scr.of_alt rfl (g26.1 _ (fun _ _ g => g)) (fun _ _ g27 => Scr.of_free rfl g27 (fun _ g28 => Scr.of_free rfl g28 (fun _ g29 => Scr.of_free rfl g29 (fun _ g30 => Scr.of_read rfl g30 (fun _ g31 => Scr.of_read rfl g31 (fun _ g32 => Scr.of_read rfl g32 (fun _ g33 => Scr.of_read rfl g33 (fun _ g34 => (Scr.of_alt rfl (g34.1 _ (fun _ _ g => g)) (fun _ _ g35 => (Scr.of_alt rfl (g35.1 _ (fun _ _ g => g)) (fun _ _ g36 => Scr.of_free rfl g36 (fun _ g37 => Scr.of_free rfl g37 (fun _ g38 => Scr.of_free rfl g38 (fun _ g39 => Scr.of_read rfl g39 (fun _ g40 => Scr.of_read rfl g40 (fun _ g41 => (Scr.of_alt rfl (g41.1 _ (fun _ _ g => g)) (fun _ _ g42 => Scr.of_free rfl g42 (fun _ g43 => Scr.of_free rfl g43 (fun _ g44 => g44))) trivial))))))) trivial)) trivial))))))))) trivial))))))) trivial)))))))))))))))))))))))
/-- what is public of a board, and whether it is valid, by the code and by the law -/
theorem pub_any (s : Bs) (B : Bd) (hi : B.I) (hsm : B.S60) : ∃ (P : Pu) (r : Bool) (e : Int), (r = true ∧ e = 0 ∨ r = false ∧ e = 2) ∧ ∀ W, BdR W s B → Calls Try.prog 23 #[bv s B] W (PrA W P (.int .i64 e)) ∧ Calls Try.prog 25 #[bv s B] W (PqA W P r) := by
  by_cases h : VB B
  · exact ⟨puB B, true, 0, .inl ⟨rfl, rfl⟩, fun W hr => ⟨sof_ok s B W hr hi hsm.sm h, lpublic_ok s B W hr hi hsm.sm h⟩⟩
  · exact ⟨zeroPu, false, 2, .inr ⟨rfl, rfl⟩, fun W hr => ⟨sof_bad s B W hr hi hsm.sm h, lpublic_bad s B W hr hi hsm.sm h⟩⟩
/-- whatever the board, its targets are few, or the copy is as long -/
theorem EoB {np nq nx ny : Nat} {sp sq sx sy : Ps} {PA PB : Pu} {W W' : World} (h : Px W np sp PA ∧ Px W nq sq PB ∧ Px W nx sx PA ∧ Px W ny sy PB) (hb : Below W.heap.size W W') : Px W' np sp PA ∧ Px W' nq sq PB ∧ Px W' nx sx PA ∧ Px W' ny sy PB := ⟨h.1.below hb, h.2.1.below hb, h.2.2.1.below hb, h.2.2.2.below hb⟩
set_option maxRecDepth 100000 in
set_option maxHeartbeats 4000000 in
theorem spof (s t : Bs) (B D : Bd) (w : World) (h1 : BdR w s B) (h2 : BdR w t D) (i1 : B.I) (i2 : D.I) (hk : B.Tl) : Calls Try.prog 7 #[bv s B, bv t D] w fun e w' => e = .returned (.bool true) ∧ Below w.heap.size w w' := by
  have HR1 := Lib.hid h1
  have HR2 := Lib.hid h2
  have HI1 := Lib.hid i1
  have HI2 := Lib.hid i2
  have HTL := Lib.hid hk
  clear h1 h2 i1 i2 hk
  go_enter Try.func7, Try.ntmps7
  go_upto_region 1 with fail
  obtain ⟨wz, hwz⟩ : ∃ W, W = (w.alloc (.cells (bcells s B) 34)).alloc (.cells (bcells t D) 34) := ⟨_, rfl⟩
  change Code.wp Try.prog _ _ _ ((w.alloc (.cells (bcells s B) 34)).alloc (.cells (bcells t D) 34))
  rw [← hwz]
  have HB : Hid (Below w.heap.size w wz) := Lib.hid (by rw [hwz]; go_grown)
  have HX1 : Hid (Bx wz w.heap.size s B) := Lib.hid (by rw [hwz]; exact Bx.below (heap_alloc_new _ _) ((Below.refl _ _).alloc (Nat.le_refl _) _))
  have HX2 : Hid (Bx wz (w.heap.size + 1) t D) := Lib.hid (by rw [hwz, show w.heap.size + 1 = (w.alloc (.cells (bcells s B) 34)).heap.size by simp]; exact heap_alloc_new _ _)
  clear hwz
  go_wp2_with (refine wpList_load_bx _ rfl rfl HX1.out (by kernel_rfl) ?_)
  with_reducible refine (lsmall s B _ (HR1.out.below HB.out)).mono ?_
  rintro e z1 ⟨r, rfl, hr, hb⟩
  replace HB := Lib.hid (below_via HB.out hb)
  replace HX1 := Lib.hid (HX1.out.below hb)
  replace HX2 := Lib.hid (HX2.out.below hb)
  clear hb
  cases r
  · skip
    go_wp2_with fail
    with_reducible refine (known _).mono ?_
    rintro e w99 ⟨rfl, hb⟩
    replace HB := Lib.hid (below_via HB.out hb)
    clear hb
    go_wp2_with fail
    go_returns
    exact ⟨rfl, HB.out⟩
  have HS1 := Lib.hid (hr rfl)
  clear hr
  go_wp2_with (refine wpList_load_bx _ rfl rfl HX2.out (by kernel_rfl) ?_)
  with_reducible refine (lsmall t D _ (HR2.out.below HB.out)).mono ?_
  rintro e wz2 ⟨r, rfl, hr, hb⟩
  replace HB := Lib.hid (below_via HB.out hb)
  replace HX1 := Lib.hid (HX1.out.below hb)
  replace HX2 := Lib.hid (HX2.out.below hb)
  clear hb
  cases r
  · skip
    go_wp2_with fail
    with_reducible refine (known _).mono ?_
    rintro e w99 ⟨rfl, hb⟩
    replace HB := Lib.hid (below_via HB.out hb)
    clear hb
    go_wp2_with fail
    go_returns
    exact ⟨rfl, HB.out⟩
  have HS2 := Lib.hid (hr rfl)
  clear hr
  have HSZ : Hid (w.heap.size + 2 ≤ wz2.heap.size) := Lib.hid (by have := HX2.out.lt; omega)
  obtain ⟨PA, ra, ea, hea, hpa⟩ := pub_any s B HI1.out HS1.out
  obtain ⟨PB, rb, eb, heb, hpb⟩ := pub_any t D HI2.out HS2.out
  have HPA := Lib.hid hpa
  have HPB := Lib.hid hpb
  have HEA := Lib.hid hea
  have HEB := Lib.hid heb
  clear hpa hpb hea heb
  obtain ⟨lp, hlp⟩ : ∃ n, n = wz2.heap.size := ⟨_, rfl⟩
  go_wp2_with (refine wpList_load_bx _ rfl rfl HX1.out (by kernel_rfl) ?_)
  with_reducible refine ((HPA.out _ (HR1.out.below HB.out)).1).mono ?_
  rintro e w1 ⟨sp, rfl, ho, hb⟩
  have hsz := hb.size
  replace HB := Lib.hid (below_via HB.out hb)
  replace HX1 := Lib.hid (HX1.out.below hb)
  replace HX2 := Lib.hid (HX2.out.below hb)
  clear hb
  go_wp2_with (refine wpList_store_ph (s := sp) (P := PA) rfl _ _ rfl rfl rfl (heap_alloc_new _ _) rfl ?_)
  intro w2 hw0
  have hbx := pboxed hw0.out
  obtain ⟨np, hnp⟩ : ∃ n, n = w1.heap.size := ⟨_, rfl⟩
  rw [← hnp] at hbx ho ⊢
  have hb := hbx.1
  rw [hnp] at hb
  replace HB := Lib.hid (below_via HB.out hb)
  replace HX1 := Lib.hid (HX1.out.below hb)
  replace HX2 := Lib.hid (HX2.out.below hb)
  rw [← hlp] at ho
  have HOp := Lib.hid (ho.below hb)
  have HPp := Lib.hid (HOp.out.rd)
  have HLp : Hid (lp ≤ np) := Lib.hid (by rw [hnp, hlp]; exact hsz)
  have HQp := Lib.hid hbx.2
  have HLW : Hid (w.heap.size + 2 ≤ lp) := Lib.hid (by rw [hlp]; exact HSZ.out)
  clear hw0 hbx hb ho hsz hnp hlp
  obtain ⟨lq, hlq⟩ : ∃ n, n = w2.heap.size := ⟨_, rfl⟩
  go_wp2_with (refine wpList_load_bx _ rfl rfl HX2.out (by kernel_rfl) ?_)
  with_reducible refine ((HPB.out _ (HR2.out.below HB.out)).1).mono ?_
  rintro e w3 ⟨sq, rfl, ho, hb⟩
  have hsz := hb.size
  replace HB := Lib.hid (below_via HB.out hb)
  replace HX1 := Lib.hid (HX1.out.below hb)
  replace HX2 := Lib.hid (HX2.out.below hb)
  replace HPp := Lib.hid (HPp.out.below hb)
  replace HOp := Lib.hid (HOp.out.below hb)
  replace HQp := Lib.hid (HQp.out.below hb)
  clear hb
  go_wp2_with (refine wpList_store_ph (s := sq) (P := PB) rfl _ _ rfl rfl rfl (heap_alloc_new _ _) rfl ?_)
  intro w4 hw0
  have hbx := pboxed hw0.out
  obtain ⟨nq, hnq⟩ : ∃ n, n = w3.heap.size := ⟨_, rfl⟩
  rw [← hnq] at hbx ho ⊢
  have hb := hbx.1
  rw [hnq] at hb
  replace HB := Lib.hid (below_via HB.out hb)
  replace HX1 := Lib.hid (HX1.out.below hb)
  replace HX2 := Lib.hid (HX2.out.below hb)
  replace HPp := Lib.hid (HPp.out.below hb)
  replace HOp := Lib.hid (HOp.out.below hb)
  replace HQp := Lib.hid (HQp.out.below hb)
  rw [← hlq] at ho
  have HOq := Lib.hid (ho.below hb)
  have HPq := Lib.hid (HOq.out.rd)
  have HLq : Hid (lq ≤ nq) := Lib.hid (by rw [hnq, hlq]; exact hsz)
  have HQq := Lib.hid hbx.2
  clear hw0 hbx hb ho hsz hnq hlq
  obtain ⟨lx, hlx⟩ : ∃ n, n = w4.heap.size := ⟨_, rfl⟩
  go_wp2_with (refine wpList_load_bx _ rfl rfl HX1.out (by kernel_rfl) ?_)
  with_reducible refine ((HPA.out _ (HR1.out.below HB.out)).2).mono ?_
  rintro e w5 ⟨sx, rfl, ho, hb⟩
  have hsz := hb.size
  replace HB := Lib.hid (below_via HB.out hb)
  replace HX1 := Lib.hid (HX1.out.below hb)
  replace HX2 := Lib.hid (HX2.out.below hb)
  replace HPp := Lib.hid (HPp.out.below hb)
  replace HOp := Lib.hid (HOp.out.below hb)
  replace HQp := Lib.hid (HQp.out.below hb)
  replace HPq := Lib.hid (HPq.out.below hb)
  replace HQq := Lib.hid (HQq.out.below hb)
  clear hb
  go_wp2_with (refine wpList_store_ph (s := sx) (P := PA) rfl _ _ rfl rfl rfl (heap_alloc_new _ _) rfl ?_)
  intro w6 hw0
  have hbx := pboxed hw0.out
  obtain ⟨nx, hnx⟩ : ∃ n, n = w5.heap.size := ⟨_, rfl⟩
  rw [← hnx] at hbx ⊢
  have hb := hbx.1
  rw [hnx] at hb
  replace HB := Lib.hid (below_via HB.out hb)
  replace HX1 := Lib.hid (HX1.out.below hb)
  replace HX2 := Lib.hid (HX2.out.below hb)
  replace HPp := Lib.hid (HPp.out.below hb)
  replace HOp := Lib.hid (HOp.out.below hb)
  replace HQp := Lib.hid (HQp.out.below hb)
  replace HPq := Lib.hid (HPq.out.below hb)
  replace HQq := Lib.hid (HQq.out.below hb)
  have HPx := Lib.hid (ho.below hb)
  have HQx := Lib.hid hbx.2
  clear hw0 hbx hb ho hsz hnx hlx
  obtain ⟨ly, hly⟩ : ∃ n, n = w6.heap.size := ⟨_, rfl⟩
  go_wp2_with (refine wpList_load_bx _ rfl rfl HX2.out (by kernel_rfl) ?_)
  with_reducible refine ((HPB.out _ (HR2.out.below HB.out)).2).mono ?_
  rintro e w7 ⟨sy, rfl, ho, hb⟩
  have hsz := hb.size
  replace HB := Lib.hid (below_via HB.out hb)
  replace HX1 := Lib.hid (HX1.out.below hb)
  replace HX2 := Lib.hid (HX2.out.below hb)
  replace HPp := Lib.hid (HPp.out.below hb)
  replace HOp := Lib.hid (HOp.out.below hb)
  replace HQp := Lib.hid (HQp.out.below hb)
  replace HPq := Lib.hid (HPq.out.below hb)
  replace HQq := Lib.hid (HQq.out.below hb)
  replace HPx := Lib.hid (HPx.out.below hb)
  replace HQx := Lib.hid (HQx.out.below hb)
  clear hb
  go_wp2_with (refine wpList_store_ph (s := sy) (P := PB) rfl _ _ rfl rfl rfl (heap_alloc_new _ _) rfl ?_)
  intro w8 hw0
  have hbx := pboxed hw0.out
  obtain ⟨ny, hny⟩ : ∃ n, n = w7.heap.size := ⟨_, rfl⟩
  rw [← hny] at hbx ⊢
  have hb := hbx.1
  rw [hny] at hb
  replace HB := Lib.hid (below_via HB.out hb)
  replace HX1 := Lib.hid (HX1.out.below hb)
  replace HX2 := Lib.hid (HX2.out.below hb)
  replace HPp := Lib.hid (HPp.out.below hb)
  replace HOp := Lib.hid (HOp.out.below hb)
  replace HQp := Lib.hid (HQp.out.below hb)
  replace HPq := Lib.hid (HPq.out.below hb)
  replace HQq := Lib.hid (HQq.out.below hb)
  replace HPx := Lib.hid (HPx.out.below hb)
  replace HQx := Lib.hid (HQx.out.below hb)
  have HPy := Lib.hid (ho.below hb)
  have HQy := Lib.hid hbx.2
  clear hw0 hbx hb ho hsz hny hly
  go_upto_region 7 with fail
  rcases HEA.out with ⟨rfl, rfl⟩ | ⟨rfl, rfl⟩ <;> rcases HEB.out with ⟨rfl, rfl⟩ | ⟨rfl, rfl⟩
  all_goals
    clear HEA HEB
    refine rg7_7 (w0 := w8) (B := w8.heap.size) (n := w8.heap.size) (L := []) (E := fun W => Px W np sp PA ∧ Px W nq sq PB ∧ Px W nx sx PA ∧ Px W ny sy PB) (F := fun _ => True) (by kernel_rfl) (by kernel_rfl) ⟨by go_grown, by go_size, (by simp [go_sem] <;> omega)⟩ ⟨HQp.out, HQq.out, HQx.out, HQy.out⟩ (fun _ _ h hb => EoB h hb) trivial (fun _ _ _ _ => trivial) (fun w61 K_w61 E_w61 F_w61 => ?_)
    have _ne : Nonempty (KX (w8.heap.size) w8 (w8.heap.size) [] (fun W => Px W np sp PA ∧ Px W nq sq PB ∧ Px W nx sx PA ∧ Px W ny sy PB)) := ⟨⟨_, K_w61, E_w61⟩⟩
    have qp : ∀ W', (∃ s' : KX (w8.heap.size) w8 (w8.heap.size) [] (fun W => Px W np sp PA ∧ Px W nq sq PB ∧ Px W nx sx PA ∧ Px W ny sy PB), W' = s'.val) → Px W' np sp PA := by rintro _ ⟨s', rfl⟩; exact s'.ex.1
    have qq : ∀ W', (∃ s' : KX (w8.heap.size) w8 (w8.heap.size) [] (fun W => Px W np sp PA ∧ Px W nq sq PB ∧ Px W nx sx PA ∧ Px W ny sy PB), W' = s'.val) → Px W' nq sq PB := by rintro _ ⟨s', rfl⟩; exact s'.ex.2.1
    have qx : ∀ W', (∃ s' : KX (w8.heap.size) w8 (w8.heap.size) [] (fun W => Px W np sp PA ∧ Px W nq sq PB ∧ Px W nx sx PA ∧ Px W ny sy PB), W' = s'.val) → Px W' nx sx PA := by rintro _ ⟨s', rfl⟩; exact s'.ex.2.2.1
    have qy : ∀ W', (∃ s' : KX (w8.heap.size) w8 (w8.heap.size) [] (fun W => Px W np sp PA ∧ Px W nq sq PB ∧ Px W nx sx PA ∧ Px W ny sy PB), W' = s'.val) → Px W' ny sy PB := by rintro _ ⟨s', rfl⟩; exact s'.ex.2.2.2
    repeat (first | (go_big_quiet_want; (first | apply quiet_load_px _ rfl rfl qp | apply quiet_load_px _ rfl rfl qq | apply quiet_load_px _ rfl rfl qx | apply quiet_load_px _ rfl rfl qy); (focus (simp [go_sem]; rfl)); go_big_quiet_on) | go_big_quiet_step (fail))
    refine wpQuiet_nil ?_
    repeat (first | (go_big_quiet_want; (first | apply quiet_load_px _ rfl rfl qp | apply quiet_load_px _ rfl rfl qq | apply quiet_load_px _ rfl rfl qx | apply quiet_load_px _ rfl rfl qy); (focus (simp [go_sem]; rfl)); go_big_quiet_on) | go_big_quiet_step (fail))
    refine wpQuiet_nil ?_
    have KH_w61 := Lib.hid K_w61
    have hw_w61 := K_w61.below
    have hz_w61 := K_w61.size
    clear K_w61
    have HE1 := Lib.hid E_w61
    clear E_w61 F_w61
    refine ⟨fun K hK0 => ?_, trivial⟩
    have hK := Lib.hid hK0
    clear hK0
    have HW : Hid (Below w8.heap.size w8 w61) := Lib.hid KH_w61.out.below
    have HE := HE1
    clear HE1
    go_wp2_with fail
    with_reducible refine (lsame sp sx _ _ _ (HPp.out.below HW.out) (HPx.out.below HW.out)).mono ?_
    rintro e w21 ⟨r, rfl, hr, hb⟩
    replace HW := Lib.hid (below_via HW.out hb)
    replace HE := Lib.hid (EoB HE.out hb)
    clear hb
    obtain rfl : r = true := hr.2 rfl
    clear hr
    go_wp2_with fail
    first | (refine ⟨rfl, ⟨⟨_, (⟨HW.out, HW.out.size, by simp⟩ : Kept w8.heap.size w8 (w8.heap.size) [] w21), HE.out⟩, rfl⟩, hK.out _ _ ?_⟩; clear hK K) | (refine ⟨⟨⟨_, (⟨HW.out, HW.out.size, by simp⟩ : Kept w8.heap.size w8 (w8.heap.size) [] w21), HE.out⟩, rfl⟩, hK.out _ _ ?_⟩; clear hK K)
    repeat (first | (go_big_quiet_want; (first | apply quiet_load_px _ rfl rfl qp | apply quiet_load_px _ rfl rfl qq | apply quiet_load_px _ rfl rfl qx | apply quiet_load_px _ rfl rfl qy); (focus (simp [go_sem]; rfl)); go_big_quiet_on) | go_big_quiet_step (fail))
    refine wpQuiet_nil ?_
    repeat (first | (go_big_quiet_want; (first | apply quiet_load_px _ rfl rfl qp | apply quiet_load_px _ rfl rfl qq | apply quiet_load_px _ rfl rfl qx | apply quiet_load_px _ rfl rfl qy); (focus (simp [go_sem]; rfl)); go_big_quiet_on) | go_big_quiet_step (fail))
    refine wpQuiet_nil ?_
    refine ⟨fun K hK0 => ?_, trivial⟩
    have hK := Lib.hid hK0
    clear hK0
    go_wp2_with fail
    with_reducible refine (lsame sq sy _ _ _ (HPq.out.below HW.out) (HPy.out.below HW.out)).mono ?_
    rintro e w22 ⟨r, rfl, hr, hb⟩
    replace HW := Lib.hid (below_via HW.out hb)
    replace HE := Lib.hid (EoB HE.out hb)
    clear hb
    obtain rfl : r = true := hr.2 rfl
    clear hr
    go_wp2_with fail
    first | (refine ⟨rfl, ⟨⟨_, (⟨HW.out, HW.out.size, by simp⟩ : Kept w8.heap.size w8 (w8.heap.size) [] w22), HE.out⟩, rfl⟩, hK.out _ _ ?_⟩; clear hK K) | (refine ⟨⟨⟨_, (⟨HW.out, HW.out.size, by simp⟩ : Kept w8.heap.size w8 (w8.heap.size) [] w22), HE.out⟩, rfl⟩, hK.out _ _ ?_⟩; clear hK K)
    repeat (first | (go_big_quiet_want; (first | apply quiet_load_px _ rfl rfl qp | apply quiet_load_px _ rfl rfl qq | apply quiet_load_px _ rfl rfl qx | apply quiet_load_px _ rfl rfl qy); (focus (simp [go_sem]; rfl)); go_big_quiet_on) | go_big_quiet_step (fail))
    refine wpQuiet_nil ?_
    repeat (first | (go_big_quiet_want; (first | apply quiet_load_px _ rfl rfl qp | apply quiet_load_px _ rfl rfl qq | apply quiet_load_px _ rfl rfl qx | apply quiet_load_px _ rfl rfl qy); (focus (simp [go_sem]; rfl)); go_big_quiet_on) | go_big_quiet_step (fail))
    refine wpQuiet_nil ?_
    refine ⟨fun K hK0 => ?_, trivial⟩
    have hK := Lib.hid hK0
    clear hK0
    go_wp2_with fail
    with_reducible refine (sequal sp sq _ _ _ (HPp.out.below HW.out) (HPq.out.below HW.out)).mono ?_
    rintro e w23 ⟨r1, rfl, hr1, hb⟩
    replace HW := Lib.hid (below_via HW.out hb)
    replace HE := Lib.hid (EoB HE.out hb)
    clear hb
    go_wp2_with fail
    first | (refine ⟨rfl, ⟨⟨_, (⟨HW.out, HW.out.size, by simp⟩ : Kept w8.heap.size w8 (w8.heap.size) [] w23), HE.out⟩, rfl⟩, hK.out _ _ ?_⟩; clear hK K) | (refine ⟨⟨⟨_, (⟨HW.out, HW.out.size, by simp⟩ : Kept w8.heap.size w8 (w8.heap.size) [] w23), HE.out⟩, rfl⟩, hK.out _ _ ?_⟩; clear hK K)
    refine ⟨fun K hK0 => ?_, trivial⟩
    have hK := Lib.hid hK0
    clear hK0
    go_wp2_with fail
    with_reducible refine (lsame sx sy _ _ _ (HPx.out.below HW.out) (HPy.out.below HW.out)).mono ?_
    rintro e w24 ⟨r2, rfl, hr2, hb⟩
    replace HW := Lib.hid (below_via HW.out hb)
    replace HE := Lib.hid (EoB HE.out hb)
    clear hb
    obtain rfl : r1 = r2 := by
      have h1 := hr1
      have h2 := hr2
      cases r1 <;> cases r2 <;> simp_all
    clear hr1 hr2
    have t12 : (r1 == r1) = true := by simp
    have t12' : (r1 != r1) = false := by simp
    go_wp2_with fail
    first | (refine ⟨rfl, ⟨⟨_, (⟨HW.out, HW.out.size, by simp⟩ : Kept w8.heap.size w8 (w8.heap.size) [] w24), HE.out⟩, rfl⟩, hK.out _ _ ?_⟩; clear hK K) | (refine ⟨⟨⟨_, (⟨HW.out, HW.out.size, by simp⟩ : Kept w8.heap.size w8 (w8.heap.size) [] w24), HE.out⟩, rfl⟩, hK.out _ _ ?_⟩; clear hK K)
    repeat (first | (go_big_quiet_want; (first | apply quiet_load_px _ rfl rfl qp | apply quiet_load_px _ rfl rfl qq | apply quiet_load_px _ rfl rfl qx | apply quiet_load_px _ rfl rfl qy); (focus (simp [go_sem]; rfl)); go_big_quiet_on) | go_big_quiet_step (fail))
    refine wpQuiet_nil ?_
    repeat (first | (go_big_quiet_want; (first | apply quiet_load_px _ rfl rfl qp | apply quiet_load_px _ rfl rfl qq | apply quiet_load_px _ rfl rfl qx | apply quiet_load_px _ rfl rfl qy); (focus (simp [go_sem]; rfl)); go_big_quiet_on) | go_big_quiet_step (fail))
    refine wpQuiet_nil ?_
    refine ⟨fun K hK0 => ?_, trivial⟩
    have hK := Lib.hid hK0
    clear hK0
    go_wp2_with fail
    with_reducible refine (sequal sp sp _ _ _ (HPp.out.below HW.out) (HPp.out.below HW.out)).mono ?_
    rintro e w25 ⟨r, rfl, hr, hb⟩
    replace HW := Lib.hid (below_via HW.out hb)
    replace HE := Lib.hid (EoB HE.out hb)
    clear hb
    obtain rfl : r = true := hr.2 rfl
    clear hr
    go_wp2_with fail
    first | (refine ⟨rfl, ⟨⟨_, (⟨HW.out, HW.out.size, by simp⟩ : Kept w8.heap.size w8 (w8.heap.size) [] w25), HE.out⟩, rfl⟩, hK.out _ _ ?_⟩; clear hK K) | (refine ⟨⟨⟨_, (⟨HW.out, HW.out.size, by simp⟩ : Kept w8.heap.size w8 (w8.heap.size) [] w25), HE.out⟩, rfl⟩, hK.out _ _ ?_⟩; clear hK K)
    repeat (first | (go_big_quiet_want; (first | apply quiet_load_px _ rfl rfl qp | apply quiet_load_px _ rfl rfl qq | apply quiet_load_px _ rfl rfl qx | apply quiet_load_px _ rfl rfl qy); (focus (simp [go_sem]; rfl)); go_big_quiet_on) | go_big_quiet_step (fail))
    refine wpQuiet_nil ?_
    clear _ne
    clear t12 t12'
    have hb : Below w8.heap.size w8 w25 := HW.out
    replace HB := Lib.hid (below_via HB.out hb)
    replace HX1 := Lib.hid (HX1.out.below hb)
    replace HOp := Lib.hid (HOp.out.below hb)
    have HQp := Lib.hid HE.out.1
    clear HE HW hb
    go_wp2_with (refine wpList_load_bx _ rfl rfl HX1.out (by kernel_rfl) ?_)
    obtain ⟨lo, hlo⟩ : ∃ n, n = w25.heap.size := ⟨_, rfl⟩
    have hnp := HQp.out.lt
    rw [← hlo] at hnp
    with_reducible refine (bcopy s B _ (HR1.out.below HB.out) HS1.out.sm HTL.out).mono ?_
    rintro e v1 ⟨so, rfl, ho, hb⟩
    have hsz := hb.size
    replace HB := Lib.hid (below_via HB.out hb)
    replace HX1 := Lib.hid (HX1.out.below hb)
    replace HOp := Lib.hid (HOp.out.below hb)
    replace HQp := Lib.hid (HQp.out.below hb)
    clear hb
    go_wp2_with (refine wpList_store_bh (s := so) (B := B) rfl _ _ rfl rfl rfl (heap_alloc_new _ _) rfl ?_)
    intro v2 hw0
    have hbx := boxed hw0.out
    obtain ⟨no, hno⟩ : ∃ n, n = v1.heap.size := ⟨_, rfl⟩
    rw [← hno] at hbx ho ⊢
    rw [← hlo] at ho
    have hb := hbx.1
    rw [hno] at hb
    replace HB := Lib.hid (below_via HB.out hb)
    replace HX1 := Lib.hid (HX1.out.below hb)
    replace HOp := Lib.hid (HOp.out.below hb)
    replace HQp := Lib.hid (HQp.out.below hb)
    have HOo := Lib.hid (ho.below hb)
    have HXo := Lib.hid hbx.2
    have HN : Hid (np < lo ∧ lo ≤ no) := Lib.hid ⟨hnp, by rw [hno, hlo]; exact hsz⟩
    clear hw0 hbx hb ho hsz hnp hno hlo
    go_wp2_with (refine wpList_load_px _ rfl rfl HQp.out (by kernel_rfl) ?_)
    with_reducible refine (spoil sp PA lp np _ HOp.out (by have := HQp.out.lt; omega)).mono ?_
    rintro e v3 ⟨rfl, hr⟩
    have HRN := Lib.hid hr
    replace HB := Lib.hid (Rng.below HB.out hr (by have := HLW.out; omega) (by have := HB.out.size; omega))
    replace HX1 : Hid (Bx v3 w.heap.size s B) := Lib.hid ((hr.block _ HX1.out.lt (by have := HLW.out; omega)).trans HX1.out)
    replace HOo := Lib.hid (HOo.out.rng hr (.inr (by have := HN.out; omega)) (by have := HXo.out.lt; omega))
    replace HXo : Hid (Bx v3 no so B) := Lib.hid ((hr.block _ HXo.out.lt (by have := HN.out; omega)).trans HXo.out)
    clear hr HQp HOp
    go_wp2_with (first | (refine wpList_load_bx _ rfl rfl HX1.out (by kernel_rfl) ?_) | (refine wpList_load_bx _ rfl rfl HXo.out (by kernel_rfl) ?_))
    with_reducible refine (bequal s so B _ (HR1.out.below HB.out) HOo.out.rd).mono ?_
    rintro e v4 ⟨rfl, hb⟩
    replace HB := Lib.hid (below_via HB.out hb)
    clear hb
    go_wp2_with fail
    with_reducible refine (known _).mono ?_
    rintro e w99 ⟨rfl, hb⟩
    replace HB := Lib.hid (below_via HB.out hb)
    clear hb
    go_wp2_with fail
    go_returns
    exact ⟨rfl, HB.out⟩
end Go.Proofs.Yteoeahmnonolmaa
