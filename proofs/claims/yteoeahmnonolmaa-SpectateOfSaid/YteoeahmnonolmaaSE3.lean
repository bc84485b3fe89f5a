/- Seats that look alike, by the code. -/
import Derived.Test.YteoeahmnonolmaaSE1
import Derived.Deep.DeepCutAuto
import Derived.LoopTactic
import Derived.Deep.MidRow
import Derived.ChangeKeysEq
namespace Go.Proofs.Yteoeahmnonolmaa
open Go.RowKit Plain
set_option linter.unusedVariables false
set_option linter.unusedSimpArgs false

theorem infoI' : (Try.prog.info? 3).map (fun i => (i.zero, i.size, i.bytes)) = some (some (.int .i64 0), 1, 8) := by kernel_rfl
open Go.RowKit in
theorem manaEqG (a b c d a' b' c' d' : Int) (w : World) : (Op.equalIn 10000 25 (.agg #[.int .i64 a, .int .i64 b, .int .i64 c, .int .i64 d]) (.agg #[.int .i64 a', .int .i64 b', .int .i64 c', .int .i64 d'])).run Try.prog w = .ok (a == a' && (b == b' && (c == c' && d == d'))) w := by
  obtain ⟨i, hi⟩ : ∃ i, Try.prog.info? 3 = some i := by
    have h := infoI'
    cases hh : Try.prog.info? 3 with
    | none => rw [hh] at h; simp at h
    | some i => exact ⟨i, rfl⟩
  have hc : Try.prog.cellsOf 3 = 1 := by kernel_rfl
  have p : ∀ (w1 : World) (xs : Array Value) (k : Nat) (z : Int), xs[k]? = some (.int .i64 z) → (part 3 xs k).run Try.prog w1 = .ok (.int .i64 z) w1 := fun w1 xs k z h => by
    have hu := Try.underlying3
    simp [part, Sem.run_bind, h]
  have e : ∀ x y, (Op.equalIn 9999 3 (.int .i64 x) (.int .i64 y)).run Try.prog w = .ok (x == y) w := fun x y => run_equalIn_int w 9998 3 .i64 .i64 _ _ Try.underlying3
  have q0 := p w #[.int .i64 a, .int .i64 b, .int .i64 c, .int .i64 d] 0 a rfl
  have q1 := p w #[.int .i64 a, .int .i64 b, .int .i64 c, .int .i64 d] 1 b rfl
  have q2 := p w #[.int .i64 a, .int .i64 b, .int .i64 c, .int .i64 d] 2 c rfl
  have q3 := p w #[.int .i64 a, .int .i64 b, .int .i64 c, .int .i64 d] 3 d rfl
  have s0 := p w #[.int .i64 a', .int .i64 b', .int .i64 c', .int .i64 d'] 0 a' rfl
  have s1 := p w #[.int .i64 a', .int .i64 b', .int .i64 c', .int .i64 d'] 1 b' rfl
  have s2 := p w #[.int .i64 a', .int .i64 b', .int .i64 c', .int .i64 d'] 2 c' rfl
  have s3 := p w #[.int .i64 a', .int .i64 b', .int .i64 c', .int .i64 d'] 3 d' rfl
  have r : List.range 4 = [0, 1, 2, 3] := rfl
  rw [run_equalIn_array w 9999 _ _ Try.underlying25 hi, hc, r]
  clear p
  simp only [Op.eqItems, Sem.run_bind, Sem.run_ite, Sem.run_pure, Nat.mul_one, q0, q1, q2, q3, s0, s1, s2, s3, e, Result.andThen_ok]
  by_cases h1 : a = a' <;> by_cases h2 : b = b' <;> by_cases h3 : c = c' <;> by_cases h4 : d = d' <;> simp [h1, h2, h3, h4]
theorem vs_eq {x y : Vs} (hf : x.fld = y.fld) (hg : x.grv = y.grv) (h0 : (x.li == y.li) = true) (h1 : (x.p0 == y.p0 && (x.p1 == y.p1 && (x.p2 == y.p2 && x.p3 == y.p3))) = true) (h2 : (x.lib == y.lib) = true) (h3 : (x.hand == y.hand) = true) (h4 : (x.em == y.em) = true) (h5 : (x.py == y.py) = true) (h6 : (x.kp == y.kp) = true) (h7 : (x.mu == y.mu) = true) (h8 : (x.ac == y.ac) = true) : x = y := by
  cases x; cases y
  simp only [beq_iff_eq, Bool.and_eq_true] at h0 h1 h2 h3 h4 h5 h6 h7 h8
  simp_all
set_option maxRecDepth 100000 in
set_option maxHeartbeats 8000000 in
theorem sseats (x y : Vs) (pa qa ra sa : Option Addr) (pc qc rc sc : Nat) (w : World) (h1 : Rw oc 12 w (.slice pa x.fld.length pc) x.fld) (h2 : Rw oc 12 w (.slice qa x.grv.length qc) x.grv) (h3 : Rw oc 12 w (.slice ra y.fld.length rc) y.fld) (h4 : Rw oc 12 w (.slice sa y.grv.length sc) y.grv) : Calls Try.prog 54 #[.agg #[.int .i64 x.li, .int .i64 x.p0, .int .i64 x.p1, .int .i64 x.p2, .int .i64 x.p3, .int .i64 x.lib, .int .i64 x.hand, .slice pa x.fld.length pc, .slice qa x.grv.length qc, .bool x.em, .bool x.py, .bool x.kp, .int .i64 x.mu, .int .i64 x.ac], .agg #[.int .i64 y.li, .int .i64 y.p0, .int .i64 y.p1, .int .i64 y.p2, .int .i64 y.p3, .int .i64 y.lib, .int .i64 y.hand, .slice ra y.fld.length rc, .slice sa y.grv.length sc, .bool y.em, .bool y.py, .bool y.kp, .int .i64 y.mu, .int .i64 y.ac]] w (EqA w (x = y)) := by
  have HT1 := Lib.hid h1
  have HT2 := Lib.hid h2
  have HT3 := Lib.hid h3
  have HT4 := Lib.hid h4
  clear h1 h2 h3 h4
  go_enter Try.func54, Try.ntmps54
  go_upto_region 1 with fail
  obtain ⟨wz, hwz⟩ : ∃ W, W = (w.alloc (.cells #[.int .i64 x.li, .int .i64 x.p0, .int .i64 x.p1, .int .i64 x.p2, .int .i64 x.p3, .int .i64 x.lib, .int .i64 x.hand, .slice pa x.fld.length pc, .slice qa x.grv.length qc, .bool x.em, .bool x.py, .bool x.kp, .int .i64 x.mu, .int .i64 x.ac] 46)).alloc (.cells #[.int .i64 y.li, .int .i64 y.p0, .int .i64 y.p1, .int .i64 y.p2, .int .i64 y.p3, .int .i64 y.lib, .int .i64 y.hand, .slice ra y.fld.length rc, .slice sa y.grv.length sc, .bool y.em, .bool y.py, .bool y.kp, .int .i64 y.mu, .int .i64 y.ac] 46) := ⟨_, rfl⟩
  rw [← hwz]
  have b1' : Below w.heap.size w (w.alloc (.cells #[.int .i64 x.li, .int .i64 x.p0, .int .i64 x.p1, .int .i64 x.p2, .int .i64 x.p3, .int .i64 x.lib, .int .i64 x.hand, .slice pa x.fld.length pc, .slice qa x.grv.length qc, .bool x.em, .bool x.py, .bool x.kp, .int .i64 x.mu, .int .i64 x.ac] 46)) := (Below.refl _ _).alloc (Nat.le_refl _) _
  have b2' : Below (w.alloc (.cells #[.int .i64 x.li, .int .i64 x.p0, .int .i64 x.p1, .int .i64 x.p2, .int .i64 x.p3, .int .i64 x.lib, .int .i64 x.hand, .slice pa x.fld.length pc, .slice qa x.grv.length qc, .bool x.em, .bool x.py, .bool x.kp, .int .i64 x.mu, .int .i64 x.ac] 46)).heap.size (w.alloc (.cells #[.int .i64 x.li, .int .i64 x.p0, .int .i64 x.p1, .int .i64 x.p2, .int .i64 x.p3, .int .i64 x.lib, .int .i64 x.hand, .slice pa x.fld.length pc, .slice qa x.grv.length qc, .bool x.em, .bool x.py, .bool x.kp, .int .i64 x.mu, .int .i64 x.ac] 46)) wz := by rw [hwz]; exact (Below.refl _ _).alloc (Nat.le_refl _) _
  have HR1 : Hid (Ro wz w.heap.size #[.int .i64 x.li, .int .i64 x.p0, .int .i64 x.p1, .int .i64 x.p2, .int .i64 x.p3, .int .i64 x.lib, .int .i64 x.hand, .slice pa x.fld.length pc, .slice qa x.grv.length qc, .bool x.em, .bool x.py, .bool x.kp, .int .i64 x.mu, .int .i64 x.ac] 46) := Lib.hid ((Ro.new _ _ _).below b2')
  have HR2 : Hid (Ro wz (w.heap.size + 1) #[.int .i64 y.li, .int .i64 y.p0, .int .i64 y.p1, .int .i64 y.p2, .int .i64 y.p3, .int .i64 y.lib, .int .i64 y.hand, .slice ra y.fld.length rc, .slice sa y.grv.length sc, .bool y.em, .bool y.py, .bool y.kp, .int .i64 y.mu, .int .i64 y.ac] 46) := Lib.hid (by rw [hwz, show w.heap.size + 1 = (w.alloc (.cells #[.int .i64 x.li, .int .i64 x.p0, .int .i64 x.p1, .int .i64 x.p2, .int .i64 x.p3, .int .i64 x.lib, .int .i64 x.hand, .slice pa x.fld.length pc, .slice qa x.grv.length qc, .bool x.em, .bool x.py, .bool x.kp, .int .i64 x.mu, .int .i64 x.ac] 46)).heap.size by simp]; exact Ro.new _ _ _)
  have HB : Hid (Below w.heap.size w wz) := Lib.hid (below_via b1' b2')
  clear hwz b1' b2'
  have k7 : wz.cell? ⟨w.heap.size, 7, none⟩ = some (.slice pa x.fld.length pc) := HR1.out.cell 7
  have l7 : wz.cell? ⟨w.heap.size + 1, 7, none⟩ = some (.slice ra y.fld.length rc) := HR2.out.cell 7
  have k8 : wz.cell? ⟨w.heap.size, 8, none⟩ = some (.slice qa x.grv.length qc) := HR1.out.cell 8
  have l8 : wz.cell? ⟨w.heap.size + 1, 8, none⟩ = some (.slice sa y.grv.length sc) := HR2.out.cell 8
  go_wp2_with fail
  with_reducible refine (sqO _ _ _ _ _ (HT1.out.below HB.out) (HT3.out.below HB.out)).mono ?_
  rintro e w2 ⟨r, rfl, hr, hb⟩
  replace HB := Lib.hid (below_via HB.out hb)
  replace HR1 := Lib.hid (HR1.out.below hb)
  replace HR2 := Lib.hid (HR2.out.below hb)
  clear k7 l7 k8 l8
  have k8 : w2.cell? ⟨w.heap.size, 8, none⟩ = some (.slice qa x.grv.length qc) := HR1.out.cell 8
  have l8 : w2.cell? ⟨w.heap.size + 1, 8, none⟩ = some (.slice sa y.grv.length sc) := HR2.out.cell 8
  clear hb
  cases r
  · have HNE : Hid (x ≠ y) := Lib.hid (fun e => by have := hr.2 (by rw [e]); cases this)
    clear hr
    go_wp2_with fail
    go_returns
    exact EqA.no HNE.out HB.out
  have HF := Lib.hid (hr.1 rfl)
  clear hr
  go_wp2_with fail
  with_reducible refine (sqO _ _ _ _ _ (HT2.out.below HB.out) (HT4.out.below HB.out)).mono ?_
  rintro e w3 ⟨r, rfl, hr, hb⟩
  replace HB := Lib.hid (below_via HB.out hb)
  replace HR1 := Lib.hid (HR1.out.below hb)
  replace HR2 := Lib.hid (HR2.out.below hb)
  clear k8 l8
  clear hb
  cases r
  · have HNE : Hid (x ≠ y) := Lib.hid (fun e => by have := hr.2 (by rw [e]); cases this)
    clear hr
    go_wp2_with fail
    go_returns
    exact EqA.no HNE.out HB.out
  have HG := Lib.hid (hr.1 rfl)
  clear hr
  have k0 : w3.cell? ⟨w.heap.size, 0, none⟩ = some (.int .i64 x.li) := HR1.out.cell 0
  have l0 : w3.cell? ⟨w.heap.size + 1, 0, none⟩ = some (.int .i64 y.li) := HR2.out.cell 0
  have k1 : w3.cell? ⟨w.heap.size, 1, none⟩ = some (.int .i64 x.p0) := HR1.out.cell 1
  have l1 : w3.cell? ⟨w.heap.size + 1, 1, none⟩ = some (.int .i64 y.p0) := HR2.out.cell 1
  have k2 : w3.cell? ⟨w.heap.size, 2, none⟩ = some (.int .i64 x.p1) := HR1.out.cell 2
  have l2 : w3.cell? ⟨w.heap.size + 1, 2, none⟩ = some (.int .i64 y.p1) := HR2.out.cell 2
  have k3 : w3.cell? ⟨w.heap.size, 3, none⟩ = some (.int .i64 x.p2) := HR1.out.cell 3
  have l3 : w3.cell? ⟨w.heap.size + 1, 3, none⟩ = some (.int .i64 y.p2) := HR2.out.cell 3
  have k4 : w3.cell? ⟨w.heap.size, 4, none⟩ = some (.int .i64 x.p3) := HR1.out.cell 4
  have l4 : w3.cell? ⟨w.heap.size + 1, 4, none⟩ = some (.int .i64 y.p3) := HR2.out.cell 4
  have k5 : w3.cell? ⟨w.heap.size, 5, none⟩ = some (.int .i64 x.lib) := HR1.out.cell 5
  have l5 : w3.cell? ⟨w.heap.size + 1, 5, none⟩ = some (.int .i64 y.lib) := HR2.out.cell 5
  have k6 : w3.cell? ⟨w.heap.size, 6, none⟩ = some (.int .i64 x.hand) := HR1.out.cell 6
  have l6 : w3.cell? ⟨w.heap.size + 1, 6, none⟩ = some (.int .i64 y.hand) := HR2.out.cell 6
  have k9 : w3.cell? ⟨w.heap.size, 9, none⟩ = some (.bool x.em) := HR1.out.cell 9
  have l9 : w3.cell? ⟨w.heap.size + 1, 9, none⟩ = some (.bool y.em) := HR2.out.cell 9
  have k10 : w3.cell? ⟨w.heap.size, 10, none⟩ = some (.bool x.py) := HR1.out.cell 10
  have l10 : w3.cell? ⟨w.heap.size + 1, 10, none⟩ = some (.bool y.py) := HR2.out.cell 10
  have k11 : w3.cell? ⟨w.heap.size, 11, none⟩ = some (.bool x.kp) := HR1.out.cell 11
  have l11 : w3.cell? ⟨w.heap.size + 1, 11, none⟩ = some (.bool y.kp) := HR2.out.cell 11
  have k12 : w3.cell? ⟨w.heap.size, 12, none⟩ = some (.int .i64 x.mu) := HR1.out.cell 12
  have l12 : w3.cell? ⟨w.heap.size + 1, 12, none⟩ = some (.int .i64 y.mu) := HR2.out.cell 12
  have k13 : w3.cell? ⟨w.heap.size, 13, none⟩ = some (.int .i64 x.ac) := HR1.out.cell 13
  have l13 : w3.cell? ⟨w.heap.size + 1, 13, none⟩ = some (.int .i64 y.ac) := HR2.out.cell 13
  cases h0 : (x.li == y.li)
  · have HNE := Lib.hid (show x ≠ y from fun e => by rw [e] at h0; simp at h0)
    go_wp2_with fail
    go_returns
    exact EqA.no HNE.out HB.out
  · skip
    have hman := manaEqG x.p0 x.p1 x.p2 x.p3 y.p0 y.p1 y.p2 y.p3 w3
    cases h1 : (x.p0 == y.p0 && (x.p1 == y.p1 && (x.p2 == y.p2 && x.p3 == y.p3)))
    · have HNE := Lib.hid (show x ≠ y from fun e => by rw [e] at h1; simp at h1)
      rw [h1] at hman
      go_wp2_with fail
      go_returns
      exact EqA.no HNE.out HB.out
    · skip
      rw [h1] at hman
      cases h2 : (x.lib == y.lib)
      · have HNE := Lib.hid (show x ≠ y from fun e => by rw [e] at h2; simp at h2)
        go_wp2_with fail
        go_returns
        exact EqA.no HNE.out HB.out
      · skip
        cases h3 : (x.hand == y.hand)
        · have HNE := Lib.hid (show x ≠ y from fun e => by rw [e] at h3; simp at h3)
          go_wp2_with fail
          go_returns
          exact EqA.no HNE.out HB.out
        · skip
          cases h4 : (x.em == y.em)
          · have HNE := Lib.hid (show x ≠ y from fun e => by rw [e] at h4; simp at h4)
            go_wp2_with fail
            go_returns
            exact EqA.no HNE.out HB.out
          · skip
            cases h5 : (x.py == y.py)
            · have HNE := Lib.hid (show x ≠ y from fun e => by rw [e] at h5; simp at h5)
              go_wp2_with fail
              go_returns
              exact EqA.no HNE.out HB.out
            · skip
              cases h6 : (x.kp == y.kp)
              · have HNE := Lib.hid (show x ≠ y from fun e => by rw [e] at h6; simp at h6)
                go_wp2_with fail
                go_returns
                exact EqA.no HNE.out HB.out
              · skip
                cases h7 : (x.mu == y.mu)
                · have HNE := Lib.hid (show x ≠ y from fun e => by rw [e] at h7; simp at h7)
                  go_wp2_with fail
                  go_returns
                  exact EqA.no HNE.out HB.out
                · skip
                  cases h8 : (x.ac == y.ac)
                  · have HNE := Lib.hid (show x ≠ y from fun e => by rw [e] at h8; simp at h8)
                    go_wp2_with fail
                    go_returns
                    exact EqA.no HNE.out HB.out
                  · skip
                    have HEQ : Hid (x = y) := Lib.hid (vs_eq HF.out HG.out h0 h1 h2 h3 h4 h5 h6 h7 h8)
                    go_wp2_with fail
                    go_returns
                    exact EqA.yes HEQ.out HB.out
end Go.Proofs.Yteoeahmnonolmaa
