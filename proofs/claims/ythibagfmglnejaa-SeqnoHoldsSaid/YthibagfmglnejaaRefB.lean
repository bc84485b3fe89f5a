/- The reference's window: Pending and Accept. -/
import Derived.Test.YthibagfmglnejaaRefA
import Derived.Test.YthibagfmglnejaaWindowsW
import Derived.Test.YthibagfmglnejaaOwn
import Derived.Deep.LoopGhost
import Derived.Deep.DeepCutAuto
import Derived.Deep.Onto
namespace Go.Proofs.Ythibagfmglnejaa
open Go.RowKit Plain
set_option linter.unusedVariables false
set_option linter.unusedSimpArgs false

/-- the numbers zs are those that are pending -/
def RepR (f : Int) (l : List Bool) (zs : List Int) : Prop := ∀ n, U16 n → (n ∈ zs ↔ ∃ d : Nat, dist f n = (d : Int) ∧ l[d]? = some true)
theorem RepR.dec {f : Int} {l : List Bool} {zs : List Int} (h : RepR f l zs) {k : Nat} {b : Bool} (hf : U16 f) (hk : k < 65536) (hb : l[k]? = some b) : decide ((f + (k : Nat)) % 65536 ∈ zs) = b := by
  have hd := dist_add f k hf hk
  cases b with
  | true => simpa using (h _ (U16_mod _)).2 ⟨k, hd, hb⟩
  | false =>
    simp
    intro hm
    obtain ⟨d, h1, h2⟩ := (h _ (U16_mod _)).1 hm
    rw [hd] at h1
    have : d = k := by omega
    subst this
    rw [hb] at h2
    simp at h2
def PeRel (w0 : World) (f : Int) (l : List Bool) (v n i : Value) (wr : World) : Prop := ∃ k : Nat, k ≤ l.length ∧ i = .int .i64 k ∧ n = .int .u16 (at5 f k) ∧ wr.ownsRow w0.heap.size 22 1 v (pendK f l k).length ((pendK f l k).map (Value.int .u16)) ∧ Below w0.heap.size w0 wr
theorem at5_def (f : Int) (k : Nat) : (f + (k : Nat)) % 65536 = at5 f k := rfl
set_option maxRecDepth 100000 in
set_option maxHeartbeats 2000000 in
theorem pending25 (f S : Int) (l : List Bool) (v : Value) (zs : List Int) (w : World) (hf : U16 f) (hl : l.length ≤ 1024) (hS : S = (l.length : Int)) (hs : Seg w .u16 v zs) (hr : RepR f l zs) : Calls Try.prog 25 #[.agg #[.int .u16 f, .int .i64 S, v]] w (ListAt w (pend f l)) := by
  obtain ⟨i0, hi, hz0, hz1, hz2⟩ := info_parts info22
  have HS := Lib.hid hs
  have HR := Lib.hid hr
  obtain ⟨m1, a1, c1, rfl, _⟩ := seg_form hs
  subst hS
  clear hs hr
  go_enter Try.func25, Try.ntmps25
  go_wp2_with fail
  obtain ⟨w0, hw0⟩ : ∃ w0, w0 = w.alloc (.cells #[.int .u16 f, .int .i64 (l.length : Int), .slice a1 zs.length c1] 42) := ⟨_, rfl⟩
  rw [← hw0]
  have hb0 : Below w.heap.size w w0 := by rw [hw0]; exact (Below.refl _ _).alloc (Nat.le_refl _) _
  have hz : w0.heap.size = w.heap.size + 1 := by rw [hw0]; simp
  have HZ0 := Lib.hid hz
  have k0 : w0.cell? ⟨w.heap.size, 0, none⟩ = some (.int .u16 f) := by rw [hw0]; simp
  have k1 : w0.cell? ⟨w.heap.size, 1, none⟩ = some (.int .i64 (l.length : Int)) := by rw [hw0]; simp
  have k2 : w0.cell? ⟨w.heap.size, 2, none⟩ = some (.slice a1 zs.length c1) := by rw [hw0]; simp
  have K0 := Lib.hid k0
  have K1 := Lib.hid k1
  have K2 := Lib.hid k2
  clear hw0 hz k1 k2
  go_wp2_with fail
  clear k0
  go_loopw [3, 4, 5] (fun v n i wr => PeRel w0 f l v n i wr) (fun _ _ i _ => l.length - (intOf i).toNat)
  case atStart => exact ⟨0, Nat.zero_le _, rfl, by rw [at5_zero f hf], World.ownsRow_nil _ _ _ _, Below.refl _ _⟩
  case round =>
    obtain ⟨k, hk, rfl, rfl, hown, hb⟩ := hrel
    have hw0l : w.heap.size < w0.heap.size := by have := HZ0.out; omega
    have kk0 := (hb.cell (p := ⟨w.heap.size, 0, none⟩) hw0l).trans K0.out
    have kk1 := (hb.cell (p := ⟨w.heap.size, 1, none⟩) hw0l).trans K1.out
    have kk2 := (hb.cell (p := ⟨w.heap.size, 2, none⟩) hw0l).trans K2.out
    have hzr := hb.size
    by_cases hlt : k < l.length
    · obtain ⟨b, hbk⟩ : ∃ b, l[k]? = some b := ⟨l[k], List.getElem?_eq_getElem hlt⟩
      have hwt := Lib.hid (at5_def f k ▸ HR.out.dec hf (by omega) hbk)
      have i1 : (0 : Int) ≤ (k : Int) := by omega
      have i2 : (k : Int) < (l.length : Int) := by omega
      have hpl := pendK_len f l k
      have HO := Lib.hid hown
      clear hown
      go_wp2_with fail
      with_reducible refine (waits30c f (l.length : Int) (at5 f k) _ zs b _ ((HS.out.below hb0).below (hb.mono (Nat.le_refl _))) hwt.out).mono ?_
      rintro e w2 ⟨rfl, hb2⟩
      have hbb := hb.trans (hb2.mono hzr)
      have HO2 := Lib.hid (owns_below HO.out hb2)
      have hz2' := hbb.size
      clear hb2 HO
      cases b with
      | false =>
        have e1 := Lib.hid (pendK_false f l k hbk)
        clear hbk
        go_wp2_with fail
        with_reducible refine (next10 (at5 f k) _ (at5_U f k)).mono ?_
        rintro e w' ⟨rfl, rfl⟩
        go_wp2_with fail
        rw [at5_succ]
        go_roundw
        case rel => exact ⟨k + 1, by omega, by go_num, rfl, by rw [e1.out]; exact HO2.out, hbb⟩
        case measure => simp [intOf]; omega
      | true =>
        have e1 := Lib.hid (pendK_true f l k hbk)
        have hown := HO2.out
        clear hbk HO2
        go_wp2_with (at_builtin; refine wpList_append_own _ rfl _ _ 33 rfl w0.heap.size 22 i0 (.int .u16 0) 1 2 Try.underlying33 hi hz0 hz1 hz2 rfl (by decide) _ _ _ rfl (hown.alloc _) ⟨w2.heap.size, 0, none⟩ 1 1 [.int .u16 (at5 f k)] rfl rfl ?c1 ?c2 ?c3 ?c4 ?c5 ?_)
        case c1 => exact cell_one_new _ _ _
        case c2 => simp [Value.oneCell']
        case c3 => unfold maxLen; omega
        case c4 => omega
        case c5 => simp; omega
        intro v' w3 hown' hgrow _
        have hb1 : Below w0.heap.size w0 w3 := (hbb.alloc hbb.size _).grown hgrow (by simp; omega) (fun k hk => (hown.lt k hk).1)
        have HO := Lib.hid hown'
        clear hown hown' hgrow
        go_wp2_with fail
        with_reducible refine (next10 (at5 f k) _ (at5_U f k)).mono ?_
        rintro e w' ⟨rfl, rfl⟩
        go_wp2_with fail
        rw [at5_succ]
        go_roundw
        case rel => exact ⟨k + 1, by omega, by go_num, rfl, by rw [e1.out]; simpa [at5] using HO.out, hb1⟩
        case measure => simp [intOf]; omega
    · obtain rfl : k = l.length := by omega
      rw [pendK_all] at hown
      have hpl := pend_len f l
      have HO := Lib.hid (hown.mono (base' := w.heap.size) (by have := HZ0.out; omega))
      have hn1 : decide ((l.length : Int) < (l.length : Int)) = false := by simp
      clear hown hpl
      go_wp2_with fail
      go_returns
      exact ⟨_, rfl, HO.out, hb0.trans (hb.mono (by have := HZ0.out; omega))⟩
end Go.Proofs.Ythibagfmglnejaa
