/- A window accepts a number: whole. -/
import Derived.Test.YthibagfmglnejaaOk
namespace Go.Proofs.Ythibagfmglnejaa
open Go.RowKit Plain
set_option linter.unusedVariables false
set_option linter.unusedSimpArgs false

theorem idxF_of (l : List Bool) (g : Nat) (h : gone l = g) (hg : g < l.length) : idxF l = (g : Int) := by unfold idxF; rw [h, if_pos hg]
theorem idxF_all (l : List Bool) (h : gone l = l.length) : idxF l = -1 := by unfold idxF; rw [h, if_neg (by omega)]
/-- the window behind an accepted number -/
def accF (f : Int) (l : List Bool) (d : Nat) : Int := (f + gone (l.set d true)) % 65536
def accL (l : List Bool) (d : Nat) : List Bool := shift (l.set d true)
theorem accL_length (l : List Bool) (d : Nat) : (accL l d).length = l.length := by simp [accL, shift_length]
theorem accF_U (f : Int) (l : List Bool) (d : Nat) : U16 (accF f l d) := by unfold accF U16; omega
theorem hasN_false {l : List Bool} {d : Nat} (h : hasN l d = false) (hd : d < l.length) : l[d]? = some false := by
  have hb := List.getElem?_eq_getElem hd
  simp [hasN, List.getD, hb] at h
  rw [hb, h.2]
theorem accept17_ok (P D : Nat) (f : Int) (l : List Bool) (cap : Nat) (ex : List Value) (w : World) (hw : WinAt w P D f l cap ex) (n : Int) (d : Nat) (hn : U16 n) (HD : Hid (dist f n = (d : Int))) (HV : Hid (hasN l d = false)) (hdl : d < l.length) :
    Calls Try.prog 17 #[.pointer (some ⟨P, 0, none⟩), .int .u16 n] w fun e w' => e = .returned (.int .i64 0) ∧ WinAt w' P D (accF f l d) (accL l d) cap ex ∧ Onl [P, D] w w' := by
  have hdf := hasN_false HV.out hdl
  have hl := hw.l2
  have hf := hw.f0
  have hll : (l.set d true).length = l.length := by simp
  have hle := gone_le (l.set d true)
  have fin : ∀ (F : Int) (e : Ending) (w' : World), F = accF f l d → (e = .returned (.int .i64 0) ∧ (w'.heap[P]? = some (.cells #[.int .u16 F, .slice (some ⟨D, 0, none⟩) l.length cap] 50 (0, 0)) ∧ DAt w' D (shift (l.set d true)) ex) ∧ Onl [P, D] w w') → e = .returned (.int .i64 0) ∧ WinAt w' P D (accF f l d) (accL l d) cap ex ∧ Onl [P, D] w w' := by
    intro F e w' hF ⟨h1, ⟨h2, h3⟩, h4⟩
    subst hF
    exact ⟨h1, ⟨by rw [accL_length]; exact h2, h3, hw.ne, by rw [accL_length]; exact hw.l1, by rw [accL_length]; exact hw.l2, accF_U _ _ _, by rw [accL_length]; exact hw.c, hw.c2⟩, h4⟩
  rcases Nat.lt_or_ge 0 (gone (l.set d true)) with h0 | h0
  · rcases Nat.lt_or_ge (gone (l.set d true)) l.length with h1 | h1
    · exact (accept17_gm P D f l cap ex w hw n d hn HD HV hdl hdf _ (gone (l.set d true)) (l.length - gone (l.set d true)) ⟨h0, h1⟩ (by omega) rfl (idxF_of _ _ rfl (by omega)) rfl).mono fun e w' h => fin _ e w' (by unfold accF; rw [IntKind.wrap_u16]) h
    · have hg : gone (l.set d true) = l.length := by omega
      rcases Nat.lt_or_ge l.length cap with hc | hc
      · exact (accept17_gal P D f l cap ex w hw n d hc hn HD HV hdl hdf _ rfl (idxF_all _ (by omega)) hg).mono fun e w' h => fin _ e w' (by unfold accF; rw [IntKind.wrap_u16, hg]) h
      · have hc2 : cap = l.length := by have := hw.c; omega
        subst hc2
        exact (accept17_gae P D f l ex w hw n d hn HD HV hdl hdf _ rfl (idxF_all _ (by omega)) hg).mono fun e w' h => fin _ e w' (by unfold accF; rw [IntKind.wrap_u16, hg]) h
  · have hg : gone (l.set d true) = 0 := by omega
    have hF : f = accF f l d := by unfold accF; rw [hg]; unfold U16 at hf; omega
    have hid : idxF (l.set d true) = 0 := idxF_of _ 0 hg (by have := hw.l1; omega)
    rcases Nat.lt_or_ge l.length cap with hc | hc
    · exact (accept17_gzl P D f l cap ex w hw n d hc hn HD HV hdl hdf hid hg).mono fun e w' h => fin _ e w' hF h
    · have hc2 : cap = l.length := by have := hw.c; omega
      subst hc2
      exact (accept17_gze P D f l ex w hw n d hn HD HV hdl hdf hid hg).mono fun e w' h => fin _ e w' hF h
theorem accept17_okc (P D : Nat) (f : Int) (l : List Bool) (cap : Nat) (ex : List Value) (w : World) (hw : WinAt w P D f l cap ex) (n f2 : Int) (l2 : List Bool) (d : Nat) (hn : U16 n) (HD : Hid (dist f n = (d : Int))) (HV : Hid (hasN l d = false)) (hdl : d < l.length) (h1 : accF f l d = f2) (h2 : accL l d = l2) :
    Calls Try.prog 17 #[.pointer (some ⟨P, 0, none⟩), .int .u16 n] w fun e w' => e = .returned (.int .i64 0) ∧ WinAt w' P D f2 l2 cap ex ∧ Onl [P, D] w w' := by
  subst h1 h2
  exact accept17_ok P D f l cap ex w hw n d hn HD HV hdl

end Go.Proofs.Ythibagfmglnejaa
