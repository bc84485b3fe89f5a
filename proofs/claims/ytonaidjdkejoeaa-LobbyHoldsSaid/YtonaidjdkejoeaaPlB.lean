/- The plain mathematics of a lobby, second part. -/
import Derived.Test.YtonaidjdkejoeaaPlain
namespace Go.Proofs.Ytonaidjdkejoeaa.Plain
theorem wnd_end {ba st : Int} {d k : Nat} (hb : 0 ≤ ba) (hst : 0 ≤ st) (hk : k ≤ d) (hinv : k = 0 ∨ (1 ≤ st ∧ ba + st * ((k : Int) - 1) < 4000)) (hex : d ≤ k ∨ 4000 ≤ ba + st * k ∨ st ≤ 0) : min (ba + st * k) 4000 = min 4000 (ba + st * min (d : Int) 4000) := by
  by_cases h0 : st ≤ 0
  · have : st = 0 := by omega
    subst this
    simp
    omega
  · have h1 : 1 ≤ st := by omega
    have hk4 : k ≤ 4000 := by
      rcases hinv with h | ⟨_, h⟩
      · omega
      · rcases Nat.eq_zero_or_pos k with h2 | h2
        · omega
        · have h3 : 1 * ((k : Int) - 1) ≤ st * ((k : Int) - 1) := Int.mul_le_mul_of_nonneg_right h1 (by omega)
          omega
    rcases hex with h | h | h
    · have e : min (d : Int) 4000 = k := by omega
      rw [e]
      omega
    · have h3 : st * (k : Int) ≤ st * min (d : Int) 4000 := Int.mul_le_mul_of_nonneg_left (by omega) hst
      omega
    · omega
/-- different players have different ids -/
def Lb.Nd (x : Lb) : Prop := ∀ (i k : Nat) (p q : Pl), x.l[i]? = some p → x.l[k]? = some q → p.id = q.id → i = k
theorem fnd_at {x : Lb} (h : x.Nd) {i : Nat} {p : Pl} (hp : x.l[i]? = some p) : fnd x.l p.id = i := by
  have hil := (List.getElem?_eq_some_iff.1 hp).1
  have h1 : x.l.findIdx (fun q => q.id == p.id) < x.l.length := List.findIdx_lt_length_of_exists ⟨p, List.mem_of_getElem? hp, by simp⟩
  have h2 : i = x.l.findIdx (fun q => q.id == p.id) := by
    refine h _ _ p (x.l[x.l.findIdx (fun q => q.id == p.id)]) hp (List.getElem?_eq_getElem h1) ?_
    have := List.findIdx_getElem (w := h1)
    simp at this
    exact this.symm
  unfold fnd
  rw [if_pos h1, ← h2]
theorem winN_at {x : Lb} (h : x.Nd) {i : Nat} {p : Pl} (hp : x.l[i]? = some p) : 0 ≤ fnd x.l p.id ∧ x.l[(fnd x.l p.id).toNat]? = some p := by
  rw [fnd_at h hp]
  exact ⟨by omega, by simpa using hp⟩
end Go.Proofs.Ytonaidjdkejoeaa.Plain
