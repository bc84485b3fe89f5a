/- The plain mathematics of windows of sequence numbers: no program in sight. -/
namespace Go.Proofs.Ythibagfmglnejaa.Plain
def U16 (a : Int) : Prop := 0 ≤ a ∧ a ≤ 65535
def nxt (a : Int) : Int := (a + 1) % 65536
def dist (a b : Int) : Int := (b - a) % 65536
def aft (a b : Int) : Bool := decide (1 ≤ dist b a ∧ dist b a ≤ 32767)
theorem dist_bd (a b : Int) : 0 ≤ dist a b ∧ dist a b ≤ 65535 := by unfold dist; omega
theorem U16_nxt (a : Int) : U16 (nxt a) := by unfold U16 nxt; omega
/-- how many leading trues -/
def gone (l : List Bool) : Nat := (l.takeWhile id).length
theorem gone_le (l : List Bool) : gone l ≤ l.length := by
  unfold gone
  exact (List.takeWhile_sublist _).length_le
theorem gone_nil : gone [] = 0 := rfl
theorem gone_cons (b : Bool) (l : List Bool) : gone (b :: l) = if b = true then gone l + 1 else 0 := by
  unfold gone
  cases b <;> simp
theorem gone_true : ∀ (l : List Bool) (i : Nat), i < gone l → l[i]? = some true
  | [], i, h => by simp [gone] at h
  | b :: l, i, h => by
    rw [gone_cons] at h
    cases b with
    | false => simp at h
    | true =>
      cases i with
      | zero => rfl
      | succ i => simpa using gone_true l i (by simpa using h)
theorem gone_false : ∀ (l : List Bool), gone l < l.length → l[gone l]? = some false
  | [], h => by simp at h
  | b :: l, h => by
    rw [gone_cons] at h ⊢
    cases b with
    | false => simp
    | true => simpa using gone_false l (by simpa using h)
theorem gone_eq : ∀ (l : List Bool) (k : Nat), (∀ j, j < k → l[j]? = some true) → l[k]? = some false → gone l = k
  | [], k, h1, h2 => by simp at h2
  | b :: l, k, h1, h2 => by
    rw [gone_cons]
    cases k with
    | zero => simp at h2; simp [h2]
    | succ k =>
      have h0 := h1 0 (by omega)
      simp at h0
      subst h0
      simp
      exact gone_eq l k (fun j hj => by simpa using h1 (j + 1) (by omega)) (by simpa using h2)
theorem gone_all : ∀ (l : List Bool), (∀ j, j < l.length → l[j]? = some true) → gone l = l.length
  | [], _ => rfl
  | b :: l, h => by
    have h0 := h 0 (by simp)
    simp at h0
    subst h0
    rw [gone_cons]
    simp
    exact gone_all l (fun j hj => by simpa using h (j + 1) (by simpa using hj))
/-- what is left when the leading trues are gone -/
def shift (l : List Bool) : List Bool := l.drop (gone l) ++ List.replicate (gone l) false
theorem shift_length (l : List Bool) : (shift l).length = l.length := by
  have := gone_le l
  simp [shift]; omega
/-- whether a number at a distance was accepted -/
def hasN (l : List Bool) (d : Nat) : Bool := decide (32768 ≤ d) || l.getD d false
/-- the numbers that are pending -/
def pend (f : Int) (l : List Bool) : List Int := ((List.range l.length).filter fun i => l.getD i false).map fun (i : Nat) => (f + i) % 65536
end Go.Proofs.Ythibagfmglnejaa.Plain
