/- The plain mathematics of strikes: no program in sight. -/
namespace Go.Proofs.Ytobkgdhniibopaa.Plain
/-- a book: the configuration, and of each player whether there, since when not, strikes, auto-pass -/
structure Bk where
  n : Int
  g : Int
  h0 : Bool
  t0 : Int
  s0 : Int
  a0 : Bool
  h1 : Bool
  t1 : Int
  s1 : Int
  a1 : Bool
/-- a number of 64 bits -/
def U (a : Int) : Prop := 0 ≤ a ∧ a ≤ 18446744073709551615
def I (a : Int) : Prop := -9223372036854775808 ≤ a ∧ a ≤ 9223372036854775807
/-- the time that is never -/
def nv : Int := 18446744073709551615
/-- a time that is later -/
def addN (a b : Int) : Int := if 18446744073709551615 - a < b then 18446744073709551615 else a + b
/-- when a grace is over -/
def due (h : Bool) (t g : Int) : Int := if h = true then 18446744073709551615 else addN t g
/-- whether a deadline has come -/
def over (d t : Int) : Bool := (d != 18446744073709551615) && decide (d ≤ t)
/-- who has forfeited -/
def lost (d e t : Int) : Int := if over (min d e) t = false then -1 else if d = e then 2 else if d < e then 0 else 1
def vC (n g : Int) : Bool := decide (1 ≤ n ∧ n ≤ 100 ∧ g ≤ 4294967296)
def Bk.d0 (b : Bk) : Int := due b.h0 b.t0 b.g
def Bk.d1 (b : Bk) : Int := due b.h1 b.t1 b.g
/-- the books that occur -/
structure Bk.Ok (b : Bk) : Prop where
  n1 : 1 ≤ b.n
  n2 : b.n ≤ 100
  g1 : 0 ≤ b.g
  g2 : b.g ≤ 4294967296
  t0 : U b.t0
  t1 : U b.t1
  s0 : 0 ≤ b.s0
  s0' : b.s0 ≤ b.n
  s1 : 0 ≤ b.s1
  s1' : b.s1 ≤ b.n
  a0 : b.a0 = (b.s0 == b.n)
  a1 : b.a1 = (b.s1 == b.n)
/-- player 0 after a strike, an answer, coming, leaving -/
def Bk.strike0 (b : Bk) : Bk := if b.s0 < b.n then { b with s0 := b.s0 + 1, a0 := (b.s0 + 1 == b.n) } else { b with a0 := (b.s0 == b.n) }
def Bk.answer0 (b : Bk) : Bk := { b with s0 := 0, a0 := false }
def Bk.join0 (b : Bk) : Bk := { b with h0 := true }
def Bk.leave0 (b : Bk) (t : Int) : Bk := if b.h0 = true then { b with h0 := false, t0 := t } else b
/-- player 1 after a strike, an answer, coming, leaving -/
def Bk.strike1 (b : Bk) : Bk := if b.s1 < b.n then { b with s1 := b.s1 + 1, a1 := (b.s1 + 1 == b.n) } else { b with a1 := (b.s1 == b.n) }
def Bk.answer1 (b : Bk) : Bk := { b with s1 := 0, a1 := false }
def Bk.join1 (b : Bk) : Bk := { b with h1 := true }
def Bk.leave1 (b : Bk) (t : Int) : Bk := if b.h1 = true then { b with h1 := false, t1 := t } else b
def bk0 (n g t : Int) : Bk := ⟨n, g, false, t, 0, false, false, t, 0, false⟩
theorem vC_true {n g : Int} (h : vC n g = true) : 1 ≤ n ∧ n ≤ 100 ∧ g ≤ 4294967296 := by simpa [vC] using h
theorem U_addN {a b : Int} (ha : U a) (hb : U b) : U (addN a b) := by unfold U addN at *; split <;> omega
theorem U_due {h : Bool} {t g : Int} (ht : U t) (hg : U g) : U (due h t g) := by
  unfold due
  split
  · unfold U; omega
  · exact U_addN ht hg
end Go.Proofs.Ytobkgdhniibopaa.Plain
