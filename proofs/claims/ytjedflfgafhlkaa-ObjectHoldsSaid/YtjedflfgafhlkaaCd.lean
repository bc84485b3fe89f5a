/- Cards in memory; the card of an object. -/
import Derived.Test.YtjedflfgafhlkaaWk
namespace Go.Proofs.Ytjedflfgafhlkaa
open Go.RowKit Plain
set_option linter.unusedVariables false
set_option linter.unusedSimpArgs false

/-- a card -/
structure Cd where
  nm : ByteArray
  kd : Int
  c0 : Int
  c1 : Int
  c2 : Int
  c3 : Int
  c4 : Int
  mc : Int
  pw : Int
  tg : Int
  kw : Int
  ea : Option Addr
  el : Nat
  ec : Nat
  ta : Option Addr
  tl : Nat
  tc : Nat
  ra : Int
/-- no card -/
def noCd : Cd := ⟨⟨#[]⟩, 0, 0, 0, 0, 0, 0, 0, 0, 0, 0, none, 0, 0, none, 0, 0, 0⟩
def Cd.cells (c : Cd) : List Value := [.string c.nm, .int .i64 c.kd, .int .i64 c.c0, .int .i64 c.c1, .int .i64 c.c2, .int .i64 c.c3, .int .i64 c.c4, .int .i64 c.mc, .int .i64 c.pw, .int .i64 c.tg, .int .i64 c.kw, .slice c.ea c.el c.ec, .slice c.ta c.tl c.tc, .int .i64 c.ra]
/-- the slice v holds the cards cs in w -/
def CRow (w : World) (v : Value) (cs : List Cd) : Prop :=
  (cs = [] ∧ ∃ a cap, v = .slice a 0 cap) ∨
  (cs ≠ [] ∧ cs.length ≤ maxLen ∧ ∃ b off cap, v = .slice (some ⟨b, off, none⟩) cs.length cap ∧ b < w.heap.size ∧ ∀ i c, cs[i]? = some c → ∀ j u, c.cells[j]? = some u → w.cell? ⟨b, off + (i * 14 + j), none⟩ = some u)
theorem CRow.below {w w' : World} {v : Value} {cs : List Cd} (h : CRow w v cs) (hb : Below w.heap.size w w') : CRow w' v cs := by
  rcases h with h | ⟨h0, h1, b, off, cap, hv, hlt, hc⟩
  · exact .inl h
  · exact .inr ⟨h0, h1, b, off, cap, hv, Nat.lt_of_lt_of_le hlt hb.size, fun i c hi j u hu => (hb.cell (p := ⟨b, off + (i * 14 + j), none⟩) hlt).trans (hc i c hi j u hu)⟩
theorem CRow.form {w : World} {v : Value} {cs : List Cd} (h : CRow w v cs) : cs.length ≤ 9223372036854775807 ∧ ∃ a cap, v = .slice a cs.length cap ∧ (0 < cs.length → ∃ b off, a = some ⟨b, off, none⟩ ∧ b < w.heap.size ∧ ∀ i c, cs[i]? = some c → ∀ j u, c.cells[j]? = some u → w.cell? ⟨b, off + (i * 14 + j), none⟩ = some u) := by
  rcases h with ⟨rfl, a, cap, rfl⟩ | ⟨h0, h1, b, off, cap, rfl, hlt, hc⟩
  · exact ⟨by simp, a, cap, rfl, fun h => by simp at h⟩
  · exact ⟨by unfold maxLen at h1; omega, _, cap, rfl, fun _ => ⟨b, off, rfl, hlt, hc⟩⟩
/-- the card of an object -/
def cardOf (cs : List Cd) (n : Int) : Cd := if n < 0 then noCd else cs.getD n.toNat noCd
theorem cardOf_neg {cs : List Cd} {n : Int} (h : n < 0) : cardOf cs n = noCd := by unfold cardOf; rw [if_pos h]
theorem cardOf_big {cs : List Cd} {n : Int} (h : (cs.length : Int) ≤ n) : cardOf cs n = noCd := by
  unfold cardOf
  rw [if_neg (by omega), List.getD_eq_getElem?_getD, List.getElem?_eq_none (by omega)]
  rfl
theorem cardOf_at {cs : List Cd} {k : Nat} {c : Cd} (h : cs[k]? = some c) : cardOf cs (k : Int) = c := by
  unfold cardOf
  rw [if_neg (by omega), List.getD_eq_getElem?_getD, Int.toNat_natCast, h]
  rfl
set_option maxRecDepth 100000 in
set_option maxHeartbeats 2000000 in
theorem look (v : Value) (cs : List Cd) (o : Ob) (w : World) (hs : CRow w v cs) : Calls Try.prog 37 #[v, .agg #[.int .i64 o.id, .int .i64 o.cd, .int .i64 o.ow, .int .i64 o.po, .int .i64 o.tg, .int .i64 o.da, .int .i64 o.co, .int .i64 o.pp, .int .i64 o.pt, .bool o.ta, .bool o.si, .bool o.dm]] w fun e w' => e = .returned (.agg #[.string (cardOf cs o.cd).nm, .int .i64 (cardOf cs o.cd).kd, .int .i64 (cardOf cs o.cd).c0, .int .i64 (cardOf cs o.cd).c1, .int .i64 (cardOf cs o.cd).c2, .int .i64 (cardOf cs o.cd).c3, .int .i64 (cardOf cs o.cd).c4, .int .i64 (cardOf cs o.cd).mc, .int .i64 (cardOf cs o.cd).pw, .int .i64 (cardOf cs o.cd).tg, .int .i64 (cardOf cs o.cd).kw, .slice (cardOf cs o.cd).ea (cardOf cs o.cd).el (cardOf cs o.cd).ec, .slice (cardOf cs o.cd).ta (cardOf cs o.cd).tl (cardOf cs o.cd).tc, .int .i64 (cardOf cs o.cd).ra]) ∧ Below w.heap.size w w' := by
  obtain ⟨m1, a1, c1, rfl, f1⟩ := hs.form
  have F1 := Lib.hid f1
  clear hs f1
  by_cases h1 : o.cd < 0
  · have e1 := Lib.hid (cardOf_neg (cs := cs) h1)
    go_enter Try.func37, Try.ntmps37
    go_wp2_with fail
    exact bodyPost_ret (v := .agg #[.string ⟨#[]⟩, .int .i64 0, .int .i64 0, .int .i64 0, .int .i64 0, .int .i64 0, .int .i64 0, .int .i64 0, .int .i64 0, .int .i64 0, .int .i64 0, .slice none 0 0, .slice none 0 0, .int .i64 0]) (by simp [results, Try.results37, go_sem]) rfl ⟨by rw [e1.out]; rfl, by go_grown⟩
  · by_cases h2 : (cs.length : Int) ≤ o.cd
    · have e1 := Lib.hid (cardOf_big h2)
      go_enter Try.func37, Try.ntmps37
      go_wp2_with fail
      exact bodyPost_ret (v := .agg #[.string ⟨#[]⟩, .int .i64 0, .int .i64 0, .int .i64 0, .int .i64 0, .int .i64 0, .int .i64 0, .int .i64 0, .int .i64 0, .int .i64 0, .int .i64 0, .slice none 0 0, .slice none 0 0, .int .i64 0]) (by simp [results, Try.results37, go_sem]) rfl ⟨by rw [e1.out]; rfl, by go_grown⟩
    · obtain ⟨k, hk⟩ : ∃ k : Nat, o.cd = (k : Int) := ⟨o.cd.toNat, by omega⟩
      obtain ⟨oid, ocd, oow, opo, otg, oda, oco, opp, opt, ota, osi, odm⟩ := o
      simp only at hk h1 h2
      subst hk
      have hlt : k < cs.length := by omega
      obtain ⟨b1, o1, rfl, hb1, hc1⟩ := F1.out (by omega)
      obtain ⟨c, hc⟩ : ∃ c, cs[k]? = some c := ⟨cs[k], List.getElem?_eq_getElem hlt⟩
      have e1 := Lib.hid (cardOf_at hc)
      have x0 : w.cell? ⟨b1, o1 + k * 14, none⟩ = some (.string c.nm) := hc1 k c hc 0 _ rfl
      have x1 : w.cell? ⟨b1, o1 + k * 14 + 1, none⟩ = some (.int .i64 c.kd) := (Nat.add_assoc o1 (k * 14) 1).symm ▸ hc1 k c hc 1 _ rfl
      have x2 : w.cell? ⟨b1, o1 + k * 14 + 2, none⟩ = some (.int .i64 c.c0) := (Nat.add_assoc o1 (k * 14) 2).symm ▸ hc1 k c hc 2 _ rfl
      have x3 : w.cell? ⟨b1, o1 + k * 14 + 3, none⟩ = some (.int .i64 c.c1) := (Nat.add_assoc o1 (k * 14) 3).symm ▸ hc1 k c hc 3 _ rfl
      have x4 : w.cell? ⟨b1, o1 + k * 14 + 4, none⟩ = some (.int .i64 c.c2) := (Nat.add_assoc o1 (k * 14) 4).symm ▸ hc1 k c hc 4 _ rfl
      have x5 : w.cell? ⟨b1, o1 + k * 14 + 5, none⟩ = some (.int .i64 c.c3) := (Nat.add_assoc o1 (k * 14) 5).symm ▸ hc1 k c hc 5 _ rfl
      have x6 : w.cell? ⟨b1, o1 + k * 14 + 6, none⟩ = some (.int .i64 c.c4) := (Nat.add_assoc o1 (k * 14) 6).symm ▸ hc1 k c hc 6 _ rfl
      have x7 : w.cell? ⟨b1, o1 + k * 14 + 7, none⟩ = some (.int .i64 c.mc) := (Nat.add_assoc o1 (k * 14) 7).symm ▸ hc1 k c hc 7 _ rfl
      have x8 : w.cell? ⟨b1, o1 + k * 14 + 8, none⟩ = some (.int .i64 c.pw) := (Nat.add_assoc o1 (k * 14) 8).symm ▸ hc1 k c hc 8 _ rfl
      have x9 : w.cell? ⟨b1, o1 + k * 14 + 9, none⟩ = some (.int .i64 c.tg) := (Nat.add_assoc o1 (k * 14) 9).symm ▸ hc1 k c hc 9 _ rfl
      have x10 : w.cell? ⟨b1, o1 + k * 14 + 10, none⟩ = some (.int .i64 c.kw) := (Nat.add_assoc o1 (k * 14) 10).symm ▸ hc1 k c hc 10 _ rfl
      have x11 : w.cell? ⟨b1, o1 + k * 14 + 11, none⟩ = some (.slice c.ea c.el c.ec) := (Nat.add_assoc o1 (k * 14) 11).symm ▸ hc1 k c hc 11 _ rfl
      have x12 : w.cell? ⟨b1, o1 + k * 14 + 12, none⟩ = some (.slice c.ta c.tl c.tc) := (Nat.add_assoc o1 (k * 14) 12).symm ▸ hc1 k c hc 12 _ rfl
      have x13 : w.cell? ⟨b1, o1 + k * 14 + 13, none⟩ = some (.int .i64 c.ra) := (Nat.add_assoc o1 (k * 14) 13).symm ▸ hc1 k c hc 13 _ rfl
      have n1 : b1 ≠ w.heap.size := by omega
      have n2 : b1 ≠ w.heap.size + 1 := by omega
      have i2 : (k : Int) < (cs.length : Int) := by omega
      have i3 : (0 : Int) ≤ (k : Int) := by omega
      have i4 : decide ((cs.length : Int) ≤ (k : Int)) = false := by simpa using h2
      have i5 : decide (cs.length ≤ k) = false := by simp; omega
      clear hc1 hc h1 h2
      go_enter Try.func37, Try.ntmps37
      go_wp2_with fail
      exact bodyPost_ret (v := .agg #[.string c.nm, .int .i64 c.kd, .int .i64 c.c0, .int .i64 c.c1, .int .i64 c.c2, .int .i64 c.c3, .int .i64 c.c4, .int .i64 c.mc, .int .i64 c.pw, .int .i64 c.tg, .int .i64 c.kw, .slice c.ea c.el c.ec, .slice c.ta c.tl c.tc, .int .i64 c.ra]) (by simp [results, Try.results37, go_sem]) rfl ⟨by rw [e1.out], by go_grown⟩
end Go.Proofs.Ytjedflfgafhlkaa
