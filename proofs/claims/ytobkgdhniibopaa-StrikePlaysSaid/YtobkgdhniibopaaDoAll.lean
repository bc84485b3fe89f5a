/- One call for both books, whatever it is. -/
import Derived.Test.YtobkgdhniibopaaDoA
import Derived.Test.YtobkgdhniibopaaDoB
import Derived.Test.YtobkgdhniibopaaDoC
namespace Go.Proofs.Ytobkgdhniibopaa
open Go.RowKit Plain
set_option linter.unusedVariables false
set_option linter.unusedSimpArgs false

theorem do24 (P : Nat) (b : Bk) (what p t : Int) (w : World) (hb : BookAt w P b) (ok : b.Ok) (ht : U t) :
    Calls Try.prog 24 #[.pointer (some ⟨P, 0, none⟩), .agg #[.int .i64 b.n, .int .u64 b.g, .int .i64 b.s0, .bool b.a0, .bool b.h0, .int .u64 b.t0, .int .i64 b.s1, .bool b.a1, .bool b.h1, .int .u64 b.t1], .agg #[.int .i64 what, .int .i64 p, .int .u64 t]] w (DoAt P w) := by
  by_cases w0 : what = 0
  · subst w0
    by_cases p0 : p = 0
    · subst p0; exact do24_0_0 P b _ t w hb ok (Ok.strike0 ok) rfl rfl
    by_cases p1 : p = 1
    · subst p1; exact do24_0_1 P b _ t w hb ok (Ok.strike1 ok) rfl rfl
    exact do24_0_bad P b p t w hb ok ok p0 p1
  by_cases w1 : what = 1
  · subst w1
    by_cases p0 : p = 0
    · subst p0; exact do24_1_0 P b _ t w hb ok (Ok.answer0 ok) rfl
    by_cases p1 : p = 1
    · subst p1; exact do24_1_1 P b _ t w hb ok (Ok.answer1 ok) rfl
    exact do24_1_bad P b p t w hb ok ok p0 p1
  by_cases w2 : what = 2
  · subst w2
    by_cases p0 : p = 0
    · subst p0
      cases hd : over b.d0 t
      · exact do24_2_0 P b _ t w hb ok (Ok.join0 ok) rfl hd
      · exact do24_2_0l P b t w hb ok ok hd
    by_cases p1 : p = 1
    · subst p1
      cases hd : over b.d1 t
      · exact do24_2_1 P b _ t w hb ok (Ok.join1 ok) rfl hd
      · exact do24_2_1l P b t w hb ok ok hd
    exact do24_2_bad P b p t w hb ok ok p0 p1
  by_cases w3 : what = 3
  · subst w3
    by_cases p0 : p = 0
    · subst p0; exact do24_3_0 P b _ t w hb ok (Ok.leave0 ok ht) rfl
    by_cases p1 : p = 1
    · subst p1; exact do24_3_1 P b _ t w hb ok (Ok.leave1 ok ht) rfl
    exact do24_3_bad P b p t w hb ok ok p0 p1
  exact do24_copy P b what p t w hb ok (Ok.strike0 ok) (by simpa using w0) (by simpa using w1) (by simpa using w2) (by simpa using w3)
end Go.Proofs.Ytobkgdhniibopaa
