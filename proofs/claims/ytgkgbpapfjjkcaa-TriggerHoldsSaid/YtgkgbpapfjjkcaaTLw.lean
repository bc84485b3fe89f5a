/- What the laws about triggers share. -/
import Derived.Test.YtgkgbpapfjjkcaaTKn
import Derived.Test.YtgkgbpapfjjkcaaTGs
import Derived.Test.YtgkgbpapfjjkcaaTLi
import Derived.Test.YtgkgbpapfjjkcaaBLs
import Derived.Test.YtgkgbpapfjjkcaaTOg
import Derived.Test.YtgkgbpapfjjkcaaTOh
import Derived.Deep.DeepCutAuto
import Derived.LoopTactic
import Derived.Deep.MidRow
namespace Go.Proofs.Ytgkgbpapfjjkcaa
open Go.RowKit Plain
set_option linter.unusedVariables false
set_option linter.unusedSimpArgs false

theorem Tiny.sm{B:Bd}(h:B.Tiny):B.Sm:=by
 have z:∀p z,((B.seat p).zs z).length≤1000:=fun p z=>by
  have e:∃p' z',p'<2∧z'<4∧(B.seat p).zs z=(B.seat p').zs z':=by
   refine⟨if p=0 then 0 else 1,if z=0 then 0 else if z=1 then 1 else if z=2 then 2 else 3,?_,?_,?_⟩
   ·split<;>omega
   ·split<;>(try split)<;>(try split)<;>omega
   ·unfold Bd.seat Se.zs
    by_cases h0:p=0<;>by_cases h1:z=0<;>by_cases h2:z=1<;>by_cases h3:z=2<;>simp[h0,h1,h2,h3]
  obtain⟨p',z',hp,hz,e⟩:=e
  rw[e]
  have:=h.zs p' z' hp hz
  omega
 exact⟨z,by have:=h.ob;omega,by have:=h.st;omega,by have:=h.qu;omega,by have:=h.att;omega,by have:=h.bl;omega⟩
theorem Tiny.tl{B:Bd}(h:B.Tiny):B.Tl:=⟨fun x hx=>by have:=h.stt x hx;omega,fun x hx=>by have:=h.qut x hx;omega⟩
open Classical in
/-- the triggers of a happening, on any board -/
noncomputable def Plain.hofL(cs:List (Cd×List (Int×Nat)))(B:Bd)(wh id pl:Int):List It:=if VB B then hapK cs B wh id pl B.ob else []
theorem hofL_ok{cs:List (Cd×List (Int×Nat))}{B:Bd}{wh id pl:Int}(h:VB B):hofL cs B wh id pl=hapK cs B wh id pl B.ob:=by unfold hofL;rw[if_pos h]
theorem hofL_bad{cs:List (Cd×List (Int×Nat))}{B:Bd}{wh id pl:Int}(h:¬VB B):hofL cs B wh id pl=[]:=by unfold hofL;rw[if_neg h]
theorem hapK_tg(cs:List (Cd×List (Int×Nat)))(B:Bd)(wh id pl:Int)(l:List Ob):∀x∈hapK cs B wh id pl l,x.tg=[]:=by
 intro x hx;unfold hapK at hx
 obtain⟨o,_,h⟩:=List.mem_flatMap.1 hx
 split at h
 ·exact ofK_tg _ _ _ _ x h
 ·cases h
theorem hofL_tg(cs:List (Cd×List (Int×Nat)))(B:Bd)(wh id pl:Int):∀x∈hofL cs B wh id pl,x.tg=[]:=by
 unfold hofL
 split
 ·exact hapK_tg cs B wh id pl B.ob
 ·exact fun x hx=>by cases hx
/-- a list of items that can be read -/
theorem OfA.rd{w w':World}{l:List It}{e:Ending}(h:OfA w l e w')(ht:∀x∈l,x.tg=[]):∃a c,e= .returned (.slice a l.length c)∧ItR w' (.slice a l.length c) l∧Below w.heap.size w w':=by
 obtain⟨a,c,he,ho,hb⟩:=h
 exact⟨a,c,he,nilI_rd _ _ _ ht (Rw.of_ow ho),hb⟩
theorem ofU(v:Value)(cs:List (Cd×List (Int×Nat)))(s:Bs)(B:Bd)(wh id pl:Int)(w:World)(hc:CsR w v cs)(hl:Lt cs)(h:BdR w s B)(hi:B.I)(hsm:B.Sm)(hid:Plain.I id):Calls Try.prog 12 #[v,bv s B,.agg #[.int .i64 wh,.int .i64 id,.int .i64 pl]] w (OfA w (hofL cs B wh id pl)):=by
 by_cases hv:VB B
 ·rw[hofL_ok hv]
  exact hof v cs s B wh id pl w hc hl h hi hsm hid hv
 ·rw[hofL_bad hv]
  exact hof_bad v cs s B wh id pl w hc hl h hi hsm hv
theorem rofU(v:Value)(cs:List (Cd×List (Int×Nat)))(s:Bs)(B:Bd)(wh id pl:Int)(w:World)(hc:CsR w v cs)(hl:Lt cs)(h:BdR w s B)(hi:B.I)(hsm:B.Sm):Calls Try.prog 13 #[v,bv s B,.agg #[.int .i64 wh,.int .i64 id,.int .i64 pl]] w (OfA w (hofL cs B wh id pl)):=by
 by_cases hv:VB B
 ·rw[hofL_ok hv]
  exact rhof v cs s B wh id pl w hc hl h hi hsm hv
 ·rw[hofL_bad hv]
  exact rhof_bad v cs s B wh id pl w hc hl h hi hsm hv
end Go.Proofs.Ytgkgbpapfjjkcaa
