/-
 PROVED: the law TriggerOf returns true for every input, and its arguments read afterwards as they read before (Rows.TriggerOfSaid). CONDITIONS: none.
-/
import Derived.Test.YtgkgbpapfjjkcaaRows
import Derived.Test.YtgkgbpapfjjkcaaTLo
import Derived.Test.YtgkgbpapfjjkcaaTGv
import Derived.WalkKit
import Derived.ProofKit
import Derived.OpenShut
import Derived.Lib.SmallJoins
import Derived.Carry
namespace Go.Proofs.Ytgkgbpapfjjkcaa.triggerOf
open Go.ChangeShapes Go.WideShapes Go.ChangeAt Go.RowKit Go.WideMaps Go.WideElems
set_option linter.unusedVariables false
set_option linter.unusedSimpArgs false

theorem own:ownKnob Try.prog.godebug=none:=by kernel_rfl
theorem laidOut:laidOutB Try.prog=true:=by kernel_rfl

set_option maxRecDepth 100000 in
set_option maxHeartbeats 4000000 in
theorem walk(sa0:Option Addr)(sn0 sc0:Nat)(l0:List (Cd×List (Int×Nat)))(sb1:Bs)(bb1:Plain.Bd)(a2_0:Int)(a2_1:Int)(a2_2:Int)(w:World)(hl0:CsR w (.slice sa0 sn0 sc0) l0)(rb1:BdR w sb1 bb1)(ib1:bb1.I)(w2_0:(Lit.int .i64 a2_0).wf=true)(w2_1:(Lit.int .i64 a2_1).wf=true)(w2_2:(Lit.int .i64 a2_2).wf=true):
  Calls Try.prog 3 #[.slice sa0 sn0 sc0,bv sb1 bb1,.agg #[.int .i64 a2_0,.int .i64 a2_1,.int .i64 a2_2]] w fun e w' =>e= .returned (.bool true)∧Below w.heap.size w w':=by
 exact wtof _ l0 sb1 bb1 a2_0 a2_1 a2_2 w hl0 rb1 ib1 (by have h:=w2_1;simp[Lit.wf,IntKind.min,IntKind.max,IntKind.signed,IntKind.bits] at h;unfold Plain.I;omega)
set_option maxRecDepth 100000 in
theorem lifted(os:Os)(started:os.Started)(H:Type)(enc:TypeId×Value→H):
  ReturnsInHanded {} Try.checked os 3 .any (Rows.triggerOfSpec.pre6 enc Try.prog Try.f3 Rows.triggerOfRow.domain false) (Rows.triggerOfSpec.post enc Try.prog Try.f3 false true false false):=by
 refine returnsInHanded_of_change (C:=Try.checked) own started (by kernel_rfl) Try.func3
  (ChangeSpec.witness6 (enc:=enc) (C:=Try.checked) false ⟨#[],#[.slice none 0 0,.agg #[.slice none 0 0,.int .i64 0,.int .i64 0,.int .i64 0,.int .i64 0,.int .i64 0,.slice none 0 0,.slice none 0 0,.slice none 0 0,.slice none 0 0,.bool false,.bool false,.bool false,.int .i64 0,.int .i64 0,.int .i64 0,.int .i64 0,.int .i64 0,.int .i64 0,.int .i64 0,.slice none 0 0,.slice none 0 0,.slice none 0 0,.slice none 0 0,.bool false,.bool false,.bool false,.int .i64 0,.int .i64 0,.slice none 0 0,.slice none 0 0,.slice none 0 0,.slice none 0 0,.int .i64 0,.int .i64 0,.int .i64 0,.int .i64 0,.int .i64 0],.agg #[.int .i64 0,.int .i64 0,.int .i64 0]],[]⟩ 8 (by kernel_rfl) (by kernel_rfl) (by kernel_rfl) (by kernel_rfl)) ?_
 intro W base args ds gs before hval0 hW hcnd _;have hval:∀(j:Nat) t v,Try.f3.params[j]? =some t→args[j]? =some v→Value.okWide Try.prog W .any base t v:=hval0
 have hW':=hW
 obtain⟨p,q,hA0,hV,rfl,hfz,hnd⟩:=hW
 have hA:DataW.TrodAll enc Try.prog W 0 (fun _=>true) true Try.f3.params.toList args.toList ds p:=hA0;rw[Try.params3] at hA hval
 obtain⟨v0,vs0,d0,ds0,p0,q0,hargs,rfl,rfl,h0,r0⟩:=trodAll_cons hA
 obtain⟨v1,vs1,d1,ds1,p1,q1,rfl,rfl,rfl,h1,r1⟩:=trodAll_cons r0
 obtain⟨v2,vs2,d2,ds2,p2,q2,rfl,rfl,rfl,h2,r2⟩:=trodAll_cons r1
 obtain⟨rfl,rfl,rfl⟩:=trodAll_nil r2
 obtain rfl:args= #[v0,v1,v2]:=by cases args;simp_all
 obtain⟨rfl,rfl⟩:=trodVars_none hV
 have k0:=h0;have lt0:∀x∈p0,x.block<W.heap.size:=by obtain⟨m,hm⟩:=k0;exact DataW.trod_lt m _ _ _ hm
 have k1:=h1;have lt1:∀x∈p1,x.block<W.heap.size:=by obtain⟨m,hm⟩:=k1;exact DataW.trod_lt m _ _ _ hm
 have k2:=h2;have lt2:∀x∈p2,x.block<W.heap.size:=by obtain⟨m,hm⟩:=k2;exact DataW.trod_lt m _ _ _ hm
 obtain⟨sa0,sn0,sc0,rfl⟩:=okWide_slice Try.underlying22 (hval 0 22 v0 rfl rfl)
 obtain⟨l0,hl0⟩:=open_cards h0
 obtain⟨sb1,bb1,rfl,rb1,ib1⟩:=open_bd (hval 1 34 v1 rfl rfl) h1
 obtain⟨c2_0,c2_1,c2_2,y2_0,y2_1,y2_2,m2,rfl,rfl,rfl,hy2_0,hy2_1,hy2_2⟩:=Joins.open_agg3 Try.underlying37 (by kernel_rfl) (by kernel_rfl) (hval 2 37 v2 rfl rfl) h2
 obtain⟨a2_0,e2_0,rfl,w2_0⟩:=DataW.trod_int Try.underlying35 hy2_0
 simp at e2_0
 subst e2_0
 obtain⟨a2_1,e2_1,rfl,w2_1⟩:=DataW.trod_int Try.underlying3 hy2_1
 simp at e2_1
 subst e2_1
 obtain⟨a2_2,e2_2,rfl,w2_2⟩:=DataW.trod_int Try.underlying3 hy2_2
 simp at e2_2
 subst e2_2;clear hA0 hval0
 refine(walk sa0 sn0 sc0 l0 sb1 bb1 a2_0 a2_1 a2_2 W hl0 rb1 ib1 w2_0 w2_1 w2_2).mono fun e W' ⟨he,bel⟩=> ?_
 subst he
 exact⟨_,rfl,_,_,_,[],_,[],hW',trodAll_mk1 (shut_bool Try.underlying4 _),(trodAll_cons_mk (Below.trod laidOut (by kernel_rfl) (of_decide_eq_true (by kernel_rfl)) k0 bel lt0) (trodAll_cons_mk (Below.trod laidOut (by kernel_rfl) (of_decide_eq_true (by kernel_rfl)) k1 bel lt1) (trodAll_cons_mk (Below.trod laidOut (by kernel_rfl) (of_decide_eq_true (by kernel_rfl)) k2 bel lt2) trodAll_mk0))),rfl,bel.frame _,fun h=>by cases h⟩

theorem over:Rows.triggerOfRow.holds Try.pinned (OpenSpec.ofChange Rows.triggerOfSpec):=
 OpenClaim.holds_of_wide 3 Try.f3 rfl rfl rfl rfl rfl rfl rfl ⟨rfl,rfl,rfl,rfl,rfl⟩ rfl rfl rfl rfl rfl (by kernel_rfl) Try.func3 (by kernel_rfl)
  (of_decide_eq_true (by kernel_rfl)) (by unfold Func.isWrapper;first|(rw[if_pos (by decide+kernel)];kernel_rfl)|(rw[if_neg (by decide+kernel)];exact⟨rfl,rfl⟩))
  (fun os started H enc _=>lifted os started H enc)

/-- THE STATEMENT -/
theorem proved:Rows.TriggerOfSaid:=over
end Go.Proofs.Ytgkgbpapfjjkcaa.triggerOf
