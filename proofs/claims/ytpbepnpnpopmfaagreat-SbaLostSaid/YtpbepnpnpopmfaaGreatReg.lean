/- Regions that draw their order and hold operations that write or make memory: the reads are walked first, the other operations in each order that the edges allow. -/
import Derived.Test.YtpbepnpnpopmfaaGreatRw
import Derived.WalkKit
import Derived.Deep.QuietTactic
import Derived.BigQuiet
open Go.RowKit Go.Proofs.YtpbepnpnpopmfaaGreat
namespace Go.Proofs.YtpbepnpnpopmfaaGreat

section
variable {P:Program} {ops:Array Oper} {md:Region.Mode} {U:World->Prop}

def noQ:Exit->Act->World->Prop:=fun _ _ _=>False

def readOp(o:Oper):Bool:=match o.op with
 | .move _| .assign _| .pick .. | .load .. | .binOp .. | .unOp .. | .convert .. | .fieldAddr .. | .field .. | .indexAddr .. | .index .. | .lookup .. | .extract .. | .slice .. | .nilCheck .. | .build .. =>true
 | .call {callee:= .builtin .len,.. }=>true
 | .call {callee:= .builtin .min,.. }=>true
 | .call {callee:= .builtin .max,.. }=>true
 |_=>false

theorem run_bind_value{s:Sem Value}{n:Next}{w w':World}(h:(do pure (.value (<-s)):Sem Next).run P w= .ok n w'):∃u,n= .value u:=by
 rw[Sem.run_bind] at h
 cases hr:s.run P w with
 |ok x w1=>
  rw[hr] at h
  simp only[Sem.run_pure,Result.andThen_ok,Result.ok.injEq] at h
  exact⟨x,h.1.symm⟩
 |halt x w1=>rw[hr] at h;simp at h

theorem run_bind_ok{α:Type}{s:Sem α}{k:α->Sem Next}{n:Next}{w w':World}(h:(s>>=k).run P w= .ok n w'):∃x w1,(k x).run P w1= .ok n w':=by
 rw[Sem.run_bind] at h
 cases hr:s.run P w with
 |ok x w1=>
  rw[hr] at h
  simp only[Result.andThen_ok] at h
  exact⟨x,w1,h⟩
 |halt x w1=>rw[hr] at h;simp at h

theorem run_readOp{ρ:Operand->Value}{o:Oper}(ho:readOp o=true){n:Next}{w w':World}(h:(execOp ρ o).run P w= .ok n w'):∃u,n= .value u:=by
 obtain⟨dst,op,type,pos,after,guard⟩:=o
 cases op<;>simp only[readOp,Bool.false_eq_true] at ho<;>simp only[execOp] at h
 all_goals first
  |exact run_bind_value h
  |(simp only[Sem.run_pure,Result.ok.injEq] at h;exact⟨_,h.1.symm⟩)
  |skip
 case pick c x y=>
  obtain⟨b,w1,h⟩:=run_bind_ok h
  simp only[Sem.run_pure,Result.ok.injEq] at h
  exact⟨_,h.1.symm⟩
 case call c=>
  obtain⟨callee,args,argTypes⟩:=c
  cases callee with
  |builtin b=>
   simp only[resolve,Sem.run_bind,Sem.run_pure,Result.andThen_ok,invoke] at h
   cases b<;>simp only[Bool.false_eq_true] at ho<;>(simp only[builtin] at h;exact run_bind_value h)
  |value f=>simp at ho
  |invoke r m=>simp at ho
 case nilCheck x=>
  split at h
  all_goals first
   |(simp only[Sem.run_pure,Result.ok.injEq] at h;exact⟨_,h.1.symm⟩)
   |(simp[runtimePanic] at h;done)
   |skip
  split at h
  ·simp[runtimePanic] at h
  ·obtain⟨p,w1,h⟩:=run_bind_ok h
   obtain⟨b,w2,h⟩:=run_bind_ok h
   split at h
   ·obtain⟨_,w3,h⟩:=run_bind_ok h
    simp only[Sem.run_pure,Result.ok.injEq] at h
    exact⟨_,h.1.symm⟩
   simp only[Sem.run_pure,Result.ok.injEq] at h
   exact⟨_,h.1.symm⟩
  simp only[Sem.run_pure,Result.ok.injEq] at h
  exact⟨_,h.1.symm⟩

def YieldsU(P:Program)(ops:Array Oper)(U:World->Prop)(o:Oper)(v:Value)(a:Act):Prop:=
 (Region.wanted o (yielded ops a.tmps)=true/\∀w,U w->(execOp a.eval o).run P w= .ok (.value v) w)\/
 (Region.wanted o (yielded ops a.tmps)=false/\v=undef)

theorem YieldsU.wpOp{Q:Exit->Act->World->Prop}{i:Nat}{o:Oper}{v:Value}{a:Act}(hi:ops[i]? =some o)(hy:YieldsU P ops U o v a){K:Act->World->Prop}{w:World}(hw:U w)(h:K (a.put o.dst v) w):wpOp P ops Q i K a w:=by
 unfold Go.wpOp;simp only[hi];rcases hy with⟨h1,h2⟩|⟨h1,rfl⟩
 ·simp only[h1,if_true,Oper.wp,h2 w hw,Oper.upon];exact .inl h
 simp only[h1,Bool.false_eq_true,if_false];exact h

theorem YieldsU.same{o:Oper}{v:Value}{a a':Act}(hy:YieldsU P ops U o v a)(he:execOp a'.eval o=execOp a.eval o)
  (hw:Region.wanted o (yielded ops a'.tmps)=Region.wanted o (yielded ops a.tmps)):YieldsU P ops U o v a':=by
 unfold YieldsU at*
 rw[he,hw];exact hy

theorem yieldsU_of_quiet{o:Oper}{a:Act}{K:Act->Prop}(ho:readOp o=true)(h:wpQuiet P ops U K [o] a):∃v,YieldsU P ops U o v a/\K (a.put o.dst v):=by
 unfold wpQuiet at h
 by_cases hw:Region.wanted o (yielded ops a.tmps)=true
 ·simp only[hw,if_true] at h
  obtain⟨v,h1,h2⟩:=h
  refine⟨v,.inl ⟨hw,fun w hU=> ?_⟩,h2⟩
  have h3:=h1 w hU;unfold Oper.quietAt at h3
  cases hr:(execOp a.eval o).run P w with
  |halt x w1=>rw[hr] at h3;simp only[Oper.quietUpon] at h3
  |ok n w1=>
   obtain⟨u,rfl⟩:=run_readOp ho hr
   rw[hr] at h3
   simp only[Oper.quietUpon] at h3
   rw[h3.1,h3.2]
 simp only[hw] at h
 exact⟨undef,.inr ⟨by simpa using hw,rfl⟩,h⟩

theorem wpOp_later{j:Nat}{oi oj:Oper}{v:Value}(hj:ops[j]? =some oj)(hap:oi.apart ops oj=true)
  (hsi:∀cs b,oi.op≠ .select cs b) (hsj:∀cs b,oj.op≠ .select cs b) {K:Act->World->Prop} {a:Act} {w:World}
  (hy:YieldsU P ops U oi v a) (h:wpOp P ops noQ j K (a.put oi.dst v) w):
  wpOp P ops noQ j (fun a' w' =>YieldsU P ops U oi v a'/\K (a'.put oi.dst v) w') a w:=by
 obtain⟨h1,h2,h3⟩:=Oper.apart_spec hap
 have keep:∀(a:Act),YieldsU P ops U oi v a->∀u,YieldsU P ops U oi v (a.put oj.dst u):=fun a hy u=>
  hy.same (execOp_put oi hsi a oj.dst u h3) (wanted_put oi a oj.dst u h3)
 have swap:∀u w',K ((a.put oi.dst v).put oj.dst u) w'->YieldsU P ops U oi v (a.put oj.dst u)/\K ((a.put oj.dst u).put oi.dst v) w':=fun u w' hK=>
  ⟨keep a hy u,by rw[<-Act.put_comm a v u h2];exact hK⟩
 unfold wpOp at*
 simp only[hj] at*
 rw[wanted_put oj a oi.dst v h1] at h
 by_cases hw:Region.wanted oj (yielded ops a.tmps)=true
 ·simp only[hw,if_true] at h ⊢
  rcases h with h|⟨_,_,_,hf⟩
  case inr=>exact hf.elim
  refine .inl ?_;unfold Oper.wp at*
  rw[execOp_put oj hsj a oi.dst v h1] at h
  generalize (execOp a.eval oj).run P w=r at*
  cases r with
  |ok n w' =>
   cases n<;>simp only[Oper.upon] at h ⊢
   case value u=>exact swap u w' h
   case skip=>exact swap _ w' h
   case defer d=>
    refine⟨keep {a with defers:=d::a.defers} (hy.same rfl rfl) _,?_⟩
    rw[<-Act.put_comm _ v undef h2,<-Act.put_defers];exact h
   case enter f args=>
    refine Calls.mono h fun e w'' he=> ?_
    cases e with
    |returned u=>exact swap u w'' he
    |panicked c=>exact he.elim
    |outgrown=>exact he
   case row row args=>exact Rows.mono h fun u w'' he=>swap u w'' he
  |halt x w' =>
   cases x<;>simp only[Oper.upon] at h ⊢
   case panic u=>exact h.elim
 simp only[hw] at h ⊢
 exact swap _ _ h

def waits(md:Region.Mode)(ops:Array Oper):Nat->Nat->Nat->Bool
 |0,_,_=>false
 |f+1,j,i=>match ops[j]? with
  |some oj=>oj.after.any fun e=>Region.binds md e&&(e.on==i||waits md ops f e.on i)
  |none=>false

def Closed(md:Region.Mode)(ops:Array Oper)(listed:Array Bool):Prop:=
 ∀j oj,ops[j]? =some oj->listed.getD j false=true->∀e∈oj.after,Region.binds md e=true->listed.getD e.on false=true

theorem Closed.set{listed:Array Bool}{i:Nat}(h:Closed md ops listed)(hi:i∈Region.ready md ops listed):Closed md ops (listed.setIfInBounds i true):=by
 obtain⟨_,oi,hoi,hall⟩:=mem_ready.1 hi
 intro j oj hj hl e he hb
 by_cases hji:i=j
 ·subst hji
  have:oj=oi:=Option.some.inj (hj.symm.trans hoi)
  subst this;exact getD_set_true (hall e he hb)
 rw[getD_set_ne false hji] at hl
 exact getD_set_true (h j oj hj hl e he hb)

theorem closed_none(n:Nat):Closed md ops (Array.replicate n false):=by
 intro j oj _ hl
 exfalso
 rcases Nat.lt_or_ge j n with h|h
 ·simp[h] at hl
 simp[h] at hl

theorem waits_not{listed:Array Bool}(hc:Closed md ops listed){i:Nat}(hi:listed.getD i false=false):∀(f j:Nat) (oj:Oper),ops[j]? =some oj->(∀e∈oj.after,Region.binds md e=true->listed.getD e.on false=true)->waits md ops f j i=false
 |0,_,_,_,_=>rfl
 |f+1,j,oj,hj,h=>by
  unfold waits;simp only[hj];rw[Bool.eq_false_iff];intro hb
  obtain⟨e,he,h1⟩:=Array.any_eq_true'.1 hb
  simp only[Bool.and_eq_true,Bool.or_eq_true,beq_iff_eq] at h1
  have hl:=h e he h1.1;rcases h1.2 with h2|h2
  ·rw[h2,hi] at hl;cases hl
  cases ho:ops[e.on]? with
  |none=>cases f<;>simp[waits,ho] at h2
  |some oe=>
   have:=waits_not hc hi f e.on oe ho (hc e.on oe ho hl)
   rw[this] at h2;cases h2

def Due(U:World->Prop)(rd need:Nat->Bool)(i:Nat)(w w':World):Prop:=if rd i=true then w' =w else need i=true->U w'

def wpAnyU(P:Program)(md:Region.Mode)(ops:Array Oper)(U:World->Prop)(rd need:Nat->Bool)(Q:Act->World->Prop):Nat->Array Bool->Act->World->Prop
 |0,listed,a,w=>Region.ready md ops listed=[]/\Q a w
 |f+1,listed,a,w=>(Region.ready md ops listed=[]->Q a w)/\
  ∀i∈Region.ready md ops listed,wpOp P ops noQ i (fun a' w' =>Due U rd need i w w'/\wpAnyU P md ops U rd need Q f (listed.setIfInBounds i true) a' w') a w

theorem wpOp_strict{Q:Exit->Act->World->Prop}{i:Nat}{K K':Act->World->Prop}{a:Act}{w:World}(hK:∀a w,K a w->K' a w)(h:wpOp P ops noQ i K a w):wpOp P ops Q i K' a w:=by
 unfold wpOp at*
 cases ho:ops[i]? with
 |none=>simp only[ho] at h ⊢;exact hK _ _ h
 |some o=>
  simp only[ho] at h ⊢
  by_cases hw:Region.wanted o (yielded ops a.tmps)=true
  ·simp only[hw,if_true] at h ⊢
   rcases h with h|⟨_,_,_,hf⟩
   case inr=>exact hf.elim
   refine .inl ?_;unfold Oper.wp at*
   generalize (execOp a.eval o).run P w=r at*
   cases r with
   |ok n w' =>
    cases n<;>simp only[Oper.upon] at h ⊢
    case enter f args=>
     refine Calls.mono h fun e w'' he=> ?_
     cases e with
     |returned u=>exact hK _ _ he
     |panicked c=>exact he.elim
     |outgrown=>obtain⟨_,_,hf⟩:=he;exact hf.elim
    case row row args=>exact Rows.mono h fun u w'' he=>hK _ _ he
    all_goals exact hK _ _ h
   |halt x w' =>
    cases x<;>simp only[Oper.upon] at h ⊢
    case panic u=>exact h.elim
  simp only[hw] at h ⊢
  exact hK _ _ h

theorem wpAny_of_U{rd need:Nat->Bool}{Q:Act->World->Prop}{Q':Exit->Act->World->Prop}(hQ:∀a w,Q a w->Q' .normal a w):∀(f:Nat) (listed:Array Bool) (a:Act) (w:World),
  wpAnyU P md ops U rd need Q f listed a w->wpAny P md ops Q' f listed a w
 |0,_,_,_,h=>⟨h.1,hQ _ _ h.2⟩
 |f+1,_,_,_,h=>⟨fun h0=>hQ _ _ (h.1 h0),fun i hi=>wpOp_strict (fun a' w' h' =>wpAny_of_U hQ f _ a' w' h'.2) (h.2 i hi)⟩

theorem wpAnyU_first{rd need:Nat->Bool}{Q:Act->World->Prop}{Uc:World->Prop}{i:Nat}{oi:Oper}{v:Value}(hi:ops[i]? =some oi)(hsel:∀(j:Nat) (o:Oper) cs b,ops[j]? =some o->o.op≠ .select cs b)(hrd:rd i=true)
  (hn:∀j,j≠i->waits md ops ops.size j i=false->rd j=false->∀w',(need j=true->U w')->Uc w'):
  ∀(f:Nat) (listed:Array Bool) (a:Act) (w:World),
   (∀j oj,ops[j]? =some oj->j≠i->listed.getD j true=false->(∀e∈oj.after,Region.binds md e=true->e.on≠i)->oi.apart ops oj=true)->
   Closed md ops listed->i∈Region.ready md ops listed->YieldsU P ops Uc oi v a->Uc w->
   wpAnyU P md ops U rd need Q f (listed.setIfInBounds i true) (a.put oi.dst v) w->wpAnyU P md ops U rd need Q (f+1) listed a w:=by
 intro f
 induction f with
 |zero=>
  intro listed a w _ _ hr hy hw H
  refine⟨fun h=>(by rw[h] at hr;cases hr),fun j hj=> ?_⟩
  by_cases hji:j=i
  ·subst hji;exact hy.wpOp hi hw ⟨by simp[Due,hrd],H⟩
  have:=ready_mono hj hji
  rw[H.1] at this
  cases this
 |succ f ih=>
  intro listed a w hfree hcl hr hy hw H
  refine⟨fun h=>(by rw[h] at hr;cases hr),fun j hj=> ?_⟩
  by_cases hji:j=i
  ·subst hji;exact hy.wpOp hi hw ⟨by simp[Due,hrd],H⟩
  have h1:=H.2 j (ready_mono hj hji)
  obtain⟨hjun,oj,hoj,hall⟩:=mem_ready.1 hj
  have hnot:∀e∈oj.after,Region.binds md e=true->e.on≠i:=fun e he hb heq=>by
   have h1:=hall e he hb;have h0:=(mem_ready.1 hr).1;rw[heq] at h1
   rcases Nat.lt_or_ge i listed.size with h'|h'
   ·simp[h'] at h0 h1;rw[h0] at h1;cases h1
   simp[Array.getElem?_eq_none h'] at h1
  have hiun:listed.getD i false=false:=by
   have h0:=(mem_ready.1 hr).1;rcases Nat.lt_or_ge i listed.size with h'|h'
   ·simp[h'] at h0 ⊢;exact h0
   simp[Array.getElem?_eq_none h'] at h0
  have h2:=wpOp_later hoj (hfree j oj hoj hji hjun hnot) (fun cs b=>hsel i oi cs b hi) (fun cs b=>hsel j oj cs b hoj) hy h1
  have hfree':∀k ok,ops[k]? =some ok->k≠i->(listed.setIfInBounds j true).getD k true=false->
    (∀e∈ok.after,Region.binds md e=true->e.on≠i)->oi.apart ops ok=true:=fun k ok hk hki hun hno=>by
   refine hfree k ok hk hki ?_ hno
   by_cases hjk:j=k
   ·subst hjk;exact hjun
   rw[getD_set_ne true hjk] at hun;exact hun
  refine wpOp_mono (fun a' w' h3=>⟨h3.2.1,ih (listed.setIfInBounds j true) a' w' hfree' (hcl.set hj) (ready_mono hr (Ne.symm hji)) h3.1 (by
   have hd:=h3.2.1;unfold Due at hd
   by_cases hrj:rd j=true
   ·rw[if_pos hrj] at hd;rw[hd];exact hw
   rw[if_neg hrj] at hd;exact hn j hji (waits_not hcl hiun _ j oj hoj hall) (by simpa using hrj) w' hd) ?_⟩) h2
  rw[Array.setIfInBounds_comm _ _ hji];exact h3.2.2

inductive Scr where
 |done:Scr
 |stop:Scr
 |read:Nat->Scr->Scr
 |free:Nat->Scr->Scr
 |alt:Nat->Scr->Scr->Scr
 |altc:Nat->Scr->Scr->Scr

def Scr.alts:Scr->List Nat
 | .alt i _ r=>i::r.alts
 | .altc i _ r=>i::r.alts
 |_=>[]

def need(md:Region.Mode)(ops:Array Oper)(rds:List Nat)(j:Nat):Bool:=rds.any fun i=>i !=j&& !waits md ops ops.size j i

def isRead(ops:Array Oper)(i:Nat):Bool:=match ops[i]? with
 |some o=>readOp o
 |none=>false

def Scr.ok(md:Region.Mode)(ops:Array Oper)(rds frs:List Nat):Scr->Bool->Bool->Nat->Array Bool->Bool
 | .done,t,_,n,listed=>t&&n==0&&(Region.ready md ops listed).isEmpty
 | .stop,t,_,_,_=> !t
 | .read i k,t,u,n+1,listed=>t&&u&&(Region.ready md ops listed).contains i&&Region.free md ops listed i&&isRead ops i&&rds.contains i&&k.ok md ops rds frs true u n (listed.setIfInBounds i true)
 | .free i k,t,u,n+1,listed=>t&&(Region.ready md ops listed).contains i&&Region.free md ops listed i&&isRead ops i&&frs.contains i&&k.ok md ops rds frs true u n (listed.setIfInBounds i true)
 | .alt i k r,t,u,n+1,listed=>(!t||(i::r.alts)==Region.ready md ops listed)&& !(rds++frs).contains i&&k.ok md ops rds frs true true n (listed.setIfInBounds i true)&&r.ok md ops rds frs false u (n+1) listed
 | .altc i k r,t,u,n+1,listed=>(!t||(i::r.alts)==Region.ready md ops listed)&& !(rds++frs).contains i&& !need md ops rds i&&k.ok md ops rds frs true false n (listed.setIfInBounds i true)&&r.ok md ops rds frs false u (n+1) listed
 |_,_,_,_,_=>false

def Scr.wp(P:Program)(ops:Array Oper)(U:World->Prop)(Q:Act->World->Prop):Scr->Act->World->Prop
 | .done,a,w=>Q a w
 | .stop,_,_=>True
 | .read i k,a,w=>match ops[i]? with
  |some o=>wpQuiet P ops U (fun a' =>k.wp P ops U Q a' w) [o] a
  |none=>False
 | .free i k,a,w=>match ops[i]? with
  |some o=>wpQuiet P ops (fun _=>True) (fun a' =>k.wp P ops U Q a' w) [o] a
  |none=>False
 | .alt i k r,a,w=>wpOp P ops noQ i (fun a' w' =>U w'/\k.wp P ops U Q a' w') a w/\r.wp P ops U Q a w
 | .altc i k r,a,w=>wpOp P ops noQ i (fun a' w' =>k.wp P ops U Q a' w') a w/\r.wp P ops U Q a w

theorem wpOp_of_list{i:Nat}{o:Oper}{R:Act->World->Prop}{a:Act}{w:World}(hi:ops[i]? =some o)(h:wpList P ops (fun e a' w' =>e= .normal/\R a' w') [o] a w):wpOp P ops noQ i R a w:=by
 unfold wpOp;simp only[hi];unfold wpList at h
 by_cases hw:Region.wanted o (yielded ops a.tmps)=true
 ·simp only[hw,if_true] at h ⊢
  rcases h with h|⟨_,_,_,hf,_⟩
  case inr=>cases hf
  refine .inl ?_;unfold Oper.wp at*
  generalize (execOp a.eval o).run P w=r at*
  cases r with
  |ok n w' =>
   cases n<;>simp only[Oper.upon] at h ⊢
   case enter f args=>
    refine Calls.mono h fun e w'' he=> ?_
    cases e with
    |returned u=>exact he.2
    |panicked c=>cases he.1
    |outgrown=>obtain⟨_,_,hf,_⟩:=he;cases hf
   case row row args=>exact Rows.mono h fun u w'' he=>he.2
   all_goals exact h.2
  |halt x w' =>
   cases x<;>simp only[Oper.upon] at h ⊢
   case panic u=>cases h.1
 simp only[hw] at h ⊢
 exact h.2

theorem Scr.sound{rds frs:List Nat}{Q:Act->World->Prop}(hs:Region.noSelect ops=true):∀(s:Scr),
  (∀u n listed a w,Closed md ops listed->(u=true->U w)->s.ok md ops rds frs true u n listed=true->s.wp P ops U Q a w->wpAnyU P md ops U (rds++frs).contains (need md ops rds) Q n listed a w)/\
  (∀u n listed a w,Closed md ops listed->s.ok md ops rds frs false u (n+1) listed=true->s.wp P ops U Q a w->∀j∈s.alts,j∈Region.ready md ops listed->
   wpOp P ops noQ j (fun a' w' =>Due U (rds++frs).contains (need md ops rds) j w w'/\wpAnyU P md ops U (rds++frs).contains (need md ops rds) Q n (listed.setIfInBounds j true) a' w') a w):=by
 have hsel:=Region.noSelect_spec hs;intro s
 induction s with
 |done=>
  refine⟨fun u n listed a w hc hu hok h=> ?_,fun u n listed a w _ _ _ j hj=>by simp[Scr.alts] at hj⟩
  simp only[Scr.ok,Bool.true_and,Bool.and_eq_true,beq_iff_eq,List.isEmpty_iff] at hok
  obtain⟨rfl,h0⟩:=hok
  exact⟨h0,h⟩
 |stop=>exact⟨fun u n listed a w _ _ hok _=>by simp[Scr.ok] at hok,fun u n listed a w _ _ _ j hj=>by simp[Scr.alts] at hj⟩
 |read i k ih=>
  refine⟨fun u n listed a w hc hu hok h=> ?_,fun u n listed a w _ _ _ j hj=>by simp[Scr.alts] at hj⟩
  cases n with
  |zero=>simp[Scr.ok] at hok
  |succ n=>
   simp only[Scr.ok,Bool.true_and,Bool.and_eq_true] at hok
   obtain⟨⟨⟨⟨⟨hut,hr⟩,hf⟩,hrd⟩,hin⟩,hk⟩:=hok
   have hw:=hu hut;unfold isRead at hrd
   cases ho:ops[i]? with
   |none=>simp[ho] at hrd
   |some o=>
    simp only[ho] at hrd
    simp only[Scr.wp,ho] at h
    obtain⟨v,hy,hK⟩:=yieldsU_of_quiet hrd h
    have hin':i∈rds:=by simpa using hin
    refine wpAnyU_first ho hsel (by simp[hin']) (fun j hj hwt _ w' hU=>hU ?_) n listed a w (Region.free_spec ho hf) hc (by simpa using hr) hy hw (ih.1 u n _ _ _ (hc.set (by simpa using hr)) hu hk hK);unfold need;refine List.any_eq_true.2 ⟨i,hin',?_⟩;simp[hwt,Ne.symm hj]
 |free i k ih=>
  refine⟨fun u n listed a w hc hu hok h=> ?_,fun u n listed a w _ _ _ j hj=>by simp[Scr.alts] at hj⟩
  cases n with
  |zero=>simp[Scr.ok] at hok
  |succ n=>
   simp only[Scr.ok,Bool.true_and,Bool.and_eq_true] at hok
   obtain⟨⟨⟨⟨hr,hf⟩,hrd⟩,hin⟩,hk⟩:=hok
   unfold isRead at hrd
   cases ho:ops[i]? with
   |none=>simp[ho] at hrd
   |some o=>
    simp only[ho] at hrd
    simp only[Scr.wp,ho] at h
    obtain⟨v,hy,hK⟩:=yieldsU_of_quiet hrd h
    have hin':i∈frs:=by simpa using hin
    exact wpAnyU_first ho hsel (by simp[hin']) (fun j hj hwt _ w' hU=>trivial) n listed a w (Region.free_spec ho hf) hc (by simpa using hr) hy trivial (ih.1 u n _ _ _ (hc.set (by simpa using hr)) hu hk hK)
 |alt i k r ihk ihr=>
  have B:∀u n listed a w,Closed md ops listed->(!(rds++frs).contains i&&k.ok md ops rds frs true true n (listed.setIfInBounds i true)&&r.ok md ops rds frs false u (n+1) listed)=true->(Scr.alt i k r).wp P ops U Q a w->∀j∈(Scr.alt i k r).alts,j∈Region.ready md ops listed->
    wpOp P ops noQ j (fun a' w' =>Due U (rds++frs).contains (need md ops rds) j w w'/\wpAnyU P md ops U (rds++frs).contains (need md ops rds) Q n (listed.setIfInBounds j true) a' w') a w:=by
   intro u n listed a w hc hok h j hj hrj;simp only[Bool.and_eq_true,Bool.not_eq_true'] at hok
   simp only[Scr.wp] at h
   simp only[Scr.alts,List.mem_cons] at hj
   rcases hj with rfl|hj
   ·refine wpOp_mono (fun a' w' h' =>⟨?_,ihk.1 true n _ _ _ (hc.set hrj) (fun _=>h'.1) hok.1.2 h'.2⟩) h.1
    unfold Due;rw[if_neg (by rw[hok.1.1];exact Bool.false_ne_true)];exact fun _=>h'.1
   exact ihr.2 u n listed a w hc hok.2 h.2 j hj hrj
  refine⟨fun u n listed a w hc hu hok h=> ?_,fun u n listed a w hc hok h=>B u n listed a w hc (by simpa [Scr.ok] using hok) h⟩
  cases n with
  |zero=>simp[Scr.ok] at hok
  |succ n=>
   simp only[Scr.ok,Bool.not_true,Bool.false_or] at hok
   rw[Bool.and_assoc,Bool.and_assoc,Bool.and_eq_true,beq_iff_eq] at hok
   obtain⟨hr,hok2⟩:=hok
   rw[<-Bool.and_assoc] at hok2
   refine⟨fun h0=>(by rw[h0] at hr;cases hr),fun j hj=>B u n listed a w hc hok2 h j (by rw[<-hr] at hj;exact hj) hj⟩
 |altc i k r ihk ihr=>
  have B:∀u n listed a w,Closed md ops listed->(!(rds++frs).contains i&& !need md ops rds i&&k.ok md ops rds frs true false n (listed.setIfInBounds i true)&&r.ok md ops rds frs false u (n+1) listed)=true->(Scr.altc i k r).wp P ops U Q a w->∀j∈(Scr.altc i k r).alts,j∈Region.ready md ops listed->
    wpOp P ops noQ j (fun a' w' =>Due U (rds++frs).contains (need md ops rds) j w w'/\wpAnyU P md ops U (rds++frs).contains (need md ops rds) Q n (listed.setIfInBounds j true) a' w') a w:=by
   intro u n listed a w hc hok h j hj hrj;simp only[Bool.and_eq_true,Bool.not_eq_true'] at hok
   simp only[Scr.wp] at h
   simp only[Scr.alts,List.mem_cons] at hj
   rcases hj with rfl|hj
   ·refine wpOp_mono (fun a' w' h' =>⟨?_,ihk.1 false n _ _ _ (hc.set hrj) (fun hx=>by cases hx) hok.1.2 h'⟩) h.1
    unfold Due;rw[if_neg (by rw[hok.1.1.1];exact Bool.false_ne_true)];intro hx;rw[hok.1.1.2] at hx
    cases hx
   exact ihr.2 u n listed a w hc hok.2 h.2 j hj hrj
  refine⟨fun u n listed a w hc hu hok h=> ?_,fun u n listed a w hc hok h=>B u n listed a w hc (by simpa [Scr.ok] using hok) h⟩
  cases n with
  |zero=>simp[Scr.ok] at hok
  |succ n=>
   simp only[Scr.ok,Bool.not_true,Bool.false_or] at hok
   rw[Bool.and_assoc,Bool.and_assoc,Bool.and_assoc,Bool.and_eq_true,beq_iff_eq] at hok
   obtain⟨hr,hok2⟩:=hok
   rw[<-Bool.and_assoc,<-Bool.and_assoc] at hok2
   refine⟨fun h0=>(by rw[h0] at hr;cases hr),fun j hj=>B u n listed a w hc hok2 h j (by rw[<-hr] at hj;exact hj) hj⟩

theorem wpQuiet_imp{C:World->Prop}{K K':Act->Prop}(h:∀a,K a->K' a):∀(l:List Oper) (a:Act),wpQuiet P ops C K l a->wpQuiet P ops C K' l a
 |[],_,hh=>h _ hh
 |o::l,a,hh=>by
  unfold wpQuiet at*
  split
  ·rename_i hw
   simp only[hw,if_true] at hh
   obtain⟨v,h1,h2⟩:=hh
   exact⟨v,h1,wpQuiet_imp h l _ h2⟩
  rename_i hw
  simp only[hw] at hh
  exact wpQuiet_imp h l _ hh
theorem wpQuiet_cons{C:World->Prop}{K:Act->Prop}{o:Oper}{l:List Oper}{a:Act}(h:wpQuiet P ops C K (o::l) a):wpQuiet P ops C (fun a' =>wpQuiet P ops C K l a') [o] a:=h
theorem Scr.of_read{Q:Act->World->Prop}{i:Nat}{k:Scr}{o:Oper}{l:List Oper}{K:Act->Prop}{a:Act}{w:World}(ho:ops[i]? =some o)(h:wpQuiet P ops U K (o::l) a)(hk:∀a',wpQuiet P ops U K l a'->k.wp P ops U Q a' w):(Scr.read i k).wp P ops U Q a w:=by
 simp only[Scr.wp,ho];exact wpQuiet_imp hk _ _ (wpQuiet_cons h)
theorem Scr.of_free{Q:Act->World->Prop}{i:Nat}{k:Scr}{o:Oper}{l:List Oper}{K:Act->Prop}{a:Act}{w:World}(ho:ops[i]? =some o)(h:wpQuiet P ops (fun _=>True) K (o::l) a)(hk:∀a',wpQuiet P ops (fun _=>True) K l a'->k.wp P ops U Q a' w):(Scr.free i k).wp P ops U Q a w:=by
 simp only[Scr.wp,ho];exact wpQuiet_imp hk _ _ (wpQuiet_cons h)
theorem Scr.of_alt{Q R:Act->World->Prop}{i:Nat}{k r:Scr}{o:Oper}{a:Act}{w:World}(ho:ops[i]? =some o)(h:wpList P ops (fun e a' w' =>e= .normal/\U w'/\R a' w') [o] a w)(hk:∀a' w',R a' w'->k.wp P ops U Q a' w')(hr:r.wp P ops U Q a w):(Scr.alt i k r).wp P ops U Q a w:=
 ⟨wpOp_mono (fun _ _ h' =>⟨h'.1,hk _ _ h'.2⟩) (wpOp_of_list (R:=fun a' w' =>U w'/\R a' w') ho h),hr⟩
theorem Scr.of_altc{Q R:Act->World->Prop}{i:Nat}{k r:Scr}{o:Oper}{a:Act}{w:World}(ho:ops[i]? =some o)(h:wpList P ops (fun e a' w' =>e= .normal/\R a' w') [o] a w)(hk:∀a' w',R a' w'->k.wp P ops U Q a' w')(hr:r.wp P ops U Q a w):(Scr.altc i k r).wp P ops U Q a w:=
 ⟨wpOp_mono (fun _ _ h' =>hk _ _ h') (wpOp_of_list ho h),hr⟩

theorem wp_region_scr{id:Nat}{Q:Exit->Act->World->Prop}{a:Act}{w:World}(s:Scr)(rds frs:List Nat)(hm:P.follows .mixedOrders=true)
  (hB:(Region.noSelect ops&&s.ok .any ops rds frs true true ops.size (Array.replicate ops.size false))=true)
  (hU:U w.drew) (h:s.wp P ops U (fun a w=>Q .normal a w) a w.drew):(Code.region id ops true).wp P Q a w:=by
 simp only[Bool.and_eq_true] at hB
 exact wp_region_any hm (wpAny_of_U (fun _ _ h=>h) _ _ _ _ ((Scr.sound hB.1 s).1 true _ _ _ _ (closed_none _) (fun _=>hU) hB.2 h))
end
def Scr.fs(is:List Nat)(k:Scr):Scr:=is.foldr Scr.free k
def Scr.rs(is:List Nat)(k:Scr):Scr:=is.foldr Scr.read k
section
variable {P:Program} {ops:Array Oper} {U:World->Prop} {Q:Act->World->Prop} {k:Scr} {w:World}
theorem Scr.of_fs:∀(is:List Nat) (os:List Oper) {K:Act->Prop} {a:Act},is.map (fun i=>ops[i]?)=os.map some->wpQuiet P ops (fun _=>True) K os a->(∀a',K a'->k.wp P ops U Q a' w)->(Scr.fs is k).wp P ops U Q a w
 |[],[],_,_,_,g,hk=>hk _ g
 |_::is,_::os,_,_,h,g,hk=>Scr.of_free (List.cons.inj h).1 g (fun _ g' =>Scr.of_fs is os (List.cons.inj h).2 g' hk)
 |[],_::_,_,_,h,_,_=>by cases h
 |_::_,[],_,_,h,_,_=>by cases h
theorem Scr.of_rs:∀(is:List Nat) (os:List Oper) {K:Act->Prop} {a:Act},is.map (fun i=>ops[i]?)=os.map some->wpQuiet P ops U K os a->(∀a',K a'->k.wp P ops U Q a' w)->(Scr.rs is k).wp P ops U Q a w
 |[],[],_,_,_,g,hk=>hk _ g
 |_::is,_::os,_,_,h,g,hk=>Scr.of_read (List.cons.inj h).1 g (fun _ g' =>Scr.of_rs is os (List.cons.inj h).2 g' hk)
 |[],_::_,_,_,h,_,_=>by cases h
 |_::_,[],_,_,h,_,_=>by cases h
end
def regOk(A:Array Oper)(rds frs:List Nat)(s:Scr):Bool:=Region.noSelect A&&s.ok .any A rds frs true true A.size (Array.replicate A.size false)
structure RC(B:Nat)(w0:World)(n:Nat)(L:List (Nat×Nat×Value))(E F:World->Prop)(w:World):Prop where
 k:Kept B w0 n L w
 e:E w
 he:∀W W',E W->Below W.heap.size W W'->E W'
 f:F w
 hf:∀W W',F W->Below W.heap.size W W'->F W'
theorem RC.t{B n:Nat}{w0 w:World}{L:List (Nat×Nat×Value)}(k:Kept B w0 n L w):RC B w0 n L (fun _=>True) (fun _=>True) w:=⟨k,trivial,fun _ _ _ _=>trivial,trivial,fun _ _ _ _=>trivial⟩
theorem wp_reg{P:Program}{B n:Nat}{w0:World}{L:List (Nat×Nat×Value)}{E F:World->Prop}{id:Nat}{Q:Exit->Act->World->Prop}{a:Act}{w:World}{A:Array Oper}(s:Scr)(rds frs:List Nat)(hm:P.follows .mixedOrders=true)(hB:regOk A rds frs s=true)(c:RC B w0 n L E F w)
  (h:∀wk,Kept B w0 n L wk->E wk->F wk->s.wp P A (fun w' =>∃s:KX B w0 n L E,w' =s.val) (fun a w=>Q .normal a w) a wk):(Code.region id A true).wp P Q a w:=by
 have e1:E w.drew:=c.he _ _ c.e ((Below.refl _ _).drew);have g:=h _ c.k.drew e1 (c.hf _ _ c.f ((Below.refl _ _).drew));exact wp_region_scr (U:=fun w' =>∃s:KX B w0 n L E,w' =s.val) s rds frs hm hB ⟨⟨_,c.k.drew,e1⟩,rfl⟩ g
end Go.Proofs.YtpbepnpnpopmfaaGreat
