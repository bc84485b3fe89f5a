/- A valid board without a token, or with a card in the grave, is valid. Who must die, and which tokens must go, behind a move or a removal. Whole lists of moves to the grave, and of removals. Between moves, and between removals; what Check answers. -/
import Derived.Test.YtpbepnpnpopmfaaGreatUMv
import Derived.Test.YtpbepnpnpopmfaaGreatUDg
import Derived.Test.YtpbepnpnpopmfaaGreatTCo
open Go.RowKit Go.Proofs.YtpbepnpnpopmfaaGreat
namespace Go.Proofs.YtpbepnpnpopmfaaGreat
open Plain
set_option linter.unusedVariables false
set_option linter.unusedSimpArgs false

theorem wo_app(n:Int)(a b:List Int):wo n (a++b)=wo n a++wo n b:=List.filter_append ..
theorem mem_wo{n a:Int}{l:List Int}:a∈wo n l↔a∈l/\a≠n:=by
 unfold wo;rw[List.mem_filter]
 simp
theorem out_all(S:Se)(n:Int):(S.out n).all=wo n S.all:=by
 simp only[Se.all,Se.out,wo_app]
theorem pr_wo(p n:Int)(l:List Int):pr p (wo n l)=(pr p l).filter (fun y=> !(y.1==n)):=by
 simp only[pr,wo,List.filter_map]
 rfl
theorem st_out{B:Bd}{n:Int}(hs:∀y∈cst B.st,y.id≠n):B.st.filter (notIt n)=B.st:=by
 refine List.filter_eq_self.2 (fun y hy=> ?_);unfold notIt
 by_cases h:y.tr= -1
 ·have h1:=hs y (by unfold cst;exact List.mem_filter.2 ⟨hy,by simp[h]⟩)
  simp[h1]
 simp[h]
theorem prs_out{B:Bd}{n:Int}(hs:∀y∈cst B.st,y.id≠n):(outB B n).prs=B.prs.filter (fun y=> !(y.1==n)):=by
 have h1:((cst B.st).map (fun x:It=>(x.id,x.pl))).filter (fun y=> !(y.1==n))=(cst B.st).map (fun x:It=>(x.id,x.pl)):=by
  refine List.filter_eq_self.2 (fun y hy=> ?_)
  obtain⟨x,hx,rfl⟩:=List.mem_map.1 hy
  simp[hs x hx]
 have e:(outB B n).prs=pr 0 (B.s0.out n).all++pr 1 (B.s1.out n).all++(cst (B.st.filter (notIt n))).map (fun x=>(x.id,x.pl)):=rfl;rw[e,st_out hs,out_all,out_all,pr_wo,pr_wo];unfold Bd.prs;rw[List.filter_append,List.filter_append,h1]
theorem seB_out(S:Se)(n:Int):seB (S.out n)=seB S:=rfl
theorem seat_out(B:Bd)(n:Int)(p:Nat):((outB B n).seat p).fld=wo n (B.seat p).fld:=by
 unfold Bd.seat
 split<;>rfl
theorem Plain.Fgt.out{B:Bd}(h:Fgt B)(n:Int):Fgt (outB B n):=by
 have e1:(outB B n).own=wo n B.own:=seat_out B n _;have e2:(outB B n).oth=wo n B.oth:=seat_out B n _
 refine⟨h.nd.filter _,fun a ha=> ?_,?_,?_,fun x hx=> ?_⟩
 ·rw[e1]
  have h1:=mem_wo.1 ha;exact mem_wo.2 ⟨h.own a h1.1,h1.2⟩
 ·exact h.na.sublist (List.filter_sublist.map _)
 ·exact h.nb.sublist (List.filter_sublist.map _)
 rw[e2]
 obtain⟨h1,h2⟩:=List.mem_filter.1 hx
 unfold notBk at h2
 simp at h2
 exact⟨mem_wo.2 ⟨(h.bl x h1).1,h2.2⟩,mem_wo.2 ⟨(h.bl x h1).2,h2.1⟩⟩
theorem filt_one{n:Int}:∀{l:List (Int×Int)} {p:Int},(l.map Prod.fst).Nodup->(n,p)∈l->(l.filter (fun y=> !(y.1==n))).length+1=l.length
 |[],p,_,h=>by cases h
 |y::l,p,hn,h=>by
  rw[List.map_cons,List.nodup_cons] at hn
  by_cases e:y.1=n
  ·have h1:l.filter (fun y=> !(y.1==n))=l:=List.filter_eq_self.2 (fun z hz=>by
    have:z.1≠n:=fun e2=>hn.1 (by rw[e,<-e2];exact List.mem_map_of_mem hz)
    simp[this])
   rw[List.filter_cons_of_neg (by simp[e]),h1]
   rfl
  rw[List.filter_cons_of_pos (by simp[e])]
  have h2:(n,p)∈l:=by
   rcases List.mem_cons.1 h with h3|h3
   ·exact absurd (by rw[<-h3]) e
   exact h3
  have:=filt_one hn.2 h2
  simp only[List.length_cons];omega
theorem era_at{α:Type}(l:List α)(k i:Nat):(l.eraseIdx k)[i]? =l[if i<k then i else i+1]? :=by
 rw[List.getElem?_eraseIdx]
 split<;>rfl
theorem Plain.VB.tok{B:Bd}(h:VB B){k:Nat}{x:Ob}(hk:B.ob[k]? =some x)(hc:x.cd<0):∀y∈cst B.st,y.id≠x.id:=fun y hy e=>by
 have h1:=(h.plc.ob k x hk).2.2.2 y hy e;have h2:=List.all_eq_true.1 h.its.1 y (List.mem_filter.1 hy).1;unfold itB itN at h2
 simp at h2
 have:=h2.1.2.2.1
 omega
def Plain.rmB(B:Bd)(k:Nat)(n:Int):Bd:={outB B n with ob:=B.ob.eraseIdx k}
theorem Plain.VB.rm{B:Bd}(h:VB B){k:Nat}{x:Ob}(hk:B.ob[k]? =some x)(hs:∀y∈cst B.st,y.id≠x.id):VB (rmB B k x.id):=by
 have hkl:=(List.getElem?_eq_some_iff.1 hk).1;have hx:=h.plc.ob k x hk;have ep:(rmB B k x.id).prs=B.prs.filter (fun y=> !(y.1==x.id)):=prs_out hs;have es:(rmB B k x.id).st=B.st:=st_out hs
 have el:(rmB B k x.id).ob.length+1=B.ob.length:=by
  show(B.ob.eraseIdx k).length+1=_
  rw[List.length_eraseIdx,if_pos hkl];omega
 have hn:=h.num
 refine⟨?_,h.se0,h.se1,?_,⟨?_,fun i o hi=> ?_,?_⟩,?_⟩
 ·obtain⟨n1,n2,n3,n4,n5,n6,n7,n8⟩:=hn
  exact⟨n1,n2,n3,n4,n5,by omega,by rw[es];exact n7,n8⟩
 ·exact⟨by rw[es];exact h.its.1,h.its.2⟩
 ·rw[ep]
  exact h.plc.nd.sublist (List.filter_sublist.map _)
 ·have hi':(B.ob.eraseIdx k)[i]? =some o:=hi
  rw[era_at] at hi'
  have hne:(if i<k then i else i+1)≠k:=by split<;>omega
  have ho:=h.plc.ob _ o hi'
  have hid:o.id≠x.id:=by
   rcases Nat.lt_or_gt_of_ne hne with h1|h1
   ·have:=rise_lt (fun i o hi=>(h.plc.ob i o hi).2.1) h1 hi' hk
    omega
   have:=rise_lt (fun i o hi=>(h.plc.ob i o hi).2.1) h1 hk hi'
   omega
  refine⟨ho.1,fun j q hj hq=> ?_,?_,?_⟩
  ·have hq':(B.ob.eraseIdx k)[j]? =some q:=hq
   rw[era_at] at hq'
   refine rise_lt (fun i o hi=>(h.plc.ob i o hi).2.1) ?_ hq' hi'
   split<;>split<;>omega
  ·rw[ep]
   exact List.mem_filter.2 ⟨ho.2.2.1,by simp[hid]⟩
  rw[es];exact ho.2.2.2
 ·rw[ep]
  have h1:=filt_one h.plc.nd hx.2.2.1;have h2:=h.plc.len;omega
 exact⟨(h.fgt.out x.id).nd,(h.fgt.out x.id).own,(h.fgt.out x.id).na,(h.fgt.out x.id).nb,(h.fgt.out x.id).bl⟩
theorem setL_prs{B:Bd}{p:Nat}{n:Int}(hp:p<2):(B.setL p 3 ((B.seat p).zs 3++[n])).prs.Perm ((n,(p:Int))::B.prs):=by
 have hp2:p=0\/p=1:=by omega
 rcases hp2 with rfl|rfl
 ·have e:(B.setL 0 3 ((B.seat 0).zs 3++[n])).prs=pr 0 (B.s0.lib++B.s0.hand++B.s0.fld++(B.s0.grv++[n]))++pr 1 B.s1.all++(cst B.st).map (fun x=>(x.id,x.pl)):=rfl
  rw[e];unfold Bd.prs Se.all pr;simp only[List.map_append,List.map_cons,List.map_nil,List.append_assoc];have h1:∀(a b:List (Int×Int)) (y:Int×Int),(a++([y]++b)).Perm (y::(a++b)):=fun a b y=>List.perm_middle
  have h2:=h1 (B.s0.lib.map (fun i=>(i,(0:Int)))++(B.s0.hand.map (fun i=>(i,(0:Int)))++(B.s0.fld.map (fun i=>(i,(0:Int)))++B.s0.grv.map (fun i=>(i,(0:Int)))))) (B.s1.lib.map (fun i=>(i,(1:Int)))++(B.s1.hand.map (fun i=>(i,(1:Int)))++(B.s1.fld.map (fun i=>(i,(1:Int)))++(B.s1.grv.map (fun i=>(i,(1:Int)))++(cst B.st).map (fun x=>(x.id,x.pl)))))) (n,0);simp only[List.append_assoc] at h2
  exact h2
 have e:(B.setL 1 3 ((B.seat 1).zs 3++[n])).prs=pr 0 B.s0.all++pr 1 (B.s1.lib++B.s1.hand++B.s1.fld++(B.s1.grv++[n]))++(cst B.st).map (fun x=>(x.id,x.pl)):=rfl;rw[e];unfold Bd.prs Se.all pr;simp only[List.map_append,List.map_cons,List.map_nil,List.append_assoc];have h1:∀(a b:List (Int×Int)) (y:Int×Int),(a++([y]++b)).Perm (y::(a++b)):=fun a b y=>List.perm_middle
 have h2:=h1 (B.s0.lib.map (fun i=>(i,(0:Int)))++(B.s0.hand.map (fun i=>(i,(0:Int)))++(B.s0.fld.map (fun i=>(i,(0:Int)))++(B.s0.grv.map (fun i=>(i,(0:Int)))++(B.s1.lib.map (fun i=>(i,(1:Int)))++(B.s1.hand.map (fun i=>(i,(1:Int)))++(B.s1.fld.map (fun i=>(i,(1:Int)))++B.s1.grv.map (fun i=>(i,(1:Int)))))))))) ((cst B.st).map (fun x=>(x.id,x.pl))) (n,1);simp only[List.append_assoc] at h2
 exact h2
theorem setL_seB{B:Bd}(p z:Nat)(l:List Int)(h0:seB B.s0=true)(h1:seB B.s1=true):seB (B.setL p z l).s0=true/\seB (B.setL p z l).s1=true:=by
 unfold Bd.setL
 split
 ·refine⟨?_,h1⟩
  have:seB (B.s0.setL z l)=seB B.s0:=by unfold Se.setL;(repeat' split)<;>rfl
  exact this.trans h0
 refine⟨h0,?_⟩
 have:seB (B.s1.setL z l)=seB B.s1:=by unfold Se.setL;(repeat' split)<;>rfl
 exact this.trans h1
theorem vO_rs{x:Ob}(z:Int)(h:vO x=true):vO (rsO x z)=true:=by
 unfold vO at h ⊢
 have h:=of_decide_eq_true h
 obtain⟨h1,h2,h3,h4,h5,h6,h7,h8,h9,h10,h11,h12⟩:=h
 have z0:(0:Int)<=0:=by decide
 have z9:(0:Int)<=99:=by decide
 exact decide_eq_true ⟨h1,h2,h3,h4,h5,h6,h7,h8,⟨z0,z9⟩,⟨z0,z9⟩,⟨z0,z9⟩,⟨z0,z9⟩⟩
theorem set_at{l:List Ob}{k:Nat}{x:Ob}(hk:l[k]? =some x){z:Int}{i:Nat}{o:Ob}(hi:(l.set k (rsO x z))[i]? =some o):∃q,l[i]? =some q/\q.id=o.id/\q.ow=o.ow/\q.cd=o.cd/\(vO q=true->vO o=true):=by
 rw[List.getElem?_set] at hi
 split at hi
 ·rename_i e
  subst e
  split at hi
  ·cases hi
   exact⟨x,hk,rfl,rfl,rfl,vO_rs z⟩
  cases hi
 exact⟨o,hi,rfl,rfl,rfl,id⟩
theorem Plain.VB.noSt{B:Bd}(h:VB B){p:Nat}{n:Int}(hf:n∈(B.seat p).all):∀y∈cst B.st,y.id≠n:=fun y hy e=>by
 have h1:=h.plc.nd;unfold Bd.prs at h1
 rw[List.map_append,List.nodup_append] at h1
 have h2:n∈(pr 0 B.s0.all++pr 1 B.s1.all).map Prod.fst:=by
  unfold Bd.seat at hf
  unfold pr;rw[List.map_append,List.map_map,List.map_map]
  split at hf
  ·exact List.mem_append.2 (.inl (List.mem_map.2 ⟨n,hf,rfl⟩))
  exact List.mem_append.2 (.inr (List.mem_map.2 ⟨n,hf,rfl⟩))
 exact h1.2.2 n h2 n (List.mem_map.2 ⟨(y.id,y.pl),List.mem_map.2 ⟨y,hy,rfl⟩,e⟩) rfl
theorem setL_fld(B:Bd)(p:Nat)(l:List Int)(q:Nat):((B.setL p 3 l).seat q).fld=(B.seat q).fld:=by
 unfold Bd.setL Bd.seat
 by_cases h:p=0
 ·rw[if_pos h];split<;>rfl
 rw[if_neg h];split<;>rfl
theorem setL_other(B:Bd)(p:Nat)(l:List Int):(B.setL p 3 l).tu=B.tu/\(B.setL p 3 l).ac=B.ac/\(B.setL p 3 l).ph=B.ph/\(B.setL p 3 l).ho=B.ho/\(B.setL p 3 l).pa=B.pa/\(B.setL p 3 l).att=B.att:=by
 unfold Bd.setL
 split<;>exact⟨rfl,rfl,rfl,rfl,rfl,rfl⟩
theorem Plain.VB.mv{B:Bd}(h:VB B){k:Nat}{x:Ob}{p:Nat}(hk:B.ob[k]? =some x)(ho:x.ow=(p:Nat))(hp:p<2)(hs:∀y∈cst B.st,y.id≠x.id):VB (mvB B k x p 3):=by
 have hkl:=(List.getElem?_eq_some_iff.1 hk).1;have hx:=h.plc.ob k x hk
 obtain⟨g1,g2,g3,g4⟩:=setL_rest (moB B k x 3) (((moB B k x 3).seat p).zs 3++[x.id]) (p:=p) (z:=3) hp (by omega)
 obtain⟨q1,q2,q3,q4,q5,q6⟩:=setL_other (moB B k x 3) p (((moB B k x 3).seat p).zs 3++[x.id])
 obtain⟨f0,f1⟩:=setL_seB (B:=moB B k x 3) p 3 (((moB B k x 3).seat p).zs 3++[x.id]) h.se0 h.se1
 have fl:∀q,((mvB B k x p 3).seat q).fld=wo x.id (B.seat q).fld:=fun q=>(setL_fld (moB B k x 3) p _ q).trans (seat_out B x.id q)
 have ep:(mvB B k x p 3).prs.Perm ((x.id,(p:Int))::B.prs.filter (fun y=> !(y.1==x.id))):=by
  have h1:=setL_prs (B:=moB B k x 3) (p:=p) (n:=x.id) hp;have h2:(moB B k x 3).prs=B.prs.filter (fun y=> !(y.1==x.id)):=prs_out hs;rw[h2] at h1
  exact h1
 have es:(mvB B k x p 3).st=B.st:=g2.trans (st_out hs);have eq:(mvB B k x p 3).qu=B.qu:=g3;have eo:(mvB B k x p 3).ob=B.ob.set k (rsO x 3):=g1;have el:(mvB B k x p 3).ob.length=B.ob.length:=by rw[eo,List.length_set]
 have hf:=h.fgt.out x.id;have eb:(mvB B k x p 3).bl=(outB B x.id).bl:=g4;have ea:(mvB B k x p 3).att=(outB B x.id).att:=q6
 have eown:(mvB B k x p 3).own=(outB B x.id).own:=by
  show((mvB B k x p 3).seat (mvB B k x p 3).ac.toNat).fld=_
  rw[fl,show(mvB B k x p 3).ac=B.ac from q2]
  exact(seat_out B x.id _).symm
 have eoth:(mvB B k x p 3).oth=(outB B x.id).oth:=by
  show((mvB B k x p 3).seat (1-(mvB B k x p 3).ac).toNat).fld=_
  rw[fl,show(mvB B k x p 3).ac=B.ac from q2]
  exact(seat_out B x.id _).symm
 refine⟨?_,f0,f1,?_,⟨?_,fun i o hi=> ?_,?_⟩,?_⟩
 ·obtain⟨n1,n2,n3,n4,n5,n6,n7,n8⟩:=h.num
  unfold vNum;rw[es,eq,el,show(mvB B k x p 3).ac=B.ac from q2,show(mvB B k x p 3).tu=B.tu from q1,show(mvB B k x p 3).ph=B.ph from q3,show(mvB B k x p 3).ho=B.ho from q4,show(mvB B k x p 3).pa=B.pa from q5]
  exact⟨n1,n2,n3,n4,n5,n6,n7,n8⟩
 ·unfold vSt
  rw[es,eq];exact h.its
 ·refine(ep.map Prod.fst).nodup_iff.2 ?_
  rw[List.map_cons,List.nodup_cons]
  refine⟨fun hm=> ?_,h.plc.nd.sublist (List.filter_sublist.map _)⟩
  obtain⟨y,hy,e⟩:=List.mem_map.1 hm
  have h2:=(List.mem_filter.1 hy).2;simp at h2
  exact h2 e
 ·rw[eo] at hi
  obtain⟨q,hq,i1,i2,i3,i4⟩:=set_at hk hi
  have hh:=h.plc.ob i q hq
  refine⟨i4 hh.1,fun j r hj hr=> ?_,?_,?_⟩
  ·rw[eo] at hr
   obtain⟨r',hr',j1,_⟩:=set_at hk hr
   have:=hh.2.1 j r' hj hr'
   omega
  ·refine ep.mem_iff.2 ?_
   rw[<-i1,<-i2]
   by_cases e:q.id=x.id
   ·have e2:i=k:=ix_at h hk hq e
    subst e2;rw[hk] at hq
    cases hq
    rw[ho];exact List.mem_cons_self
   exact List.mem_cons_of_mem _ (List.mem_filter.2 ⟨hh.2.2.1,by simp[e]⟩)
  rw[es,<-i1,<-i3];exact hh.2.2.2
 ·rw[el,ep.length_eq,List.length_cons,filt_one h.plc.nd hx.2.2.1]
  exact h.plc.len
 exact⟨by rw[ea];exact hf.nd,by rw[ea,eown];exact hf.own,by rw[eb];exact hf.na,by rw[eb];exact hf.nb,by rw[eb,ea,eoth];exact hf.bl⟩
end Go.Proofs.YtpbepnpnpopmfaaGreat
namespace Go.Proofs.YtpbepnpnpopmfaaGreat
open Plain
set_option linter.unusedVariables false
set_option linter.unusedSimpArgs false

theorem onF_mv(B:Bd)(k:Nat)(x y:Ob)(p:Nat):onF (mvB B k x p 3) y=(!(y.id==x.id)&&onF B y):=by
 have h:((mvB B k x p 3).seat y.ow.toNat).fld=wo x.id (B.seat y.ow.toNat).fld:=(setL_fld (moB B k x 3) p _ _).trans (seat_out B x.id _);unfold onF;rw[h]
 by_cases e:y.id=x.id
 ·simp[e,mem_wo]
 simp[e,mem_wo]
theorem onF_rm(B:Bd)(k:Nat)(n:Int)(y:Ob):onF (rmB B k n) y=(!(y.id==n)&&onF B y):=by
 have h:((rmB B k n).seat y.ow.toNat).fld=wo n (B.seat y.ow.toNat).fld:=seat_out B n _;unfold onF;rw[h]
 by_cases e:y.id=n
 ·simp[e,mem_wo]
 simp[e,mem_wo]
theorem wo_ids(n:Int)(q:Ob->Bool)(l:List Ob):wo n ((l.filter q).map Ob.id)=(l.filter (fun o=> !(o.id==n)&&q o)).map Ob.id:=by
 unfold wo;rw[List.filter_map,List.filter_filter]
 rfl
theorem split_at{l:List Ob}{k:Nat}{x:Ob}(hk:l[k]? =some x):l=l.take k++x::l.drop (k+1):=by
 obtain⟨h1,h2⟩:=List.getElem?_eq_some_iff.1 hk
 rw[<-h2,List.getElem_cons_drop,List.take_append_drop]
theorem filt_set{l:List Ob}{k:Nat}{x y:Ob}{q:Ob->Bool}(hk:l[k]? =some x)(hx:q x=false)(hy:q y=false):(l.set k y).filter q=l.filter q:=by
 have h1:=(List.getElem?_eq_some_iff.1 hk).1;rw[List.set_eq_take_append_cons_drop,if_pos h1]
 conv=>rhs;rw[split_at hk]
 simp[List.filter_append,hx,hy]
theorem filt_era{l:List Ob}{k:Nat}{x:Ob}{q:Ob->Bool}(hk:l[k]? =some x)(hx:q x=false):(l.eraseIdx k).filter q=l.filter q:=by
 rw[List.eraseIdx_eq_take_drop_succ]
 conv=>rhs;rw[split_at hk]
 simp[List.filter_append,hx]
theorem dy_mv(cs:List Cd){B:Bd}{k:Nat}{x:Ob}{p:Nat}(hp:p<2)(hk:B.ob[k]? =some x):dyL cs (mvB B k x p 3)=wo x.id (dyL cs B):=by
 obtain⟨g1,_⟩:=setL_rest (moB B k x 3) (((moB B k x 3).seat p).zs 3++[x.id]) (p:=p) (z:=3) hp (by omega)
 have eo:(mvB B k x p 3).ob=B.ob.set k (rsO x 3):=g1
 have ed:dyB cs (mvB B k x p 3)=fun o=> !(o.id==x.id)&&dyB cs B o:=by
  funext o
  unfold dyB;rw[onF_mv,Bool.and_assoc]
 unfold dyL pkL;rw[wo_ids,eo,ed];rw[filt_set hk (by simp) (by simp[rsO])]
theorem dy_rm(cs:List Cd){B:Bd}{k:Nat}{x:Ob}(hk:B.ob[k]? =some x):dyL cs (rmB B k x.id)=wo x.id (dyL cs B):=by
 have ed:dyB cs (rmB B k x.id)=fun o=> !(o.id==x.id)&&dyB cs B o:=by
  funext o
  unfold dyB;rw[onF_rm,Bool.and_assoc]
 unfold dyL pkL;rw[wo_ids,ed,show(rmB B k x.id).ob=B.ob.eraseIdx k from rfl,filt_era hk (by simp)]
theorem go_rm{B:Bd}(h:VB B){k:Nat}{x:Ob}(hk:B.ob[k]? =some x):goL (rmB B k x.id)=wo x.id (goL B):=by
 unfold goL pkL;rw[wo_ids,show(rmB B k x.id).ob=B.ob.eraseIdx k from rfl];rw[<-filt_era (q:=fun o=> !(o.id==x.id)&&goB B o) hk (by simp)]
 congr 1
 refine List.filter_congr (fun o ho=> ?_)
 obtain⟨i,hi⟩:=List.mem_iff_getElem?.1 ho
 rw[era_at] at hi
 have hne:o.id≠x.id:=fun e=>by
  have:=ix_at h hk hi e
  split at this<;>omega
 unfold goB;rw[onF_rm];have e:(o.id==x.id)=false:=by simpa using hne
 rw[e]
 simp
end Go.Proofs.YtpbepnpnpopmfaaGreat
namespace Go.Proofs.YtpbepnpnpopmfaaGreat
open Plain
set_option linter.unusedVariables false
set_option linter.unusedSimpArgs false

def Plain.mvI(B:Bd)(n:Int):Bd:=match B.ob[B.ob.findIdx (fun o=>o.id==n)]? with
 |some x=>mvB B (B.ob.findIdx (fun o=>o.id==n)) x x.ow.toNat 3
 |none=>B
def Plain.rmI(B:Bd)(n:Int):Bd:=rmB B (B.ob.findIdx (fun o=>o.id==n)) n
theorem fix_at{B:Bd}(h:VB B){k:Nat}{x:Ob}(hk:B.ob[k]? =some x):B.ob.findIdx (fun o=>o.id==x.id)=k:=by
 have hlt:B.ob.findIdx (fun o=>o.id==x.id)<B.ob.length:=List.findIdx_lt_length_of_exists ⟨x,List.mem_of_getElem? hk,by simp⟩;have h1:=List.findIdx_getElem (w:=hlt);exact ix_at h hk (List.getElem?_eq_getElem hlt) (by simpa using h1)
theorem mvI_at{B:Bd}(h:VB B){k:Nat}{x:Ob}(hk:B.ob[k]? =some x):mvI B x.id=mvB B k x x.ow.toNat 3:=by
 unfold mvI;rw[fix_at h hk,hk]
theorem rmI_at{B:Bd}(h:VB B){k:Nat}{x:Ob}(hk:B.ob[k]? =some x):rmI B x.id=rmB B k x.id:=by
 unfold rmI;rw[fix_at h hk]
theorem vO_ow{o:Ob}(h:vO o=true):o.ow.toNat<2/\o.ow=(o.ow.toNat:Nat):=by
 unfold vO at h
 have h:=of_decide_eq_true h;omega
theorem pk_mem{B:Bd}{p:Ob->Bool}{n:Int}(h:n∈pkL B p B.ob):∃(k:Nat) (x:Ob),B.ob[k]? =some x/\x.id=n/\p x=true:=by
 unfold pkL at h
 obtain⟨x,hx,e⟩:=List.mem_map.1 h
 obtain⟨h1,h2⟩:=List.mem_filter.1 hx
 obtain⟨k,hk⟩:=List.mem_iff_getElem?.1 h1
 exact⟨k,x,hk,e,h2⟩
theorem mvI_dy(cs:List Cd){B:Bd}(h:VB B){n:Int}(hn:n∈dyL cs B):VB (mvI B n)/\dyL cs (mvI B n)=wo n (dyL cs B):=by
 obtain⟨k,x,hk,rfl,hx⟩:=pk_mem hn
 obtain⟨o1,o2⟩:=vO_ow (h.plc.ob k x hk).1
 have hf:x.id∈(B.seat x.ow.toNat).all:=by
  unfold dyB onF at hx
  simp only[Bool.and_eq_true,decide_eq_true_eq] at hx
  unfold Se.all;simp[hx.1]
 rw[mvI_at h hk]
 exact⟨h.mv hk o2 o1 (h.noSt hf),dy_mv cs o1 hk⟩
theorem rmI_go(cs:List Cd){B:Bd}(h:VB B){n:Int}(hn:n∈goL B):VB (rmI B n)/\dyL cs (rmI B n)=wo n (dyL cs B)/\goL (rmI B n)=wo n (goL B):=by
 obtain⟨k,x,hk,rfl,hx⟩:=pk_mem hn
 have hc:x.cd<0:=by
  unfold goB at hx
  simp only[Bool.and_eq_true,decide_eq_true_eq] at hx
  exact hx.1
 rw[rmI_at h hk]
 exact⟨h.rm hk (h.tok hk hc),dy_rm cs hk,go_rm h hk⟩
theorem mvs_dy(cs:List Cd):∀{l:List Int} {B:Bd},VB B->l.Nodup->dyL cs B=l->VB (l.foldl mvI B)/\dyL cs (l.foldl mvI B)=[]
 |[],B,h,_,e=>⟨h,e⟩
 |n::l,B,h,hn,e=>by
  obtain⟨h1,h2⟩:=mvI_dy cs h (n:=n) (by rw[e];exact List.mem_cons_self)
  refine mvs_dy cs (l:=l) h1 (List.nodup_cons.1 hn).2 ?_;rw[h2,e];have hn1:=(List.nodup_cons.1 hn).1;unfold wo;rw[List.filter_cons_of_neg (by simp)]
  exact List.filter_eq_self.2 (fun a ha=>by
   have:a≠n:=fun e=>hn1 (e▸ha)
   simpa using this)
theorem rms_go(cs:List Cd):∀{l:List Int} {B:Bd},VB B->l.Nodup->goL B=l->dyL cs B=[]->VB (l.foldl rmI B)/\goL (l.foldl rmI B)=[]/\dyL cs (l.foldl rmI B)=[]
 |[],B,h,_,e,d=>⟨h,e,d⟩
 |n::l,B,h,hn,e,d=>by
  obtain⟨h1,h2,h3⟩:=rmI_go cs h (n:=n) (by rw[e];exact List.mem_cons_self)
  refine rms_go cs (l:=l) h1 (List.nodup_cons.1 hn).2 ?_ (by rw[h2,d];rfl);rw[h3,e];have hn1:=(List.nodup_cons.1 hn).1;unfold wo;rw[List.filter_cons_of_neg (by simp)]
  exact List.filter_eq_self.2 (fun a ha=>by
   have:a≠n:=fun e=>hn1 (e▸ha)
   simpa using this)
theorem pk_nodup{B:Bd}(h:VB B)(p:Ob->Bool):(pkL B p B.ob).Nodup:=(VB.ids h).sublist (List.filter_sublist.map _)
def Plain.buB(cs:List Cd)(B:Bd)(all:List It)(t:Int):Bd:=(dyL cs B).foldl mvI (coB B all t)
def Plain.swB(B:Bd):Bd:=(goL B).foldl rmI B
theorem buB_ok(cs:List Cd){B:Bd}(h:VB B){all:List It}(hq:∀x∈all,itQ x)(t:Int):VB (buB cs B all t)/\dyL cs (buB cs B all t)=[]:=
 mvs_dy cs (l:=dyL cs B) (VB.co h hq) (pk_nodup h _) rfl
theorem swB_ok(cs:List Cd){B:Bd}(h:VB B)(hd:dyL cs B=[]):VB (swB B)/\goL (swB B)=[]/\dyL cs (swB B)=[]:=
 rms_go cs (l:=goL B) h (pk_nodup h _) rfl hd
theorem swB_nil{B:Bd}(h:goL B=[]):swB B=B:=by unfold swB;rw[h];rfl
theorem buB_nil{cs:List Cd}{B:Bd}(h:dyL cs B=[])(t:Int):buB cs B [] t=B:=by
 unfold buB coB;rw[h]
 simp
end Go.Proofs.YtpbepnpnpopmfaaGreat
namespace Go.Proofs.YtpbepnpnpopmfaaGreat
open Plain
set_option linter.unusedVariables false
set_option linter.unusedSimpArgs false

theorem mvs_at(cs:List Cd){B:Bd}(h:VB B){l:List Int}(hn:l.Nodup)(hl:dyL cs B=l):∀k,k<=l.length->VB ((l.take k).foldl mvI B)/\dyL cs ((l.take k).foldl mvI B)=l.drop k
 |0,_=>⟨h,hl⟩
 |k+1,hk=>by
  obtain⟨h1,h2⟩:=mvs_at cs h hn hl k (by omega)
  have hkl:k<l.length:=by omega
  have e:l.take (k+1)=l.take k++[l[k]]:=by rw[List.take_add_one,List.getElem?_eq_getElem hkl];rfl
  have ed:l.drop k=l[k]::l.drop (k+1):=(List.getElem_cons_drop hkl).symm
  obtain⟨g1,g2⟩:=mvI_dy cs h1 (n:=l[k]) (by rw[h2,ed];exact List.mem_cons_self)
  rw[e,List.foldl_append]
  refine⟨g1,?_⟩
  show dyL cs (mvI _ _)=_
  rw[g2,h2,ed];have hd:(l.drop k).Nodup:=hn.sublist (List.drop_sublist _ _);rw[ed] at hd
  have hn1:=(List.nodup_cons.1 hd).1;unfold wo;rw[List.filter_cons_of_neg (by simp)]
  exact List.filter_eq_self.2 (fun a ha=>by
   have:a≠l[k]:=fun e=>hn1 (e▸ha)
   simpa using this)
theorem rms_at{B:Bd}(h:VB B){l:List Int}(hn:l.Nodup)(hl:goL B=l):∀k,k<=l.length->VB ((l.take k).foldl rmI B)/\goL ((l.take k).foldl rmI B)=l.drop k
 |0,_=>⟨h,hl⟩
 |k+1,hk=>by
  obtain⟨h1,h2⟩:=rms_at h hn hl k (by omega)
  have hkl:k<l.length:=by omega
  have e:l.take (k+1)=l.take k++[l[k]]:=by rw[List.take_add_one,List.getElem?_eq_getElem hkl];rfl
  have ed:l.drop k=l[k]::l.drop (k+1):=(List.getElem_cons_drop hkl).symm
  obtain⟨g1,_,g2⟩:=rmI_go [] h1 (n:=l[k]) (by rw[h2,ed];exact List.mem_cons_self)
  rw[e,List.foldl_append]
  refine⟨g1,?_⟩
  show goL (rmI _ _)=_
  rw[g2,h2,ed];have hd:(l.drop k).Nodup:=hn.sublist (List.drop_sublist _ _);rw[ed] at hd
  have hn1:=(List.nodup_cons.1 hd).1;unfold wo;rw[List.filter_cons_of_neg (by simp)]
  exact List.filter_eq_self.2 (fun a ha=>by
   have:a≠l[k]:=fun e=>hn1 (e▸ha)
   simpa using this)
theorem mvs_next(cs:List Cd){B:Bd}(h:VB B){l:List Int}(hn:l.Nodup)(hl:dyL cs B=l){k:Nat}(hk:k<l.length):∃(C C2:Bd) (i:Nat) (x:Ob),(l.take k).foldl mvI B=C/\(l.take (k+1)).foldl mvI B=C2/\VB C/\C.ob[i]? =some x/\l[k]? =some x.id/\x.ow=(x.ow.toNat:Nat)/\x.ow.toNat<2/\Plain.I x.id/\mvB C i x x.ow.toNat 3=C2:=by
 obtain⟨h1,h2⟩:=mvs_at cs h hn hl k (by omega)
 have ed:l.drop k=l[k]::l.drop (k+1):=(List.getElem_cons_drop hk).symm
 obtain⟨i,x,hi,hx,_⟩:=pk_mem (p:=dyB cs ((l.take k).foldl mvI B)) (n:=l[k]) (by show l[k]∈dyL cs _;rw[h2,ed];exact List.mem_cons_self)
 have ho:=vO_ow (h1.plc.ob i x hi).1
 refine⟨_,_,i,x,rfl,rfl,h1,hi,by rw[hx,List.getElem?_eq_getElem hk],ho.2,ho.1,(h1.i.ob x (List.mem_of_getElem? hi)).id,?_⟩
 rw[List.take_add_one,List.getElem?_eq_getElem hk,List.foldl_append]
 show _=mvI _ l[k]
 rw[<-hx,mvI_at h1 hi]
theorem rms_next{B:Bd}(h:VB B){l:List Int}(hn:l.Nodup)(hl:goL B=l){k:Nat}(hk:k<l.length):∃(C C2:Bd) (i:Nat) (x:Ob),(l.take k).foldl rmI B=C/\(l.take (k+1)).foldl rmI B=C2/\VB C/\C.ob[i]? =some x/\l[k]? =some x.id/\Plain.I x.id/\rmB C i x.id=C2:=by
 obtain⟨h1,h2⟩:=rms_at h hn hl k (by omega)
 have ed:l.drop k=l[k]::l.drop (k+1):=(List.getElem_cons_drop hk).symm
 obtain⟨i,x,hi,hx,_⟩:=pk_mem (p:=goB ((l.take k).foldl rmI B)) (n:=l[k]) (by show l[k]∈goL _;rw[h2,ed];exact List.mem_cons_self)
 refine⟨_,_,i,x,rfl,rfl,h1,hi,by rw[hx,List.getElem?_eq_getElem hk],(h1.i.ob x (List.mem_of_getElem? hi)).id,?_⟩
 rw[List.take_add_one,List.getElem?_eq_getElem hk,List.foldl_append]
 show _=rmI _ l[k]
 rw[<-hx,rmI_at h1 hi]
theorem rm_len(B:Bd)(n:Int):(rmI B n).ob.length<=B.ob.length:=List.length_eraseIdx_le _ _
def Plain.chR(cs:List Cd)(B:Bd)(all:List It)(t:Int):Bd:=swB (buB cs B all t)
def Plain.chN(cs:List Cd)(B:Bd)(all:List It)(t:Int):Nat:=(dyL cs B).length+(goL (buB cs B all t)).length
end Go.Proofs.YtpbepnpnpopmfaaGreat
