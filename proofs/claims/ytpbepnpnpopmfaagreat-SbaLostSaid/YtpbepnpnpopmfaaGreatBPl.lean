/- The plain mathematics of objects. The plain mathematics of boards. -/
namespace Go.Proofs.YtpbepnpnpopmfaaGreat.Plain
set_option linter.unusedVariables false
structure Ob where
 id:Int
 cd:Int
 ow:Int
 po:Int
 tg:Int
 da:Int
 co:Int
 pp:Int
 pt:Int
 ta:Bool
 si:Bool
 dm:Bool
def I(a:Int):Prop:= -9223372036854775808<=a/\a<=9223372036854775807
def cl(n m:Int):Int:=max 0 (min n m)
def sat(n:Int):Int:=max (-9223372036854775808) (min n 9223372036854775807)
theorem I_sat(n:Int):I (sat n):=by unfold I sat;omega
theorem cl_sat(n:Int){m:Int}(hm:I m):cl (sat n) m=cl n m:=by unfold cl sat I at*;omega
def ad(a b:Int):Int:=cl (max 0 a+max 0 b) 99
theorem ad_bd(a b:Int):0<=ad a b/\ad a b<=99:=by unfold ad cl;omega
theorem I_ad(a b:Int):I (ad a b):=by have:=ad_bd a b;unfold I;omega
structure Ob.I(o:Ob):Prop where
 id:Plain.I o.id
 cd:Plain.I o.cd
 ow:Plain.I o.ow
 po:Plain.I o.po
 tg:Plain.I o.tg
 da:Plain.I o.da
 co:Plain.I o.co
 pp:Plain.I o.pp
 pt:Plain.I o.pt
def vO(o:Ob):Bool:=decide (1<=o.id/\o.id<=500/\ -1<=o.cd/\o.cd<=399/\(o.ow=0\/o.ow=1)/\(o.cd= -1\/(o.po=0/\o.tg=0))/\(0<=o.po/\o.po<=99)/\(0<=o.tg/\o.tg<=99)/\(0<=o.da/\o.da<=99)/\(0<=o.co/\o.co<=99)/\(0<=o.pp/\o.pp<=99)/\(0<=o.pt/\o.pt<=99))
end Go.Proofs.YtpbepnpnpopmfaaGreat.Plain
namespace Go.Proofs.YtpbepnpnpopmfaaGreat.Plain
set_option linter.unusedVariables false
structure Tg where
 id:Int
 pl:Int
structure It where
 pl:Int
 id:Int
 cd:Int
 tr:Int
 tg:List Tg
structure Bk where
 bl:Int
 at':Int
structure Se where
 li:Int
 p0:Int
 p1:Int
 p2:Int
 p3:Int
 lib:List Int
 hand:List Int
 fld:List Int
 grv:List Int
 em:Bool
 py:Bool
 kp:Bool
 mu:Int
 ac:Int
structure Bd where
 ob:List Ob
 s0:Se
 s1:Se
 st:List It
 qu:List It
 att:List Int
 bl:List Bk
 tu:Int
 ac:Int
 ph:Int
 ho:Int
 pa:Int
def tgB(t:Tg):Bool:=decide ((0<=t.id/\t.id<=500)/\(0<=t.pl/\t.pl<=1)/\(t.id=0\/t.pl=0))
def itN(x:It)(q:Bool):Bool:=decide ((0<=x.pl/\x.pl<=1)/\(1<=x.id/\x.id<=500)/\(0<=x.cd/\x.cd<=399)/\(-1<=x.tr/\x.tr<=1)/\x.tg.length<=4/\(0<=x.tr->x.tg.length=0)/\(q=true->0<=x.tr))
def itB(x:It)(q:Bool):Bool:=itN x q&&x.tg.all tgB
def poolB(s:Se):Bool:=decide ((0<=s.p0/\s.p0<=99)/\(0<=s.p1/\s.p1<=99)/\(0<=s.p2/\s.p2<=99)/\(0<=s.p3/\s.p3<=99))
def seB(s:Se):Bool:=decide (0<=s.li/\s.li<=9999)&&poolB s&&decide (0<=s.mu/\s.mu<=7)&&decide (0<=s.ac/\s.ac<=255)
def Bd.seat(b:Bd)(p:Nat):Se:=if p=0 then b.s0 else b.s1
def Se.zs(s:Se)(z:Nat):List Int:=if z=0 then s.lib else if z=1 then s.hand else if z=2 then s.fld else s.grv
def Se.all(s:Se):List Int:=s.lib++s.hand++s.fld++s.grv
def cst(l:List It):List It:=l.filter (fun x=>decide (x.tr<0))
def pr(p:Int)(l:List Int):List (Int×Int):=l.map (fun i=>(i,p))
def Bd.prs(b:Bd):List (Int×Int):=pr 0 b.s0.all++pr 1 b.s1.all++(cst b.st).map (fun x=>(x.id,x.pl))
def vNum(b:Bd):Prop:=(0<=b.ac/\b.ac<=1)/\(0<=b.tu/\b.tu<=1000)/\(0<=b.ph/\b.ph<=10)/\(-1<=b.ho/\b.ho<=1)/\(0<=b.pa/\b.pa<=2)/\b.ob.length<=500/\b.st.length<=200/\b.qu.length<=200
def vSt(b:Bd):Prop:=(b.st.all (fun x=>itB x false)=true)/\b.qu.all (fun x=>itB x true)=true
def rise(l:List Ob)(i:Nat)(o:Ob):Prop:=∀j q,j+1=i->l[j]? =some q->q.id<o.id
structure Plc(b:Bd):Prop where
 nd:(b.prs.map Prod.fst).Nodup
 ob:∀i o,b.ob[i]? =some o->vO o=true/\rise b.ob i o/\(o.id,o.ow)∈b.prs/\∀x∈cst b.st,x.id=o.id->x.cd=o.cd
 len:b.prs.length=b.ob.length
structure Fnd(b:Bd):Prop where
 len:b.prs.length=b.ob.length
 st:∀x∈cst b.st,∃(i:Nat) (o:Ob),b.ob[i]? =some o/\o.id=x.id/\(∀(j:Nat) (q:Ob),j<i->b.ob[j]? =some q->q.id≠x.id)/\o.cd=x.cd
 ob:∀i o,b.ob[i]? =some o->vO o=true/\rise b.ob i o/\b.prs.count (o.id,o.ow)=1
def Bd.own(b:Bd):List Int:=(b.seat b.ac.toNat).fld
def Bd.oth(b:Bd):List Int:=(b.seat (1-b.ac).toNat).fld
structure Fgt(b:Bd):Prop where
 nd:b.att.Nodup
 own:∀a∈b.att,a∈b.own
 na:(b.bl.map Bk.at').Nodup
 nb:(b.bl.map Bk.bl).Nodup
 bl:∀x∈b.bl,x.at'∈b.att/\x.bl∈b.oth
structure VB(b:Bd):Prop where
 num:vNum b
 se0:seB b.s0=true
 se1:seB b.s1=true
 its:vSt b
 plc:Plc b
 fgt:Fgt b
theorem vO_id{o:Ob}(h:vO o=true):1<=o.id/\o.id<=500:=by
 unfold vO at h
 have h:=of_decide_eq_true h
 exact⟨h.1,h.2.1⟩
theorem rise_lt{l:List Ob}(h:∀i o,l[i]? =some o->rise l i o){i j:Nat}{o q:Ob}(hij:i<j)(hi:l[i]? =some o)(hj:l[j]? =some q):o.id<q.id:=by
 induction j generalizing q with
 |zero=>omega
 |succ j ih=>
  have hjl:j<l.length:=by have:=(List.getElem?_eq_some_iff.1 hj).1;omega
  have hm:=List.getElem?_eq_getElem hjl;have h1:=h (j+1) q hj j _ rfl hm;rcases Nat.lt_or_ge i j with h2|h2
  ·exact Int.lt_trans (ih h2 hm) h1
  obtain rfl:i=j:=by omega
  rw[hi] at hm
  simp at hm
  rw[hm];exact h1
def obp(l:List Ob):List (Int×Int):=l.map (fun o=>(o.id,o.ow))
theorem nodup_of{α:Type}{l:List α}(h:∀(i j:Nat) x,i<j->l[i]? =some x->l[j]? ≠some x):l.Nodup:=by
 refine List.pairwise_iff_getElem.2 (fun i j hi hj hij e=> ?_);exact h i j _ hij (List.getElem?_eq_getElem hi) (by rw[e];exact List.getElem?_eq_getElem hj)
theorem ids_nodup{l:List Ob}(h:∀i o,l[i]? =some o->rise l i o):(l.map Ob.id).Nodup:=by
 refine nodup_of (fun i j x hij hi hj=> ?_);rw[List.getElem?_map] at hi hj
 cases hi':l[i]? with
 |none=>rw[hi'] at hi;cases hi
 |some o=>
  cases hj':l[j]? with
  |none=>rw[hj'] at hj;cases hj
  |some q=>
   rw[hi'] at hi
   rw[hj'] at hj
   simp at hi hj
   have:=rise_lt h hij hi' hj'
   omega
theorem nodup_map{α β:Type}(f:α->β){l:List α}(h:(l.map f).Nodup):l.Nodup:=by
 refine nodup_of (fun i j x hij hi hj=> ?_);have hil:=(List.getElem?_eq_some_iff.1 hi).1;have hjl:=(List.getElem?_eq_some_iff.1 hj).1;have h1:=List.pairwise_iff_getElem.1 h i j (by rw[List.length_map];exact hil) (by rw[List.length_map];exact hjl) hij;have e1:=(List.getElem?_eq_some_iff.1 hi).2;have e2:=(List.getElem?_eq_some_iff.1 hj).2;rw[List.getElem_map,List.getElem_map,e1,e2] at h1
 exact h1 rfl
theorem perm_of{α:Type} [BEq α] [LawfulBEq α]:∀(M L:List α),M.Nodup->(∀x∈M,x∈L)->L.length=M.length->L.Perm M
 |[],L,_,_,h=>by rw[List.eq_nil_of_length_eq_zero h]
 |x::M,L,hn,hs,hl=>by
  have hx:=hs x List.mem_cons_self;have h1:=List.perm_cons_erase hx;have hn2:=List.nodup_cons.1 hn;refine h1.trans (List.Perm.cons x (perm_of M (L.erase x) hn2.2 (fun y hy=> ?_) ?_))
  ·have hne:y≠x:=fun e=>hn2.1 (e▸hy)
   exact(List.mem_erase_of_ne hne).2 (hs y (List.mem_cons_of_mem _ hy))
  rw[List.length_erase_of_mem hx,hl]
  rfl
theorem obp_nodup{l:List Ob}(h:∀i o,l[i]? =some o->rise l i o):(obp l).Nodup:=by
 apply nodup_map Prod.fst;have e:(obp l).map Prod.fst=l.map Ob.id:=by unfold obp;rw[List.map_map];rfl
 rw[e];exact ids_nodup h
theorem perm_nodup{α:Type}{l m:List α}(h:l.Perm m)(hn:l.Nodup):m.Nodup:=h.nodup_iff.1 hn
theorem Plc.perm{b:Bd}(h:Plc b):b.prs.Perm (obp b.ob):=
 perm_of _ _ (obp_nodup (fun i o hi=>(h.ob i o hi).2.1)) (fun x hx=>by
  obtain⟨o,ho,rfl⟩:=List.mem_map.1 hx
  obtain⟨i,hi⟩:=List.getElem?_of_mem ho
  exact(h.ob i o hi).2.2.1) (by rw[h.len];simp[obp])
theorem Fnd.perm{b:Bd}(h:Fnd b):b.prs.Perm (obp b.ob):=
 perm_of _ _ (obp_nodup (fun i o hi=>(h.ob i o hi).2.1)) (fun x hx=>by
  obtain⟨o,ho,rfl⟩:=List.mem_map.1 hx
  obtain⟨i,hi⟩:=List.getElem?_of_mem ho
  have:=(h.ob i o hi).2.2
  exact List.count_pos_iff.1 (by omega)) (by rw[h.len];simp[obp])
theorem plc_fnd{b:Bd}:Plc b↔Fnd b:=by
 constructor
 ·intro h
  have hp:=h.perm;have hr:∀i o,b.ob[i]? =some o->rise b.ob i o:=fun i o hi=>(h.ob i o hi).2.1
  have hn:=obp_nodup hr
  refine⟨h.len,fun x hx=> ?_,fun i o hi=>⟨(h.ob i o hi).1,hr i o hi,?_⟩⟩
  ·have h1:(x.id,x.pl)∈b.prs:=by
    unfold Bd.prs;exact List.mem_append_right _ (List.mem_map.2 ⟨x,hx,rfl⟩)
   have h2:=hp.mem_iff.1 h1
   obtain⟨o,ho,he⟩:=List.mem_map.1 h2
   obtain⟨i,hi⟩:=List.getElem?_of_mem ho
   simp at he
   refine⟨i,o,hi,he.1,fun j q hj hq=> ?_,((h.ob i o hi).2.2.2 x hx he.1.symm).symm⟩
   have:=rise_lt hr hj hq hi
   omega
  rw[hp.count_eq];rw[hn.count,if_pos (show(o.id,o.ow)∈obp b.ob from List.mem_map.2 ⟨o,List.mem_of_getElem? hi,rfl⟩)]
 intro h;have hp:=h.perm;have hr:∀i o,b.ob[i]? =some o->rise b.ob i o:=fun i o hi=>(h.ob i o hi).2.1
 refine⟨?_,fun i o hi=>⟨(h.ob i o hi).1,hr i o hi,?_,fun x hx he=> ?_⟩,h.len⟩
 ·have e:(obp b.ob).map Prod.fst=b.ob.map Ob.id:=by unfold obp;rw[List.map_map];rfl
  refine perm_nodup (hp.map Prod.fst).symm ?_;rw[e];exact ids_nodup hr
 ·have:=(h.ob i o hi).2.2
  exact List.count_pos_iff.1 (by omega)
 obtain⟨j,q,hj,h1,_,h3⟩:=h.st x hx
 have hij:i=j:=by
  rcases Nat.lt_trichotomy i j with h4|h4|h4
  ·have:=rise_lt hr h4 hi hj;omega
  ·exact h4
  have:=rise_lt hr h4 hj hi;omega
 subst hij;rw[hi] at hj
 simp at hj
 rw[hj];exact h3.symm
theorem Plc.pos{b:Bd}(h:Plc b):∀x∈b.prs,1<=x.1:=fun x hx=>by
 obtain⟨o,ho,rfl⟩:=List.mem_map.1 (h.perm.mem_iff.1 hx)
 obtain⟨i,hi⟩:=List.getElem?_of_mem ho
 exact(vO_id (h.ob i o hi).1).1
theorem seat_prs{b:Bd}(p:Nat)(i:Int)(h:i∈(b.seat p).all):(i,(if p=0 then 0 else 1:Int))∈b.prs:=by
 unfold Bd.prs Bd.seat pr at*
 split at h
 ·rename_i e
  rw[if_pos e];exact List.mem_append_left _ (List.mem_append_left _ (List.mem_map.2 ⟨i,h,rfl⟩))
 rename_i e
 rw[if_neg e];exact List.mem_append_left _ (List.mem_append_right _ (List.mem_map.2 ⟨i,h,rfl⟩))
theorem Plc.fld_pos{b:Bd}(h:Plc b)(p:Nat):∀i∈(b.seat p).fld,1<=i:=fun i hi=>
 h.pos _ (seat_prs p i (by unfold Se.all;simp[hi]))
theorem nodup_append_left{α:Type}{l m:List α}(h:(l++m).Nodup):l.Nodup:=(List.nodup_append.1 h).1
theorem nodup_append_right{α:Type}{l m:List α}(h:(l++m).Nodup):m.Nodup:=(List.nodup_append.1 h).2.1
theorem Plc.fld_nd{b:Bd}(h:Plc b)(p:Nat):(b.seat p).fld.Nodup:=by
 have e:∀p l,(pr p l).map Prod.fst=l:=fun p l=>by unfold pr;rw[List.map_map];exact List.map_id l
 have h0:=h.nd;unfold Bd.prs at h0
 rw[List.map_append,List.map_append,e,e] at h0
 have h1:=nodup_append_left h0
 have h2:(b.seat p).all.Nodup:=by
  unfold Bd.seat
  split
  ·exact nodup_append_left h1
  exact nodup_append_right h1
 unfold Se.all at h2
 exact nodup_append_right (nodup_append_left h2)
def zpre(S:Se)(z:Nat):List Int:=if z=0 then [] else if z=1 then S.lib else if z=2 then S.lib++S.hand else if z=3 then S.lib++S.hand++S.fld else S.all
theorem zpre_succ(S:Se){z:Nat}(h:z<4):zpre S (z+1)=zpre S z++S.zs z:=by
 have:z=0\/z=1\/z=2\/z=3:=by omega
 rcases this with rfl|rfl|rfl|rfl<;>simp[zpre,Se.zs,Se.all]
theorem zpre_four(S:Se):zpre S 4=S.all:=rfl
theorem pr_append(p:Int)(l m:List Int):pr p (l++m)=pr p l++pr p m:=List.map_append
def bpre(b:Bd)(p z:Nat):List (Int×Int):=if p=0 then pr 0 (zpre b.s0 z) else if p=1 then pr 0 b.s0.all++pr 1 (zpre b.s1 z) else pr 0 b.s0.all++pr 1 b.s1.all
theorem bpre_zone(b:Bd){p z:Nat}(hp:p<2)(h:z<4):bpre b p (z+1)=bpre b p z++pr p ((b.seat p).zs z):=by
 have:p=0\/p=1:=by omega
 rcases this with rfl|rfl
 ·show pr 0 (zpre b.s0 (z+1))=pr 0 (zpre b.s0 z)++pr 0 (b.s0.zs z)
  rw[zpre_succ _ h,pr_append]
 show pr 0 b.s0.all++pr 1 (zpre b.s1 (z+1))=pr 0 b.s0.all++pr 1 (zpre b.s1 z)++pr 1 (b.s1.zs z)
 rw[zpre_succ _ h,pr_append,List.append_assoc]
theorem bpre_four(b:Bd){p:Nat}(hp:p<2):bpre b p 4=bpre b (p+1) 0:=by
 have:p=0\/p=1:=by omega
 rcases this with rfl|rfl
 ·show pr 0 (zpre b.s0 4)=pr 0 b.s0.all++pr 1 []
  simp[zpre_four,pr]
 rfl
theorem prs_zone(b:Bd){p z:Nat}(hp:p<2)(hz:z<4)(i:Nat):∃r,b.prs=(bpre b p z++pr p (((b.seat p).zs z).take i))++r:=by
 have h4:∀z,z<=4->∃r,pr p (b.seat p).all=pr p (zpre (b.seat p) z)++r:=fun z hz=>by
  have:z=0\/z=1\/z=2\/z=3\/z=4:=by omega
  rcases this with rfl|rfl|rfl|rfl|rfl
  ·exact⟨_,rfl⟩
  ·exact⟨pr p ((b.seat p).hand++(b.seat p).fld++(b.seat p).grv),by rw[<-pr_append];simp[zpre,Se.all]⟩
  ·exact⟨pr p ((b.seat p).fld++(b.seat p).grv),by rw[<-pr_append];simp[zpre,Se.all]⟩
  ·exact⟨pr p ((b.seat p).grv),by rw[<-pr_append];simp[zpre,Se.all]⟩
  exact⟨[],by simp[zpre_four]⟩
 obtain⟨r,hr⟩:=h4 (z+1) (by omega)
 rw[zpre_succ _ hz,pr_append] at hr
 have hi:pr (p:Int) ((b.seat p).zs z)=pr p (((b.seat p).zs z).take i)++pr p (((b.seat p).zs z).drop i):=by rw[<-pr_append,List.take_append_drop]
 have:p=0\/p=1:=by omega
 rcases this with rfl|rfl
 ·refine⟨pr 0 (((b.seat 0).zs z).drop i)++(r++(pr 1 b.s1.all++(cst b.st).map (fun x=>(x.id,x.pl)))),?_⟩
  have hr':pr 0 b.s0.all=_:=hr;unfold Bd.prs;rw[hr',hi];simp[bpre,Bd.seat]
 refine⟨pr 1 (((b.seat 1).zs z).drop i)++(r++(cst b.st).map (fun x=>(x.id,x.pl))),?_⟩
 have hr':pr 1 b.s1.all=_:=hr;unfold Bd.prs;rw[hr',hi];simp[bpre,Bd.seat]
def spr(l:List It):List (Int×Int):=(cst l).map (fun x=>(x.id,x.pl))
theorem prs_stack(b:Bd)(k:Nat):∃r,b.prs=(bpre b 2 0++spr (b.st.take k))++r:=by
 refine⟨spr (b.st.drop k),?_⟩
 have h:spr b.st=spr (b.st.take k)++spr (b.st.drop k):=by
  unfold spr cst;rw[<-List.map_append,<-List.filter_append,List.take_append_drop]
 show pr 0 b.s0.all++pr 1 b.s1.all++spr b.st=_
 rw[h];simp[bpre]
theorem prs_all(b:Bd):b.prs=bpre b 2 0++spr b.st:=rfl
theorem not_plc{b:Bd}{l r:List (Int×Int)}{x:Int×Int}(h:b.prs=(l++[x])++r)(hx:x.1∈l.map Prod.fst):¬Plc b:=fun hp=>by
 have h1:=hp.nd;rw[h,List.map_append,List.map_append] at h1
 have h2:=nodup_append_left h1;have h3:=(List.nodup_append.1 h2).2.2;exact h3 _ hx _ (by simp) rfl
def spc(l:List It):List (Int×Int):=(cst l).map (fun x=>(x.id,x.cd))
theorem spr_snoc(l:List It)(k:Nat)(x:It)(h:l[k]? =some x):spr (l.take (k+1))=if x.tr<0 then spr (l.take k)++[(x.id,x.pl)] else spr (l.take k):=by
 unfold spr cst;rw[List.take_add_one,h,Option.toList_some,List.filter_append,List.map_append]
 split
 ·rename_i h1;simp[h1]
 rename_i h1;simp[h1]
theorem spc_snoc(l:List It)(k:Nat)(x:It)(h:l[k]? =some x):spc (l.take (k+1))=if x.tr<0 then spc (l.take k)++[(x.id,x.cd)] else spc (l.take k):=by
 unfold spc cst;rw[List.take_add_one,h,Option.toList_some,List.filter_append,List.map_append]
 split
 ·rename_i h1;simp[h1]
 rename_i h1;simp[h1]
structure Bd.I(b:Bd):Prop where
 zs:∀(p z:Nat),∀i∈(b.seat p).zs z,Plain.I i
 ob:∀o∈b.ob,o.I
 st:∀x∈b.st,Plain.I x.id/\Plain.I x.pl/\Plain.I x.cd
 att:∀a∈b.att,Plain.I a
 bl:∀x∈b.bl,Plain.I x.at'/\Plain.I x.bl
end Go.Proofs.YtpbepnpnpopmfaaGreat.Plain
