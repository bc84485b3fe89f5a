/- More about boards. Attackers and blocks. What the reference counts. -/
import Derived.Test.YtpbepnpnpopmfaaGreatBPl
namespace Go.Proofs.YtpbepnpnpopmfaaGreat.Plain
set_option linter.unusedVariables false
structure Bd.Sm(b:Bd):Prop where
 zs:∀(p z:Nat),((b.seat p).zs z).length<=1000
 ob:b.ob.length<=1000
 st:b.st.length<=1000
 qu:b.qu.length<=1000
 att:b.att.length<=1000
 bl:b.bl.length<=1000
theorem zpre_len{b:Bd}(h:b.Sm)(p z:Nat):(zpre (b.seat p) z).length<=4000:=by
 have h0:=h.zs p 0;have h1:=h.zs p 1;have h2:=h.zs p 2;have h3:=h.zs p 3;simp only[Se.zs] at h0 h1 h2 h3
 simp at h0 h1 h2 h3
 unfold zpre
 split
 ·simp
 split
 ·omega
 split
 ·simp;omega
 split
 ·simp;omega
 simp[Se.all];omega
theorem bpre_len{b:Bd}(h:b.Sm)(p z:Nat):(bpre b p z).length<=8000:=by
 have h0:=zpre_len h 0 z;have h1:=zpre_len h 1 z;have h2:=zpre_len h 0 4;have h3:=zpre_len h 1 4;rw[zpre_four] at h2 h3
 simp only[Bd.seat] at h0 h1 h2 h3
 simp at h0 h1 h2 h3
 unfold bpre pr
 split
 ·simp;omega
 split
 ·simp;omega
 simp;omega
theorem pr_snoc(p:Int)(l:List Int)(k:Nat)(x:Int)(h:l[k]? =some x):pr p (l.take (k+1))=pr p (l.take k)++[(x,p)]:=by
 unfold pr;rw[List.take_add_one,h,Option.toList_some,List.map_append]
 rfl
theorem zs_I{b:Bd}(h:b.I){p z i:Nat}{x:Int}(hx:((b.seat p).zs z)[i]? =some x):Plain.I x:=h.zs p z x (List.mem_of_getElem? hx)
theorem prs_len{b:Bd}(h:b.Sm):b.prs.length<100000:=by
 have h1:=bpre_len h 2 0;have h2:=h.st;have h3:(cst b.st).length<=b.st.length:=List.length_filter_le _ _;rw[prs_all];simp[spr];omega
def okO(b:Bd)(i:Nat)(o:Ob):Prop:=vO o=true/\rise b.ob i o/\(o.id,o.ow)∈b.prs/\∀x∈cst b.st,x.id=o.id->x.cd=o.cd
end Go.Proofs.YtpbepnpnpopmfaaGreat.Plain
namespace Go.Proofs.YtpbepnpnpopmfaaGreat.Plain
set_option linter.unusedVariables false
structure FgA(B:Bd)(i:Nat):Prop where
 nd:(B.att.take i).Nodup
 own:∀a∈B.att.take i,a∈B.own
theorem nodup_take{α:Type}{l:List α}(i:Nat)(h:l.Nodup):(l.take i).Nodup:=by
 have:=List.take_append_drop i l
 rw[<-this] at h
 exact nodup_append_left h
theorem take_snoc{α:Type}{l:List α}{i:Nat}{x:α}(h:l[i]? =some x):l.take (i+1)=l.take i++[x]:=by
 rw[List.take_add_one,h]
 rfl
theorem FgA.step{B:Bd}{i:Nat}(h:FgA B i){x:Int}(hx:B.att[i]? =some x)(h1:x∉B.att.take i)(h2:x∈B.own):FgA B (i+1):=by
 refine⟨?_,?_⟩
 ·rw[take_snoc hx]
  exact List.nodup_append.2 ⟨h.nd,by simp,fun a ha b hb e=>by simp at hb;subst hb;subst e;exact h1 ha⟩
 intro a ha;rw[take_snoc hx] at ha
 rcases List.mem_append.1 ha with h3|h3
 ·exact h.own a h3
 simp at h3;subst h3;exact h2
theorem fgA_fail{B:Bd}{i:Nat}{x:Int}(hx:B.att[i]? =some x)(h:x∈B.att.take i\/x∉B.own):¬Fgt B:=by
 intro hf;rcases h with h|h
 ·have h1:=nodup_take (i+1) hf.nd
  rw[take_snoc hx] at h1
  exact(List.nodup_append.1 h1).2.2 _ h _ (by simp) rfl
 exact h (hf.own x (List.mem_of_getElem? hx))
structure FgS(B:Bd)(i:Nat)(S:List Int):Prop where
 mem:∀z,z∈S↔(z∈B.att/\z∉(B.bl.take i).map Bk.at')\/∃y∈B.bl.take i,z= -y.bl
 na:((B.bl.take i).map Bk.at').Nodup
 nb:((B.bl.take i).map Bk.bl).Nodup
 all:∀x∈B.bl.take i,x.at'∈B.att/\x.bl∈B.oth
theorem FgS.start(B:Bd):FgS B 0 B.att.reverse:=⟨fun z=>by simp,by simp,by simp,by simp⟩
theorem FgS.step{B:Bd}{i:Nat}{S:List Int}(h:FgS B i S)(hpa:∀a∈B.att,1<=a)(hpb:∀b∈B.oth,1<=b){x:Bk}(hx:B.bl[i]? =some x){nb:Int}(hnb:x.bl∈B.oth->nb= -x.bl)(c1:x.at'∈S)(c2:nb∉S)(c3:x.at'∈B.att)(c4:x.bl∈B.oth):FgS B (i+1) (nb::S.filter (fun y=>y !=x.at')):=by
 have hn:=hnb c4;subst hn;have p1:=hpa _ c3;have p2:=hpb _ c4
 have a1:x.at'∉(B.bl.take i).map Bk.at':=by
  rcases(h.mem _).1 c1 with h1|⟨y,hy,he⟩
  ·exact h1.2
  have:=hpb _ (h.all y hy).2
  omega
 have b1:x.bl∉(B.bl.take i).map Bk.bl:=fun hm=>by
  obtain⟨y,hy,he⟩:=List.mem_map.1 hm
  exact c2 ((h.mem _).2 (.inr ⟨y,hy,by rw[he]⟩))
 refine⟨fun z=> ?_,?_,?_,?_⟩
 ·rw[take_snoc hx,List.map_append,List.mem_cons,List.mem_filter,h.mem z]
  simp only[List.map_cons,List.map_nil,List.mem_append,List.mem_singleton,not_or]
  constructor
  ·rintro(rfl|⟨h1|⟨y,hy,he⟩,h2⟩)
   ·exact .inr ⟨x,.inr rfl,rfl⟩
   ·exact .inl ⟨h1.1,h1.2,by simpa using h2⟩
   exact .inr ⟨y,.inl hy,he⟩
  rintro(⟨h1,h2,h3⟩|⟨y,hy|rfl,he⟩)
  ·exact .inr ⟨.inl ⟨h1,h2⟩,by simpa using h3⟩
  ·have:=hpb _ (h.all y hy).2
   exact .inr ⟨.inr ⟨y,hy,he⟩,by simp;omega⟩
  exact .inl he
 ·rw[take_snoc hx,List.map_append]
  exact List.nodup_append.2 ⟨h.na,by simp,fun a ha b hb e=>by simp at hb;subst hb;subst e;exact a1 ha⟩
 ·rw[take_snoc hx,List.map_append]
  exact List.nodup_append.2 ⟨h.nb,by simp,fun a ha b hb e=>by simp at hb;subst hb;subst e;exact b1 ha⟩
 intro y hy;rw[take_snoc hx] at hy
 rcases List.mem_append.1 hy with h3|h3
 ·exact h.all y h3
 simp at h3;subst h3;exact⟨c3,c4⟩
theorem FgS.fail{B:Bd}{i:Nat}{S:List Int}(h:FgS B i S)(hpa:∀a∈B.att,1<=a)(hpb:∀b∈B.oth,1<=b){x:Bk}(hx:B.bl[i]? =some x){nb:Int}(hnb:x.bl∈B.oth->nb= -x.bl)(hf:x.at'∉S\/nb∈S\/x.at'∉B.att\/x.bl∉B.oth):¬Fgt B:=by
 intro hg;have hxb:=hg.bl x (List.mem_of_getElem? hx);have hn:=hnb hxb.2;subst hn;have p1:=hpa _ hxb.1;have p2:=hpb _ hxb.2
 have a1:x.at'∉(B.bl.take i).map Bk.at':=fun hm=>by
  have h1:=nodup_take (i+1) hg.na;rw[<-List.map_take,take_snoc hx,List.map_append] at h1
  exact(List.nodup_append.1 h1).2.2 _ hm _ (by simp) rfl
 have b1:x.bl∉(B.bl.take i).map Bk.bl:=fun hm=>by
  have h1:=nodup_take (i+1) hg.nb;rw[<-List.map_take,take_snoc hx,List.map_append] at h1
  exact(List.nodup_append.1 h1).2.2 _ hm _ (by simp) rfl
 rcases hf with hf|hf|hf|hf
 ·exact hf ((h.mem _).2 (.inl ⟨hxb.1,a1⟩))
 ·rcases(h.mem _).1 hf with⟨h1,_⟩|⟨y,hy,he⟩
  ·have:=hpa _ h1
   omega
  exact b1 (List.mem_map.2 ⟨y,hy,by omega⟩)
 ·exact hf hxb.1
 exact hf hxb.2
theorem FgS.done{B:Bd}{S:List Int}(ha:FgA B B.att.length)(h:FgS B B.bl.length S):Fgt B:=by
 have e1:=List.take_length (l:=B.att);have e2:=List.take_length (l:=B.bl)
 refine⟨?_,?_,?_,?_,?_⟩
 ·have:=ha.nd;rwa [e1] at this
 ·have:=ha.own;rwa [e1] at this
 ·have:=h.na;rwa [e2] at this
 ·have:=h.nb;rwa [e2] at this
 have:=h.all;rwa [e2] at this
end Go.Proofs.YtpbepnpnpopmfaaGreat.Plain
namespace Go.Proofs.YtpbepnpnpopmfaaGreat.Plain
set_option linter.unusedVariables false
theorem pr_count(p q i:Int)(l:List Int):(pr p l).count (i,q)=if p=q then l.count i else 0:=by
 induction l with
 |nil=>simp[pr]
 |cons a l ih=>
  have h:pr p (a::l)=(a,p)::pr p l:=rfl;rw[h,List.count_cons,List.count_cons,ih]
  by_cases e:p=q
  ·by_cases e2:a=i
   ·simp[e,e2]
   have:((a,p)==(i,q))=false:=beq_false_of_ne (fun h=>e2 (congrArg Prod.fst h))
   rw[this];simp[e,e2]
  have:((a,p)==(i,q))=false:=beq_false_of_ne (fun h=>e (congrArg Prod.snd h))
  rw[this];simp[e]
theorem prs_count(b:Bd)(p:Nat)(hp:p<2)(i:Int):b.prs.count (i,(p:Int))=(b.seat p).all.count i+(spr b.st).count (i,(p:Int)):=by
 unfold Bd.prs;rw[List.count_append,List.count_append,pr_count,pr_count]
 have:p=0\/p=1:=by omega
 rcases this with rfl|rfl
 ·simp[Bd.seat,spr]
 simp[Bd.seat,spr]
theorem zpre_count(S:Se){z:Nat}(h:z<4)(i:Int):(zpre S (z+1)).count i=(zpre S z).count i+(S.zs z).count i:=by
 rw[zpre_succ S h,List.count_append]
theorem spr_count(l:List It)(k:Nat)(x:It)(h:l[k]? =some x)(ht: -1<=x.tr)(i q:Int):(spr (l.take (k+1))).count (i,q)=(spr (l.take k)).count (i,q)+if x.tr= -1/\x.id=i/\x.pl=q then 1 else 0:=by
 rw[spr_snoc l k x h]
 by_cases h1:x.tr<0
 ·rw[if_pos h1,List.count_append,List.count_singleton]
  have h2:x.tr= -1:=by omega
  congr 1
  by_cases h3:x.id=i/\x.pl=q
  ·simp[h2,h3]
  have:((x.id,x.pl)==(i,q))=false:=beq_false_of_ne (fun h=>h3 ⟨congrArg Prod.fst h,congrArg Prod.snd h⟩)
  rw[this];simp[h2];intro a b;exact absurd ⟨a,b⟩ h3
 rw[if_neg h1,if_neg (by omega)]
 rfl
def stF(b:Bd)(k:Nat):Prop:=∀x∈cst (b.st.take k),∃(i:Nat) (o:Ob),b.ob[i]? =some o/\o.id=x.id/\(∀(j:Nat) (q:Ob),j<i->b.ob[j]? =some q->q.id≠x.id)/\o.cd=x.cd
theorem cst_snoc(l:List It)(k:Nat)(x:It)(h:l[k]? =some x):cst (l.take (k+1))=if x.tr<0 then cst (l.take k)++[x] else cst (l.take k):=by
 unfold cst;rw[List.take_add_one,h,Option.toList_some,List.filter_append]
 split
 ·rename_i h1;simp[h1]
 rename_i h1;simp[h1]
theorem stF_skip{b:Bd}{k:Nat}{x:It}(h:b.st[k]? =some x)(ht:¬x.tr<0)(hf:stF b k):stF b (k+1):=by
 intro y hy;rw[cst_snoc _ _ _ h,if_neg ht] at hy
 exact hf y hy
theorem stF_step{b:Bd}{k:Nat}{x:It}(h:b.st[k]? =some x)(ht:x.tr<0)(hf:stF b k){i:Nat}{o:Ob}(ho:b.ob[i]? =some o)(hid:o.id=x.id)(hfirst:∀(j:Nat) (q:Ob),j<i->b.ob[j]? =some q->q.id≠x.id)(hcd:o.cd=x.cd):stF b (k+1):=by
 intro y hy;rw[cst_snoc _ _ _ h,if_pos ht] at hy
 rcases List.mem_append.1 hy with h1|h1
 ·exact hf y h1
 simp at h1
 subst h1
 exact⟨i,o,ho,hid,hfirst,hcd⟩
theorem stF_fail{b:Bd}{k:Nat}{x:It}(h:b.st[k]? =some x)(ht:x.tr<0)(hn:(∀(j:Nat) (q:Ob),b.ob[j]? =some q->q.id≠x.id)\/∃(i:Nat) (o:Ob),b.ob[i]? =some o/\o.id=x.id/\(∀(j:Nat) (q:Ob),j<i->b.ob[j]? =some q->q.id≠x.id)/\o.cd≠x.cd):¬Fnd b:=by
 intro hf;have hx:x∈cst b.st:=List.mem_filter.2 ⟨List.mem_of_getElem? h,by simpa using ht⟩
 obtain⟨i,o,h1,h2,h3,h4⟩:=hf.st x hx
 rcases hn with hn|⟨i',o',g1,g2,g3,g4⟩
 ·exact hn i o h1 h2
 rcases Nat.lt_trichotomy i i' with e|e|e
 ·exact g3 i o e h1 h2
 ·subst e
  rw[h1] at g1
  simp at g1
  subst g1;exact g4 h4
 exact h3 i' o' e g1 g2
def okF(b:Bd)(i:Nat)(o:Ob):Prop:=vO o=true/\rise b.ob i o/\b.prs.count (o.id,o.ow)=1
theorem cst_all(b:Bd):b.st.take b.st.length=b.st:=List.take_length
structure FrA(b:Bd)(i:Nat):Prop where
 nd:∀a∈b.att.take i,b.att.count a=1/\b.own.count a=1
theorem nodup_count{l:List Int}:l.Nodup↔∀a∈l,l.count a=1:=by
 constructor
 ·intro h a ha
  rw[h.count,if_pos ha]
 intro h;rw[List.nodup_iff_count];intro a
 by_cases ha:a∈l
 ·rw[h a ha]
  omega
 rw[List.count_eq_zero_of_not_mem ha];omega
theorem FrA.step{b:Bd}{i:Nat}(h:FrA b i){x:Int}(hx:b.att[i]? =some x)(h1:b.att.count x=1)(h2:b.own.count x=1):FrA b (i+1):=⟨fun a ha=>by
 rw[take_snoc hx] at ha
 rcases List.mem_append.1 ha with h3|h3
 ·exact h.nd a h3
 simp at h3;subst h3;exact⟨h1,h2⟩⟩
theorem frA_fail{b:Bd}{x:Int}{i:Nat}(hx:b.att[i]? =some x)(hnd:b.own.Nodup)(h:b.att.count x≠1\/b.own.count x≠1):¬Fgt b:=by
 intro hf;have hm:=List.mem_of_getElem? hx;rcases h with h|h
 ·exact h (nodup_count.1 hf.nd x hm)
 exact h (nodup_count.1 hnd x (hf.own x hm))
structure FrB(b:Bd)(i:Nat):Prop where
 in':∀x∈b.bl.take i,b.att.count x.at' =1/\b.oth.count x.bl=1
 na:((b.bl.take i).map Bk.at').Nodup
 nb:((b.bl.take i).map Bk.bl).Nodup
theorem FrB.start(b:Bd):FrB b 0:=⟨by simp,by simp,by simp⟩
theorem FrB.step{b:Bd}{i:Nat}(h:FrB b i){x:Bk}(hx:b.bl[i]? =some x)(h1:b.att.count x.at' =1)(h2:b.oth.count x.bl=1)(h3:∀(j:Nat) (y:Bk),j<i->b.bl[j]? =some y->y.at'≠x.at'/\y.bl≠x.bl):FrB b (i+1):=by
 have h4:∀y∈b.bl.take i,y.at'≠x.at'/\y.bl≠x.bl:=fun y hy=>by
  obtain⟨j,hj⟩:=List.getElem?_of_mem hy
  rw[List.getElem?_take] at hj
  split at hj
  ·rename_i hlt;exact h3 j y hlt hj
  cases hj
 refine⟨?_,?_,?_⟩
 ·intro y hy
  rw[take_snoc hx] at hy
  rcases List.mem_append.1 hy with g|g
  ·exact h.in' y g
  simp at g;subst g;exact⟨h1,h2⟩
 ·rw[take_snoc hx,List.map_append]
  refine List.nodup_append.2 ⟨h.na,by simp,fun a ha c hc e=> ?_⟩;simp at hc
  subst hc;subst e
  obtain⟨y,hy,he⟩:=List.mem_map.1 ha
  exact(h4 y hy).1 he
 rw[take_snoc hx,List.map_append];refine List.nodup_append.2 ⟨h.nb,by simp,fun a ha c hc e=> ?_⟩;simp at hc
 subst hc;subst e
 obtain⟨y,hy,he⟩:=List.mem_map.1 ha
 exact(h4 y hy).2 he
theorem frB_fail{b:Bd}{x:Bk}{i:Nat}(hx:b.bl[i]? =some x)(hnd:b.oth.Nodup)(h:b.att.count x.at'≠1\/b.oth.count x.bl≠1\/∃(j:Nat) (y:Bk),j<i/\b.bl[j]? =some y/\(y.at' =x.at'\/y.bl=x.bl)):¬Fgt b:=by
 intro hf;have hm:=List.mem_of_getElem? hx;rcases h with h|h|⟨j,y,hj,hy,h⟩
 ·exact h (nodup_count.1 hf.nd _ (hf.bl x hm).1)
 ·exact h (nodup_count.1 hnd _ (hf.bl x hm).2)
 have hil:=(List.getElem?_eq_some_iff.1 hx).1;have hjl:=(List.getElem?_eq_some_iff.1 hy).1;have e1:=(List.getElem?_eq_some_iff.1 hx).2;have e2:=(List.getElem?_eq_some_iff.1 hy).2;rcases h with h|h
 ·have:=List.pairwise_iff_getElem.1 hf.na j i (by simpa using hjl) (by simpa using hil) hj
  rw[List.getElem_map,List.getElem_map,e1,e2] at this
  exact this h
 have:=List.pairwise_iff_getElem.1 hf.nb j i (by simpa using hjl) (by simpa using hil) hj
 rw[List.getElem_map,List.getElem_map,e1,e2] at this
 exact this h
theorem FrB.done{b:Bd}(ha:FrA b b.att.length)(h:FrB b b.bl.length):Fgt b:=by
 have e1:b.att.take b.att.length=b.att:=List.take_length;have e2:b.bl.take b.bl.length=b.bl:=List.take_length;have ha:=ha.nd;have hb:=h.in';have hna:=h.na;have hnb:=h.nb;rw[e1] at ha
 rw[e2] at hb hna hnb
 refine⟨nodup_count.2 (fun a h=>(ha a h).1),fun a h=> ?_,hna,hnb,fun x hx=>⟨?_,?_⟩⟩
 ·have:=(ha a h).2
  exact List.count_pos_iff.1 (by omega)
 ·have:=(hb x hx).1
  exact List.count_pos_iff.1 (by omega)
 have:=(hb x hx).2
 exact List.count_pos_iff.1 (by omega)
theorem vO_ow{o:Ob}(h:vO o=true):0<=o.ow/\o.ow<=1:=by
 unfold vO at h
 have h:=of_decide_eq_true h;omega
end Go.Proofs.YtpbepnpnpopmfaaGreat.Plain
