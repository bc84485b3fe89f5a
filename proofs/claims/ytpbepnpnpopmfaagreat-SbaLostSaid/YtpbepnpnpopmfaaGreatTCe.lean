/- The card of an object, by the code and by the reference. -/
import Derived.Test.YtpbepnpnpopmfaaGreatTCd
import Derived.Deep.DeepCutAuto
import Derived.LoopTactic
import Derived.Deep.MidRow
open Go.RowKit Go.Proofs.YtpbepnpnpopmfaaGreat
set_option maxRecDepth 100000
set_option maxHeartbeats 4000000
namespace Go.Proofs.YtpbepnpnpopmfaaGreat
open Plain
set_option linter.unusedVariables false
set_option linter.unusedSimpArgs false

def CdR(w:World)(x:Cd×List (Int×Nat)):Prop:=(∃ef:List Ef,Rw efc 5 w (.slice x.1.ea x.1.el x.1.ec) ef)/\∃ts:List (Int×Sl),Rw trc 2 w (.slice x.1.ta x.1.tl x.1.tc) ts/\ts.map (fun t=>(t.1,t.2.n))=x.2/\∀t∈ts,∃l:List Ef,Rw efc 5 w t.2.v l
structure CsR(w:World)(v:Value)(cs:List (Cd×List (Int×Nat))):Prop where
 row:CRow w v (cs.map Prod.fst)
 each:∀x∈cs,CdR w x
theorem CdR.below{w w':World}{x:Cd×List (Int×Nat)}(h:CdR w x)(hb:Below w.heap.size w w'):CdR w' x:=by
 obtain⟨⟨ef,h1⟩,ts,h2,h3,h4⟩:=h
 exact⟨⟨ef,h1.below hb⟩,ts,h2.below hb,h3,fun t ht=>by
  obtain⟨l,hl⟩:=h4 t ht
  exact⟨l,hl.below hb⟩⟩
theorem CsR.below{w w':World}{v:Value}{cs:List (Cd×List (Int×Nat))}(h:CsR w v cs)(hb:Below w.heap.size w w'):CsR w' v cs:=⟨h.row.below hb,fun x hx=>(h.each x hx).below hb⟩
def Lt(cs:List (Cd×List (Int×Nat))):Prop:=cs.length<=12/\∀x∈cs,x.1.el<=5/\x.2.length<=3/\∀t∈x.2,t.2<=5
def nox:Cd×List (Int×Nat):=(noCd,[])
def cardX(cs:List (Cd×List (Int×Nat)))(n:Int):Cd×List (Int×Nat):=if n<0 then nox else cs.getD n.toNat nox
theorem cardX_fst(cs:List (Cd×List (Int×Nat)))(n:Int):cardOf (cs.map Prod.fst) n=(cardX cs n).1:=by
 unfold cardOf cardX
 split
 ·rfl
 rw[List.getD_eq_getElem?_getD,List.getD_eq_getElem?_getD,List.getElem?_map]
 cases cs[n.toNat]? <;>rfl
theorem cardX_R{w:World}{v:Value}{cs:List (Cd×List (Int×Nat))}(h:CsR w v cs)(n:Int):CdR w (cardX cs n):=by
 have h0:CdR w nox:=⟨⟨[],Rw.nil _⟩,[],Rw.nil _,rfl,fun t ht=>by cases ht⟩;unfold cardX
 split
 ·exact h0
 rw[List.getD_eq_getElem?_getD]
 cases hc:cs[n.toNat]? with
 |none=>exact h0
 |some x=>exact h.each x (List.mem_of_getElem? hc)
theorem cardX_lt{cs:List (Cd×List (Int×Nat))}(h:Lt cs)(n:Int):(cardX cs n).1.el<=5/\(cardX cs n).2.length<=3/\∀t∈(cardX cs n).2,t.2<=5:=by
 have h0:nox.1.el<=5/\nox.2.length<=3/\∀t∈nox.2,t.2<=5:=⟨by simp[nox,noCd],by simp[nox],fun t ht=>by simp[nox] at ht⟩
 unfold cardX
 split
 ·exact h0
 rw[List.getD_eq_getElem?_getD]
 cases hc:cs[n.toNat]? with
 |none=>exact h0
 |some x=>exact h.2 x (List.mem_of_getElem? hc)
def whens(x:Cd×List (Int×Nat)):List Int:=x.2.map Prod.fst
theorem lookc(v:Value)(cs:List Cd)(o:Ob)(c:Cd)(n1 n2:Nat)(w:World)(hs:CRow w v cs)(hc:cardOf cs o.cd=c)(h1:c.el=n1)(h2:c.tl=n2):Calls Tryz.prog 112 #[v,.agg #[.int .i64 o.id,.int .i64 o.cd,.int .i64 o.ow,.int .i64 o.po,.int .i64 o.tg,.int .i64 o.da,.int .i64 o.co,.int .i64 o.pp,.int .i64 o.pt,.bool o.ta,.bool o.si,.bool o.dm]] w fun e w' =>e= .returned (.agg #[.string c.nm,.int .i64 c.kd,.int .i64 c.c0,.int .i64 c.c1,.int .i64 c.c2,.int .i64 c.c3,.int .i64 c.c4,.int .i64 c.mc,.int .i64 c.pw,.int .i64 c.tg,.int .i64 c.kw,.slice c.ea n1 c.ec,.slice c.ta n2 c.tc,.int .i64 c.ra])/\Below w.heap.size w w':=by
 subst hc h1 h2;exact look v cs o w hs
theorem ocard(v:Value)(cs:List (Cd×List (Int×Nat)))(o:Ob)(w:World)(h:CsR w v cs)(hl:Lt cs):Calls Tryz.prog 116 #[v,.agg #[.int .i64 o.id,.int .i64 o.cd,.int .i64 o.ow,.int .i64 o.po,.int .i64 o.tg,.int .i64 o.da,.int .i64 o.co,.int .i64 o.pp,.int .i64 o.pt,.bool o.ta,.bool o.si,.bool o.dm]] w fun e w' =>∃(c':Cd) (m:List (Int×Sl)),e= .returned (.agg #[.string c'.nm,.int .i64 c'.kd,.int .i64 c'.c0,.int .i64 c'.c1,.int .i64 c'.c2,.int .i64 c'.c3,.int .i64 c'.c4,.int .i64 c'.mc,.int .i64 c'.pw,.int .i64 c'.tg,.int .i64 c'.kw,.slice c'.ea c'.el c'.ec,.slice c'.ta m.length c'.tc,.int .i64 c'.ra])/\Rw trc 2 w' (.slice c'.ta m.length c'.tc) m/\m.map Prod.fst=whens (cardX cs o.cd)/\(∀b,(Value.slice c'.ta m.length c'.tc).ownBlock=some b->w.heap.size<=b)/\Below w.heap.size w w':=by
 have HS:=Hd h;have HL:=Hd hl;clear h hl;go_enter Tryz.func116,Tryz.ntmps116
 go_upto_region 1 with fail
 obtain⟨wz,hwz⟩:∃W,W=(w.alloc (.cells #[.int .i64 o.id,.int .i64 o.cd,.int .i64 o.ow,.int .i64 o.po,.int .i64 o.tg,.int .i64 o.da,.int .i64 o.co,.int .i64 o.pp,.int .i64 o.pt,.bool o.ta,.bool o.si,.bool o.dm] 47)).alloc (.cells #[.string ⟨#[]⟩,.int .i64 0,.int .i64 0,.int .i64 0,.int .i64 0,.int .i64 0,.int .i64 0,.int .i64 0,.int .i64 0,.int .i64 0,.int .i64 0,.slice none 0 0,.slice none 0 0,.int .i64 0] 64):=⟨_,rfl⟩
 change Code.wp Tryz.prog _ _ _ ((w.alloc (.cells #[.int .i64 o.id,.int .i64 o.cd,.int .i64 o.ow,.int .i64 o.po,.int .i64 o.tg,.int .i64 o.da,.int .i64 o.co,.int .i64 o.pp,.int .i64 o.pt,.bool o.ta,.bool o.si,.bool o.dm] 47)).alloc (.cells #[.string ⟨#[]⟩,.int .i64 0,.int .i64 0,.int .i64 0,.int .i64 0,.int .i64 0,.int .i64 0,.int .i64 0,.int .i64 0,.int .i64 0,.int .i64 0,.slice none 0 0,.slice none 0 0,.int .i64 0] 64));rw[<-hwz];have b1:Below w.heap.size w (w.alloc (.cells #[.int .i64 o.id,.int .i64 o.cd,.int .i64 o.ow,.int .i64 o.po,.int .i64 o.tg,.int .i64 o.da,.int .i64 o.co,.int .i64 o.pp,.int .i64 o.pt,.bool o.ta,.bool o.si,.bool o.dm] 47)):=(Below.refl _ _).alloc (Nat.le_refl _) _;have b2:Below (w.alloc (.cells #[.int .i64 o.id,.int .i64 o.cd,.int .i64 o.ow,.int .i64 o.po,.int .i64 o.tg,.int .i64 o.da,.int .i64 o.co,.int .i64 o.pp,.int .i64 o.pt,.bool o.ta,.bool o.si,.bool o.dm] 47)).heap.size (w.alloc (.cells #[.int .i64 o.id,.int .i64 o.cd,.int .i64 o.ow,.int .i64 o.po,.int .i64 o.tg,.int .i64 o.da,.int .i64 o.co,.int .i64 o.pp,.int .i64 o.pt,.bool o.ta,.bool o.si,.bool o.dm] 47)) wz:=by rw[hwz];exact(Below.refl _ _).alloc (Nat.le_refl _) _
 have hO:Ro wz w.heap.size #[.int .i64 o.id,.int .i64 o.cd,.int .i64 o.ow,.int .i64 o.po,.int .i64 o.tg,.int .i64 o.da,.int .i64 o.co,.int .i64 o.pp,.int .i64 o.pt,.bool o.ta,.bool o.si,.bool o.dm] 47:=(Ro.new _ _ _).below b2;have HZ:Hid (Ro wz (w.heap.size+1) #[.string ⟨#[]⟩,.int .i64 0,.int .i64 0,.int .i64 0,.int .i64 0,.int .i64 0,.int .i64 0,.int .i64 0,.int .i64 0,.int .i64 0,.int .i64 0,.slice none 0 0,.slice none 0 0,.int .i64 0] 64):=Hd (by rw[hwz,show w.heap.size+1=(w.alloc (.cells #[.int .i64 o.id,.int .i64 o.cd,.int .i64 o.ow,.int .i64 o.po,.int .i64 o.tg,.int .i64 o.da,.int .i64 o.co,.int .i64 o.pp,.int .i64 o.pt,.bool o.ta,.bool o.si,.bool o.dm] 47)).heap.size by simp];exact heap_alloc_new _ _);have HB:Hid (Below w.heap.size w wz):=Hd (below_via b1 b2);have d0:wz.cell? ⟨w.heap.size,0,none⟩=some (.int .i64 o.id):=hO.cell 0;have d1:wz.cell? ⟨w.heap.size,1,none⟩=some (.int .i64 o.cd):=hO.cell 1;have d2:wz.cell? ⟨w.heap.size,2,none⟩=some (.int .i64 o.ow):=hO.cell 2;have d3:wz.cell? ⟨w.heap.size,3,none⟩=some (.int .i64 o.po):=hO.cell 3;have d4:wz.cell? ⟨w.heap.size,4,none⟩=some (.int .i64 o.tg):=hO.cell 4;have d5:wz.cell? ⟨w.heap.size,5,none⟩=some (.int .i64 o.da):=hO.cell 5;have d6:wz.cell? ⟨w.heap.size,6,none⟩=some (.int .i64 o.co):=hO.cell 6;have d7:wz.cell? ⟨w.heap.size,7,none⟩=some (.int .i64 o.pp):=hO.cell 7;have d8:wz.cell? ⟨w.heap.size,8,none⟩=some (.int .i64 o.pt):=hO.cell 8;have d9:wz.cell? ⟨w.heap.size,9,none⟩=some (.bool o.ta):=hO.cell 9;have d10:wz.cell? ⟨w.heap.size,10,none⟩=some (.bool o.si):=hO.cell 10;have d11:wz.cell? ⟨w.heap.size,11,none⟩=some (.bool o.dm):=hO.cell 11;clear hwz b1 b2 hO
 obtain⟨⟨ef,hef⟩,ts,hts,htw,htr⟩:=cardX_R HS.o o.cd
 obtain⟨l1,l2,l3⟩:=cardX_lt HL.o o.cd
 have hc:=cardX_fst cs o.cd
 obtain⟨⟨c,ws⟩,hX⟩:∃X,cardX cs o.cd=X:=⟨_,rfl⟩
 rw[hX] at hef hts htw l1 l2 l3 hc
 simp only at hef hts htw l1 l2 l3 hc
 have e1:c.el=ef.length:=Rw.length hef;have e2:c.tl=ts.length:=Rw.length hts;rw[e1] at hef l1
 rw[e2] at hts
 have HEF:=Hd hef;have HTS:=Hd hts;have HE1:=Hd e1;have HE2:=Hd e2;have HC:=Hd hc;have HWS:Hid (ts.map Prod.fst=whens (cardX cs o.cd)):=Hd (by rw[hX];unfold whens;rw[<-htw,List.map_map];rfl)
 have HTR:Hid (∀t∈ts,∃l:List Ef,Rw efc 5 w t.2.v l/\l.length<=1000):=Hd (fun t ht=>by
  obtain⟨l,hl⟩:=htr t ht
  refine⟨l,hl,?_⟩
  obtain⟨q,⟨ta,tn,tc⟩⟩:=t
  have h1:tn=l.length:=Rw.length (show Rw efc 5 w (.slice ta tn tc) l from hl);have h2:=l3 (q,tn) (by rw[<-htw];exact List.mem_map.2 ⟨_,ht,rfl⟩);simp only at h2
  omega)
 have HLL:Hid (ef.length<=1000/\ts.length<=1000):=Hd ⟨by omega,by have:=congrArg List.length htw;simp at this;omega⟩;clear hef hts htw htr l1 l2 l3 hc hX e1 e2;go_wp2_with fail
 with_reducible refine(lookc v _ o c ef.length ts.length _ (HS.o.row.below HB.o) HC.o HE1.o HE2.o).mono ?_
 rintro e w1 ⟨rfl,hb⟩;replace HB:=Hd (below_via HB.o hb);replace HZ:=Hd (HZ.o.below hb);clear hb d0 d1 d2 d3 d4 d5 d6 d7 d8 d9 d10 d11;go_wp2_with fail
 with_reducible refine(ccopy c ef ts _ (HEF.o.below HB.o) HLL.o.1 (HTS.o.below HB.o) HLL.o.2 (fun t ht=>by obtain⟨l,h1,h2⟩:=HTR.o t ht;exact⟨l,h1.below HB.o,h2⟩)).mono ?_
 have hs1:=HZ.o.lt;rintro e w2 ⟨ea',ec',ta',tc',m,rfl,hr,hm,hbl,hb⟩;replace HB:=Hd (below_via HB.o hb);replace HZ:=Hd (HZ.o.below hb);have HR:=Hd hr;have HM:=Hd hm;have HBL:Hid (∀b,(Value.slice ta' ts.length tc').ownBlock=some b->w.heap.size+1<b):=Hd (fun b h=>by have:=hbl b h;omega);clear hb hr hm hbl hs1;go_wp2_with (refine wpList_store_cd rfl {c with ea:=ea',el:=ef.length,ec:=ec',ta:=ta',tl:=ts.length,tc:=tc'} _ _ rfl rfl rfl HZ.o rfl ?_)
 intro w3 hw3;have hon:Onl [w.heap.size+1] w2 w3:=by rw[hw3.out];exact Onl.setRow (Onl.refl _ _) (.inl (by simp)) _
 obtain⟨c',hc'⟩:∃c':Cd,c' ={c with ea:=ea',el:=ef.length,ec:=ec',ta:=ta',tl:=ts.length,tc:=tc'}:=⟨_,rfl⟩
 have HZ2:Hid (Ro w3 (w.heap.size+1) c'.cells.toArray 64):=Hd (by rw[hc',hw3.out];exact Ro.row HZ.o _);have hml:ts.length=m.length:=by have:=congrArg List.length HM.o;simpa using this.symm
 have HR3:Hid (Rw trc 2 w3 (.slice ta' ts.length tc') m):=Hd (HR.o.onl hon (fun b hb hm=>by have:=HBL.o b hb;simp at hm;omega));replace HB:Hid (Below w.heap.size w w3):=Hd (belowOnl HB.o hon (by simp) HB.o.size);clear hon HR HZ;rw[hml] at HR3 HBL
 have HML:=Hd hml;have HC2:=Hd hc';clear hml hc' hw3;go_wp2_with fail
 exact bodyPost_ret (results_cd rfl _ _ c' HZ2.o rfl) rfl ⟨c',m,by rw[show m.length=c'.tl by rw[HC2.o];exact HML.o.symm];rfl,by rw[HC2.o];exact HR3.o,HM.o.trans HWS.o,fun b hb=>Nat.le_of_lt (Nat.lt_of_le_of_lt (Nat.le_succ _) (HBL.o b (by rw[HC2.o] at hb;exact hb))),HB.o⟩
theorem rcard(v:Value)(cs:List Cd)(o:Ob)(w:World)(hs:CRow w v cs):Calls Tryz.prog 115 #[v,.agg #[.int .i64 o.id,.int .i64 o.cd,.int .i64 o.ow,.int .i64 o.po,.int .i64 o.tg,.int .i64 o.da,.int .i64 o.co,.int .i64 o.pp,.int .i64 o.pt,.bool o.ta,.bool o.si,.bool o.dm]] w fun e w' =>e= .returned (.agg #[.string (cardOf cs o.cd).nm,.int .i64 (cardOf cs o.cd).kd,.int .i64 (cardOf cs o.cd).c0,.int .i64 (cardOf cs o.cd).c1,.int .i64 (cardOf cs o.cd).c2,.int .i64 (cardOf cs o.cd).c3,.int .i64 (cardOf cs o.cd).c4,.int .i64 (cardOf cs o.cd).mc,.int .i64 (cardOf cs o.cd).pw,.int .i64 (cardOf cs o.cd).tg,.int .i64 (cardOf cs o.cd).kw,.slice (cardOf cs o.cd).ea (cardOf cs o.cd).el (cardOf cs o.cd).ec,.slice (cardOf cs o.cd).ta (cardOf cs o.cd).tl (cardOf cs o.cd).tc,.int .i64 (cardOf cs o.cd).ra])/\Below w.heap.size w w':=by
 obtain⟨m1,a1,c1,rfl,f1⟩:=hs.form
 have F1:=Hd f1;clear hs f1
 by_cases h1:o.cd<0
 ·have e1:=Hd (cardOf_neg (cs:=cs) h1)
  go_enter Tryz.func115,Tryz.ntmps115;go_wp2_with fail
  exact bodyPost_ret (v:= .agg #[.string ⟨#[]⟩,.int .i64 0,.int .i64 0,.int .i64 0,.int .i64 0,.int .i64 0,.int .i64 0,.int .i64 0,.int .i64 0,.int .i64 0,.int .i64 0,.slice none 0 0,.slice none 0 0,.int .i64 0]) (by simp[results,Tryz.results115,go_sem]) rfl ⟨by rw[e1.out];rfl,by go_grown⟩
 by_cases h2:(cs.length:Int)<=o.cd
 ·have e1:=Hd (cardOf_big h2)
  go_enter Tryz.func115,Tryz.ntmps115;go_wp2_with fail
  exact bodyPost_ret (v:= .agg #[.string ⟨#[]⟩,.int .i64 0,.int .i64 0,.int .i64 0,.int .i64 0,.int .i64 0,.int .i64 0,.int .i64 0,.int .i64 0,.int .i64 0,.int .i64 0,.slice none 0 0,.slice none 0 0,.int .i64 0]) (by simp[results,Tryz.results115,go_sem]) rfl ⟨by rw[e1.out];rfl,by go_grown⟩
 obtain⟨k,hk⟩:∃k:Nat,o.cd=(k:Int):=⟨o.cd.toNat,by omega⟩
 obtain⟨oid,ocd,oow,opo,otg,oda,oco,opp,opt,ota,osi,odm⟩:=o
 simp only at hk h1 h2
 subst hk;have hlt:k<cs.length:=by omega
 obtain⟨b1,o1,rfl,hb1,hc1⟩:=F1.out (by omega)
 obtain⟨c,hc⟩:∃c,cs[k]? =some c:=⟨cs[k],List.getElem?_eq_getElem hlt⟩
 have e1:=Hd (cardOf_at hc);have x0:w.cell? ⟨b1,o1+k*14,none⟩=some (.string c.nm):=hc1 k c hc 0 _ rfl;have x1:w.cell? ⟨b1,o1+k*14+1,none⟩=some (.int .i64 c.kd):=(Nat.add_assoc o1 (k*14) 1).symm▸hc1 k c hc 1 _ rfl;have x2:w.cell? ⟨b1,o1+k*14+2,none⟩=some (.int .i64 c.c0):=(Nat.add_assoc o1 (k*14) 2).symm▸hc1 k c hc 2 _ rfl;have x3:w.cell? ⟨b1,o1+k*14+3,none⟩=some (.int .i64 c.c1):=(Nat.add_assoc o1 (k*14) 3).symm▸hc1 k c hc 3 _ rfl;have x4:w.cell? ⟨b1,o1+k*14+4,none⟩=some (.int .i64 c.c2):=(Nat.add_assoc o1 (k*14) 4).symm▸hc1 k c hc 4 _ rfl;have x5:w.cell? ⟨b1,o1+k*14+5,none⟩=some (.int .i64 c.c3):=(Nat.add_assoc o1 (k*14) 5).symm▸hc1 k c hc 5 _ rfl;have x6:w.cell? ⟨b1,o1+k*14+6,none⟩=some (.int .i64 c.c4):=(Nat.add_assoc o1 (k*14) 6).symm▸hc1 k c hc 6 _ rfl;have x7:w.cell? ⟨b1,o1+k*14+7,none⟩=some (.int .i64 c.mc):=(Nat.add_assoc o1 (k*14) 7).symm▸hc1 k c hc 7 _ rfl;have x8:w.cell? ⟨b1,o1+k*14+8,none⟩=some (.int .i64 c.pw):=(Nat.add_assoc o1 (k*14) 8).symm▸hc1 k c hc 8 _ rfl;have x9:w.cell? ⟨b1,o1+k*14+9,none⟩=some (.int .i64 c.tg):=(Nat.add_assoc o1 (k*14) 9).symm▸hc1 k c hc 9 _ rfl;have x10:w.cell? ⟨b1,o1+k*14+10,none⟩=some (.int .i64 c.kw):=(Nat.add_assoc o1 (k*14) 10).symm▸hc1 k c hc 10 _ rfl;have x11:w.cell? ⟨b1,o1+k*14+11,none⟩=some (.slice c.ea c.el c.ec):=(Nat.add_assoc o1 (k*14) 11).symm▸hc1 k c hc 11 _ rfl;have x12:w.cell? ⟨b1,o1+k*14+12,none⟩=some (.slice c.ta c.tl c.tc):=(Nat.add_assoc o1 (k*14) 12).symm▸hc1 k c hc 12 _ rfl;have x13:w.cell? ⟨b1,o1+k*14+13,none⟩=some (.int .i64 c.ra):=(Nat.add_assoc o1 (k*14) 13).symm▸hc1 k c hc 13 _ rfl;have n1:b1≠w.heap.size:=by omega
 have n2:b1≠w.heap.size+1:=by omega
 have i2:(k:Int)<(cs.length:Int):=by omega
 have i3:(0:Int)<=(k:Int):=by omega
 have i4:decide ((cs.length:Int)<=(k:Int))=false:=by simpa using h2
 have i5:decide (cs.length<=k)=false:=by simp;omega
 clear hc1 hc h1 h2;go_enter Tryz.func115,Tryz.ntmps115;go_wp2_with fail
 exact bodyPost_ret (v:= .agg #[.string c.nm,.int .i64 c.kd,.int .i64 c.c0,.int .i64 c.c1,.int .i64 c.c2,.int .i64 c.c3,.int .i64 c.c4,.int .i64 c.mc,.int .i64 c.pw,.int .i64 c.tg,.int .i64 c.kw,.slice c.ea c.el c.ec,.slice c.ta c.tl c.tc,.int .i64 c.ra]) (by simp[results,Tryz.results115,go_sem]) rfl ⟨by rw[e1.out],by go_grown⟩
end Go.Proofs.YtpbepnpnpopmfaaGreat
