/- The card of an object, by the code and by the reference. -/
import Derived.Test.YtpbepnpnpopmfaaTCd
import Derived.Deep.DeepCutAuto
import Derived.LoopTactic
import Derived.Deep.MidRow
namespace Go.Proofs.Ytpbepnpnpopmfaa
open Go.RowKit Plain
set_option linter.unusedVariables false
set_option linter.unusedSimpArgs false

/-- a card that can be read, with its triggers: occasions and how many effects -/
def CdR(w:World)(x:Cd×List (Int×Nat)):Prop:=(∃ef:List Ef,Rw efc 5 w (.slice x.1.ea x.1.el x.1.ec) ef)∧∃ts:List (Int×Sl),Rw trc 2 w (.slice x.1.ta x.1.tl x.1.tc) ts∧ts.map (fun t=>(t.1,t.2.n))=x.2∧∀t∈ts,∃l:List Ef,Rw efc 5 w t.2.v l
/-- cards that can be read -/
structure CsR(w:World)(v:Value)(cs:List (Cd×List (Int×Nat))):Prop where
 row:CRow w v (cs.map Prod.fst)
 each:∀x∈cs,CdR w x
theorem CdR.below{w w':World}{x:Cd×List (Int×Nat)}(h:CdR w x)(hb:Below w.heap.size w w'):CdR w' x:=by
 obtain⟨⟨ef,h1⟩,ts,h2,h3,h4⟩:=h
 exact⟨⟨ef,h1.below hb⟩,ts,h2.below hb,h3,fun t ht=>by
  obtain⟨l,hl⟩:=h4 t ht
  exact⟨l,hl.below hb⟩⟩
theorem CsR.below{w w':World}{v:Value}{cs:List (Cd×List (Int×Nat))}(h:CsR w v cs)(hb:Below w.heap.size w w'):CsR w' v cs:=⟨h.row.below hb,fun x hx=>(h.each x hx).below hb⟩
/-- the law's small cards -/
def Lt(cs:List (Cd×List (Int×Nat))):Prop:=cs.length≤12∧∀x∈cs,x.1.el≤5∧x.2.length≤3∧∀t∈x.2,t.2≤5
def nox:Cd×List (Int×Nat):=(noCd,[])
def cardX(cs:List (Cd×List (Int×Nat)))(n:Int):Cd×List (Int×Nat):=if n<0 then nox else cs.getD n.toNat nox
theorem cardX_fst(cs:List (Cd×List (Int×Nat)))(n:Int):cardOf (cs.map Prod.fst) n=(cardX cs n).1:=by
 unfold cardOf cardX
 split
 ·rfl
 ·rw[List.getD_eq_getElem?_getD,List.getD_eq_getElem?_getD,List.getElem?_map]
  cases cs[n.toNat]? <;>rfl
theorem cardX_R{w:World}{v:Value}{cs:List (Cd×List (Int×Nat))}(h:CsR w v cs)(n:Int):CdR w (cardX cs n):=by
 have h0:CdR w nox:=⟨⟨[],Rw.nil _⟩,[],Rw.nil _,rfl,fun t ht=>by cases ht⟩;unfold cardX
 split
 ·exact h0
 ·rw[List.getD_eq_getElem?_getD]
  cases hc:cs[n.toNat]? with
  |none=>exact h0
  |some x=>exact h.each x (List.mem_of_getElem? hc)
theorem cardX_lt{cs:List (Cd×List (Int×Nat))}(h:Lt cs)(n:Int):(cardX cs n).1.el≤5∧(cardX cs n).2.length≤3∧∀t∈(cardX cs n).2,t.2≤5:=by
 have h0:nox.1.el≤5∧nox.2.length≤3∧∀t∈nox.2,t.2≤5:=⟨by simp[nox,noCd],by simp[nox],fun t ht=>by simp[nox] at ht⟩
 unfold cardX
 split
 ·exact h0
 ·rw[List.getD_eq_getElem?_getD]
  cases hc:cs[n.toNat]? with
  |none=>exact h0
  |some x=>exact h.2 x (List.mem_of_getElem? hc)
/-- the occasions of a card -/
def whens(x:Cd×List (Int×Nat)):List Int:=x.2.map Prod.fst
theorem lookc(v:Value)(cs:List Cd)(o:Ob)(c:Cd)(n1 n2:Nat)(w:World)(hs:CRow w v cs)(hc:cardOf cs o.cd=c)(h1:c.el=n1)(h2:c.tl=n2):Calls Try.prog 86 #[v,.agg #[.int .i64 o.id,.int .i64 o.cd,.int .i64 o.ow,.int .i64 o.po,.int .i64 o.tg,.int .i64 o.da,.int .i64 o.co,.int .i64 o.pp,.int .i64 o.pt,.bool o.ta,.bool o.si,.bool o.dm]] w fun e w' =>e= .returned (.agg #[.string c.nm,.int .i64 c.kd,.int .i64 c.c0,.int .i64 c.c1,.int .i64 c.c2,.int .i64 c.c3,.int .i64 c.c4,.int .i64 c.mc,.int .i64 c.pw,.int .i64 c.tg,.int .i64 c.kw,.slice c.ea n1 c.ec,.slice c.ta n2 c.tc,.int .i64 c.ra])∧Below w.heap.size w w':=by
 subst hc h1 h2;exact look v cs o w hs
set_option maxRecDepth 100000 in
set_option maxHeartbeats 4000000 in
theorem ocard(v:Value)(cs:List (Cd×List (Int×Nat)))(o:Ob)(w:World)(h:CsR w v cs)(hl:Lt cs):Calls Try.prog 89 #[v,.agg #[.int .i64 o.id,.int .i64 o.cd,.int .i64 o.ow,.int .i64 o.po,.int .i64 o.tg,.int .i64 o.da,.int .i64 o.co,.int .i64 o.pp,.int .i64 o.pt,.bool o.ta,.bool o.si,.bool o.dm]] w fun e w' =>∃(c':Cd) (m:List (Int×Sl)),e= .returned (.agg #[.string c'.nm,.int .i64 c'.kd,.int .i64 c'.c0,.int .i64 c'.c1,.int .i64 c'.c2,.int .i64 c'.c3,.int .i64 c'.c4,.int .i64 c'.mc,.int .i64 c'.pw,.int .i64 c'.tg,.int .i64 c'.kw,.slice c'.ea c'.el c'.ec,.slice c'.ta m.length c'.tc,.int .i64 c'.ra])∧Rw trc 2 w' (.slice c'.ta m.length c'.tc) m∧m.map Prod.fst=whens (cardX cs o.cd)∧(∀b,(Value.slice c'.ta m.length c'.tc).ownBlock=some b→w.heap.size≤b)∧Below w.heap.size w w':=by
 have HS:=Lib.hid h;have HL:=Lib.hid hl;clear h hl;go_enter Try.func89,Try.ntmps89
 go_upto_region 1 with fail
 obtain⟨wz,hwz⟩:∃W,W=(w.alloc (.cells #[.int .i64 o.id,.int .i64 o.cd,.int .i64 o.ow,.int .i64 o.po,.int .i64 o.tg,.int .i64 o.da,.int .i64 o.co,.int .i64 o.pp,.int .i64 o.pt,.bool o.ta,.bool o.si,.bool o.dm] 42)).alloc (.cells #[.string ⟨#[]⟩,.int .i64 0,.int .i64 0,.int .i64 0,.int .i64 0,.int .i64 0,.int .i64 0,.int .i64 0,.int .i64 0,.int .i64 0,.int .i64 0,.slice none 0 0,.slice none 0 0,.int .i64 0] 84):=⟨_,rfl⟩
 change Code.wp Try.prog _ _ _ ((w.alloc (.cells #[.int .i64 o.id,.int .i64 o.cd,.int .i64 o.ow,.int .i64 o.po,.int .i64 o.tg,.int .i64 o.da,.int .i64 o.co,.int .i64 o.pp,.int .i64 o.pt,.bool o.ta,.bool o.si,.bool o.dm] 42)).alloc (.cells #[.string ⟨#[]⟩,.int .i64 0,.int .i64 0,.int .i64 0,.int .i64 0,.int .i64 0,.int .i64 0,.int .i64 0,.int .i64 0,.int .i64 0,.int .i64 0,.slice none 0 0,.slice none 0 0,.int .i64 0] 84));rw[←hwz];have b1:Below w.heap.size w (w.alloc (.cells #[.int .i64 o.id,.int .i64 o.cd,.int .i64 o.ow,.int .i64 o.po,.int .i64 o.tg,.int .i64 o.da,.int .i64 o.co,.int .i64 o.pp,.int .i64 o.pt,.bool o.ta,.bool o.si,.bool o.dm] 42)):=(Below.refl _ _).alloc (Nat.le_refl _) _;have b2:Below (w.alloc (.cells #[.int .i64 o.id,.int .i64 o.cd,.int .i64 o.ow,.int .i64 o.po,.int .i64 o.tg,.int .i64 o.da,.int .i64 o.co,.int .i64 o.pp,.int .i64 o.pt,.bool o.ta,.bool o.si,.bool o.dm] 42)).heap.size (w.alloc (.cells #[.int .i64 o.id,.int .i64 o.cd,.int .i64 o.ow,.int .i64 o.po,.int .i64 o.tg,.int .i64 o.da,.int .i64 o.co,.int .i64 o.pp,.int .i64 o.pt,.bool o.ta,.bool o.si,.bool o.dm] 42)) wz:=by rw[hwz];exact(Below.refl _ _).alloc (Nat.le_refl _) _
 have hO:Ro wz w.heap.size #[.int .i64 o.id,.int .i64 o.cd,.int .i64 o.ow,.int .i64 o.po,.int .i64 o.tg,.int .i64 o.da,.int .i64 o.co,.int .i64 o.pp,.int .i64 o.pt,.bool o.ta,.bool o.si,.bool o.dm] 42:=(Ro.new _ _ _).below b2;have HZ:Hid (Ro wz (w.heap.size+1) #[.string ⟨#[]⟩,.int .i64 0,.int .i64 0,.int .i64 0,.int .i64 0,.int .i64 0,.int .i64 0,.int .i64 0,.int .i64 0,.int .i64 0,.int .i64 0,.slice none 0 0,.slice none 0 0,.int .i64 0] 84):=Lib.hid (by rw[hwz,show w.heap.size+1=(w.alloc (.cells #[.int .i64 o.id,.int .i64 o.cd,.int .i64 o.ow,.int .i64 o.po,.int .i64 o.tg,.int .i64 o.da,.int .i64 o.co,.int .i64 o.pp,.int .i64 o.pt,.bool o.ta,.bool o.si,.bool o.dm] 42)).heap.size by simp];exact heap_alloc_new _ _);have HB:Hid (Below w.heap.size w wz):=Lib.hid (below_via b1 b2);have d0:wz.cell? ⟨w.heap.size,0,none⟩=some (.int .i64 o.id):=hO.cell 0;have d1:wz.cell? ⟨w.heap.size,1,none⟩=some (.int .i64 o.cd):=hO.cell 1;have d2:wz.cell? ⟨w.heap.size,2,none⟩=some (.int .i64 o.ow):=hO.cell 2;have d3:wz.cell? ⟨w.heap.size,3,none⟩=some (.int .i64 o.po):=hO.cell 3;have d4:wz.cell? ⟨w.heap.size,4,none⟩=some (.int .i64 o.tg):=hO.cell 4;have d5:wz.cell? ⟨w.heap.size,5,none⟩=some (.int .i64 o.da):=hO.cell 5;have d6:wz.cell? ⟨w.heap.size,6,none⟩=some (.int .i64 o.co):=hO.cell 6;have d7:wz.cell? ⟨w.heap.size,7,none⟩=some (.int .i64 o.pp):=hO.cell 7;have d8:wz.cell? ⟨w.heap.size,8,none⟩=some (.int .i64 o.pt):=hO.cell 8;have d9:wz.cell? ⟨w.heap.size,9,none⟩=some (.bool o.ta):=hO.cell 9;have d10:wz.cell? ⟨w.heap.size,10,none⟩=some (.bool o.si):=hO.cell 10;have d11:wz.cell? ⟨w.heap.size,11,none⟩=some (.bool o.dm):=hO.cell 11;clear hwz b1 b2 hO
 obtain⟨⟨ef,hef⟩,ts,hts,htw,htr⟩:=cardX_R HS.out o.cd
 obtain⟨l1,l2,l3⟩:=cardX_lt HL.out o.cd
 have hc:=cardX_fst cs o.cd
 obtain⟨⟨c,ws⟩,hX⟩:∃X,cardX cs o.cd=X:=⟨_,rfl⟩
 rw[hX] at hef hts htw l1 l2 l3 hc
 simp only at hef hts htw l1 l2 l3 hc
 have e1:c.el=ef.length:=Rw.length hef;have e2:c.tl=ts.length:=Rw.length hts;rw[e1] at hef l1
 rw[e2] at hts
 have HEF:=Lib.hid hef;have HTS:=Lib.hid hts;have HE1:=Lib.hid e1;have HE2:=Lib.hid e2;have HC:=Lib.hid hc;have HWS:Hid (ts.map Prod.fst=whens (cardX cs o.cd)):=Lib.hid (by rw[hX];unfold whens;rw[←htw,List.map_map];rfl)
 have HTR:Hid (∀t∈ts,∃l:List Ef,Rw efc 5 w t.2.v l∧l.length≤1000):=Lib.hid (fun t ht=>by
  obtain⟨l,hl⟩:=htr t ht
  refine⟨l,hl,?_⟩
  obtain⟨q,⟨ta,tn,tc⟩⟩:=t
  have h1:tn=l.length:=Rw.length (show Rw efc 5 w (.slice ta tn tc) l from hl);have h2:=l3 (q,tn) (by rw[←htw];exact List.mem_map.2 ⟨_,ht,rfl⟩);simp only at h2
  omega)
 have HLL:Hid (ef.length≤1000∧ts.length≤1000):=Lib.hid ⟨by omega,by have:=congrArg List.length htw;simp at this;omega⟩;clear hef hts htw htr l1 l2 l3 hc hX e1 e2;go_wp2_with fail
 with_reducible refine(lookc v _ o c ef.length ts.length _ (HS.out.row.below HB.out) HC.out HE1.out HE2.out).mono ?_
 rintro e w1 ⟨rfl,hb⟩;replace HB:=Lib.hid (below_via HB.out hb);replace HZ:=Lib.hid (HZ.out.below hb);clear hb d0 d1 d2 d3 d4 d5 d6 d7 d8 d9 d10 d11;go_wp2_with fail
 with_reducible refine(ccopy c ef ts _ (HEF.out.below HB.out) HLL.out.1 (HTS.out.below HB.out) HLL.out.2 (fun t ht=>by obtain⟨l,h1,h2⟩:=HTR.out t ht;exact⟨l,h1.below HB.out,h2⟩)).mono ?_
 have hs1:=HZ.out.lt;rintro e w2 ⟨ea',ec',ta',tc',m,rfl,hr,hm,hbl,hb⟩;replace HB:=Lib.hid (below_via HB.out hb);replace HZ:=Lib.hid (HZ.out.below hb);have HR:=Lib.hid hr;have HM:=Lib.hid hm;have HBL:Hid (∀b,(Value.slice ta' ts.length tc').ownBlock=some b→w.heap.size+1<b):=Lib.hid (fun b h=>by have:=hbl b h;omega);clear hb hr hm hbl hs1;go_wp2_with (refine wpList_store_cd rfl {c with ea:=ea',el:=ef.length,ec:=ec',ta:=ta',tl:=ts.length,tc:=tc'} _ _ rfl rfl rfl HZ.out rfl ?_)
 intro w3 hw3;have hon:Onl [w.heap.size+1] w2 w3:=by rw[hw3.out];exact Onl.setRow (Onl.refl _ _) (.inl (by simp)) _
 obtain⟨c',hc'⟩:∃c':Cd,c' ={c with ea:=ea',el:=ef.length,ec:=ec',ta:=ta',tl:=ts.length,tc:=tc'}:=⟨_,rfl⟩
 have HZ2:Hid (Ro w3 (w.heap.size+1) c'.cells.toArray 84):=Lib.hid (by rw[hc',hw3.out];exact Ro.row HZ.out _);have hml:ts.length=m.length:=by have:=congrArg List.length HM.out;simpa using this.symm
 have HR3:Hid (Rw trc 2 w3 (.slice ta' ts.length tc') m):=Lib.hid (HR.out.onl hon (fun b hb hm=>by have:=HBL.out b hb;simp at hm;omega));replace HB:Hid (Below w.heap.size w w3):=Lib.hid (belowOnl HB.out hon (by simp) HB.out.size);clear hon HR HZ;rw[hml] at HR3 HBL
 have HML:=Lib.hid hml;have HC2:=Lib.hid hc';clear hml hc' hw3;go_wp2_with fail
 exact bodyPost_ret (results_cd rfl _ _ c' HZ2.out rfl) rfl ⟨c',m,by rw[show m.length=c'.tl by rw[HC2.out];exact HML.out.symm];rfl,by rw[HC2.out];exact HR3.out,HM.out.trans HWS.out,fun b hb=>Nat.le_of_lt (Nat.lt_of_le_of_lt (Nat.le_succ _) (HBL.out b (by rw[HC2.out] at hb;exact hb))),HB.out⟩
end Go.Proofs.Ytpbepnpnpopmfaa
