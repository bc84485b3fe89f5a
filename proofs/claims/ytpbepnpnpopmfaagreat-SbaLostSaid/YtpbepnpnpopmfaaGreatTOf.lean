/- The triggers of an object, by the code and by the reference. -/
import Derived.Test.YtpbepnpnpopmfaaGreatTCe
import Derived.Deep.DeepCutAuto
import Derived.LoopTactic
import Derived.Deep.MidRow
open Go.RowKit Go.Proofs.YtpbepnpnpopmfaaGreat
set_option maxRecDepth 100000
set_option maxHeartbeats 4000000
namespace Go.Proofs.YtpbepnpnpopmfaaGreat
open Plain
set_option linter.unusedVariables false
set_option linter.unusedSimpArgs false

def Plain.trI(o:Ob)(k:Nat):It:={pl:=o.ow,id:=o.id,cd:=o.cd,tr:=k,tg:=[]}
def Plain.ofK(ws:List Int)(o:Ob)(wh:Int):Nat->List It
 |0=>[]
 |k+1=>ofK ws o wh k++(if k<2/\ws[k]? =some wh then [trI o k] else [])
def Plain.ofI(ws:List Int)(o:Ob)(wh:Int):List It:=ofK ws o wh ws.length
theorem ofK_two(ws:List Int)(o:Ob)(wh:Int):∀k,ofK ws o wh k=ofK ws o wh (min k 2)
 |0=>rfl
 |k+1=>by
  rcases Nat.lt_or_ge k 2 with h|h
  ·rw[show min (k+1) 2=k+1 by omega]
  rw[ofK,if_neg (by omega),List.append_nil,ofK_two ws o wh k]
  congr 1
  omega
theorem ofK_len(ws:List Int)(o:Ob)(wh:Int):∀k,(ofK ws o wh k).length<=k
 |0=>Nat.le_refl _
 |k+1=>by
  have:=ofK_len ws o wh k
  rw[ofK,List.length_append]
  split<;>simp<;>omega
theorem ofK_yes{ws:List Int}{o:Ob}{wh:Int}{k:Nat}(h1:k<2)(h2:ws[k]? =some wh):ofK ws o wh (k+1)=ofK ws o wh k++[trI o k]:=by rw[ofK,if_pos ⟨h1,h2⟩]
theorem ofK_no{ws:List Int}{o:Ob}{wh:Int}{k:Nat}(h:¬(k<2/\ws[k]? =some wh)):ofK ws o wh (k+1)=ofK ws o wh k:=by rw[ofK,if_neg h,List.append_nil]
def nilI(x:It):It×Sl:=(x,nilSl)
def OfL(W:World)(ws:List Int)(o:Ob)(wh:Int)(lv i:Value)(wr:World):Prop:=∃(k:Nat) (a:Option Addr) (c:Nat),k<=ws.length/\i= .int .i64 k/\lv= .slice a (ofK ws o wh k).length c/\Below W.heap.size W wr/\Ow itc 5 73 wr W.heap.size (.slice a (ofK ws o wh k).length c) ((ofK ws o wh k).map nilI)
theorem tof(v:Value)(cs:List (Cd×List (Int×Nat)))(o:Ob)(wh:Int)(w:World)(h:CsR w v cs)(hl:Lt cs):Calls Tryz.prog 102 #[v,.agg #[.int .i64 o.id,.int .i64 o.cd,.int .i64 o.ow,.int .i64 o.po,.int .i64 o.tg,.int .i64 o.da,.int .i64 o.co,.int .i64 o.pp,.int .i64 o.pt,.bool o.ta,.bool o.si,.bool o.dm],.int .i64 wh] w fun e w' =>∃a c,e= .returned (.slice a (ofI (whens (cardX cs o.cd)) o wh).length c)/\Ow itc 5 73 w' w.heap.size (.slice a (ofI (whens (cardX cs o.cd)) o wh).length c) ((ofI (whens (cardX cs o.cd)) o wh).map nilI)/\Below w.heap.size w w':=by
 have HS:=Hd h;have HL:=Hd hl
 obtain⟨ws,hws⟩:∃ws,whens (cardX cs o.cd)=ws:=⟨_,rfl⟩
 rw[hws];have hl3:ws.length<=3:=by rw[<-hws];unfold whens;rw[List.length_map];exact(cardX_lt hl o.cd).2.1
 have HWS:=Hd hws;have HL3:=Hd hl3;clear h hl hws hl3;go_enter Tryz.func102,Tryz.ntmps102
 go_upto_region 1 with fail
 obtain⟨wz,hwz⟩:∃W,W=w.alloc (.cells #[.int .i64 o.id,.int .i64 o.cd,.int .i64 o.ow,.int .i64 o.po,.int .i64 o.tg,.int .i64 o.da,.int .i64 o.co,.int .i64 o.pp,.int .i64 o.pt,.bool o.ta,.bool o.si,.bool o.dm] 47):=⟨_,rfl⟩
 change Code.wp Tryz.prog _ _ _ (w.alloc (.cells #[.int .i64 o.id,.int .i64 o.cd,.int .i64 o.ow,.int .i64 o.po,.int .i64 o.tg,.int .i64 o.da,.int .i64 o.co,.int .i64 o.pp,.int .i64 o.pt,.bool o.ta,.bool o.si,.bool o.dm] 47));rw[<-hwz];have b1:Below w.heap.size w wz:=by rw[hwz];exact(Below.refl _ _).alloc (Nat.le_refl _) _
 have hO:Ro wz w.heap.size #[.int .i64 o.id,.int .i64 o.cd,.int .i64 o.ow,.int .i64 o.po,.int .i64 o.tg,.int .i64 o.da,.int .i64 o.co,.int .i64 o.pp,.int .i64 o.pt,.bool o.ta,.bool o.si,.bool o.dm] 47:=by rw[hwz];exact Ro.new _ _ _
 have HB:=Hd b1;have HO:=Hd hO;have d0:wz.cell? ⟨w.heap.size,0,none⟩=some (.int .i64 o.id):=hO.cell 0;have d1:wz.cell? ⟨w.heap.size,1,none⟩=some (.int .i64 o.cd):=hO.cell 1;have d2:wz.cell? ⟨w.heap.size,2,none⟩=some (.int .i64 o.ow):=hO.cell 2;have d3:wz.cell? ⟨w.heap.size,3,none⟩=some (.int .i64 o.po):=hO.cell 3;have d4:wz.cell? ⟨w.heap.size,4,none⟩=some (.int .i64 o.tg):=hO.cell 4;have d5:wz.cell? ⟨w.heap.size,5,none⟩=some (.int .i64 o.da):=hO.cell 5;have d6:wz.cell? ⟨w.heap.size,6,none⟩=some (.int .i64 o.co):=hO.cell 6;have d7:wz.cell? ⟨w.heap.size,7,none⟩=some (.int .i64 o.pp):=hO.cell 7;have d8:wz.cell? ⟨w.heap.size,8,none⟩=some (.int .i64 o.pt):=hO.cell 8;have d9:wz.cell? ⟨w.heap.size,9,none⟩=some (.bool o.ta):=hO.cell 9;have d10:wz.cell? ⟨w.heap.size,10,none⟩=some (.bool o.si):=hO.cell 10;have d11:wz.cell? ⟨w.heap.size,11,none⟩=some (.bool o.dm):=hO.cell 11;clear hwz b1 hO;go_wp2_with fail
 clear d0 d1 d2 d3 d4 d5 d6 d7 d8 d9 d10 d11;with_reducible refine(ocard v cs o _ (HS.o.below HB.o) HL.o).mono ?_
 rintro e W1 ⟨c',m,rfl,hr,hm,hbl,hb⟩;replace HB:=Hd (below_via HB.o hb);replace HO:=Hd (HO.o.below hb);rw[HWS.o] at hm
 have hml:m.length=ws.length:=by rw[<-hm,List.length_map]
 rw[hml] at hr ⊢
 have HR:=Hd hr;have HM:=Hd hm;have HML:=Hd hml;clear hb hr hm hbl hml;have hfl:∀w,(Instr.field 64 (.agg #[.string c'.nm,.int .i64 c'.kd,.int .i64 c'.c0,.int .i64 c'.c1,.int .i64 c'.c2,.int .i64 c'.c3,.int .i64 c'.c4,.int .i64 c'.mc,.int .i64 c'.pw,.int .i64 c'.tg,.int .i64 c'.kw,.slice c'.ea c'.el c'.ec,.slice c'.ta ws.length c'.tc,.int .i64 c'.ra]) 8).run Tryz.prog w= .ok (.slice c'.ta ws.length c'.tc) w:=fun _=>by kernel_rfl
 go_wp2_with fail
 clear hfl
 go_loopw [7,15] (fun lv i wr=>OfL W1 ws o wh lv i wr) (fun _ i _=>ws.length-(intOf i).toNat)
 case atStart=>exact⟨0,none,0,by omega,rfl,rfl,Below.refl _ _,Ow.nil _ _ _⟩
 obtain⟨k,la,lc,hk,rfl,rfl,hb,ho⟩:=hrel
 have HBR:=Hd hb;have HOW:=Hd ho;clear hb ho
 by_cases hkl:k<ws.length
 ·obtain⟨y,hy⟩:∃y,m[k]? =some y:=⟨_,List.getElem?_eq_getElem (by have:=HML.o;omega)⟩
  obtain⟨_,tb,tcap,hv,hf⟩:=HR.o.form
  simp only[Value.slice.injEq] at hv
  obtain⟨htb,hq,htc⟩:=hv
  clear hq;have hw3:=HL3.o
  obtain⟨b,off,hta,hlt,hc⟩:=hf (by have:=HML.o;omega)
  obtain⟨x,⟨sa,sn,sc⟩⟩:=y
  have hwk:ws[k]? =some x:=by rw[<-HM.o,List.getElem?_map,hy];rfl
  rw[hta] at htb
  rw[htb];have d0:wr.cell? ⟨b,off+k*2,none⟩=some (.int .i64 x):=(HBR.o.cell (p:=⟨b,off+k*2,none⟩) hlt).trans (hc k _ hy 0 _ rfl);have d1:wr.cell? ⟨b,off+k*2+1,none⟩=some (.slice sa sn sc):=(HBR.o.cell (p:=⟨b,off+k*2+1,none⟩) hlt).trans (hc k _ hy 1 _ rfl);have hO:=HO.o.below HBR.o;have HOR:=Hd hO;have HWK:=Hd hwk;have i1:(0:Int)<=(k:Int):=by omega
  have i2:(k:Int)<(ws.length:Int):=by omega
  clear hf hc hy hwk hO
  go_upto_region 5 with fail
  obtain⟨w20,hw2⟩:∃W,W=wr.alloc (.cells #[.int .i64 x,.slice sa sn sc] 67):=⟨_,rfl⟩
  rw[<-hw2];have bb:Below wr.heap.size wr w20:=by rw[hw2];exact(Below.refl _ _).alloc (Nat.le_refl _) _
  have hT2:Ro w20 wr.heap.size #[.int .i64 x,.slice sa sn sc] 67:=by rw[hw2];exact Ro.new _ _ _
  obtain⟨T,hT⟩:∃n,n=wr.heap.size:=⟨_,rfl⟩
  rw[<-hT] at hT2 ⊢
  have t0:w20.cell? ⟨T,0,none⟩=some (.int .i64 x):=hT2.cell 0;replace HBR:=Hd (below_via HBR.o bb);replace HOW:=Hd (HOW.o.below bb);replace HOR:=Hd (HOR.o.below bb);clear hw2 bb hT2 hT d0 d1 hta htb htc hlt
  by_cases hk2:k<2
  case neg=>
   have t2:decide ((k:Int)<2)=false:=decide_eq_false (by omega);have hno:ofK ws o wh (k+1)=ofK ws o wh k:=ofK_no (fun h=>hk2 h.1);have HNO:=Hd hno;clear hno;go_wp2_with fail
   go_roundw
   case rel=>exact⟨k+1,la,lc,by omega,by go_num,by rw[HNO.o],HBR.o,by rw[HNO.o];exact HOW.o⟩
   case measure=>simp[intOf];omega
  case pos=>
  have t2:decide ((k:Int)<2)=true:=decide_eq_true (by omega)
  by_cases hx:x=wh
  case neg=>
   have tx:(x==wh)=false:=by simpa using hx
   have hno:ofK ws o wh (k+1)=ofK ws o wh k:=ofK_no (fun h=>hx (by have h1:=HWK.o;rw[h.2] at h1;exact(Option.some.inj h1).symm));have HNO:=Hd hno;clear hno hx;go_wp2_with fail
   go_roundw
   case rel=>exact⟨k+1,la,lc,by omega,by go_num,by rw[HNO.o],HBR.o,by rw[HNO.o];exact HOW.o⟩
   case measure=>simp[intOf];omega
  case pos=>
  subst hx;have tx:(x==x)=true:=by simp
  have hyes:ofK ws o x (k+1)=ofK ws o x k++[trI o k]:=ofK_yes hk2 HWK.o;have HYES:=Hd hyes;have HLK:Hid ((ofK ws o x k).length<=3):=Hd (by have:=ofK_len ws o x k;have:=HL3.o;omega);have o0:w20.cell? ⟨w.heap.size,0,none⟩=some (.int .i64 o.id):=HOR.o.cell 0;have o1:w20.cell? ⟨w.heap.size,1,none⟩=some (.int .i64 o.cd):=HOR.o.cell 1;have o2:w20.cell? ⟨w.heap.size,2,none⟩=some (.int .i64 o.ow):=HOR.o.cell 2;clear hyes;go_wp2_with (at_builtin;refine wpList_append_ow (f:=itc) (sz:=5) rfl _ _ 30 rfl W1.heap.size 73 (.agg #[.int .i64 0,.int .i64 0,.int .i64 0,.int .i64 0,.slice none 0 0]) 56 Tryz.underlying30 infoX rfl (by decide) _ ((ofK ws o x k).map nilI) rfl (HOW.o.below ((Below.refl _ _).alloc (Nat.le_refl _) _)) itc_ok _ [nilI (trI o k)] rfl (Rw.one2 (f:=itc) (sz:=5) w20 73 (nilI (trI o k)) #[.int .i64 o.ow,.int .i64 o.id,.int .i64 o.cd,.int .i64 k,.slice none 0 0] rfl 1 _ rfl) ?c2 ?c3 ?c4 ?_)
  case c2=>simp[maxLen];have:=HLK.o;omega
  case c3=>simp;have:=HLK.o;omega
  case c4=>
   have h2:=HBR.o.size
   simp
   omega
  intro v8 w8 ho8 hg8 hv8
  obtain⟨va,vc,rfl⟩:=ho8.form
  have hb8:Below W1.heap.size W1 w8:=(HBR.o.alloc HBR.o.size _).grown hg8 (by have:=HBR.o.size;simp;omega) (fun q hq=>(HOW.o.typ q hq).1);have hl8:((ofK ws o x k).map nilI++[nilI (trI o k)]).length=(ofK ws o x (k+1)).length:=by rw[HYES.o];simp
  have he8:(ofK ws o x k).map nilI++[nilI (trI o k)]=(ofK ws o x (k+1)).map nilI:=by rw[HYES.o];simp
  rw[hl8] at ho8 ⊢
  rw[he8] at ho8
  have HO8:=Hd ho8;have HB8:=Hd hb8;clear ho8 hg8 hv8 hb8 hl8 he8;go_wp2_with fail
  go_roundw
  case rel=>
   exact⟨k+1,va,vc,by omega,by go_num,rfl,HB8.o,HO8.o⟩
  case measure=>simp[intOf];omega
 obtain rfl:k=ws.length:=by omega
 go_wp2_with fail
 go_returns
 exact⟨la,lc,rfl,HOW.o.base (fun b hb=>Nat.le_trans HB.o.size (HOW.o.typ b hb).1),below_via HB.o HBR.o⟩
end Go.Proofs.YtpbepnpnpopmfaaGreat
