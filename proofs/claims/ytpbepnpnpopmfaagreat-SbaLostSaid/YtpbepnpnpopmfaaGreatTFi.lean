/- Finding an object. -/
import Derived.Test.YtpbepnpnpopmfaaGreatBVd
import Derived.Test.YtpbepnpnpopmfaaGreatBCc
import Derived.Test.YtpbepnpnpopmfaaGreatBRg
import Derived.Deep.DeepCutAuto
import Derived.LoopTactic
import Derived.Deep.MidRow
open Go.RowKit Go.Proofs.YtpbepnpnpopmfaaGreat
set_option maxRecDepth 100000
set_option maxHeartbeats 4000000
namespace Go.Proofs.YtpbepnpnpopmfaaGreat
open Plain
set_option linter.unusedVariables false
set_option linter.unusedSimpArgs false

theorem icmp(x:Ob)(id:Int)(w:World):Calls Tryz.prog 104 #[.agg #[.int .i64 x.id,.int .i64 x.cd,.int .i64 x.ow,.int .i64 x.po,.int .i64 x.tg,.int .i64 x.da,.int .i64 x.co,.int .i64 x.pp,.int .i64 x.pt,.bool x.ta,.bool x.si,.bool x.dm],.int .i64 id] w fun e w' =>e= .returned (.int .i64 (wrap64 (x.id-id)))/\Below w.heap.size w w':=by
 go_enter Tryz.func104,Tryz.ntmps104;go_wp2_with fail
 go_returns
 exact⟨rfl,by go_grown⟩
def Inc(L:List Ob):Prop:=(∀(i j:Nat) (x y:Ob),i<j->L[i]? =some x->L[j]? =some y->x.id<y.id)/\∀x∈L,1<=x.id/\x.id<=500
def BsL(w:World)(L:List Ob)(id:Int)(i j:Value)(wr:World):Prop:=∃p q:Nat,p<=q/\q<=L.length/\i= .int .i64 p/\j= .int .i64 q/\Below w.heap.size w wr/\(1<=id->id<=500->(∀(k:Nat) (x:Ob),k<p->L[k]? =some x->x.id<id)/\∀(k:Nat) (x:Ob),q<=k->L[k]? =some x->id<=x.id)
theorem bsea(a:Option Addr)(c:Nat)(L:List Ob)(id:Int)(w:World)(hr:Rw oc 12 w (.slice a L.length c) L)(hl:L.length<=500)(hi:Inc L)(hid:Plain.I id):Calls Tryz.prog 103 #[.slice a L.length c,.int .i64 id,(.func (.func 104) #[] #[])] w fun e w' =>(∃(i:Int) (r:Bool),e= .returned (.tuple #[.int .i64 i,.bool r])/\(r=true->∃(k:Nat) (x:Ob),i=k/\L[k]? =some x/\x.id=id)/\(r=false->∀x∈L,x.id≠id))/\Below w.heap.size w w':=by
 obtain⟨hm,a0,c0,hv,hf⟩:=hr.form
 simp only[Value.slice.injEq] at hv
 obtain⟨rfl,hq,rfl⟩:=hv
 have HF:=Hd hf;have HI:=Hd hi;have HID:=Hd hid;clear hq hf hr hi hid;go_enter Tryz.func103,Tryz.ntmps103;go_wp2_with fail
 go_loopw [9,10] (fun i j wr=>BsL w L id i j wr) (fun i j _=>(intOf j).toNat-(intOf i).toNat)
 case atStart=>exact⟨0,L.length,by omega,by omega,rfl,rfl,Below.refl _ _,fun _ _=>⟨fun k x h=>by omega,fun k x h hx=>by have:=(List.getElem?_eq_some_iff.1 hx).1;omega⟩⟩
 obtain⟨p,q,hpq,hqn,rfl,rfl,hb,hcl⟩:=hrel
 have HB:=Hd hb;have HCL:=Hd hcl;clear hb hcl
 by_cases hlt:p<q
 ·obtain⟨m,hm2⟩:∃m:Nat,(p+q) / 2=m:=⟨_,rfl⟩
  have em:((p:Int)+(q:Int)) / 2=(m:Int):=by omega
  have hm3:p<=m/\m<q:=by omega
  obtain⟨x,hx⟩:∃x,L[m]? =some x:=⟨_,List.getElem?_eq_getElem (by omega)⟩
  obtain⟨b,off,rfl,hlb,hc⟩:=HF.o (by omega)
  have d0:wr.cell? ⟨b,off+m*12,none⟩=some (.int .i64 x.id):=(HB.o.cell (p:=⟨b,off+m*12,none⟩) hlb).trans (hc m x hx 0 _ rfl);have d1:wr.cell? ⟨b,off+m*12+1,none⟩=some (.int .i64 x.cd):=(HB.o.cell (p:=⟨b,off+m*12+1,none⟩) hlb).trans ((Nat.add_assoc off (m*12) 1).symm▸hc m x hx 1 _ rfl);have d2:wr.cell? ⟨b,off+m*12+2,none⟩=some (.int .i64 x.ow):=(HB.o.cell (p:=⟨b,off+m*12+2,none⟩) hlb).trans ((Nat.add_assoc off (m*12) 2).symm▸hc m x hx 2 _ rfl);have d3:wr.cell? ⟨b,off+m*12+3,none⟩=some (.int .i64 x.po):=(HB.o.cell (p:=⟨b,off+m*12+3,none⟩) hlb).trans ((Nat.add_assoc off (m*12) 3).symm▸hc m x hx 3 _ rfl);have d4:wr.cell? ⟨b,off+m*12+4,none⟩=some (.int .i64 x.tg):=(HB.o.cell (p:=⟨b,off+m*12+4,none⟩) hlb).trans ((Nat.add_assoc off (m*12) 4).symm▸hc m x hx 4 _ rfl);have d5:wr.cell? ⟨b,off+m*12+5,none⟩=some (.int .i64 x.da):=(HB.o.cell (p:=⟨b,off+m*12+5,none⟩) hlb).trans ((Nat.add_assoc off (m*12) 5).symm▸hc m x hx 5 _ rfl);have d6:wr.cell? ⟨b,off+m*12+6,none⟩=some (.int .i64 x.co):=(HB.o.cell (p:=⟨b,off+m*12+6,none⟩) hlb).trans ((Nat.add_assoc off (m*12) 6).symm▸hc m x hx 6 _ rfl);have d7:wr.cell? ⟨b,off+m*12+7,none⟩=some (.int .i64 x.pp):=(HB.o.cell (p:=⟨b,off+m*12+7,none⟩) hlb).trans ((Nat.add_assoc off (m*12) 7).symm▸hc m x hx 7 _ rfl);have d8:wr.cell? ⟨b,off+m*12+8,none⟩=some (.int .i64 x.pt):=(HB.o.cell (p:=⟨b,off+m*12+8,none⟩) hlb).trans ((Nat.add_assoc off (m*12) 8).symm▸hc m x hx 8 _ rfl);have d9:wr.cell? ⟨b,off+m*12+9,none⟩=some (.bool x.ta):=(HB.o.cell (p:=⟨b,off+m*12+9,none⟩) hlb).trans ((Nat.add_assoc off (m*12) 9).symm▸hc m x hx 9 _ rfl);have d10:wr.cell? ⟨b,off+m*12+10,none⟩=some (.bool x.si):=(HB.o.cell (p:=⟨b,off+m*12+10,none⟩) hlb).trans ((Nat.add_assoc off (m*12) 10).symm▸hc m x hx 10 _ rfl);have d11:wr.cell? ⟨b,off+m*12+11,none⟩=some (.bool x.dm):=(HB.o.cell (p:=⟨b,off+m*12+11,none⟩) hlb).trans ((Nat.add_assoc off (m*12) 11).symm▸hc m x hx 11 _ rfl);have HX:=Hd hx;have hxi:=HI.o.2 x (List.mem_of_getElem? hx);have HXI:=Hd hxi;have i1:(0:Int)<=(m:Int):=by omega
  have i2:(m:Int)<(L.length:Int):=by omega
  have HM3:=Hd hm3;clear hc hx hlb hxi hm2
  go_upto_region 5 with fail
  clear em;go_wp2_with fail
  with_reducible refine(icmp x id wr).mono ?_
  rintro e w2 ⟨rfl,hb2⟩;replace HB:=Hd (below_via HB.o hb2);clear hb2 d0 d1 d2 d3 d4 d5 d6 d7 d8 d9 d10 d11
  by_cases hlt3:wrap64 (x.id-id)<0
  case pos=>
   have t3:decide (wrap64 (x.id-id)<0)=true:=decide_eq_true hlt3;go_wp2_with fail
   go_roundw
   case rel=>exact⟨m+1,q,by have:=HM3.o;omega,hqn,by go_num,rfl,HB.o,fun h1 h2=>⟨fun k y hk hy=>by
    have h3:x.id<id:=by
     have h4:=HXI.o;unfold wrap64 at hlt3
     omega
    rcases Nat.lt_or_ge k m with h|h
    ·exact Int.lt_trans (HI.o.1 k m y x h hy HX.o) h3
    obtain rfl:k=m:=by omega
    have:=HX.o
    rw[hy] at this
    rw[Option.some.inj this];exact h3,(HCL.o h1 h2).2⟩⟩
   case measure=>simp[intOf];omega
  case neg=>
   have t3:decide (wrap64 (x.id-id)<0)=false:=decide_eq_false hlt3;go_wp2_with fail
   go_roundw
   case rel=>exact⟨p,m,by have:=HM3.o;omega,by have:=HM3.o;omega,rfl,rfl,HB.o,fun h1 h2=>⟨(HCL.o h1 h2).1,fun k y hk hy=>by
    have h3:id<=x.id:=by
     have h4:=HXI.o;unfold wrap64 at hlt3
     omega
    rcases Nat.lt_or_ge m k with h|h
    ·exact Int.le_of_lt (Int.lt_of_le_of_lt h3 (HI.o.1 m k x y h HX.o hy))
    obtain rfl:k=m:=by omega
    have:=HX.o
    rw[hy] at this
    rw[Option.some.inj this];exact h3⟩⟩
   case measure=>simp[intOf];have:=HM3.o;omega
 obtain rfl:p=q:=by omega
 by_cases hpl:p<L.length
 case neg=>
  have t4:decide ((p:Int)<(L.length:Int))=false:=decide_eq_false (by omega);have t4':decide (p<L.length)=false:=decide_eq_false hpl
  have hno:∀x∈L,x.id≠id:=fun x hx e=>by
   have h1:=HI.o.2 x hx
   obtain⟨k,hk⟩:=List.getElem?_of_mem hx
   have hkl:=(List.getElem?_eq_some_iff.1 hk).1
   have:=(HCL.o (by omega) (by omega)).1 k x (by omega) hk
   omega
  have HNO:=Hd hno;clear hno;go_wp2_with fail
  go_returns
  exact⟨⟨p,false,rfl,(fun h=>by cases h),fun _=>HNO.o⟩,HB.o⟩
 case pos=>
  obtain⟨x,hx⟩:∃x,L[p]? =some x:=⟨_,List.getElem?_eq_getElem hpl⟩
  obtain⟨b,off,rfl,hlb,hc⟩:=HF.o (by omega)
  have d0:wr.cell? ⟨b,off+p*12,none⟩=some (.int .i64 x.id):=(HB.o.cell (p:=⟨b,off+p*12,none⟩) hlb).trans (hc p x hx 0 _ rfl);have d1:wr.cell? ⟨b,off+p*12+1,none⟩=some (.int .i64 x.cd):=(HB.o.cell (p:=⟨b,off+p*12+1,none⟩) hlb).trans ((Nat.add_assoc off (p*12) 1).symm▸hc p x hx 1 _ rfl);have d2:wr.cell? ⟨b,off+p*12+2,none⟩=some (.int .i64 x.ow):=(HB.o.cell (p:=⟨b,off+p*12+2,none⟩) hlb).trans ((Nat.add_assoc off (p*12) 2).symm▸hc p x hx 2 _ rfl);have d3:wr.cell? ⟨b,off+p*12+3,none⟩=some (.int .i64 x.po):=(HB.o.cell (p:=⟨b,off+p*12+3,none⟩) hlb).trans ((Nat.add_assoc off (p*12) 3).symm▸hc p x hx 3 _ rfl);have d4:wr.cell? ⟨b,off+p*12+4,none⟩=some (.int .i64 x.tg):=(HB.o.cell (p:=⟨b,off+p*12+4,none⟩) hlb).trans ((Nat.add_assoc off (p*12) 4).symm▸hc p x hx 4 _ rfl);have d5:wr.cell? ⟨b,off+p*12+5,none⟩=some (.int .i64 x.da):=(HB.o.cell (p:=⟨b,off+p*12+5,none⟩) hlb).trans ((Nat.add_assoc off (p*12) 5).symm▸hc p x hx 5 _ rfl);have d6:wr.cell? ⟨b,off+p*12+6,none⟩=some (.int .i64 x.co):=(HB.o.cell (p:=⟨b,off+p*12+6,none⟩) hlb).trans ((Nat.add_assoc off (p*12) 6).symm▸hc p x hx 6 _ rfl);have d7:wr.cell? ⟨b,off+p*12+7,none⟩=some (.int .i64 x.pp):=(HB.o.cell (p:=⟨b,off+p*12+7,none⟩) hlb).trans ((Nat.add_assoc off (p*12) 7).symm▸hc p x hx 7 _ rfl);have d8:wr.cell? ⟨b,off+p*12+8,none⟩=some (.int .i64 x.pt):=(HB.o.cell (p:=⟨b,off+p*12+8,none⟩) hlb).trans ((Nat.add_assoc off (p*12) 8).symm▸hc p x hx 8 _ rfl);have d9:wr.cell? ⟨b,off+p*12+9,none⟩=some (.bool x.ta):=(HB.o.cell (p:=⟨b,off+p*12+9,none⟩) hlb).trans ((Nat.add_assoc off (p*12) 9).symm▸hc p x hx 9 _ rfl);have d10:wr.cell? ⟨b,off+p*12+10,none⟩=some (.bool x.si):=(HB.o.cell (p:=⟨b,off+p*12+10,none⟩) hlb).trans ((Nat.add_assoc off (p*12) 10).symm▸hc p x hx 10 _ rfl);have d11:wr.cell? ⟨b,off+p*12+11,none⟩=some (.bool x.dm):=(HB.o.cell (p:=⟨b,off+p*12+11,none⟩) hlb).trans ((Nat.add_assoc off (p*12) 11).symm▸hc p x hx 11 _ rfl);have t4:decide ((p:Int)<(L.length:Int))=true:=decide_eq_true (by omega);have t4':decide (p<L.length)=true:=decide_eq_true hpl;have i1:(0:Int)<=(p:Int):=by omega
  have i2:(p:Int)<(L.length:Int):=by omega
  have HX:=Hd hx;clear hc hx hlb;go_wp2_with fail
  with_reducible refine(icmp x id wr).mono ?_
  rintro e w2 ⟨rfl,hb2⟩;replace HB:=Hd (below_via HB.o hb2);clear hb2 d0 d1 d2 d3 d4 d5 d6 d7 d8 d9 d10 d11;have hxi:=HI.o.2 x (List.mem_of_getElem? HX.o)
  by_cases he:x.id=id
  case pos=>
   have t5:(wrap64 (x.id-id)==0)=true:=by rw[he];simp[wrap64]
   clear hxi;have HE:=Hd he;clear he;go_wp2_with fail
   go_returns
   exact⟨⟨p,true,rfl,fun _=>⟨p,x,rfl,HX.o,HE.o⟩,fun h=>by cases h⟩,HB.o⟩
  case neg=>
   have t5:(wrap64 (x.id-id)==0)=false:=by
    have h2:=HID.o;unfold Plain.I at h2
    simp only[beq_eq_false_iff_ne,ne_eq];unfold wrap64;omega
   have hno:∀y∈L,y.id≠id:=fun y hy e=>by
    have h1:=HI.o.2 y hy
    obtain⟨k,hk⟩:=List.getElem?_of_mem hy
    have hc:=HCL.o (by omega) (by omega);rcases Nat.lt_or_ge k p with h|h
    ·have:=hc.1 k y h hk
     omega
    rcases Nat.lt_or_ge p k with h3|h3
    ·have h4:=HI.o.1 p k x y h3 HX.o hk
     have h5:=hc.2 p x (Nat.le_refl _) HX.o;omega
    obtain rfl:k=p:=by omega
    have:=HX.o
    rw[hk] at this
    rw[Option.some.inj this] at e
    exact he e
   have HNO:=Hd hno;clear hno hxi he;go_wp2_with fail
   go_returns
   exact⟨⟨p,false,rfl,(fun h=>by cases h),fun _=>HNO.o⟩,HB.o⟩
theorem Plain.VB.inc{B:Bd}(h:VB B):Inc B.ob:=⟨fun i j x y hij hx hy=>rise_lt (fun i o hi=>(h.plc.ob i o hi).2.1) hij hx hy,fun x hx=>by
 obtain⟨i,hi⟩:=List.getElem?_of_mem hx
 exact vO_id (h.plc.ob i x hi).1⟩
def IxA(B:Bd)(id:Int)(e:Ending):Prop:=(VB B/\∃(k:Nat) (x:Ob),B.ob[k]? =some x/\x.id=id/\e= .returned (.tuple #[.int .i64 k,.int .i64 0]))\/(VB B/\(∀x∈B.ob,x.id≠id)/\e= .returned (.tuple #[.int .i64 0,.int .i64 9]))\/(¬VB B/\e= .returned (.tuple #[.int .i64 0,.int .i64 2]))
theorem bindex(s:Bs)(B:Bd)(id:Int)(w:World)(h:BdR w s B)(hi:B.I)(hsm:B.Sm)(hid:Plain.I id):Calls Tryz.prog 90 #[bv s B,.int .i64 id] w fun e w' =>IxA B id e/\Below w.heap.size w w':=by
 have HR:=Hd h;have HI:=Hd hi;have HSM:=Hd hsm;have HID:=Hd hid
 obtain⟨_,oa,ocp,hov,_⟩:=h.ob.form
 have HOV:=Hd hov;clear h hi hsm hid hov;go_enter Tryz.func90,Tryz.ntmps90
 go_upto_region 1 with fail
 change Code.wp Tryz.prog _ _ _ (w.alloc (.cells (bcells s B) 34))
 obtain⟨wz,hwz⟩:∃W,W=w.alloc (.cells (bcells s B) 34):=⟨_,rfl⟩
 rw[<-hwz];have HB:Hid (Below w.heap.size w wz):=Hd (by rw[hwz];exact(Below.refl _ _).alloc (Nat.le_refl _) _);have HX:Hid (Bx wz w.heap.size s B):=Hd (by rw[hwz];exact heap_alloc_new _ _);clear hwz;go_wp2_with (refine wpList_load_bx _ rfl rfl HX.o (by kernel_rfl) ?_)
 with_reducible refine(bvalid s B _ (HR.o.below HB.o) HI.o HSM.o).mono ?_
 rintro e w1 ⟨⟨r,rfl,hr⟩,hb⟩;replace HB:=Hd (below_via HB.o hb);replace HX:=Hd (HX.o.below hb);clear hb
 cases r
 ·have HV:Hid (¬VB B):=Hd (fun h=>by have:=hr.2 h;cases this)
  clear hr;go_wp2_with fail
  go_returns
  exact⟨.inr (.inr ⟨HV.o,rfl⟩),HB.o⟩
 have HV:Hid (VB B):=Hd (hr.1 rfl);clear hr;have c0:w1.cell? ⟨w.heap.size,0,none⟩=some (.slice oa B.ob.length ocp):=by rw[<-HOV.o];exact HX.o.cell 0
 go_wp2_with fail
 with_reducible refine(bsea oa ocp B.ob id _ (by rw[<-HOV.o];exact HR.o.ob.below HB.o) (by have h:=HV.o.num;unfold vNum at h;exact h.2.2.2.2.2.1) HV.o.inc HID.o).mono ?_
 rintro e w2 ⟨⟨i,r,rfl,h1,h2⟩,hb⟩;replace HB:=Hd (below_via HB.o hb);clear hb c0;have H1:=Hd h1;have H2:=Hd h2;clear h1 h2
 cases r
 ·go_wp2_with fail
  go_returns
  exact⟨.inr (.inl ⟨HV.o,H2.o trivial,rfl⟩),HB.o⟩
 go_wp2_with fail
 go_returns
 obtain⟨k,x,hk,hx,he⟩:=H1.o trivial
 exact⟨.inl ⟨HV.o,k,x,hx,he,by rw[<-hk];rfl⟩,HB.o⟩
theorem wpList_store_o{ops:Array Oper}{rest:List Oper}{op:Oper}{a:Act}{w:World}{Q:Exit->Act->World->Prop}(hgd:op.guard=none){P:Nat}(x:Ob)(p q:Operand)(ho:op.op= .store 47 p q)(hx:a.eval p= .pointer (some ⟨P,0,none⟩))(hy:a.eval q= .agg (oc x).toArray){old:Array Value}(hg:w.heap[P]? =some (.cells old 47 (0,0)))(hsz:old.size=12)
  (hK:∀w',Hid (w' =w.setRow P (oc x).toArray)->wpList Tryz.prog ops Q rest (a.put op.dst undef) w'):wpList Tryz.prog ops Q (op::rest) a w:=
 wpList_store_row hgd 47 p q ho P (oc x).toArray hx hy 47 old hg (by kernel_rfl) (by rw[hsz];rfl) (by simp[oc,Value.oneCell']) (hK _ (Hd rfl))
theorem results_o1{fn:Func}{p u:Tmp}(h:fn.results= #[.cell p 47,.tmp u])(tmps:Array Value)(w:World){P:Nat}(x:Ob){y:Value}(hx:w.heap[P]? =some (.cells (oc x).toArray 47 (0,0)))(hp:tmps.getD p undef= .pointer (some ⟨P,0,none⟩))(hy:tmps.getD u undef=y):(results fn tmps).run Tryz.prog w= .ok (.tuple #[.agg (oc x).toArray,y]) w:=by
 have hl:(loadVar 47 ⟨P,0,none⟩).run Tryz.prog w= .ok (.agg (oc x).toArray) w:=run_loadVar_row w P 47 47 _ (0,0) _ hx Tryz.underlying47 rfl (by kernel_rfl);rw[results_cell_tmp h,hp,hy];simp[asAddr,hl]
def zob:Ob:=⟨0,0,0,0,0,0,0,0,0,false,false,false⟩
def FdA(B:Bd)(id:Int)(e:Ending):Prop:=(VB B/\∃(k:Nat) (x:Ob),B.ob[k]? =some x/\x.id=id/\e= .returned (.tuple #[.agg (oc x).toArray,.int .i64 0]))\/((VB B->∀x∈B.ob,x.id≠id)/\∃c:Int,c≠0/\e= .returned (.tuple #[.agg (oc zob).toArray,.int .i64 c]))
theorem bfind(s:Bs)(B:Bd)(id:Int)(w:World)(h:BdR w s B)(hi:B.I)(hsm:B.Sm)(hid:Plain.I id):Calls Tryz.prog 101 #[bv s B,.int .i64 id] w fun e w' =>FdA B id e/\Below w.heap.size w w':=by
 have HR:=Hd h;have HI:=Hd hi;have HSM:=Hd hsm;have HID:=Hd hid
 obtain⟨_,oa,ocp,hov,hof⟩:=h.ob.form
 have HOV:=Hd hov;have HOF:=Hd hof;clear h hi hsm hid hov hof;go_enter Tryz.func101,Tryz.ntmps101
 go_upto_region 1 with fail
 obtain⟨wz,hwz⟩:∃W,W=(w.alloc (.cells (bcells s B) 34)).alloc (.cells (oc zob).toArray 47):=⟨_,rfl⟩
 change Code.wp Tryz.prog _ _ _ ((w.alloc (.cells (bcells s B) 34)).alloc (.cells (oc zob).toArray 47));rw[<-hwz];have b1:Below w.heap.size w (w.alloc (.cells (bcells s B) 34)):=(Below.refl _ _).alloc (Nat.le_refl _) _;have b2:Below (w.alloc (.cells (bcells s B) 34)).heap.size (w.alloc (.cells (bcells s B) 34)) wz:=by rw[hwz];exact(Below.refl _ _).alloc (Nat.le_refl _) _
 have HB:Hid (Below w.heap.size w wz):=Hd (below_via b1 b2);have HX:Hid (Bx wz w.heap.size s B):=Hd (Bx.below (w:=w.alloc (.cells (bcells s B) 34)) (heap_alloc_new _ _) b2);have HZ:Hid (wz.heap[w.heap.size+1]? =some (.cells (oc zob).toArray 47 (0,0))):=Hd (by rw[hwz,show w.heap.size+1=(w.alloc (.cells (bcells s B) 34)).heap.size by simp];exact heap_alloc_new _ _);clear hwz b1 b2;go_wp2_with (refine wpList_load_bx _ rfl rfl HX.o (by kernel_rfl) ?_)
 with_reducible refine(bindex s B id _ (HR.o.below HB.o) HI.o HSM.o HID.o).mono ?_
 rintro e w1 ⟨hA,hb⟩;have hzl:w.heap.size+1<wz.heap.size:=(Array.getElem?_eq_some_iff.1 HZ.o).1;replace HB:=Hd (below_via HB.o hb);replace HX:=Hd (HX.o.below hb);replace HZ:Hid (w1.heap[w.heap.size+1]? =some (.cells (oc zob).toArray 47 (0,0))):=Hd ((hb.block _ hzl).trans HZ.o);clear hb hzl;rcases hA with⟨hv,k,x,hx,he,rfl⟩|⟨hv,hno,rfl⟩|⟨hv,rfl⟩
 ·have hkl:k<B.ob.length:=(List.getElem?_eq_some_iff.1 hx).1
  obtain⟨b,off,rfl,hlb,hc⟩:=HOF.o (by omega)
  have c0:w1.cell? ⟨w.heap.size,0,none⟩=some (.slice (some ⟨b,off,none⟩) B.ob.length ocp):=by rw[<-HOV.o];exact HX.o.cell 0
  have hrg:w1.rangeAt b (off+k*12) (oc x):=fun j u hu=>by rw[Nat.add_assoc];exact(HB.o.cell (p:=⟨b,_,none⟩) hlb).trans (hc k x hx j u hu)
  have HRG:=Hd hrg;have i1:(0:Int)<=(k:Int):=by omega
  have i2:(k:Int)<(B.ob.length:Int):=by omega
  have HG:Hid (VB B/\B.ob[k]? =some x/\x.id=id):=Hd ⟨hv,hx,he⟩;clear hc hx he hv hrg hlb;go_wp2_with (first|(refine wpList_load_mid rfl 47 _ rfl b (off+k*12) rfl (oc x) _ HRG.o Tryz.underlying47 rfl rfl ?_)|(refine wpList_store_o rfl x _ _ rfl rfl rfl HZ.o rfl ?_))
  intro w2 hw2;have hon:Onl [w.heap.size+1] w1 w2:=by rw[hw2.out];exact Onl.setRow (Onl.refl _ _) (.inl (by simp)) _
  have HZ2:Hid (w2.heap[w.heap.size+1]? =some (.cells (oc x).toArray 47 (0,0))):=Hd (by rw[hw2.out];exact setRow_heap _ _ _ _ 47 _ HZ.o);replace HB:Hid (Below w.heap.size w w2):=Hd (belowOnl HB.o hon (by simp) HB.o.size);clear hon hw2;go_wp2_with fail
  exact bodyPost_ret (results_o1 rfl _ _ x HZ2.o rfl rfl) rfl ⟨.inl ⟨HG.o.1,k,x,HG.o.2.1,HG.o.2.2,rfl⟩,HB.o⟩
 all_goals
  have HNO:Hid (VB B->∀x∈B.ob,x.id≠id):=Hd (by first|exact fun _=>hno|exact fun h=>absurd h hv);clear hv;go_wp2_with (refine wpList_store_o rfl zob _ _ rfl rfl rfl HZ.o rfl ?_)
  intro w2 hw2;have hon:Onl [w.heap.size+1] w1 w2:=by rw[hw2.out];exact Onl.setRow (Onl.refl _ _) (.inl (by simp)) _
  have HZ2:Hid (w2.heap[w.heap.size+1]? =some (.cells (oc zob).toArray 47 (0,0))):=Hd (by rw[hw2.out];exact setRow_heap _ _ _ _ 47 _ HZ.o);replace HB:Hid (Below w.heap.size w w2):=Hd (belowOnl HB.o hon (by simp) HB.o.size);clear hon hw2;go_wp2_with fail
  exact bodyPost_ret (results_o1 rfl _ _ zob HZ2.o rfl rfl) rfl ⟨.inr ⟨HNO.o,_,by decide,rfl⟩,HB.o⟩
end Go.Proofs.YtpbepnpnpopmfaaGreat
