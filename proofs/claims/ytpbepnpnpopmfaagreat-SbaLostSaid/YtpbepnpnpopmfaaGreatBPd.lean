/- What is in a place, by the code. -/
import Derived.Test.YtpbepnpnpopmfaaGreatBOw
import Derived.Test.YtpbepnpnpopmfaaGreatBO
import Derived.Test.YtpbepnpnpopmfaaGreatBPg
import Derived.Test.YtpbepnpnpopmfaaGreatBRh
import Derived.Deep.DeepCutAuto
import Derived.LoopTactic
import Derived.Maps.OwnOps
open Go.RowKit Go.Proofs.YtpbepnpnpopmfaaGreat
set_option maxRecDepth 100000
set_option maxHeartbeats 4000000
namespace Go.Proofs.YtpbepnpnpopmfaaGreat
open Plain
set_option linter.unusedVariables false
set_option linter.unusedSimpArgs false

theorem putc(z p:Int)(Q b:Nat)(L:List (Int×Int))(r:Bool)(w:World)(hc:w.cell? ⟨Q,0,none⟩=some (.map (some b)))(hm:MapI w b L.length L)(hl:L.length<100000)(hz:I z)(hp:I p)(hr:(lk L z).isSome=r):Calls Tryz.prog 84 #[.int .i64 z,.int .i64 p,.pointer (some ⟨Q,0,none⟩)] w fun e w' =>e= .returned (.bool (!r))/\MapI w' b (L.length+1) ((z,p)::L)/\Onl [b] w w':=by
 have HM:=Hd hm;have HL:=Hd hl;have hlk:=hm.look hz hr rfl;have HZ:=Hd hz;have HP:=Hd hp;clear hm hl hz hp hr;go_enter Tryz.func84,Tryz.ntmps84;go_wp2_with (at_mapUpdate;refine wpList_putI rfl _ _ _ rfl rfl HM.o HL.o z p rfl rfl HZ.o HP.o ?_;intro w9 hm9 ho9)
 have HM9:=Hd hm9;have HO9:=Hd ho9;clear hm9 ho9;go_wp2_with fail
 go_returns
 exact⟨rfl,HM9.o,HO9.o⟩
theorem lk_nodup{L:List (Int×Int)}(h:(L.map Prod.fst).Nodup){z v:Int}(hm:(z,v)∈L):lk L z=some v:=by
 induction L with
 |nil=>cases hm
 |cons a L ih=>
  obtain⟨a,b⟩:=a
  rw[List.map_cons,List.nodup_cons] at h
  unfold lk;rcases List.mem_cons.1 hm with e|e
  ·cases e;simp
  have:a≠z:=fun e2=>h.1 (by subst e2;exact List.mem_map.2 ⟨_,e,rfl⟩)
  rw[if_neg this];exact ih h.2 e
theorem okO_iff{B:Bd}(hn:(B.prs.map Prod.fst).Nodup)(i:Nat)(o:Ob):okO B i o↔(vO o=true/\rise B.ob i o/\(lk B.prs.reverse o.id).isSome=true/\(lk B.prs.reverse o.id).getD 0=o.ow/\((lk (spc B.st).reverse o.id).isSome=true->(lk (spc B.st).reverse o.id).getD 0=o.cd)):=by
 have hnr:(B.prs.reverse.map Prod.fst).Nodup:=by rw[List.map_reverse];exact(List.reverse_perm _).nodup_iff.2 hn
 have e1:(o.id,o.ow)∈B.prs↔(lk B.prs.reverse o.id).isSome=true/\(lk B.prs.reverse o.id).getD 0=o.ow:=by
  constructor
  ·intro h
   rw[lk_nodup hnr (List.mem_reverse.2 h)]
   simp
  intro⟨h1,h2⟩
  cases hl:lk B.prs.reverse o.id with
  |none=>rw[hl] at h1;cases h1
  |some v=>
   rw[hl] at h2
   simp at h2
   subst h2;exact List.mem_reverse.1 (lk_mem hl)
 have hcn:((spc B.st).reverse.map Prod.fst).Nodup:=by
  rw[List.map_reverse]
  refine(List.reverse_perm _).nodup_iff.2 ?_
  have:(spc B.st).map Prod.fst=(spr B.st).map Prod.fst:=by unfold spc spr;rw[List.map_map,List.map_map];rfl
  rw[this];rw[prs_all,List.map_append] at hn
  exact nodup_append_right hn
 have e2:(∀x∈cst B.st,x.id=o.id->x.cd=o.cd)↔((lk (spc B.st).reverse o.id).isSome=true->(lk (spc B.st).reverse o.id).getD 0=o.cd):=by
  constructor
  ·intro h h1
   cases hl:lk (spc B.st).reverse o.id with
   |none=>rw[hl] at h1;cases h1
   |some v=>
    have h2:=List.mem_reverse.1 (lk_mem hl)
    obtain⟨x,hx,hxe⟩:=List.mem_map.1 h2
    simp at hxe
    have:=h x hx hxe.1
    simp
    omega
  intro h x hx he;have h2:(o.id,x.cd)∈(spc B.st).reverse:=List.mem_reverse.2 (List.mem_map.2 ⟨x,hx,by rw[he]⟩);have h3:=lk_nodup hcn h2;rw[h3] at h
  simpa using h
 unfold okO;rw[e1,e2]
 exact⟨fun⟨a,b,⟨c,d⟩,e⟩=>⟨a,b,c,d,e⟩,fun⟨a,b,c,d,e⟩=>⟨a,b,⟨c,d⟩,e⟩⟩
theorem below_onl{B:Nat}{a w w':World}{S:List Nat}(h:Below B a w)(ho:Onl S w w')(hS:∀k∈S,B<=k)(hB:B<=w.heap.size):Below B a w':=
 ⟨ho.os.trans h.os,ho.tape.trans h.tape,ho.output.trans h.output,Nat.le_trans h.size ho.size,fun i hi=>(ho.block i (Nat.lt_of_lt_of_le hi hB) (fun hm=>by have:=hS i hm;omega)).trans (h.block i hi)⟩
structure PSt(w:World)(s:Bs)(B:Bd)(L:List (Int×Int))(wr:World):Prop where
 below:Below w.heap.size w wr
 box:Bx wr w.heap.size s B
 cq:wr.cell? ⟨w.heap.size+1+1,0,none⟩=some (.map (some (w.heap.size+1)))
 mp:MapI wr (w.heap.size+1) L.length L
 lt:w.heap.size+1+1<wr.heap.size
theorem PSt.call{w:World}{s:Bs}{B:Bd}{L:List (Int×Int)}{wr w':World}(h:PSt w s B L wr)(hb:Below wr.heap.size wr w'):PSt w s B L w':=
 ⟨below_via h.below hb,h.box.below hb,(hb.cell (p:=⟨w.heap.size+1+1,0,none⟩) h.lt).trans h.cq,h.mp.below hb,Nat.lt_of_lt_of_le h.lt hb.size⟩
theorem PSt.put{w:World}{s:Bs}{B:Bd}{L L':List (Int×Int)}{wr w':World}(h:PSt w s B L wr)(hm:MapI w' (w.heap.size+1) L'.length L')(ho:Onl [w.heap.size+1] wr w'):PSt w s B L' w':=
 ⟨below_onl h.below ho (by simp) (by have:=h.lt;omega),(ho.block _ (by have:=h.lt;omega) (by simp)).trans h.box,(ho.cell h.lt (by simp)).trans h.cq,hm,Nat.lt_of_lt_of_le h.lt ho.size⟩
theorem PSt.onl{w:World}{s:Bs}{B:Bd}{L:List (Int×Int)}{wr w':World}{S:List Nat}(h:PSt w s B L wr)(ho:Onl S wr w')(hS:∀k∈S,w.heap.size+1+1<k):PSt w s B L w':=by
 have n0:w.heap.size∉S:=fun hm=>by have:=hS _ hm;omega
 have n1:w.heap.size+1∉S:=fun hm=>by have:=hS _ hm;omega
 have n2:w.heap.size+1+1∉S:=fun hm=>by have:=hS _ hm;omega
 have hl:=h.lt
 exact⟨below_onl h.below ho (fun k hk=>by have:=hS k hk;omega) (by omega),(ho.block _ (by omega) n0).trans h.box,(ho.cell hl n2).trans h.cq,h.mp.onl ho n1,Nat.lt_of_lt_of_le hl ho.size⟩
structure CSt(w:World)(s:Bs)(B:Bd)(L:List (Int×Int))(bc:Nat)(M:List (Int×Int))(wr:World):Prop where
 st:PSt w s B L wr
 mp:MapI wr bc M.length M
 lt:w.heap.size+1+1<bc
theorem CSt.call{w:World}{s:Bs}{B:Bd}{L M:List (Int×Int)}{bc:Nat}{wr w':World}(h:CSt w s B L bc M wr)(hb:Below wr.heap.size wr w'):CSt w s B L bc M w':=⟨h.st.call hb,h.mp.below hb,h.lt⟩
theorem CSt.put{w:World}{s:Bs}{B:Bd}{L L' M:List (Int×Int)}{bc:Nat}{wr w':World}(h:CSt w s B L bc M wr)(hm:MapI w' (w.heap.size+1) L'.length L')(ho:Onl [w.heap.size+1] wr w'):CSt w s B L' bc M w':=
 ⟨h.st.put hm ho,h.mp.onl ho (by have:=h.lt;simp;omega),h.lt⟩
theorem CSt.card{w:World}{s:Bs}{B:Bd}{L M M':List (Int×Int)}{bc:Nat}{wr w':World}(h:CSt w s B L bc M wr)(hm:MapI w' bc M'.length M')(ho:Onl [bc] wr w'):CSt w s B L bc M' w':=
 ⟨h.st.onl ho (by simpa using h.lt),hm,h.lt⟩
def PlS(w:World)(s:Bs)(B:Bd)(bc:Nat)(v:Value)(wr:World):Prop:=∃i:Nat,i<=B.st.length/\v= .int .i64 i/\CSt w s B (bpre B 2 0++spr (B.st.take i)).reverse bc (spc (B.st.take i)).reverse wr/\((bpre B 2 0++spr (B.st.take i)).map Prod.fst).Nodup
def PlO(w:World)(s:Bs)(B:Bd)(bc:Nat)(v:Value)(wr:World):Prop:=∃i:Nat,i<=B.ob.length/\v= .int .i64 i/\CSt w s B B.prs.reverse bc (spc B.st).reverse wr/\∀j o,j<i->B.ob[j]? =some o->okO B j o
theorem rg58_31_ok{P:Program}{id:Nat}{Q:Exit->Act->World->Prop}{a:Act}{w:World}{A:Array Oper}(hB:regOk A [0,8,13,15,26,34] [2,3,4,5,6,7,9,10,11,12,14,16,17,18,19,20,21,22,23,24,25,27,28,29,30,31,32,33,35,36,37] (.rs [0] (.alt 1 (.fs [2,3,4,5,6,7,9,10,14] (.rs [8] (.fs [11,12] (.rs [13,15] (.fs [16,17,18,19,20,21,22,23,24,25] (.rs [26] (.fs [27,28,29,30,31,32,33] (.rs [34] (.fs [35,36,37] .done))))))))) .stop))=true)(h:regOk A [0,8,13,15,26,34] [2,3,4,5,6,7,9,10,11,12,14,16,17,18,19,20,21,22,23,24,25,27,28,29,30,31,32,33,35,36,37] (.rs [0] (.alt 1 (.fs [2,3,4,5,6,7,9,10,14] (.rs [8] (.fs [11,12] (.rs [13,15] (.fs [16,17,18,19,20,21,22,23,24,25] (.rs [26] (.fs [27,28,29,30,31,32,33] (.rs [34] (.fs [35,36,37] .done))))))))) .stop))=true->(Code.region id A true).wp P Q a w):(Code.region id A true).wp P Q a w:=h hB
theorem rg58_31{P:Program}{B n:Nat}{w0:World}{L:List (Nat×Nat×Value)}{E F:World->Prop}{id:Nat}{Q:Exit->Act->World->Prop}{a:Act}{w:World}{A:Array Oper}{o0 o1 o2 o3 o4 o5 o6 o7 o8 o9 o10 o11 o12 o13 o14 o15 o16 o17 o18 o19 o20 o21 o22 o23 o24 o25 o26 o27 o28 o29 o30 o31 o32 o33 o34 o35 o36 o37:Oper}(hm:P.follows .mixedOrders=true)(hA:A=(o0::o1::o2::o3::o4::o5::o6::o7::o8::o9::o10::o11::o12::o13::o14::o15::o16::o17::o18::o19::o20::o21::o22::o23::o24::o25::o26::o27::o28::o29::o30::o31::o32::o33::o34::o35::o36::o37::[]).toArray)(hB:regOk A [0,8,13,15,26,34] [2,3,4,5,6,7,9,10,11,12,14,16,17,18,19,20,21,22,23,24,25,27,28,29,30,31,32,33,35,36,37] (.rs [0] (.alt 1 (.fs [2,3,4,5,6,7,9,10,14] (.rs [8] (.fs [11,12] (.rs [13,15] (.fs [16,17,18,19,20,21,22,23,24,25] (.rs [26] (.fs [27,28,29,30,31,32,33] (.rs [34] (.fs [35,36,37] .done))))))))) .stop))=true)(c:RC B w0 n L E F w)
  (h:∀wk,Kept B w0 n L wk->E wk->F wk->wpQuiet P A (fun w' =>∃s:KX B w0 n L E,w' =s.val) (fun a0=>((∀K1:Act->World->Prop,(∀a1 w1,wpQuiet P A (fun _=>True) (fun a2=>wpQuiet P A (fun w' =>∃s:KX B w0 n L E,w' =s.val) (fun a3=>wpQuiet P A (fun _=>True) (fun a4=>wpQuiet P A (fun w' =>∃s:KX B w0 n L E,w' =s.val) (fun a5=>wpQuiet P A (fun _=>True) (fun a6=>wpQuiet P A (fun w' =>∃s:KX B w0 n L E,w' =s.val) (fun a7=>wpQuiet P A (fun _=>True) (fun a8=>wpQuiet P A (fun w' =>∃s:KX B w0 n L E,w' =s.val) (fun a9=>wpQuiet P A (fun _=>True) (fun a10=>Q .normal a10 w1) [o35,o36,o37] a9) [o34] a8) [o27,o28,o29,o30,o31,o32,o33] a7) [o26] a6) [o16,o17,o18,o19,o20,o21,o22,o23,o24,o25] a5) [o13,o15] a4) [o11,o12] a3) [o8] a2) [o2,o3,o4,o5,o6,o7,o9,o10,o14] a1->K1 a1 w1)->wpList P A (fun e a1 w1=>e= .normal/\(∃s:KX B w0 n L E,w1=s.val)/\K1 a1 w1) [o1] a0 wk)/\True)) [o0] a):(Code.region id A true).wp P Q a w:=by
 subst hA;exact wp_reg _ _ _ hm hB c (fun wk k e f=>have g:=h wk k e f;Scr.of_rs _ _ rfl g fun _ g=>(Scr.of_alt rfl (g.1 _ fun _ _ g=>g) (fun _ _ g=>Scr.of_fs _ _ rfl g fun _ g=>Scr.of_rs _ _ rfl g fun _ g=>Scr.of_fs _ _ rfl g fun _ g=>Scr.of_rs _ _ rfl g fun _ g=>Scr.of_fs _ _ rfl g fun _ g=>Scr.of_rs _ _ rfl g fun _ g=>Scr.of_fs _ _ rfl g fun _ g=>Scr.of_rs _ _ rfl g fun _ g=>Scr.of_fs _ _ rfl g fun _ g=>g) trivial))
def PlP(w:World)(s:Bs)(B:Bd)(v:Value)(wr:World):Prop:=∃p:Nat,p<=2/\v= .int .i64 p/\PSt w s B (bpre B p 0).reverse wr/\((bpre B p 0).map Prod.fst).Nodup
def PlZ(w:World)(s:Bs)(B:Bd)(p:Nat)(v:Value)(wr:World):Prop:=∃z:Nat,z<=4/\v= .int .i64 z/\PSt w s B (bpre B p z).reverse wr/\((bpre B p z).map Prod.fst).Nodup
def PlI(w:World)(s:Bs)(B:Bd)(p z:Nat)(l:List Int)(v:Value)(wr:World):Prop:=∃i:Nat,i<=l.length/\v= .int .i64 i/\PSt w s B (bpre B p z++pr p (l.take i)).reverse wr/\((bpre B p z++pr p (l.take i)).map Prod.fst).Nodup
set_option maxRecDepth 100000 in
set_option maxHeartbeats 40000000 in
theorem placed(s:Bs)(B:Bd)(w:World)(h:BdR w s B)(hi:B.I)(hsm:B.Sm):Calls Tryz.prog 58 #[bv s B] w fun e w' =>(∃r,e= .returned (.bool r)/\(r=true↔Plc B))/\Below w.heap.size w w':=by
 have HR:=Hd h;have HI:=Hd hi;have HSM:=Hd hsm;clear h hi hsm;have hmm:= @run_makeMap Tryz.prog;have hmf:∀(fn:Fn) (first cap:Array Value) (w:World),(Instr.makeFunc fn first cap).run Tryz.prog w= .ok (.func fn first cap) w:=fun _ _ _ _=>rfl
 go_enter Tryz.func58,Tryz.ntmps58
 go_upto_region 1 with fail
 change Code.wp Tryz.prog _ _ _ (w.alloc (.cells (bcells s B) 34))
 obtain⟨wz,hwz⟩:∃W,W=w.alloc (.cells (bcells s B) 34):=⟨_,rfl⟩
 have HX:Hid (Bx wz w.heap.size s B):=Hd (by rw[hwz];exact heap_alloc_new _ _);have hsz:wz.heap.size=w.heap.size+1:=by rw[hwz];simp
 have HBZ:Hid (Below w.heap.size w wz):=Hd (by rw[hwz];exact(Below.refl _ _).alloc (Nat.le_refl _) _);rw[<-hwz];clear hwz
 go_upto_region 3 with fail
 obtain⟨W3,hW3⟩:∃W,W=(wz.alloc (.map #[] 0)).alloc (.cells #[.map (some (w.heap.size+1))] 136):=⟨_,rfl⟩
 rw[<-hW3]
 have HP0:Hid (PSt w s B [] W3):=Hd (by
  rw[hW3];have b1:Below wz.heap.size wz (wz.alloc (.map #[] 0)):=(Below.refl _ _).alloc (Nat.le_refl _) _;have b2:Below (wz.alloc (.map #[] 0)).heap.size (wz.alloc (.map #[] 0)) ((wz.alloc (.map #[] 0)).alloc (.cells #[.map (some (w.heap.size+1))] 136)):=(Below.refl _ _).alloc (Nat.le_refl _) _
  refine⟨below_via (below_via HBZ.o b1) b2,(HX.o.below b1).below b2,?_,?_,by simp;omega⟩
  ·rw[show w.heap.size+1+1=(wz.alloc (.map #[] 0)).heap.size by simp;omega]
   exact cell_of_row _ _ 0 _ 136 (0,0) (heap_alloc_new _ _)
  have h9:=(MapI.made wz).below b2;rw[hsz] at h9
  exact h9)
 clear HX hsz HBZ hW3 wz;go_wp2_with fail
 go_loopw [21] (fun p wr=>PlP w s B p wr) (fun p _=>2-(intOf p).toNat)
 case atStart=>exact⟨0,by omega,rfl,HP0.o,by simp[bpre,pr,zpre]⟩
 obtain⟨p,hp,rfl,hst,hnd⟩:=hrel
 have HST:=Hd hst;have HND:=Hd hnd;clear hst hnd HP0
 by_cases hp2:p<2
 ·have i1:(0:Int)<=(p:Int):=by omega
  have i2:(p:Int)<2:=by omega
  go_wp2_with fail
  with_reducible refine(lists w.heap.size (1+p*14) _).mono ?_
  rintro e w2 ⟨rfl,hb2⟩;replace HST:=Hd (HST.o.call hb2);clear hb2;go_wp2_with fail
  go_loopw [28] (fun z wr=>PlZ w s B p z wr) (fun z _=>4-(intOf z).toNat)
  case atStart=>exact⟨0,by omega,rfl,HST.o,HND.o⟩
  obtain⟨z,hz,rfl,hst,hnd⟩:=hrel
  replace HST:=Hd hst;replace HND:=Hd hnd;clear hst hnd
  by_cases hz4:z<4
  ·have j1:(0:Int)<=(z:Int):=by omega
   have j2:(z:Int)<4:=by omega
   have hix:=idx4 w.heap.size (1+p*14) hz4;have hcz:=HST.o.box.zone hp2 hz4;have HZR:=Hd (HR.o.zone p z)
   obtain⟨⟨sa,sn,sc⟩,hsl⟩:∃q,s.zl p z=q:=⟨_,rfl⟩
   rw[hsl] at hcz HZR
   clear hsl;change Hid (Rw ic 1 _ (.slice sa sn sc) _) at HZR
   have HZI:Hid (∀i x,((B.seat p).zs z)[i]? =some x->I x):=Hd (fun i x hx=>zs_I HI.o hx);have HPR:Hid (∀i,∃r,B.prs=(bpre B p z++pr p (((B.seat p).zs z).take i))++r):=Hd (prs_zone B hp2 hz4)
   obtain⟨l,hl⟩:∃l,(B.seat p).zs z=l:=⟨_,rfl⟩
   have HLL:=Hd hl;rw[hl] at HZR HZI HPR
   have HLEN:Hid (∀i,(bpre B p z++pr p (l.take i)).length<100000):=Hd (fun i=>by
    have h1:=bpre_len HSM.o p z;have h2:=HSM.o.zs p z;rw[hl] at h2
    simp[pr];omega)
   have HZ4:=Hd hz4;clear hl hz4
   obtain⟨hml,a0,c0,hv,hf⟩:=HZR.o.form
   simp only[Value.slice.injEq] at hv
   obtain⟨rfl,rfl,rfl⟩:=hv
   have HF:=Hd hf;clear hf;go_wp2_with fail
   go_loopw [35] (fun i wr=>PlI w s B p z l i wr) (fun i _=>l.length-(intOf i).toNat)
   case atStart=>exact⟨0,by omega,rfl,by simpa [pr] using HST.o,by simpa [pr] using HND.o⟩
   obtain⟨i,hi,rfl,hst,hnd⟩:=hrel
   replace HST:=Hd hst;replace HND:=Hd hnd;clear hst hnd
   by_cases hil:i<l.length
   ·have k1:(0:Int)<=(i:Int):=by omega
    have k2:(i:Int)<(l.length:Int):=by omega
    obtain⟨b0,off,rfl,hlt,hc⟩:=HF.o (by omega)
    obtain⟨x,hx⟩:∃x,l[i]? =some x:=⟨_,List.getElem?_eq_getElem hil⟩
    have d0:wr.cell? ⟨b0,off+i,none⟩=some (.int .i64 x):=(HST.o.below.cell (p:=⟨b0,off+i,none⟩) hlt).trans (by have:=hc i x hx 0 _ rfl;simpa using this);have HXI:=Hd (HZI.o i x hx);have HIP:Hid (I (p:Int)):=Hd (by unfold I;omega);have HLE:Hid ((bpre B p z++pr p (l.take i)).reverse.length<100000):=Hd (by rw[List.length_reverse];exact HLEN.o i)
    obtain⟨r,hr⟩:∃r,(lk (bpre B p z++pr p (l.take i)).reverse x).isSome=r:=⟨_,rfl⟩
    have HRR:=Hd hr;have HXX:=Hd hx;clear hc hx hr;go_wp2_with fail
    with_reducible refine(putc x p _ _ _ r _ HST.o.cq HST.o.mp HLE.o HXI.o HIP.o HRR.o).mono ?_
    rintro e w4 ⟨rfl,hm4,ho4⟩;have hsn:bpre B p z++pr p (l.take (i+1))=(bpre B p z++pr p (l.take i))++[((x,p):Int×Int)]:=by rw[pr_snoc _ _ _ _ HXX.o,List.append_assoc]
    have HSN:=Hd hsn
    replace HST:Hid (PSt w s B (bpre B p z++pr p (l.take (i+1))).reverse w4):=Hd (by
     rw[hsn,List.reverse_append];exact HST.o.put (by simpa using hm4) ho4)
    clear hm4 ho4 hsn
    cases r
    ·have HND2:Hid ((bpre B p z++pr p (l.take (i+1))).map Prod.fst).Nodup:=Hd (by
      have h1:x∉(bpre B p z++pr p (l.take i)).map Prod.fst:=by
       have h2:lk (bpre B p z++pr p (l.take i)).reverse x=none:=by simpa using HRR.o
       have h3:=lk_none.1 h2;rw[List.map_reverse,List.mem_reverse] at h3
       exact h3
      rw[HSN.o,List.map_append];exact List.nodup_append.2 ⟨HND.o,by simp,fun a ha b hb e=>by simp at hb;subst hb;subst e;exact h1 ha⟩)
     go_wp2_with fail
     go_roundw
     case rel=>exact⟨i+1,by omega,by go_num,HST.o,HND2.o⟩
     case measure=>simp[intOf];omega
    have HNP:Hid (¬Plc B):=Hd (by
     obtain⟨r,hr⟩:=HPR.o (i+1)
     rw[HSN.o] at hr
     refine not_plc hr ?_;have h2:(lk (bpre B p z++pr p (l.take i)).reverse x).isSome=true:=HRR.o;refine Classical.byContradiction fun h3=> ?_
     have h4:lk (bpre B p z++pr p (l.take i)).reverse x=none:=lk_none.2 (by rw[List.map_reverse,List.mem_reverse];exact h3);rw[h4] at h2
     cases h2)
    go_wp2_with fail
    go_returns
    exact⟨⟨false,rfl,⟨fun h=>(by cases h),fun h=>absurd h HNP.o⟩⟩,HST.o.below⟩
   have hie:i=l.length:=by omega
   rw[hie,List.take_length] at HST HND
   have HB:Hid (bpre B p (z+1)=bpre B p z++pr p l):=Hd (by rw[<-HLL.o];exact bpre_zone B hp2 HZ4.o);clear hie;go_wp2_with fail
   go_roundw
   case rel=>exact⟨z+1,by have:=HZ4.o;omega,by go_num,by rw[HB.o];exact HST.o,by rw[HB.o];exact HND.o⟩
   case measure=>have:=HZ4.o;simp[intOf];omega
  obtain rfl:z=4:=by omega
  have HB:=Hd (bpre_four B hp2);go_wp2_with fail
  go_roundw
  case rel=>exact⟨p+1,by omega,by go_num,by rw[<-HB.o];exact HST.o,by rw[<-HB.o];exact HND.o⟩
  case measure=>simp[intOf];omega
 have hpe:p=2:=by omega
 rw[hpe] at HST HND
 clear hpe
 go_upto_region 18 with fail
 obtain⟨wb,hwb⟩:∃W,W=wr.alloc (.map #[] 0):=⟨_,rfl⟩
 rw[<-hwb]
 have HC0:Hid (CSt w s B (bpre B 2 0).reverse wr.heap.size [] wb):=Hd (by
  rw[hwb]
  exact⟨HST.o.call ((Below.refl _ _).alloc (Nat.le_refl _) _),MapI.made wr,HST.o.lt⟩)
 obtain⟨bc,hbc⟩:∃n,n=wr.heap.size:=⟨_,rfl⟩
 rw[<-hbc] at HC0 ⊢
 clear HST hwb hbc wr
 have HLS:Hid (∀i,(bpre B 2 0++spr (B.st.take i)).length<100000/\(spc (B.st.take i)).length<100000):=Hd (fun i=>by
  have h1:=bpre_len HSM.o 2 0;have h2:=HSM.o.st;have h3:(cst (B.st.take i)).length<=(B.st.take i).length:=List.length_filter_le _ _;have h4:(B.st.take i).length<=B.st.length:=by simp;omega
  simp[spr,spc];omega)
 obtain⟨l',hl',hrw,htg⟩:=HR.o.st
 have HTL:=Hd hl'
 obtain⟨hml,a0,c0,hv,hf⟩:=hrw.form
 simp only[Sl.v,Value.slice.injEq] at hv
 have hlen:l'.length=B.st.length:=by rw[<-hl',List.length_map]
 have HLN:=Hd hlen;have hmb:B.st.length<=9223372036854775807:=by omega
 have c29:wb.cell? ⟨w.heap.size,29,none⟩=some (.slice a0 B.st.length c0):=by
  have:=HC0.o.st.box.cell 29
  rw[this]
  show some (Value.slice s.st.a s.st.n s.st.c)=_
  rw[hv.1,hv.2.1,hv.2.2,hlen]
 have HF:=Hd hf;clear hf hv hrw hlen hl' htg hml;go_wp2_with fail
 clear c29
 go_loopw [51] (fun i wr=>PlS w s B bc i wr) (fun i _=>B.st.length-(intOf i).toNat)
 case atStart=>exact⟨0,by omega,rfl,by simpa [spr,spc,cst] using HC0.o,by simpa [spr,cst] using HND.o⟩
 obtain⟨i,hi,rfl,hst,hnd⟩:=hrel
 have HST:=Hd hst;replace HND:=Hd hnd;clear hst hnd HC0
 by_cases hil:i<B.st.length
 ·have k1:(0:Int)<=(i:Int):=by omega
  have k2:(i:Int)<(B.st.length:Int):=by omega
  obtain⟨b0,off,rfl,hlt,hc⟩:=HF.o (by have:=HLN.o;omega)
  obtain⟨y,hy⟩:∃y,l'[i]? =some y:=⟨_,List.getElem?_eq_getElem (by have:=HLN.o;omega)⟩
  obtain⟨⟨pl,id,cd,tr,tg⟩,⟨ta,tn,tc'⟩⟩:=y
  have hx:B.st[i]? =some ⟨pl,id,cd,tr,tg⟩:=by rw[<-HTL.o,List.getElem?_map,hy];rfl
  have hd:∀(j:Nat) (u:Value),(itc (⟨pl,id,cd,tr,tg⟩,⟨ta,tn,tc'⟩))[j]? =some u->wr.cell? ⟨b0,off+(i*5+j),none⟩=some u:=fun j u hu=>(HST.o.st.below.cell (p:=⟨b0,off+(i*5+j),none⟩) hlt).trans (hc i _ hy j u hu)
  have d0:wr.cell? ⟨b0,off+i*5,none⟩=some (.int .i64 pl):=hd 0 _ rfl;have d1:=cA hd 1 rfl;have d2:=cA hd 2 rfl;have d3:=cA hd 3 rfl;have d4:wr.cell? ⟨b0,off+i*5+4,none⟩=some (.slice ta tn tc'):=by rw[Nat.add_assoc];exact hd 4 _ rfl
  have HXX:=Hd hx;have HII:=Hd (HI.o.st _ (List.mem_of_getElem? hx));have hlt2:b0<wr.heap.size:=Nat.lt_of_lt_of_le hlt HST.o.st.below.size;clear hc hy hx hd
  go_upto_region 21 with fail
  obtain⟨wq,hwq⟩:∃W,W=wr.alloc (.cells #[.int .i64 pl,.int .i64 id,.int .i64 cd,.int .i64 tr,.slice ta tn tc'] 73):=⟨_,rfl⟩
  rw[<-hwq];have hqb:Below wr.heap.size wr wq:=by rw[hwq];exact(Below.refl _ _).alloc (Nat.le_refl _) _
  have hqs:wq.heap.size=wr.heap.size+1:=by rw[hwq];simp
  have hqc:∀j,wq.cell? ⟨wr.heap.size,j,none⟩=(#[.int .i64 pl,.int .i64 id,.int .i64 cd,.int .i64 tr,.slice ta tn tc']:Array Value)[j]? :=fun j=>by rw[hwq];exact cell_of_row _ _ j _ 73 (0,0) (heap_alloc_new _ _)
  clear hwq d0 d1 d2 d3 d4;have HLT:Hid (w.heap.size+1+1<wr.heap.size):=Hd HST.o.st.lt;replace HST:=Hd (HST.o.call hqb)
  obtain⟨n0,hn0⟩:∃n,n=wr.heap.size:=⟨_,rfl⟩
  rw[<-hn0] at hqs hqc HLT ⊢
  have HQS:=Hd hqs;have HQC:=Hd hqc;have q0:wq.cell? ⟨n0,0,none⟩=some (.int .i64 pl):=hqc 0;have q1:wq.cell? ⟨n0,1,none⟩=some (.int .i64 id):=hqc 1;have q2:wq.cell? ⟨n0,2,none⟩=some (.int .i64 cd):=hqc 2;have q3:wq.cell? ⟨n0,3,none⟩=some (.int .i64 tr):=hqc 3;clear hqb hqs hqc hn0 hlt2 hlt
  by_cases htr:tr<0
  ·have t1:decide (tr<0)=true:=decide_eq_true htr
   have HSP:Hid (spr (B.st.take (i+1))=spr (B.st.take i)++[((id,pl):Int×Int)]):=Hd (by rw[spr_snoc _ _ _ HXX.o,if_pos htr]);have HSC:Hid (spc (B.st.take (i+1))=spc (B.st.take i)++[((id,cd):Int×Int)]):=Hd (by rw[spc_snoc _ _ _ HXX.o,if_pos htr]);have HL1:Hid ((bpre B 2 0++spr (B.st.take i)).reverse.length<100000):=Hd (by rw[List.length_reverse];exact(HLS.o i).1);have HL2:Hid ((spc (B.st.take i)).reverse.length<100000):=Hd (by rw[List.length_reverse];exact(HLS.o i).2)
   obtain⟨r,hr⟩:∃r,(lk (bpre B 2 0++spr (B.st.take i)).reverse id).isSome=r:=⟨_,rfl⟩
   have HRR:=Hd hr;clear hr htr;go_wp2_with fail
   with_reducible refine(putc id pl _ _ _ r _ HST.o.st.cq HST.o.st.mp HL1.o HII.o.1 HII.o.2.1 HRR.o).mono ?_
   rintro e w4 ⟨rfl,hm4,ho4⟩;have HSN:Hid (bpre B 2 0++spr (B.st.take (i+1))=(bpre B 2 0++spr (B.st.take i))++[((id,pl):Int×Int)]):=Hd (by rw[HSP.o,List.append_assoc])
   replace HST:Hid (CSt w s B (bpre B 2 0++spr (B.st.take (i+1))).reverse bc (spc (B.st.take i)).reverse w4):=Hd (by
    rw[HSN.o,List.reverse_append];exact HST.o.put (by simpa using hm4) ho4)
   have hno:n0∉[w.heap.size+1]:=by have:=HLT.o;simp;omega
   have p1:w4.cell? ⟨n0,1,none⟩=some (.int .i64 id):=(ho4.cell (by have:=HQS.o;omega) hno).trans q1;have p2:w4.cell? ⟨n0,2,none⟩=some (.int .i64 cd):=(ho4.cell (by have:=HQS.o;omega) hno).trans q2;clear hm4 ho4 q0 q1 q2 q3 hno
   cases r
   ·have HND2:Hid ((bpre B 2 0++spr (B.st.take (i+1))).map Prod.fst).Nodup:=Hd (by
     have h1:id∉(bpre B 2 0++spr (B.st.take i)).map Prod.fst:=by
      have h2:lk (bpre B 2 0++spr (B.st.take i)).reverse id=none:=by simpa using HRR.o
      have h3:=lk_none.1 h2;rw[List.map_reverse,List.mem_reverse] at h3
      exact h3
     rw[HSN.o,List.map_append];exact List.nodup_append.2 ⟨HND.o,by simp,fun a ha b hb e=>by simp at hb;subst hb;subst e;exact h1 ha⟩)
    go_wp2_with (at_mapUpdate;refine wpList_putI rfl _ _ _ rfl rfl HST.o.mp HL2.o id cd rfl rfl HII.o.1 HII.o.2.2 ?_;intro w9 hm9 ho9)
    clear p1 p2
    replace HST:Hid (CSt w s B (bpre B 2 0++spr (B.st.take (i+1))).reverse bc (spc (B.st.take (i+1))).reverse w9):=Hd (by
     rw[HSC.o,show(spc (B.st.take i)++[((id,cd):Int×Int)]).reverse=(id,cd)::(spc (B.st.take i)).reverse by simp];exact HST.o.card (M':=(id,cd)::(spc (B.st.take i)).reverse) (by simpa using hm9) ho9)
    clear hm9 ho9;go_wp2_with fail
    go_roundw
    case rel=>exact⟨i+1,by omega,by go_num,HST.o,HND2.o⟩
    case measure=>simp[intOf];omega
   have HNP:Hid (¬Plc B):=Hd (by
    obtain⟨r,hr⟩:=prs_stack B (i+1)
    rw[HSN.o] at hr
    refine not_plc hr ?_;have h2:(lk (bpre B 2 0++spr (B.st.take i)).reverse id).isSome=true:=HRR.o;refine Classical.byContradiction fun h3=> ?_
    have h4:lk (bpre B 2 0++spr (B.st.take i)).reverse id=none:=lk_none.2 (by rw[List.map_reverse,List.mem_reverse];exact h3);rw[h4] at h2
    cases h2)
   go_wp2_with fail
   go_returns
   exact⟨⟨false,rfl,⟨fun h=>(by cases h),fun h=>absurd h HNP.o⟩⟩,HST.o.st.below⟩
  have t1:decide (tr<0)=false:=decide_eq_false htr;have HSP:Hid (spr (B.st.take (i+1))=spr (B.st.take i)):=Hd (by rw[spr_snoc _ _ _ HXX.o,if_neg htr]);have HSC:Hid (spc (B.st.take (i+1))=spc (B.st.take i)):=Hd (by rw[spc_snoc _ _ _ HXX.o,if_neg htr]);clear htr;go_wp2_with fail
  go_roundw
  case rel=>exact⟨i+1,by omega,by go_num,by rw[HSP.o,HSC.o];exact HST.o,by rw[HSP.o];exact HND.o⟩
  case measure=>simp[intOf];omega
 have hie:i=B.st.length:=by omega
 rw[hie,List.take_length] at HST HND
 clear hie HLS HTL HLN HF;have HLS:Hid (B.prs.reverse.length<100000):=Hd (by rw[List.length_reverse];exact prs_len HSM.o);rw[<-prs_all] at HST HND
 obtain⟨hml,a1,c1,hv,hf⟩:=HR.o.ob.form
 simp only[Sl.v,Value.slice.injEq] at hv
 have c0c:wr.cell? ⟨w.heap.size,0,none⟩=some (.slice a1 B.ob.length c1):=by
  have:=HST.o.st.box.cell 0
  rw[this]
  show some (Value.slice s.ob.a s.ob.n s.ob.c)=_
  rw[hv.1,hv.2.1,hv.2.2]
 have HCO:Hid (∀W,Bx W w.heap.size s B->W.cell? ⟨w.heap.size,0,none⟩=some (.slice a1 B.ob.length c1)):=Hd (fun W h=>by
  rw[h.cell 0]
  show some (Value.slice s.ob.a s.ob.n s.ob.c)=_
  rw[hv.1,hv.2.1,hv.2.2])
 have HF:=Hd hf;clear hf hv;go_wp2_with fail
 clear c0c
 go_loopw [74] (fun i wr=>PlO w s B bc i wr) (fun i _=>B.ob.length-(intOf i).toNat)
 case atStart=>exact⟨0,by omega,rfl,HST.o,fun j o h=>by omega⟩
 obtain⟨i,hi,rfl,hst,hok⟩:=hrel
 replace HST:=Hd hst;have HOK:=Hd hok;clear hst hok
 by_cases hil:i<B.ob.length
 ·have k1:(0:Int)<=(i:Int):=by omega
  have k2:(i:Int)<(B.ob.length:Int):=by omega
  obtain⟨b0,off,rfl,hlt,hc⟩:=HF.o (by omega)
  obtain⟨x,hx⟩:∃x,B.ob[i]? =some x:=⟨_,List.getElem?_eq_getElem hil⟩
  have hd:∀(j:Nat) (u:Value),(oc x)[j]? =some u->wr.cell? ⟨b0,off+(i*12+j),none⟩=some u:=fun j u hu=>(HST.o.st.below.cell (p:=⟨b0,off+(i*12+j),none⟩) hlt).trans (hc i _ hx j u hu)
  have d0:wr.cell? ⟨b0,off+i*12,none⟩=some (.int .i64 x.id):=hd 0 _ rfl;have d1:=cA hd 1 rfl;have d2:=cA hd 2 rfl;have d3:=cA hd 3 rfl;have d4:=cA hd 4 rfl;have d5:=cA hd 5 rfl;have d6:=cA hd 6 rfl;have d7:=cA hd 7 rfl;have d8:=cA hd 8 rfl;have d9:=cA hd 9 rfl;have d10:=cA hd 10 rfl;have d11:=cA hd 11 rfl;have HXX:=Hd hx;have HOI:=Hd (HI.o.ob x (List.mem_of_getElem? hx));have hlt2:b0<wr.heap.size:=Nat.lt_of_lt_of_le hlt HST.o.st.below.size;have HPV:Hid (∀q,0<i->B.ob[i-1]? =some q->wr.cell? ⟨b0,off+(i-1)*12,none⟩=some (.int .i64 q.id)):=Hd (fun q h0 hq=>(HST.o.st.below.cell (p:=⟨b0,off+(i-1)*12,none⟩) hlt).trans (hc (i-1) q hq 0 _ rfl));clear hc hx hd
  go_upto_region 29 with fail
  obtain⟨wq,hwq⟩:∃W,W=wr.alloc (.cells #[.int .i64 x.id,.int .i64 x.cd,.int .i64 x.ow,.int .i64 x.po,.int .i64 x.tg,.int .i64 x.da,.int .i64 x.co,.int .i64 x.pp,.int .i64 x.pt,.bool x.ta,.bool x.si,.bool x.dm] 47):=⟨_,rfl⟩
  rw[<-hwq];have hqb:Below wr.heap.size wr wq:=by rw[hwq];exact(Below.refl _ _).alloc (Nat.le_refl _) _
  have hqs:wq.heap.size=wr.heap.size+1:=by rw[hwq];simp
  have hqc:∀j,wq.cell? ⟨wr.heap.size,j,none⟩=(#[.int .i64 x.id,.int .i64 x.cd,.int .i64 x.ow,.int .i64 x.po,.int .i64 x.tg,.int .i64 x.da,.int .i64 x.co,.int .i64 x.pp,.int .i64 x.pt,.bool x.ta,.bool x.si,.bool x.dm]:Array Value)[j]? :=fun j=>by rw[hwq];exact cell_of_row _ _ j _ 47 (0,0) (heap_alloc_new _ _)
  have hqf:∀j,wq.frozen? ⟨wr.heap.size,j,none⟩=false:=fun j=>by rw[hwq];exact World.frozen?_alloc_new _ _ _ _
  clear hwq;have hpf:∀W,Bx W w.heap.size s B->W.frozen? ⟨w.heap.size,0,none⟩=false:=fun W h=>by unfold World.frozen?;rw[show W.heap[w.heap.size]? =_ from h];simp
  have HLT:Hid (w.heap.size+1+1<wr.heap.size):=Hd HST.o.st.lt;have hcl:=hlt2;replace HST:=Hd (HST.o.call hqb)
  obtain⟨n0,hn0⟩:∃n,n=wr.heap.size:=⟨_,rfl⟩
  rw[<-hn0] at hqs hqc hqf HLT hcl ⊢
  have HK0:Hid (Kept w.heap.size w (n0+1) [(w.heap.size,0,.slice (some ⟨b0,off,none⟩) B.ob.length c1),(n0,0,.int .i64 x.id),(n0,1,.int .i64 x.cd),(n0,2,.int .i64 x.ow),(n0,3,.int .i64 x.po),(n0,4,.int .i64 x.tg),(n0,5,.int .i64 x.da),(n0,6,.int .i64 x.co),(n0,7,.int .i64 x.pp),(n0,8,.int .i64 x.pt),(n0,9,.bool x.ta),(n0,10,.bool x.si),(n0,11,.bool x.dm)] wq):=Hd ⟨HST.o.st.below,by omega,by
   have e1:=HCO.o wq HST.o.st.box;have e2:=hpf wq HST.o.st.box;have e3:=HLT.o;intro y hy;simp only[List.mem_cons,List.not_mem_nil,or_false] at hy
   rcases hy with rfl|rfl|rfl|rfl|rfl|rfl|rfl|rfl|rfl|rfl|rfl|rfl|rfl
   ·exact⟨by show w.heap.size<n0+1;omega,e1,e2⟩
   all_goals exact⟨by show n0<n0+1;omega,hqc _,hqf _⟩⟩
  replace HPV:Hid (∀q,0<i->B.ob[i-1]? =some q->b0<wq.heap.size/\wq.cell? ⟨b0,off+(i-1)*12,none⟩=some (.int .i64 q.id)):=Hd (fun q h0 hq=>⟨by omega,(hqb.cell (p:=⟨b0,off+(i-1)*12,none⟩) (by show b0<wr.heap.size;omega)).trans (HPV.o q h0 hq)⟩);have q0:wq.cell? ⟨n0,0,none⟩=some (.int .i64 x.id):=hqc 0;have hlt0:w.heap.size<=n0:=by have:=HLT.o;omega
  clear hqb hqs hqc hqf hn0 hlt2 hlt hpf hcl d0 d1 d2 d3 d4 d5 d6 d7 d8 d9 d10 d11
  obtain⟨v1,hv1⟩:∃v,(lk B.prs.reverse x.id).getD 0=v:=⟨_,rfl⟩
  obtain⟨r1,hr1⟩:∃r,(lk B.prs.reverse x.id).isSome=r:=⟨_,rfl⟩
  obtain⟨v2,hv2⟩:∃v,(lk (spc B.st).reverse x.id).getD 0=v:=⟨_,rfl⟩
  obtain⟨r2,hr2⟩:∃r,(lk (spc B.st).reverse x.id).isSome=r:=⟨_,rfl⟩
  have hlk1:=HST.o.st.mp.look HOI.o.id hr1 hv1;have hlk2:=HST.o.mp.look HOI.o.id hr2 hv2;have HIFF:Hid (okO B i x↔(vO x=true/\rise B.ob i x/\r1=true/\v1=x.ow/\(r2=true->v2=x.cd))):=Hd (by rw[<-hv1,<-hr1,<-hv2,<-hr2];exact okO_iff HND.o i x);have HNO:Hid (¬okO B i x->¬Plc B):=Hd (fun h hp=>h (hp.ob i x HXX.o))
  have HYE:Hid (okO B i x->∀j o,j<i+1->B.ob[j]? =some o->okO B j o):=Hd (fun h j o hj ho=>by
   rcases Nat.lt_or_ge j i with h1|h1
   ·exact HOK.o j o h1 ho
   obtain rfl:j=i:=by omega
   have:=ho.symm.trans HXX.o
   simp at this
   rw[this];exact h)
  clear hv1 hr1 hv2 hr2;have zlt:∀n:Nat,n=0->decide (n>0)=false/\decide ((n:Int)>0)=false:=fun n h=>by subst h;exact⟨rfl,rfl⟩
  have zgt:∀n:Nat,0<n->decide (n>0)=true/\decide ((n:Int)>0)=true:=fun n h=>⟨decide_eq_true h,decide_eq_true (by omega)⟩
  have cqq:=HST.o.st.cq
  go_upto_region 31 with fail
  clear hlk1 hlk2 q0 cqq;refine rg58_31_ok (by kernel_rfl) (fun hB31=> ?_)
  cases hvx:vO x
  ·have HV:=Hd hvx
   clear hvx;have HN:Hid (¬Plc B):=Hd (HNO.o (fun h=>by have:=(HIFF.o.1 h).1;rw[HV.o] at this;cases this));refine rg58_31 (w0:=w) (B:=w.heap.size) (n:=n0+1) (L:=[(w.heap.size,0,.slice (some ⟨b0,off,none⟩) B.ob.length c1),(n0,0,.int .i64 x.id),(n0,1,.int .i64 x.cd),(n0,2,.int .i64 x.ow),(n0,3,.int .i64 x.po),(n0,4,.int .i64 x.tg),(n0,5,.int .i64 x.da),(n0,6,.int .i64 x.co),(n0,7,.int .i64 x.pp),(n0,8,.int .i64 x.pt),(n0,9,.bool x.ta),(n0,10,.bool x.si),(n0,11,.bool x.dm)]) (E:=fun _=>True) (F:=fun W=>CSt w s B B.prs.reverse bc (spc B.st).reverse W) (by kernel_rfl) rfl hB31 ⟨(HK0.o.step (by omega) (by go_grown)),trivial,fun _ _ _ _=>trivial,HST.o,fun _ _ h hb=>h.call hb⟩ (fun w1 K_w1 E_w1 F_w1=> ?_);have _ne:Nonempty (KX (w.heap.size) w (n0+1) [(w.heap.size,0,.slice (some ⟨b0,off,none⟩) B.ob.length c1),(n0,0,.int .i64 x.id),(n0,1,.int .i64 x.cd),(n0,2,.int .i64 x.ow),(n0,3,.int .i64 x.po),(n0,4,.int .i64 x.tg),(n0,5,.int .i64 x.da),(n0,6,.int .i64 x.co),(n0,7,.int .i64 x.pp),(n0,8,.int .i64 x.pt),(n0,9,.bool x.ta),(n0,10,.bool x.si),(n0,11,.bool x.dm)] (fun _=>True)):=⟨⟨_,K_w1,E_w1⟩⟩;have rP0:=rcx _ne 0 rfl;have rN0:=rcx _ne 1 rfl;have rN1:=rcx _ne 2 rfl;have rN2:=rcx _ne 3 rfl;have rN3:=rcx _ne 4 rfl;have rN4:=rcx _ne 5 rfl;have rN5:=rcx _ne 6 rfl;have rN6:=rcx _ne 7 rfl;have rN7:=rcx _ne 8 rfl;have rN8:=rcx _ne 9 rfl;have rN9:=rcx _ne 10 rfl;have rN10:=rcx _ne 11 rfl;have rN11:=rcx _ne 12 rfl
   repeat (go_big_quiet_step (fail))
   refine wpQuiet_nil ?_;have KH_w1:=Hd K_w1;have hw_w1:=K_w1.below;have hz_w1:=K_w1.size;have lP_w1:w.heap.size<w1.heap.size:=by omega
   have lN_w1:n0<w1.heap.size:=by omega
   clear K_w1;have HST:=Hd (F_w1);clear E_w1 F_w1
   refine⟨fun K hK0=> ?_,trivial⟩
   have hK:=Hd hK0;clear hK0;go_wp2_with fail
   with_reducible refine(ovalidc x false _ HV.o).mono ?_
   rintro e w2 ⟨rfl,hb_w2⟩;have K_w2:=(KH_w1.o.step (by omega) (by go_grown)).step (by omega) hb_w2;replace HST:=Hd (HST.o.call hb_w2);clear hb_w2;have KH_w2:=Hd K_w2;have hw_w2:=K_w2.below;have hz_w2:=K_w2.size;have lP_w2:w.heap.size<w2.heap.size:=by omega
   have lN_w2:n0<w2.heap.size:=by omega
   clear lP_w1 lN_w1;clear K_w2;go_wp2_with fail
   first|refine⟨rfl,?u,hK.o _ _ ?_⟩|refine⟨?u,hK.o _ _ ?_⟩
   case u=>exact⟨⟨_,KH_w2.o,trivial⟩,rfl⟩
   clear hK K
   repeat (go_big_quiet_step (fail))
   refine wpQuiet_nil ?_
   repeat (go_big_quiet_step (fail))
   refine wpQuiet_nil ?_
   repeat (go_big_quiet_step (fail))
   refine wpQuiet_nil ?_
   repeat (go_big_quiet_step (fail))
   refine wpQuiet_nil ?_
   repeat (go_big_quiet_step (fail))
   refine wpQuiet_nil ?_
   repeat (go_big_quiet_step (fail))
   refine wpQuiet_nil ?_
   repeat (go_big_quiet_step (fail))
   refine wpQuiet_nil ?_
   repeat (go_big_quiet_step (fail))
   refine wpQuiet_nil ?_
   repeat (go_big_quiet_step (fail))
   refine wpQuiet_nil ?_;clear rP0 rN0 rN1 rN2 rN3 rN4 rN5 rN6 rN7 rN8 rN9 rN10 rN11;clear _ne;go_wp2_with fail
   go_returns
   exact⟨⟨false,rfl,⟨fun h=>(by cases h),fun h=>absurd h HN.o⟩⟩,HST.o.st.below⟩
  have HV:=Hd hvx;clear hvx
  by_cases hi0:i=0
  ·obtain⟨z1,z2⟩:=zlt i hi0
   have HRI:Hid (rise B.ob i x):=Hd (fun j q hj=>by omega);clear hi0
   cases r1
   ·have HN:Hid (¬Plc B):=Hd (HNO.o (fun h=>by have:=(HIFF.o.1 h).2.2.1;cases this))
    refine rg58_31 (w0:=w) (B:=w.heap.size) (n:=n0+1) (L:=[(w.heap.size,0,.slice (some ⟨b0,off,none⟩) B.ob.length c1),(n0,0,.int .i64 x.id),(n0,1,.int .i64 x.cd),(n0,2,.int .i64 x.ow),(n0,3,.int .i64 x.po),(n0,4,.int .i64 x.tg),(n0,5,.int .i64 x.da),(n0,6,.int .i64 x.co),(n0,7,.int .i64 x.pp),(n0,8,.int .i64 x.pt),(n0,9,.bool x.ta),(n0,10,.bool x.si),(n0,11,.bool x.dm)]) (E:=fun _=>True) (F:=fun W=>CSt w s B B.prs.reverse bc (spc B.st).reverse W) (by kernel_rfl) rfl hB31 ⟨(HK0.o.step (by omega) (by go_grown)),trivial,fun _ _ _ _=>trivial,HST.o,fun _ _ h hb=>h.call hb⟩ (fun w1 K_w1 E_w1 F_w1=> ?_);have _ne:Nonempty (KX (w.heap.size) w (n0+1) [(w.heap.size,0,.slice (some ⟨b0,off,none⟩) B.ob.length c1),(n0,0,.int .i64 x.id),(n0,1,.int .i64 x.cd),(n0,2,.int .i64 x.ow),(n0,3,.int .i64 x.po),(n0,4,.int .i64 x.tg),(n0,5,.int .i64 x.da),(n0,6,.int .i64 x.co),(n0,7,.int .i64 x.pp),(n0,8,.int .i64 x.pt),(n0,9,.bool x.ta),(n0,10,.bool x.si),(n0,11,.bool x.dm)] (fun _=>True)):=⟨⟨_,K_w1,E_w1⟩⟩;have rP0:=rcx _ne 0 rfl;have rN0:=rcx _ne 1 rfl;have rN1:=rcx _ne 2 rfl;have rN2:=rcx _ne 3 rfl;have rN3:=rcx _ne 4 rfl;have rN4:=rcx _ne 5 rfl;have rN5:=rcx _ne 6 rfl;have rN6:=rcx _ne 7 rfl;have rN7:=rcx _ne 8 rfl;have rN8:=rcx _ne 9 rfl;have rN9:=rcx _ne 10 rfl;have rN10:=rcx _ne 11 rfl;have rN11:=rcx _ne 12 rfl
    repeat (go_big_quiet_step (fail))
    refine wpQuiet_nil ?_;have KH_w1:=Hd K_w1;have hw_w1:=K_w1.below;have hz_w1:=K_w1.size;have lP_w1:w.heap.size<w1.heap.size:=by omega
    have lN_w1:n0<w1.heap.size:=by omega
    clear K_w1;have HST:=Hd (F_w1);clear E_w1 F_w1
    refine⟨fun K hK0=> ?_,trivial⟩
    have hK:=Hd hK0;clear hK0;go_wp2_with fail
    with_reducible refine(ovalidc x true _ HV.o).mono ?_
    rintro e w2 ⟨rfl,hb_w2⟩;have K_w2:=(KH_w1.o.step (by omega) (by go_grown)).step (by omega) hb_w2;replace HST:=Hd (HST.o.call hb_w2);clear hb_w2;have KH_w2:=Hd K_w2;have hw_w2:=K_w2.below;have hz_w2:=K_w2.size;have lP_w2:w.heap.size<w2.heap.size:=by omega
    have lN_w2:n0<w2.heap.size:=by omega
    clear lP_w1 lN_w1;clear K_w2;go_wp2_with fail
    first|refine⟨rfl,?u,hK.o _ _ ?_⟩|refine⟨?u,hK.o _ _ ?_⟩
    case u=>exact⟨⟨_,KH_w2.o,trivial⟩,rfl⟩
    clear hK K
    repeat (go_big_quiet_step (fail))
    refine wpQuiet_nil ?_
    repeat (go_big_quiet_step (fail))
    refine wpQuiet_nil ?_
    repeat (go_big_quiet_step (fail))
    refine wpQuiet_nil ?_
    repeat (go_big_quiet_step (fail))
    refine wpQuiet_nil ?_
    repeat (go_big_quiet_step (fail))
    refine wpQuiet_nil ?_
    repeat (go_big_quiet_step (fail))
    refine wpQuiet_nil ?_
    repeat (go_big_quiet_step (fail))
    refine wpQuiet_nil ?_
    repeat (go_big_quiet_step (fail))
    refine wpQuiet_nil ?_
    repeat (go_big_quiet_step (fail))
    refine wpQuiet_nil ?_;clear rP0 rN0 rN1 rN2 rN3 rN4 rN5 rN6 rN7 rN8 rN9 rN10 rN11;clear _ne;go_wp2_with fail
    go_returns
    exact⟨⟨false,rfl,⟨fun h=>(by cases h),fun h=>absurd h HN.o⟩⟩,HST.o.st.below⟩
   by_cases how:v1=x.ow
   ·have z4:(v1==x.ow)=true:=by simp[how]
    have z4b:(v1 !=x.ow)=false:=by simp[how]
    have HOW:=Hd how;clear how
    cases r2
    ·have HY:Hid (okO B i x):=Hd (HIFF.o.2 ⟨HV.o,HRI.o,rfl,HOW.o,fun h=>by cases h⟩)
     refine rg58_31 (w0:=w) (B:=w.heap.size) (n:=n0+1) (L:=[(w.heap.size,0,.slice (some ⟨b0,off,none⟩) B.ob.length c1),(n0,0,.int .i64 x.id),(n0,1,.int .i64 x.cd),(n0,2,.int .i64 x.ow),(n0,3,.int .i64 x.po),(n0,4,.int .i64 x.tg),(n0,5,.int .i64 x.da),(n0,6,.int .i64 x.co),(n0,7,.int .i64 x.pp),(n0,8,.int .i64 x.pt),(n0,9,.bool x.ta),(n0,10,.bool x.si),(n0,11,.bool x.dm)]) (E:=fun _=>True) (F:=fun W=>CSt w s B B.prs.reverse bc (spc B.st).reverse W) (by kernel_rfl) rfl hB31 ⟨(HK0.o.step (by omega) (by go_grown)),trivial,fun _ _ _ _=>trivial,HST.o,fun _ _ h hb=>h.call hb⟩ (fun w1 K_w1 E_w1 F_w1=> ?_);have _ne:Nonempty (KX (w.heap.size) w (n0+1) [(w.heap.size,0,.slice (some ⟨b0,off,none⟩) B.ob.length c1),(n0,0,.int .i64 x.id),(n0,1,.int .i64 x.cd),(n0,2,.int .i64 x.ow),(n0,3,.int .i64 x.po),(n0,4,.int .i64 x.tg),(n0,5,.int .i64 x.da),(n0,6,.int .i64 x.co),(n0,7,.int .i64 x.pp),(n0,8,.int .i64 x.pt),(n0,9,.bool x.ta),(n0,10,.bool x.si),(n0,11,.bool x.dm)] (fun _=>True)):=⟨⟨_,K_w1,E_w1⟩⟩;have rP0:=rcx _ne 0 rfl;have rN0:=rcx _ne 1 rfl;have rN1:=rcx _ne 2 rfl;have rN2:=rcx _ne 3 rfl;have rN3:=rcx _ne 4 rfl;have rN4:=rcx _ne 5 rfl;have rN5:=rcx _ne 6 rfl;have rN6:=rcx _ne 7 rfl;have rN7:=rcx _ne 8 rfl;have rN8:=rcx _ne 9 rfl;have rN9:=rcx _ne 10 rfl;have rN10:=rcx _ne 11 rfl;have rN11:=rcx _ne 12 rfl
     repeat (go_big_quiet_step (fail))
     refine wpQuiet_nil ?_;have KH_w1:=Hd K_w1;have hw_w1:=K_w1.below;have hz_w1:=K_w1.size;have lP_w1:w.heap.size<w1.heap.size:=by omega
     have lN_w1:n0<w1.heap.size:=by omega
     clear K_w1;have HST:=Hd (F_w1);clear E_w1 F_w1
     refine⟨fun K hK0=> ?_,trivial⟩
     have hK:=Hd hK0;clear hK0;go_wp2_with fail
     with_reducible refine(ovalidc x true _ HV.o).mono ?_
     rintro e w2 ⟨rfl,hb_w2⟩;have K_w2:=(KH_w1.o.step (by omega) (by go_grown)).step (by omega) hb_w2;replace HST:=Hd (HST.o.call hb_w2);clear hb_w2;have KH_w2:=Hd K_w2;have hw_w2:=K_w2.below;have hz_w2:=K_w2.size;have lP_w2:w.heap.size<w2.heap.size:=by omega
     have lN_w2:n0<w2.heap.size:=by omega
     clear lP_w1 lN_w1;clear K_w2;go_wp2_with fail
     first|refine⟨rfl,?u,hK.o _ _ ?_⟩|refine⟨?u,hK.o _ _ ?_⟩
     case u=>exact⟨⟨_,KH_w2.o,trivial⟩,rfl⟩
     clear hK K
     repeat (go_big_quiet_step (fail))
     refine wpQuiet_nil ?_
     repeat (go_big_quiet_step (fail))
     refine wpQuiet_nil ?_
     repeat (go_big_quiet_step (fail))
     refine wpQuiet_nil ?_
     repeat (go_big_quiet_step (fail))
     refine wpQuiet_nil ?_
     repeat (go_big_quiet_step (fail))
     refine wpQuiet_nil ?_
     repeat (go_big_quiet_step (fail))
     refine wpQuiet_nil ?_
     repeat (go_big_quiet_step (fail))
     refine wpQuiet_nil ?_
     repeat (go_big_quiet_step (fail))
     refine wpQuiet_nil ?_
     repeat (go_big_quiet_step (fail))
     refine wpQuiet_nil ?_;clear rP0 rN0 rN1 rN2 rN3 rN4 rN5 rN6 rN7 rN8 rN9 rN10 rN11;clear _ne;go_wp2_with fail
     go_roundw
     case rel=>exact⟨i+1,by omega,by go_num,HST.o,HYE.o HY.o⟩
     case measure=>simp[intOf];omega
    by_cases hcd:v2=x.cd
    ·have z5:(v2==x.cd)=true:=by simp[hcd]
     have z5b:(v2 !=x.cd)=false:=by simp[hcd]
     have HY:Hid (okO B i x):=Hd (HIFF.o.2 ⟨HV.o,HRI.o,rfl,HOW.o,fun _=>hcd⟩);clear hcd;refine rg58_31 (w0:=w) (B:=w.heap.size) (n:=n0+1) (L:=[(w.heap.size,0,.slice (some ⟨b0,off,none⟩) B.ob.length c1),(n0,0,.int .i64 x.id),(n0,1,.int .i64 x.cd),(n0,2,.int .i64 x.ow),(n0,3,.int .i64 x.po),(n0,4,.int .i64 x.tg),(n0,5,.int .i64 x.da),(n0,6,.int .i64 x.co),(n0,7,.int .i64 x.pp),(n0,8,.int .i64 x.pt),(n0,9,.bool x.ta),(n0,10,.bool x.si),(n0,11,.bool x.dm)]) (E:=fun _=>True) (F:=fun W=>CSt w s B B.prs.reverse bc (spc B.st).reverse W) (by kernel_rfl) rfl hB31 ⟨(HK0.o.step (by omega) (by go_grown)),trivial,fun _ _ _ _=>trivial,HST.o,fun _ _ h hb=>h.call hb⟩ (fun w1 K_w1 E_w1 F_w1=> ?_);have _ne:Nonempty (KX (w.heap.size) w (n0+1) [(w.heap.size,0,.slice (some ⟨b0,off,none⟩) B.ob.length c1),(n0,0,.int .i64 x.id),(n0,1,.int .i64 x.cd),(n0,2,.int .i64 x.ow),(n0,3,.int .i64 x.po),(n0,4,.int .i64 x.tg),(n0,5,.int .i64 x.da),(n0,6,.int .i64 x.co),(n0,7,.int .i64 x.pp),(n0,8,.int .i64 x.pt),(n0,9,.bool x.ta),(n0,10,.bool x.si),(n0,11,.bool x.dm)] (fun _=>True)):=⟨⟨_,K_w1,E_w1⟩⟩;have rP0:=rcx _ne 0 rfl;have rN0:=rcx _ne 1 rfl;have rN1:=rcx _ne 2 rfl;have rN2:=rcx _ne 3 rfl;have rN3:=rcx _ne 4 rfl;have rN4:=rcx _ne 5 rfl;have rN5:=rcx _ne 6 rfl;have rN6:=rcx _ne 7 rfl;have rN7:=rcx _ne 8 rfl;have rN8:=rcx _ne 9 rfl;have rN9:=rcx _ne 10 rfl;have rN10:=rcx _ne 11 rfl;have rN11:=rcx _ne 12 rfl
     repeat (go_big_quiet_step (fail))
     refine wpQuiet_nil ?_;have KH_w1:=Hd K_w1;have hw_w1:=K_w1.below;have hz_w1:=K_w1.size;have lP_w1:w.heap.size<w1.heap.size:=by omega
     have lN_w1:n0<w1.heap.size:=by omega
     clear K_w1;have HST:=Hd (F_w1);clear E_w1 F_w1
     refine⟨fun K hK0=> ?_,trivial⟩
     have hK:=Hd hK0;clear hK0;go_wp2_with fail
     with_reducible refine(ovalidc x true _ HV.o).mono ?_
     rintro e w2 ⟨rfl,hb_w2⟩;have K_w2:=(KH_w1.o.step (by omega) (by go_grown)).step (by omega) hb_w2;replace HST:=Hd (HST.o.call hb_w2);clear hb_w2;have KH_w2:=Hd K_w2;have hw_w2:=K_w2.below;have hz_w2:=K_w2.size;have lP_w2:w.heap.size<w2.heap.size:=by omega
     have lN_w2:n0<w2.heap.size:=by omega
     clear lP_w1 lN_w1;clear K_w2;go_wp2_with fail
     first|refine⟨rfl,?u,hK.o _ _ ?_⟩|refine⟨?u,hK.o _ _ ?_⟩
     case u=>exact⟨⟨_,KH_w2.o,trivial⟩,rfl⟩
     clear hK K
     repeat (go_big_quiet_step (fail))
     refine wpQuiet_nil ?_
     repeat (go_big_quiet_step (fail))
     refine wpQuiet_nil ?_
     repeat (go_big_quiet_step (fail))
     refine wpQuiet_nil ?_
     repeat (go_big_quiet_step (fail))
     refine wpQuiet_nil ?_
     repeat (go_big_quiet_step (fail))
     refine wpQuiet_nil ?_
     repeat (go_big_quiet_step (fail))
     refine wpQuiet_nil ?_
     repeat (go_big_quiet_step (fail))
     refine wpQuiet_nil ?_
     repeat (go_big_quiet_step (fail))
     refine wpQuiet_nil ?_
     repeat (go_big_quiet_step (fail))
     refine wpQuiet_nil ?_;clear rP0 rN0 rN1 rN2 rN3 rN4 rN5 rN6 rN7 rN8 rN9 rN10 rN11;clear _ne;go_wp2_with fail
     go_roundw
     case rel=>exact⟨i+1,by omega,by go_num,HST.o,HYE.o HY.o⟩
     case measure=>simp[intOf];omega
    have z5:(v2==x.cd)=false:=beq_false_of_ne hcd;have z5b:(v2 !=x.cd)=true:=by simp[hcd]
    have HN:Hid (¬Plc B):=Hd (HNO.o (fun h=>hcd ((HIFF.o.1 h).2.2.2.2 rfl)));clear hcd;refine rg58_31 (w0:=w) (B:=w.heap.size) (n:=n0+1) (L:=[(w.heap.size,0,.slice (some ⟨b0,off,none⟩) B.ob.length c1),(n0,0,.int .i64 x.id),(n0,1,.int .i64 x.cd),(n0,2,.int .i64 x.ow),(n0,3,.int .i64 x.po),(n0,4,.int .i64 x.tg),(n0,5,.int .i64 x.da),(n0,6,.int .i64 x.co),(n0,7,.int .i64 x.pp),(n0,8,.int .i64 x.pt),(n0,9,.bool x.ta),(n0,10,.bool x.si),(n0,11,.bool x.dm)]) (E:=fun _=>True) (F:=fun W=>CSt w s B B.prs.reverse bc (spc B.st).reverse W) (by kernel_rfl) rfl hB31 ⟨(HK0.o.step (by omega) (by go_grown)),trivial,fun _ _ _ _=>trivial,HST.o,fun _ _ h hb=>h.call hb⟩ (fun w1 K_w1 E_w1 F_w1=> ?_);have _ne:Nonempty (KX (w.heap.size) w (n0+1) [(w.heap.size,0,.slice (some ⟨b0,off,none⟩) B.ob.length c1),(n0,0,.int .i64 x.id),(n0,1,.int .i64 x.cd),(n0,2,.int .i64 x.ow),(n0,3,.int .i64 x.po),(n0,4,.int .i64 x.tg),(n0,5,.int .i64 x.da),(n0,6,.int .i64 x.co),(n0,7,.int .i64 x.pp),(n0,8,.int .i64 x.pt),(n0,9,.bool x.ta),(n0,10,.bool x.si),(n0,11,.bool x.dm)] (fun _=>True)):=⟨⟨_,K_w1,E_w1⟩⟩;have rP0:=rcx _ne 0 rfl;have rN0:=rcx _ne 1 rfl;have rN1:=rcx _ne 2 rfl;have rN2:=rcx _ne 3 rfl;have rN3:=rcx _ne 4 rfl;have rN4:=rcx _ne 5 rfl;have rN5:=rcx _ne 6 rfl;have rN6:=rcx _ne 7 rfl;have rN7:=rcx _ne 8 rfl;have rN8:=rcx _ne 9 rfl;have rN9:=rcx _ne 10 rfl;have rN10:=rcx _ne 11 rfl;have rN11:=rcx _ne 12 rfl
    repeat (go_big_quiet_step (fail))
    refine wpQuiet_nil ?_;have KH_w1:=Hd K_w1;have hw_w1:=K_w1.below;have hz_w1:=K_w1.size;have lP_w1:w.heap.size<w1.heap.size:=by omega
    have lN_w1:n0<w1.heap.size:=by omega
    clear K_w1;have HST:=Hd (F_w1);clear E_w1 F_w1
    refine⟨fun K hK0=> ?_,trivial⟩
    have hK:=Hd hK0;clear hK0;go_wp2_with fail
    with_reducible refine(ovalidc x true _ HV.o).mono ?_
    rintro e w2 ⟨rfl,hb_w2⟩;have K_w2:=(KH_w1.o.step (by omega) (by go_grown)).step (by omega) hb_w2;replace HST:=Hd (HST.o.call hb_w2);clear hb_w2;have KH_w2:=Hd K_w2;have hw_w2:=K_w2.below;have hz_w2:=K_w2.size;have lP_w2:w.heap.size<w2.heap.size:=by omega
    have lN_w2:n0<w2.heap.size:=by omega
    clear lP_w1 lN_w1;clear K_w2;go_wp2_with fail
    first|refine⟨rfl,?u,hK.o _ _ ?_⟩|refine⟨?u,hK.o _ _ ?_⟩
    case u=>exact⟨⟨_,KH_w2.o,trivial⟩,rfl⟩
    clear hK K
    repeat (go_big_quiet_step (fail))
    refine wpQuiet_nil ?_
    repeat (go_big_quiet_step (fail))
    refine wpQuiet_nil ?_
    repeat (go_big_quiet_step (fail))
    refine wpQuiet_nil ?_
    repeat (go_big_quiet_step (fail))
    refine wpQuiet_nil ?_
    repeat (go_big_quiet_step (fail))
    refine wpQuiet_nil ?_
    repeat (go_big_quiet_step (fail))
    refine wpQuiet_nil ?_
    repeat (go_big_quiet_step (fail))
    refine wpQuiet_nil ?_
    repeat (go_big_quiet_step (fail))
    refine wpQuiet_nil ?_
    repeat (go_big_quiet_step (fail))
    refine wpQuiet_nil ?_;clear rP0 rN0 rN1 rN2 rN3 rN4 rN5 rN6 rN7 rN8 rN9 rN10 rN11;clear _ne;go_wp2_with fail
    go_returns
    exact⟨⟨false,rfl,⟨fun h=>(by cases h),fun h=>absurd h HN.o⟩⟩,HST.o.st.below⟩
   have z4:(v1==x.ow)=false:=beq_false_of_ne how;have z4b:(v1 !=x.ow)=true:=by simp[how]
   have HN:Hid (¬Plc B):=Hd (HNO.o (fun h=>how (HIFF.o.1 h).2.2.2.1));clear how;refine rg58_31 (w0:=w) (B:=w.heap.size) (n:=n0+1) (L:=[(w.heap.size,0,.slice (some ⟨b0,off,none⟩) B.ob.length c1),(n0,0,.int .i64 x.id),(n0,1,.int .i64 x.cd),(n0,2,.int .i64 x.ow),(n0,3,.int .i64 x.po),(n0,4,.int .i64 x.tg),(n0,5,.int .i64 x.da),(n0,6,.int .i64 x.co),(n0,7,.int .i64 x.pp),(n0,8,.int .i64 x.pt),(n0,9,.bool x.ta),(n0,10,.bool x.si),(n0,11,.bool x.dm)]) (E:=fun _=>True) (F:=fun W=>CSt w s B B.prs.reverse bc (spc B.st).reverse W) (by kernel_rfl) rfl hB31 ⟨(HK0.o.step (by omega) (by go_grown)),trivial,fun _ _ _ _=>trivial,HST.o,fun _ _ h hb=>h.call hb⟩ (fun w1 K_w1 E_w1 F_w1=> ?_);have _ne:Nonempty (KX (w.heap.size) w (n0+1) [(w.heap.size,0,.slice (some ⟨b0,off,none⟩) B.ob.length c1),(n0,0,.int .i64 x.id),(n0,1,.int .i64 x.cd),(n0,2,.int .i64 x.ow),(n0,3,.int .i64 x.po),(n0,4,.int .i64 x.tg),(n0,5,.int .i64 x.da),(n0,6,.int .i64 x.co),(n0,7,.int .i64 x.pp),(n0,8,.int .i64 x.pt),(n0,9,.bool x.ta),(n0,10,.bool x.si),(n0,11,.bool x.dm)] (fun _=>True)):=⟨⟨_,K_w1,E_w1⟩⟩;have rP0:=rcx _ne 0 rfl;have rN0:=rcx _ne 1 rfl;have rN1:=rcx _ne 2 rfl;have rN2:=rcx _ne 3 rfl;have rN3:=rcx _ne 4 rfl;have rN4:=rcx _ne 5 rfl;have rN5:=rcx _ne 6 rfl;have rN6:=rcx _ne 7 rfl;have rN7:=rcx _ne 8 rfl;have rN8:=rcx _ne 9 rfl;have rN9:=rcx _ne 10 rfl;have rN10:=rcx _ne 11 rfl;have rN11:=rcx _ne 12 rfl
   repeat (go_big_quiet_step (fail))
   refine wpQuiet_nil ?_;have KH_w1:=Hd K_w1;have hw_w1:=K_w1.below;have hz_w1:=K_w1.size;have lP_w1:w.heap.size<w1.heap.size:=by omega
   have lN_w1:n0<w1.heap.size:=by omega
   clear K_w1;have HST:=Hd (F_w1);clear E_w1 F_w1
   refine⟨fun K hK0=> ?_,trivial⟩
   have hK:=Hd hK0;clear hK0;go_wp2_with fail
   with_reducible refine(ovalidc x true _ HV.o).mono ?_
   rintro e w2 ⟨rfl,hb_w2⟩;have K_w2:=(KH_w1.o.step (by omega) (by go_grown)).step (by omega) hb_w2;replace HST:=Hd (HST.o.call hb_w2);clear hb_w2;have KH_w2:=Hd K_w2;have hw_w2:=K_w2.below;have hz_w2:=K_w2.size;have lP_w2:w.heap.size<w2.heap.size:=by omega
   have lN_w2:n0<w2.heap.size:=by omega
   clear lP_w1 lN_w1;clear K_w2;go_wp2_with fail
   first|refine⟨rfl,?u,hK.o _ _ ?_⟩|refine⟨?u,hK.o _ _ ?_⟩
   case u=>exact⟨⟨_,KH_w2.o,trivial⟩,rfl⟩
   clear hK K
   repeat (go_big_quiet_step (fail))
   refine wpQuiet_nil ?_
   repeat (go_big_quiet_step (fail))
   refine wpQuiet_nil ?_
   repeat (go_big_quiet_step (fail))
   refine wpQuiet_nil ?_
   repeat (go_big_quiet_step (fail))
   refine wpQuiet_nil ?_
   repeat (go_big_quiet_step (fail))
   refine wpQuiet_nil ?_
   repeat (go_big_quiet_step (fail))
   refine wpQuiet_nil ?_
   repeat (go_big_quiet_step (fail))
   refine wpQuiet_nil ?_
   repeat (go_big_quiet_step (fail))
   refine wpQuiet_nil ?_
   repeat (go_big_quiet_step (fail))
   refine wpQuiet_nil ?_;clear rP0 rN0 rN1 rN2 rN3 rN4 rN5 rN6 rN7 rN8 rN9 rN10 rN11;clear _ne;go_wp2_with fail
   go_returns
   exact⟨⟨false,rfl,⟨fun h=>(by cases h),fun h=>absurd h HN.o⟩⟩,HST.o.st.below⟩
  have hi1:0<i:=by omega
  obtain⟨z1,z2⟩:=zgt i hi1
  obtain⟨q,hq⟩:∃q,B.ob[i-1]? =some q:=⟨_,List.getElem?_eq_getElem (by omega)⟩
  have HPE:=Hd (HPV.o q hi1 hq);have hwi:wrap64 ((i:Int)-1)=((i-1:Nat):Int):=by unfold wrap64;omega
  have k3:(0:Int)<=((i-1:Nat):Int):=by omega
  have k4:((i-1:Nat):Int)<(B.ob.length:Int):=by omega
  have HQ:=Hd hq;have HI1:=Hd hi1;clear hq hi0
  by_cases hge:q.id>=x.id
  ·have z3:decide (q.id>=x.id)=true:=decide_eq_true hge
   have HN:Hid (¬Plc B):=Hd (HNO.o (fun h=>by have:=(HIFF.o.1 h).2.1 (i-1) q (by omega) HQ.o;omega));clear hge;refine rg58_31 (w0:=w) (B:=w.heap.size) (n:=n0+1) (L:=[(w.heap.size,0,.slice (some ⟨b0,off,none⟩) B.ob.length c1),(n0,0,.int .i64 x.id),(n0,1,.int .i64 x.cd),(n0,2,.int .i64 x.ow),(n0,3,.int .i64 x.po),(n0,4,.int .i64 x.tg),(n0,5,.int .i64 x.da),(n0,6,.int .i64 x.co),(n0,7,.int .i64 x.pp),(n0,8,.int .i64 x.pt),(n0,9,.bool x.ta),(n0,10,.bool x.si),(n0,11,.bool x.dm)]) (E:=fun W=>b0<W.heap.size/\W.cell? ⟨b0,off+(i-1)*12,none⟩=some (.int .i64 q.id)) (F:=fun W=>CSt w s B B.prs.reverse bc (spc B.st).reverse W) (by kernel_rfl) rfl hB31 ⟨(HK0.o.step (by omega) (by go_grown)),HPE.o,fun _ _ h hb=>⟨Nat.lt_of_lt_of_le h.1 hb.size,(hb.cell (p:=⟨b0,off+(i-1)*12,none⟩) h.1).trans h.2⟩,HST.o,fun _ _ h hb=>h.call hb⟩ (fun w1 K_w1 E_w1 F_w1=> ?_);have _ne:Nonempty (KX (w.heap.size) w (n0+1) [(w.heap.size,0,.slice (some ⟨b0,off,none⟩) B.ob.length c1),(n0,0,.int .i64 x.id),(n0,1,.int .i64 x.cd),(n0,2,.int .i64 x.ow),(n0,3,.int .i64 x.po),(n0,4,.int .i64 x.tg),(n0,5,.int .i64 x.da),(n0,6,.int .i64 x.co),(n0,7,.int .i64 x.pp),(n0,8,.int .i64 x.pt),(n0,9,.bool x.ta),(n0,10,.bool x.si),(n0,11,.bool x.dm)] (fun W=>b0<W.heap.size/\W.cell? ⟨b0,off+(i-1)*12,none⟩=some (.int .i64 q.id))):=⟨⟨_,K_w1,E_w1⟩⟩;have rP0:=rcx _ne 0 rfl;have rN0:=rcx _ne 1 rfl;have rN1:=rcx _ne 2 rfl;have rN2:=rcx _ne 3 rfl;have rN3:=rcx _ne 4 rfl;have rN4:=rcx _ne 5 rfl;have rN5:=rcx _ne 6 rfl;have rN6:=rcx _ne 7 rfl;have rN7:=rcx _ne 8 rfl;have rN8:=rcx _ne 9 rfl;have rN9:=rcx _ne 10 rfl;have rN10:=rcx _ne 11 rfl;have rN11:=rcx _ne 12 rfl;have rpv:∀s:KX (w.heap.size) w (n0+1) [(w.heap.size,0,.slice (some ⟨b0,off,none⟩) B.ob.length c1),(n0,0,.int .i64 x.id),(n0,1,.int .i64 x.cd),(n0,2,.int .i64 x.ow),(n0,3,.int .i64 x.po),(n0,4,.int .i64 x.tg),(n0,5,.int .i64 x.da),(n0,6,.int .i64 x.co),(n0,7,.int .i64 x.pp),(n0,8,.int .i64 x.pt),(n0,9,.bool x.ta),(n0,10,.bool x.si),(n0,11,.bool x.dm)] (fun W=>b0<W.heap.size/\W.cell? ⟨b0,off+(i-1)*12,none⟩=some (.int .i64 q.id)),s.val.cell? ⟨b0,off+(i-1)*12,none⟩=some (.int .i64 q.id):=fun s=>s.ex.2
   repeat (go_big_quiet_step (fail))
   refine wpQuiet_nil ?_;have KH_w1:=Hd K_w1;have hw_w1:=K_w1.below;have hz_w1:=K_w1.size;have lP_w1:w.heap.size<w1.heap.size:=by omega
   have lN_w1:n0<w1.heap.size:=by omega
   clear K_w1;have HE:=Hd E_w1;have HST:=Hd (F_w1);clear E_w1 F_w1
   refine⟨fun K hK0=> ?_,trivial⟩
   have hK:=Hd hK0;clear hK0;go_wp2_with fail
   with_reducible refine(ovalidc x true _ HV.o).mono ?_
   rintro e w2 ⟨rfl,hb_w2⟩;have K_w2:=(KH_w1.o.step (by omega) (by go_grown)).step (by omega) hb_w2;replace HST:=Hd (HST.o.call hb_w2);replace HE:=Hd (And.intro (Nat.lt_of_lt_of_le HE.o.1 hb_w2.size) ((hb_w2.cell (p:=⟨b0,off+(i-1)*12,none⟩) HE.o.1).trans HE.o.2));clear hb_w2;have KH_w2:=Hd K_w2;have hw_w2:=K_w2.below;have hz_w2:=K_w2.size;have lP_w2:w.heap.size<w2.heap.size:=by omega
   have lN_w2:n0<w2.heap.size:=by omega
   clear lP_w1 lN_w1;clear K_w2;go_wp2_with fail
   first|refine⟨rfl,?u,hK.o _ _ ?_⟩|refine⟨?u,hK.o _ _ ?_⟩
   case u=>exact⟨⟨_,KH_w2.o,HE.o⟩,rfl⟩
   clear hK K
   repeat (go_big_quiet_step (fail))
   refine wpQuiet_nil ?_
   repeat (go_big_quiet_step (fail))
   refine wpQuiet_nil ?_
   repeat (go_big_quiet_step (fail))
   refine wpQuiet_nil ?_
   repeat (go_big_quiet_step (fail))
   refine wpQuiet_nil ?_
   repeat (go_big_quiet_step (fail))
   refine wpQuiet_nil ?_
   repeat (go_big_quiet_step (fail))
   refine wpQuiet_nil ?_
   repeat (go_big_quiet_step (fail))
   refine wpQuiet_nil ?_
   repeat (go_big_quiet_step (fail))
   refine wpQuiet_nil ?_
   repeat (go_big_quiet_step (fail))
   refine wpQuiet_nil ?_;clear rP0 rN0 rN1 rN2 rN3 rN4 rN5 rN6 rN7 rN8 rN9 rN10 rN11 rpv;clear _ne;go_wp2_with fail
   go_returns
   exact⟨⟨false,rfl,⟨fun h=>(by cases h),fun h=>absurd h HN.o⟩⟩,HST.o.st.below⟩
  have z3:decide (q.id>=x.id)=false:=decide_eq_false hge
  have HRI:Hid (rise B.ob i x):=Hd (fun j y hj hy=>by
   have e:j=i-1:=by omega
   rw[e,HQ.o] at hy
   simp at hy
   rw[<-hy];omega)
  clear hge
  cases r1
  ·have HN:Hid (¬Plc B):=Hd (HNO.o (fun h=>by have:=(HIFF.o.1 h).2.2.1;cases this))
   refine rg58_31 (w0:=w) (B:=w.heap.size) (n:=n0+1) (L:=[(w.heap.size,0,.slice (some ⟨b0,off,none⟩) B.ob.length c1),(n0,0,.int .i64 x.id),(n0,1,.int .i64 x.cd),(n0,2,.int .i64 x.ow),(n0,3,.int .i64 x.po),(n0,4,.int .i64 x.tg),(n0,5,.int .i64 x.da),(n0,6,.int .i64 x.co),(n0,7,.int .i64 x.pp),(n0,8,.int .i64 x.pt),(n0,9,.bool x.ta),(n0,10,.bool x.si),(n0,11,.bool x.dm)]) (E:=fun W=>b0<W.heap.size/\W.cell? ⟨b0,off+(i-1)*12,none⟩=some (.int .i64 q.id)) (F:=fun W=>CSt w s B B.prs.reverse bc (spc B.st).reverse W) (by kernel_rfl) rfl hB31 ⟨(HK0.o.step (by omega) (by go_grown)),HPE.o,fun _ _ h hb=>⟨Nat.lt_of_lt_of_le h.1 hb.size,(hb.cell (p:=⟨b0,off+(i-1)*12,none⟩) h.1).trans h.2⟩,HST.o,fun _ _ h hb=>h.call hb⟩ (fun w1 K_w1 E_w1 F_w1=> ?_);have _ne:Nonempty (KX (w.heap.size) w (n0+1) [(w.heap.size,0,.slice (some ⟨b0,off,none⟩) B.ob.length c1),(n0,0,.int .i64 x.id),(n0,1,.int .i64 x.cd),(n0,2,.int .i64 x.ow),(n0,3,.int .i64 x.po),(n0,4,.int .i64 x.tg),(n0,5,.int .i64 x.da),(n0,6,.int .i64 x.co),(n0,7,.int .i64 x.pp),(n0,8,.int .i64 x.pt),(n0,9,.bool x.ta),(n0,10,.bool x.si),(n0,11,.bool x.dm)] (fun W=>b0<W.heap.size/\W.cell? ⟨b0,off+(i-1)*12,none⟩=some (.int .i64 q.id))):=⟨⟨_,K_w1,E_w1⟩⟩;have rP0:=rcx _ne 0 rfl;have rN0:=rcx _ne 1 rfl;have rN1:=rcx _ne 2 rfl;have rN2:=rcx _ne 3 rfl;have rN3:=rcx _ne 4 rfl;have rN4:=rcx _ne 5 rfl;have rN5:=rcx _ne 6 rfl;have rN6:=rcx _ne 7 rfl;have rN7:=rcx _ne 8 rfl;have rN8:=rcx _ne 9 rfl;have rN9:=rcx _ne 10 rfl;have rN10:=rcx _ne 11 rfl;have rN11:=rcx _ne 12 rfl;have rpv:∀s:KX (w.heap.size) w (n0+1) [(w.heap.size,0,.slice (some ⟨b0,off,none⟩) B.ob.length c1),(n0,0,.int .i64 x.id),(n0,1,.int .i64 x.cd),(n0,2,.int .i64 x.ow),(n0,3,.int .i64 x.po),(n0,4,.int .i64 x.tg),(n0,5,.int .i64 x.da),(n0,6,.int .i64 x.co),(n0,7,.int .i64 x.pp),(n0,8,.int .i64 x.pt),(n0,9,.bool x.ta),(n0,10,.bool x.si),(n0,11,.bool x.dm)] (fun W=>b0<W.heap.size/\W.cell? ⟨b0,off+(i-1)*12,none⟩=some (.int .i64 q.id)),s.val.cell? ⟨b0,off+(i-1)*12,none⟩=some (.int .i64 q.id):=fun s=>s.ex.2
   repeat (go_big_quiet_step (fail))
   refine wpQuiet_nil ?_;have KH_w1:=Hd K_w1;have hw_w1:=K_w1.below;have hz_w1:=K_w1.size;have lP_w1:w.heap.size<w1.heap.size:=by omega
   have lN_w1:n0<w1.heap.size:=by omega
   clear K_w1;have HE:=Hd E_w1;have HST:=Hd (F_w1);clear E_w1 F_w1
   refine⟨fun K hK0=> ?_,trivial⟩
   have hK:=Hd hK0;clear hK0;go_wp2_with fail
   with_reducible refine(ovalidc x true _ HV.o).mono ?_
   rintro e w2 ⟨rfl,hb_w2⟩;have K_w2:=(KH_w1.o.step (by omega) (by go_grown)).step (by omega) hb_w2;replace HST:=Hd (HST.o.call hb_w2);replace HE:=Hd (And.intro (Nat.lt_of_lt_of_le HE.o.1 hb_w2.size) ((hb_w2.cell (p:=⟨b0,off+(i-1)*12,none⟩) HE.o.1).trans HE.o.2));clear hb_w2;have KH_w2:=Hd K_w2;have hw_w2:=K_w2.below;have hz_w2:=K_w2.size;have lP_w2:w.heap.size<w2.heap.size:=by omega
   have lN_w2:n0<w2.heap.size:=by omega
   clear lP_w1 lN_w1;clear K_w2;go_wp2_with fail
   first|refine⟨rfl,?u,hK.o _ _ ?_⟩|refine⟨?u,hK.o _ _ ?_⟩
   case u=>exact⟨⟨_,KH_w2.o,HE.o⟩,rfl⟩
   clear hK K
   repeat (go_big_quiet_step (fail))
   refine wpQuiet_nil ?_
   repeat (go_big_quiet_step (fail))
   refine wpQuiet_nil ?_
   repeat (go_big_quiet_step (fail))
   refine wpQuiet_nil ?_
   repeat (go_big_quiet_step (fail))
   refine wpQuiet_nil ?_
   repeat (go_big_quiet_step (fail))
   refine wpQuiet_nil ?_
   repeat (go_big_quiet_step (fail))
   refine wpQuiet_nil ?_
   repeat (go_big_quiet_step (fail))
   refine wpQuiet_nil ?_
   repeat (go_big_quiet_step (fail))
   refine wpQuiet_nil ?_
   repeat (go_big_quiet_step (fail))
   refine wpQuiet_nil ?_;clear rP0 rN0 rN1 rN2 rN3 rN4 rN5 rN6 rN7 rN8 rN9 rN10 rN11 rpv;clear _ne;go_wp2_with fail
   go_returns
   exact⟨⟨false,rfl,⟨fun h=>(by cases h),fun h=>absurd h HN.o⟩⟩,HST.o.st.below⟩
  by_cases how:v1=x.ow
  ·have z4:(v1==x.ow)=true:=by simp[how]
   have z4b:(v1 !=x.ow)=false:=by simp[how]
   have HOW:=Hd how;clear how
   cases r2
   ·have HY:Hid (okO B i x):=Hd (HIFF.o.2 ⟨HV.o,HRI.o,rfl,HOW.o,fun h=>by cases h⟩)
    refine rg58_31 (w0:=w) (B:=w.heap.size) (n:=n0+1) (L:=[(w.heap.size,0,.slice (some ⟨b0,off,none⟩) B.ob.length c1),(n0,0,.int .i64 x.id),(n0,1,.int .i64 x.cd),(n0,2,.int .i64 x.ow),(n0,3,.int .i64 x.po),(n0,4,.int .i64 x.tg),(n0,5,.int .i64 x.da),(n0,6,.int .i64 x.co),(n0,7,.int .i64 x.pp),(n0,8,.int .i64 x.pt),(n0,9,.bool x.ta),(n0,10,.bool x.si),(n0,11,.bool x.dm)]) (E:=fun W=>b0<W.heap.size/\W.cell? ⟨b0,off+(i-1)*12,none⟩=some (.int .i64 q.id)) (F:=fun W=>CSt w s B B.prs.reverse bc (spc B.st).reverse W) (by kernel_rfl) rfl hB31 ⟨(HK0.o.step (by omega) (by go_grown)),HPE.o,fun _ _ h hb=>⟨Nat.lt_of_lt_of_le h.1 hb.size,(hb.cell (p:=⟨b0,off+(i-1)*12,none⟩) h.1).trans h.2⟩,HST.o,fun _ _ h hb=>h.call hb⟩ (fun w1 K_w1 E_w1 F_w1=> ?_);have _ne:Nonempty (KX (w.heap.size) w (n0+1) [(w.heap.size,0,.slice (some ⟨b0,off,none⟩) B.ob.length c1),(n0,0,.int .i64 x.id),(n0,1,.int .i64 x.cd),(n0,2,.int .i64 x.ow),(n0,3,.int .i64 x.po),(n0,4,.int .i64 x.tg),(n0,5,.int .i64 x.da),(n0,6,.int .i64 x.co),(n0,7,.int .i64 x.pp),(n0,8,.int .i64 x.pt),(n0,9,.bool x.ta),(n0,10,.bool x.si),(n0,11,.bool x.dm)] (fun W=>b0<W.heap.size/\W.cell? ⟨b0,off+(i-1)*12,none⟩=some (.int .i64 q.id))):=⟨⟨_,K_w1,E_w1⟩⟩;have rP0:=rcx _ne 0 rfl;have rN0:=rcx _ne 1 rfl;have rN1:=rcx _ne 2 rfl;have rN2:=rcx _ne 3 rfl;have rN3:=rcx _ne 4 rfl;have rN4:=rcx _ne 5 rfl;have rN5:=rcx _ne 6 rfl;have rN6:=rcx _ne 7 rfl;have rN7:=rcx _ne 8 rfl;have rN8:=rcx _ne 9 rfl;have rN9:=rcx _ne 10 rfl;have rN10:=rcx _ne 11 rfl;have rN11:=rcx _ne 12 rfl;have rpv:∀s:KX (w.heap.size) w (n0+1) [(w.heap.size,0,.slice (some ⟨b0,off,none⟩) B.ob.length c1),(n0,0,.int .i64 x.id),(n0,1,.int .i64 x.cd),(n0,2,.int .i64 x.ow),(n0,3,.int .i64 x.po),(n0,4,.int .i64 x.tg),(n0,5,.int .i64 x.da),(n0,6,.int .i64 x.co),(n0,7,.int .i64 x.pp),(n0,8,.int .i64 x.pt),(n0,9,.bool x.ta),(n0,10,.bool x.si),(n0,11,.bool x.dm)] (fun W=>b0<W.heap.size/\W.cell? ⟨b0,off+(i-1)*12,none⟩=some (.int .i64 q.id)),s.val.cell? ⟨b0,off+(i-1)*12,none⟩=some (.int .i64 q.id):=fun s=>s.ex.2
    repeat (go_big_quiet_step (fail))
    refine wpQuiet_nil ?_;have KH_w1:=Hd K_w1;have hw_w1:=K_w1.below;have hz_w1:=K_w1.size;have lP_w1:w.heap.size<w1.heap.size:=by omega
    have lN_w1:n0<w1.heap.size:=by omega
    clear K_w1;have HE:=Hd E_w1;have HST:=Hd (F_w1);clear E_w1 F_w1
    refine⟨fun K hK0=> ?_,trivial⟩
    have hK:=Hd hK0;clear hK0;go_wp2_with fail
    with_reducible refine(ovalidc x true _ HV.o).mono ?_
    rintro e w2 ⟨rfl,hb_w2⟩;have K_w2:=(KH_w1.o.step (by omega) (by go_grown)).step (by omega) hb_w2;replace HST:=Hd (HST.o.call hb_w2);replace HE:=Hd (And.intro (Nat.lt_of_lt_of_le HE.o.1 hb_w2.size) ((hb_w2.cell (p:=⟨b0,off+(i-1)*12,none⟩) HE.o.1).trans HE.o.2));clear hb_w2;have KH_w2:=Hd K_w2;have hw_w2:=K_w2.below;have hz_w2:=K_w2.size;have lP_w2:w.heap.size<w2.heap.size:=by omega
    have lN_w2:n0<w2.heap.size:=by omega
    clear lP_w1 lN_w1;clear K_w2;go_wp2_with fail
    first|refine⟨rfl,?u,hK.o _ _ ?_⟩|refine⟨?u,hK.o _ _ ?_⟩
    case u=>exact⟨⟨_,KH_w2.o,HE.o⟩,rfl⟩
    clear hK K
    repeat (go_big_quiet_step (fail))
    refine wpQuiet_nil ?_
    repeat (go_big_quiet_step (fail))
    refine wpQuiet_nil ?_
    repeat (go_big_quiet_step (fail))
    refine wpQuiet_nil ?_
    repeat (go_big_quiet_step (fail))
    refine wpQuiet_nil ?_
    repeat (go_big_quiet_step (fail))
    refine wpQuiet_nil ?_
    repeat (go_big_quiet_step (fail))
    refine wpQuiet_nil ?_
    repeat (go_big_quiet_step (fail))
    refine wpQuiet_nil ?_
    repeat (go_big_quiet_step (fail))
    refine wpQuiet_nil ?_
    repeat (go_big_quiet_step (fail))
    refine wpQuiet_nil ?_;clear rP0 rN0 rN1 rN2 rN3 rN4 rN5 rN6 rN7 rN8 rN9 rN10 rN11 rpv;clear _ne;go_wp2_with fail
    go_roundw
    case rel=>exact⟨i+1,by omega,by go_num,HST.o,HYE.o HY.o⟩
    case measure=>simp[intOf];omega
   by_cases hcd:v2=x.cd
   ·have z5:(v2==x.cd)=true:=by simp[hcd]
    have z5b:(v2 !=x.cd)=false:=by simp[hcd]
    have HY:Hid (okO B i x):=Hd (HIFF.o.2 ⟨HV.o,HRI.o,rfl,HOW.o,fun _=>hcd⟩);clear hcd;refine rg58_31 (w0:=w) (B:=w.heap.size) (n:=n0+1) (L:=[(w.heap.size,0,.slice (some ⟨b0,off,none⟩) B.ob.length c1),(n0,0,.int .i64 x.id),(n0,1,.int .i64 x.cd),(n0,2,.int .i64 x.ow),(n0,3,.int .i64 x.po),(n0,4,.int .i64 x.tg),(n0,5,.int .i64 x.da),(n0,6,.int .i64 x.co),(n0,7,.int .i64 x.pp),(n0,8,.int .i64 x.pt),(n0,9,.bool x.ta),(n0,10,.bool x.si),(n0,11,.bool x.dm)]) (E:=fun W=>b0<W.heap.size/\W.cell? ⟨b0,off+(i-1)*12,none⟩=some (.int .i64 q.id)) (F:=fun W=>CSt w s B B.prs.reverse bc (spc B.st).reverse W) (by kernel_rfl) rfl hB31 ⟨(HK0.o.step (by omega) (by go_grown)),HPE.o,fun _ _ h hb=>⟨Nat.lt_of_lt_of_le h.1 hb.size,(hb.cell (p:=⟨b0,off+(i-1)*12,none⟩) h.1).trans h.2⟩,HST.o,fun _ _ h hb=>h.call hb⟩ (fun w1 K_w1 E_w1 F_w1=> ?_);have _ne:Nonempty (KX (w.heap.size) w (n0+1) [(w.heap.size,0,.slice (some ⟨b0,off,none⟩) B.ob.length c1),(n0,0,.int .i64 x.id),(n0,1,.int .i64 x.cd),(n0,2,.int .i64 x.ow),(n0,3,.int .i64 x.po),(n0,4,.int .i64 x.tg),(n0,5,.int .i64 x.da),(n0,6,.int .i64 x.co),(n0,7,.int .i64 x.pp),(n0,8,.int .i64 x.pt),(n0,9,.bool x.ta),(n0,10,.bool x.si),(n0,11,.bool x.dm)] (fun W=>b0<W.heap.size/\W.cell? ⟨b0,off+(i-1)*12,none⟩=some (.int .i64 q.id))):=⟨⟨_,K_w1,E_w1⟩⟩;have rP0:=rcx _ne 0 rfl;have rN0:=rcx _ne 1 rfl;have rN1:=rcx _ne 2 rfl;have rN2:=rcx _ne 3 rfl;have rN3:=rcx _ne 4 rfl;have rN4:=rcx _ne 5 rfl;have rN5:=rcx _ne 6 rfl;have rN6:=rcx _ne 7 rfl;have rN7:=rcx _ne 8 rfl;have rN8:=rcx _ne 9 rfl;have rN9:=rcx _ne 10 rfl;have rN10:=rcx _ne 11 rfl;have rN11:=rcx _ne 12 rfl;have rpv:∀s:KX (w.heap.size) w (n0+1) [(w.heap.size,0,.slice (some ⟨b0,off,none⟩) B.ob.length c1),(n0,0,.int .i64 x.id),(n0,1,.int .i64 x.cd),(n0,2,.int .i64 x.ow),(n0,3,.int .i64 x.po),(n0,4,.int .i64 x.tg),(n0,5,.int .i64 x.da),(n0,6,.int .i64 x.co),(n0,7,.int .i64 x.pp),(n0,8,.int .i64 x.pt),(n0,9,.bool x.ta),(n0,10,.bool x.si),(n0,11,.bool x.dm)] (fun W=>b0<W.heap.size/\W.cell? ⟨b0,off+(i-1)*12,none⟩=some (.int .i64 q.id)),s.val.cell? ⟨b0,off+(i-1)*12,none⟩=some (.int .i64 q.id):=fun s=>s.ex.2
    repeat (go_big_quiet_step (fail))
    refine wpQuiet_nil ?_;have KH_w1:=Hd K_w1;have hw_w1:=K_w1.below;have hz_w1:=K_w1.size;have lP_w1:w.heap.size<w1.heap.size:=by omega
    have lN_w1:n0<w1.heap.size:=by omega
    clear K_w1;have HE:=Hd E_w1;have HST:=Hd (F_w1);clear E_w1 F_w1
    refine⟨fun K hK0=> ?_,trivial⟩
    have hK:=Hd hK0;clear hK0;go_wp2_with fail
    with_reducible refine(ovalidc x true _ HV.o).mono ?_
    rintro e w2 ⟨rfl,hb_w2⟩;have K_w2:=(KH_w1.o.step (by omega) (by go_grown)).step (by omega) hb_w2;replace HST:=Hd (HST.o.call hb_w2);replace HE:=Hd (And.intro (Nat.lt_of_lt_of_le HE.o.1 hb_w2.size) ((hb_w2.cell (p:=⟨b0,off+(i-1)*12,none⟩) HE.o.1).trans HE.o.2));clear hb_w2;have KH_w2:=Hd K_w2;have hw_w2:=K_w2.below;have hz_w2:=K_w2.size;have lP_w2:w.heap.size<w2.heap.size:=by omega
    have lN_w2:n0<w2.heap.size:=by omega
    clear lP_w1 lN_w1;clear K_w2;go_wp2_with fail
    first|refine⟨rfl,?u,hK.o _ _ ?_⟩|refine⟨?u,hK.o _ _ ?_⟩
    case u=>exact⟨⟨_,KH_w2.o,HE.o⟩,rfl⟩
    clear hK K
    repeat (go_big_quiet_step (fail))
    refine wpQuiet_nil ?_
    repeat (go_big_quiet_step (fail))
    refine wpQuiet_nil ?_
    repeat (go_big_quiet_step (fail))
    refine wpQuiet_nil ?_
    repeat (go_big_quiet_step (fail))
    refine wpQuiet_nil ?_
    repeat (go_big_quiet_step (fail))
    refine wpQuiet_nil ?_
    repeat (go_big_quiet_step (fail))
    refine wpQuiet_nil ?_
    repeat (go_big_quiet_step (fail))
    refine wpQuiet_nil ?_
    repeat (go_big_quiet_step (fail))
    refine wpQuiet_nil ?_
    repeat (go_big_quiet_step (fail))
    refine wpQuiet_nil ?_;clear rP0 rN0 rN1 rN2 rN3 rN4 rN5 rN6 rN7 rN8 rN9 rN10 rN11 rpv;clear _ne;go_wp2_with fail
    go_roundw
    case rel=>exact⟨i+1,by omega,by go_num,HST.o,HYE.o HY.o⟩
    case measure=>simp[intOf];omega
   have z5:(v2==x.cd)=false:=beq_false_of_ne hcd;have z5b:(v2 !=x.cd)=true:=by simp[hcd]
   have HN:Hid (¬Plc B):=Hd (HNO.o (fun h=>hcd ((HIFF.o.1 h).2.2.2.2 rfl)));clear hcd;refine rg58_31 (w0:=w) (B:=w.heap.size) (n:=n0+1) (L:=[(w.heap.size,0,.slice (some ⟨b0,off,none⟩) B.ob.length c1),(n0,0,.int .i64 x.id),(n0,1,.int .i64 x.cd),(n0,2,.int .i64 x.ow),(n0,3,.int .i64 x.po),(n0,4,.int .i64 x.tg),(n0,5,.int .i64 x.da),(n0,6,.int .i64 x.co),(n0,7,.int .i64 x.pp),(n0,8,.int .i64 x.pt),(n0,9,.bool x.ta),(n0,10,.bool x.si),(n0,11,.bool x.dm)]) (E:=fun W=>b0<W.heap.size/\W.cell? ⟨b0,off+(i-1)*12,none⟩=some (.int .i64 q.id)) (F:=fun W=>CSt w s B B.prs.reverse bc (spc B.st).reverse W) (by kernel_rfl) rfl hB31 ⟨(HK0.o.step (by omega) (by go_grown)),HPE.o,fun _ _ h hb=>⟨Nat.lt_of_lt_of_le h.1 hb.size,(hb.cell (p:=⟨b0,off+(i-1)*12,none⟩) h.1).trans h.2⟩,HST.o,fun _ _ h hb=>h.call hb⟩ (fun w1 K_w1 E_w1 F_w1=> ?_);have _ne:Nonempty (KX (w.heap.size) w (n0+1) [(w.heap.size,0,.slice (some ⟨b0,off,none⟩) B.ob.length c1),(n0,0,.int .i64 x.id),(n0,1,.int .i64 x.cd),(n0,2,.int .i64 x.ow),(n0,3,.int .i64 x.po),(n0,4,.int .i64 x.tg),(n0,5,.int .i64 x.da),(n0,6,.int .i64 x.co),(n0,7,.int .i64 x.pp),(n0,8,.int .i64 x.pt),(n0,9,.bool x.ta),(n0,10,.bool x.si),(n0,11,.bool x.dm)] (fun W=>b0<W.heap.size/\W.cell? ⟨b0,off+(i-1)*12,none⟩=some (.int .i64 q.id))):=⟨⟨_,K_w1,E_w1⟩⟩;have rP0:=rcx _ne 0 rfl;have rN0:=rcx _ne 1 rfl;have rN1:=rcx _ne 2 rfl;have rN2:=rcx _ne 3 rfl;have rN3:=rcx _ne 4 rfl;have rN4:=rcx _ne 5 rfl;have rN5:=rcx _ne 6 rfl;have rN6:=rcx _ne 7 rfl;have rN7:=rcx _ne 8 rfl;have rN8:=rcx _ne 9 rfl;have rN9:=rcx _ne 10 rfl;have rN10:=rcx _ne 11 rfl;have rN11:=rcx _ne 12 rfl;have rpv:∀s:KX (w.heap.size) w (n0+1) [(w.heap.size,0,.slice (some ⟨b0,off,none⟩) B.ob.length c1),(n0,0,.int .i64 x.id),(n0,1,.int .i64 x.cd),(n0,2,.int .i64 x.ow),(n0,3,.int .i64 x.po),(n0,4,.int .i64 x.tg),(n0,5,.int .i64 x.da),(n0,6,.int .i64 x.co),(n0,7,.int .i64 x.pp),(n0,8,.int .i64 x.pt),(n0,9,.bool x.ta),(n0,10,.bool x.si),(n0,11,.bool x.dm)] (fun W=>b0<W.heap.size/\W.cell? ⟨b0,off+(i-1)*12,none⟩=some (.int .i64 q.id)),s.val.cell? ⟨b0,off+(i-1)*12,none⟩=some (.int .i64 q.id):=fun s=>s.ex.2
   repeat (go_big_quiet_step (fail))
   refine wpQuiet_nil ?_;have KH_w1:=Hd K_w1;have hw_w1:=K_w1.below;have hz_w1:=K_w1.size;have lP_w1:w.heap.size<w1.heap.size:=by omega
   have lN_w1:n0<w1.heap.size:=by omega
   clear K_w1;have HE:=Hd E_w1;have HST:=Hd (F_w1);clear E_w1 F_w1
   refine⟨fun K hK0=> ?_,trivial⟩
   have hK:=Hd hK0;clear hK0;go_wp2_with fail
   with_reducible refine(ovalidc x true _ HV.o).mono ?_
   rintro e w2 ⟨rfl,hb_w2⟩;have K_w2:=(KH_w1.o.step (by omega) (by go_grown)).step (by omega) hb_w2;replace HST:=Hd (HST.o.call hb_w2);replace HE:=Hd (And.intro (Nat.lt_of_lt_of_le HE.o.1 hb_w2.size) ((hb_w2.cell (p:=⟨b0,off+(i-1)*12,none⟩) HE.o.1).trans HE.o.2));clear hb_w2;have KH_w2:=Hd K_w2;have hw_w2:=K_w2.below;have hz_w2:=K_w2.size;have lP_w2:w.heap.size<w2.heap.size:=by omega
   have lN_w2:n0<w2.heap.size:=by omega
   clear lP_w1 lN_w1;clear K_w2;go_wp2_with fail
   first|refine⟨rfl,?u,hK.o _ _ ?_⟩|refine⟨?u,hK.o _ _ ?_⟩
   case u=>exact⟨⟨_,KH_w2.o,HE.o⟩,rfl⟩
   clear hK K
   repeat (go_big_quiet_step (fail))
   refine wpQuiet_nil ?_
   repeat (go_big_quiet_step (fail))
   refine wpQuiet_nil ?_
   repeat (go_big_quiet_step (fail))
   refine wpQuiet_nil ?_
   repeat (go_big_quiet_step (fail))
   refine wpQuiet_nil ?_
   repeat (go_big_quiet_step (fail))
   refine wpQuiet_nil ?_
   repeat (go_big_quiet_step (fail))
   refine wpQuiet_nil ?_
   repeat (go_big_quiet_step (fail))
   refine wpQuiet_nil ?_
   repeat (go_big_quiet_step (fail))
   refine wpQuiet_nil ?_
   repeat (go_big_quiet_step (fail))
   refine wpQuiet_nil ?_;clear rP0 rN0 rN1 rN2 rN3 rN4 rN5 rN6 rN7 rN8 rN9 rN10 rN11 rpv;clear _ne;go_wp2_with fail
   go_returns
   exact⟨⟨false,rfl,⟨fun h=>(by cases h),fun h=>absurd h HN.o⟩⟩,HST.o.st.below⟩
  have z4:(v1==x.ow)=false:=beq_false_of_ne how;have z4b:(v1 !=x.ow)=true:=by simp[how]
  have HN:Hid (¬Plc B):=Hd (HNO.o (fun h=>how (HIFF.o.1 h).2.2.2.1));clear how;refine rg58_31 (w0:=w) (B:=w.heap.size) (n:=n0+1) (L:=[(w.heap.size,0,.slice (some ⟨b0,off,none⟩) B.ob.length c1),(n0,0,.int .i64 x.id),(n0,1,.int .i64 x.cd),(n0,2,.int .i64 x.ow),(n0,3,.int .i64 x.po),(n0,4,.int .i64 x.tg),(n0,5,.int .i64 x.da),(n0,6,.int .i64 x.co),(n0,7,.int .i64 x.pp),(n0,8,.int .i64 x.pt),(n0,9,.bool x.ta),(n0,10,.bool x.si),(n0,11,.bool x.dm)]) (E:=fun W=>b0<W.heap.size/\W.cell? ⟨b0,off+(i-1)*12,none⟩=some (.int .i64 q.id)) (F:=fun W=>CSt w s B B.prs.reverse bc (spc B.st).reverse W) (by kernel_rfl) rfl hB31 ⟨(HK0.o.step (by omega) (by go_grown)),HPE.o,fun _ _ h hb=>⟨Nat.lt_of_lt_of_le h.1 hb.size,(hb.cell (p:=⟨b0,off+(i-1)*12,none⟩) h.1).trans h.2⟩,HST.o,fun _ _ h hb=>h.call hb⟩ (fun w1 K_w1 E_w1 F_w1=> ?_);have _ne:Nonempty (KX (w.heap.size) w (n0+1) [(w.heap.size,0,.slice (some ⟨b0,off,none⟩) B.ob.length c1),(n0,0,.int .i64 x.id),(n0,1,.int .i64 x.cd),(n0,2,.int .i64 x.ow),(n0,3,.int .i64 x.po),(n0,4,.int .i64 x.tg),(n0,5,.int .i64 x.da),(n0,6,.int .i64 x.co),(n0,7,.int .i64 x.pp),(n0,8,.int .i64 x.pt),(n0,9,.bool x.ta),(n0,10,.bool x.si),(n0,11,.bool x.dm)] (fun W=>b0<W.heap.size/\W.cell? ⟨b0,off+(i-1)*12,none⟩=some (.int .i64 q.id))):=⟨⟨_,K_w1,E_w1⟩⟩;have rP0:=rcx _ne 0 rfl;have rN0:=rcx _ne 1 rfl;have rN1:=rcx _ne 2 rfl;have rN2:=rcx _ne 3 rfl;have rN3:=rcx _ne 4 rfl;have rN4:=rcx _ne 5 rfl;have rN5:=rcx _ne 6 rfl;have rN6:=rcx _ne 7 rfl;have rN7:=rcx _ne 8 rfl;have rN8:=rcx _ne 9 rfl;have rN9:=rcx _ne 10 rfl;have rN10:=rcx _ne 11 rfl;have rN11:=rcx _ne 12 rfl;have rpv:∀s:KX (w.heap.size) w (n0+1) [(w.heap.size,0,.slice (some ⟨b0,off,none⟩) B.ob.length c1),(n0,0,.int .i64 x.id),(n0,1,.int .i64 x.cd),(n0,2,.int .i64 x.ow),(n0,3,.int .i64 x.po),(n0,4,.int .i64 x.tg),(n0,5,.int .i64 x.da),(n0,6,.int .i64 x.co),(n0,7,.int .i64 x.pp),(n0,8,.int .i64 x.pt),(n0,9,.bool x.ta),(n0,10,.bool x.si),(n0,11,.bool x.dm)] (fun W=>b0<W.heap.size/\W.cell? ⟨b0,off+(i-1)*12,none⟩=some (.int .i64 q.id)),s.val.cell? ⟨b0,off+(i-1)*12,none⟩=some (.int .i64 q.id):=fun s=>s.ex.2
  repeat (go_big_quiet_step (fail))
  refine wpQuiet_nil ?_;have KH_w1:=Hd K_w1;have hw_w1:=K_w1.below;have hz_w1:=K_w1.size;have lP_w1:w.heap.size<w1.heap.size:=by omega
  have lN_w1:n0<w1.heap.size:=by omega
  clear K_w1;have HE:=Hd E_w1;have HST:=Hd (F_w1);clear E_w1 F_w1
  refine⟨fun K hK0=> ?_,trivial⟩
  have hK:=Hd hK0;clear hK0;go_wp2_with fail
  with_reducible refine(ovalidc x true _ HV.o).mono ?_
  rintro e w2 ⟨rfl,hb_w2⟩;have K_w2:=(KH_w1.o.step (by omega) (by go_grown)).step (by omega) hb_w2;replace HST:=Hd (HST.o.call hb_w2);replace HE:=Hd (And.intro (Nat.lt_of_lt_of_le HE.o.1 hb_w2.size) ((hb_w2.cell (p:=⟨b0,off+(i-1)*12,none⟩) HE.o.1).trans HE.o.2));clear hb_w2;have KH_w2:=Hd K_w2;have hw_w2:=K_w2.below;have hz_w2:=K_w2.size;have lP_w2:w.heap.size<w2.heap.size:=by omega
  have lN_w2:n0<w2.heap.size:=by omega
  clear lP_w1 lN_w1;clear K_w2;go_wp2_with fail
  first|refine⟨rfl,?u,hK.o _ _ ?_⟩|refine⟨?u,hK.o _ _ ?_⟩
  case u=>exact⟨⟨_,KH_w2.o,HE.o⟩,rfl⟩
  clear hK K
  repeat (go_big_quiet_step (fail))
  refine wpQuiet_nil ?_
  repeat (go_big_quiet_step (fail))
  refine wpQuiet_nil ?_
  repeat (go_big_quiet_step (fail))
  refine wpQuiet_nil ?_
  repeat (go_big_quiet_step (fail))
  refine wpQuiet_nil ?_
  repeat (go_big_quiet_step (fail))
  refine wpQuiet_nil ?_
  repeat (go_big_quiet_step (fail))
  refine wpQuiet_nil ?_
  repeat (go_big_quiet_step (fail))
  refine wpQuiet_nil ?_
  repeat (go_big_quiet_step (fail))
  refine wpQuiet_nil ?_
  repeat (go_big_quiet_step (fail))
  refine wpQuiet_nil ?_;clear rP0 rN0 rN1 rN2 rN3 rN4 rN5 rN6 rN7 rN8 rN9 rN10 rN11 rpv;clear _ne;go_wp2_with fail
  go_returns
  exact⟨⟨false,rfl,⟨fun h=>(by cases h),fun h=>absurd h HN.o⟩⟩,HST.o.st.below⟩
 have hie:i=B.ob.length:=by omega
 rw[hie] at HOK
 clear hie;have HND2:Hid ((B.prs.reverse.map Prod.fst).Nodup):=Hd (by rw[List.map_reverse];exact(List.reverse_perm _).nodup_iff.2 HND.o);have hlm:=HST.o.st.mp.len HND2.o;rw[List.length_reverse] at hlm
 have cq:=HST.o.st.cq;have co:=HCO.o wr HST.o.st.box
 have HFIN:Hid ((B.prs.length==B.ob.length)=true↔Plc B):=Hd (by
  rw[beq_iff_eq]
  exact⟨fun h=>⟨HND.o,fun i o ho=>HOK.o i o (List.getElem?_eq_some_iff.1 ho).1 ho,h⟩,fun h=>h.len⟩)
 obtain⟨r,hr⟩:∃r,(B.prs.length==B.ob.length)=r:=⟨_,rfl⟩
 rw[hr] at HFIN
 have hr2:((B.prs.length:Int)==(B.ob.length:Int))=r:=by rw[<-hr,Bool.eq_iff_iff,beq_iff_eq,beq_iff_eq];omega
 go_wp2_with fail
 go_returns
 exact⟨⟨r,rfl,HFIN.o⟩,HST.o.st.below⟩
end Go.Proofs.YtpbepnpnpopmfaaGreat
