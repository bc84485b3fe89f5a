/- Maps of numbers. The zones of a seat in memory; what a place has. Boards of our own. -/
import Derived.Test.YtpbepnpnpopmfaaGreatBV
import Derived.Maps.Own
import Derived.Maps.OwnOps
import Derived.Maps.OwnSet
import Derived.Maps.Views
import Derived.Deep.DeepCutAuto
import Derived.LoopTactic
import Derived.Test.YtpbepnpnpopmfaaGreatOx
import Derived.Laws.OwnMore
open Go.RowKit Go.Proofs.YtpbepnpnpopmfaaGreat
set_option maxRecDepth 100000
set_option maxHeartbeats 4000000
namespace Go.Proofs.YtpbepnpnpopmfaaGreat
open Plain
set_option linter.unusedVariables false
set_option linter.unusedSimpArgs false

theorem keyedI:Maps.Keyed Tryz.prog 3:=Maps.int_keyed Tryz.underlying3
theorem wf_i64{z:Int}(h:I z):(Lit.int .i64 z).wf=true:=by
 unfold I at h
 simp[Lit.wf,IntKind.min,IntKind.max,IntKind.signed,IntKind.bits];omega
def kyI(z:Int):Lit:= .int .i64 z
theorem keyI{z:Int}(h:I z):keyOf Tryz.prog 3 (.int .i64 z)=some (kyI z):=Maps.keyOf_int_mk Tryz.underlying3 (wf_i64 h)
def lk:List (Int×Int)->Int->Option Int
 |[],_=>none
 |(a,b)::l,z=>if a=z then some b else lk l z
theorem lk_none{l:List (Int×Int)}{z:Int}:lk l z=none↔z∉l.map Prod.fst:=by
 induction l with
 |nil=>simp[lk]
 |cons a l ih=>
  obtain⟨a,b⟩:=a
  unfold lk
  split
  ·rename_i h;simp[h]
  rename_i h;rw[ih,List.map_cons,List.mem_cons,not_or];exact⟨fun h2=>⟨fun e=>h e.symm,h2⟩,fun h2=>h2.2⟩
theorem lk_mem{l:List (Int×Int)}{z v:Int}(h:lk l z=some v):(z,v)∈l:=by
 induction l with
 |nil=>cases h
 |cons a l ih=>
  obtain⟨a,b⟩:=a
  unfold lk at h
  split at h
  ·rename_i e;simp at h;subst e h;simp
  exact List.mem_cons_of_mem _ (ih h)
structure MapM(w:World)(b n:Nat)(L:List (Int×Int))(D:DataW Unit):Prop where
 own:w.ownsMap Tryz.prog 3 (plainElem Tryz.prog 3) b n D
 has:∀z,Maps.has D (kyI z)=(lk L z).isSome
 at':∀z v,lk L z=some v->D.atKey (kyI z) (.lit (.int .i64 0))= .lit (.int .i64 v)
 no:∀z,lk L z=none->D.atKey (kyI z) (.lit (.int .i64 0))= .lit (.int .i64 0)
 size:(L.map Prod.fst).Nodup->Maps.size D=L.length
def MapI(w:World)(b n:Nat)(L:List (Int×Int)):Prop:=∃D,MapM w b n L D
theorem MapI.lt{w:World}{b n:Nat}{L:List (Int×Int)}(h:MapI w b n L):b<w.heap.size:=by
 obtain⟨D,h⟩:=h
 exact h.own.lt
theorem MapI.block{w w':World}{b n:Nat}{L:List (Int×Int)}(h:MapI w b n L)(hb:w'.heap[b]? =w.heap[b]?):MapI w' b n L:=by
 obtain⟨D,⟨⟨es,clock,h1,h2⟩,h3,h4,h5,h6⟩⟩:=h
 exact⟨D,⟨⟨es,clock,hb.trans h1,h2⟩,h3,h4,h5,h6⟩⟩
theorem MapI.below{w w':World}{b n:Nat}{L:List (Int×Int)}(h:MapI w b n L)(hb:Below w.heap.size w w'):MapI w' b n L:=h.block (hb.block b h.lt)
theorem MapI.onl{w w':World}{b n:Nat}{L:List (Int×Int)}{X:List Nat}(h:MapI w b n L)(ho:Onl X w w')(hX:b∉X):MapI w' b n L:=h.block (ho.block b h.lt hX)
theorem MapI.made(w:World):MapI (w.alloc (.map #[] 0)) w.heap.size 0 []:=⟨.map [],⟨World.ownsMap_made _ _ _ _,fun z=>(by simp[Maps.has,lk]),fun z v h=>(by cases h),fun z _=>(by simp[DataW.atKey]),fun _=>rfl⟩⟩
theorem zeroI(w:World):(zeroValue 3).run Tryz.prog w= .ok (.int .i64 0) w:=by kernel_rfl
theorem MapI.look{w:World}{b n:Nat}{L:List (Int×Int)}(h:MapI w b n L){z v:Int}{r:Bool}(hz:I z)(hr:(lk L z).isSome=r)(hv:(lk L z).getD 0=v):(Instr.lookup 136 (.map (some b)) (.int .i64 z) true).run Tryz.prog w= .ok (.tuple #[.int .i64 v,.bool r]) w:=by
 obtain⟨D,h⟩:=h
 obtain⟨u,ps,hrun,hR⟩:=h.own.look_ok keyedI Tryz.underlying136 (zeroI w) (zd:= .lit (.int .i64 0)) (zp:=[]) (plainElem_int Tryz.underlying3 (by decide)) (keyI hz)
 rw[h.has z,hr] at hrun
 obtain⟨c,rfl,hc,_⟩:=plainElem_int_inv Tryz.underlying3 hR
 have hc:=congrArg Prod.fst hc;simp only at hc
 have hcv:c=v:=by
  cases hl:lk L z with
  |none=>
   rw[h.no z hl] at hc
   rw[hl] at hv
   simp at hv hc
   omega
  |some x=>
   rw[h.at' z x hl] at hc
   rw[hl] at hv
   simp at hv hc
   omega
 rw[hrun,hcv]
theorem MapI.put{w:World}{b n:Nat}{L:List (Int×Int)}(h:MapI w b n L)(hn:n<100000){z v:Int}(hz:I z)(hv:I v):∃w',(Instr.mapUpdate 136 (.map (some b)) (.int .i64 z) (.int .i64 v)).run Tryz.prog w= .ok () w'/\MapI w' b (n+1) ((z,v)::L)/\Onl [b] w w':=by
 obtain⟨D,h⟩:=h
 have hD:Maps.IsMap D:=h.own.isMap;have hT:Maps.Tidy D:=h.own.tidy keyedI
 obtain⟨w',hrun,hown,hg⟩:=h.own.update (d:= .lit (.int .i64 v)) (ps:=[]) keyedI Tryz.underlying136 (by unfold maxLen;omega) (keyI hz) (plainElem_int Tryz.underlying3 (wf_i64 hv))
 have hk:WideAt.IsKeyLit (kyI z):=by simp[kyI,WideAt.IsKeyLit]
 have hne:∀{y:Int},y≠z->kyI y≠kyI z:=fun h e=>by simp[kyI] at e;exact h e
 refine⟨w',hrun,⟨_,⟨hown,fun y=> ?_,fun y x hy=> ?_,fun y hy=> ?_,fun hnd=> ?_⟩⟩,⟨hg.os,hg.tape,hg.output,hg.size,fun k hk hne=>hg.block k hk (by intro e;simp at e;simp[e] at hne)⟩⟩
 ·by_cases e:y=z
  ·subst e
   rw[Maps.has_put_same hD hk];simp[lk]
  rw[Maps.has_put_other (hne e),h.has y];simp[lk,Ne.symm e]
 ·by_cases e:y=z
  ·subst e
   rw[Maps.atKey_put_same hD hk];simp[lk] at hy
   rw[hy]
  rw[Maps.atKey_put_other (hne e)];exact h.at' y x (by simpa [lk,Ne.symm e] using hy)
 ·have e:y≠z:=fun e=>by simp[lk,e] at hy
  rw[Maps.atKey_put_other (hne e)];exact h.no y (by simpa [lk,Ne.symm e] using hy)
 rw[List.map_cons,List.nodup_cons] at hnd
 rw[Maps.size_put hT,h.has z,lk_none.2 hnd.1]
 show(if false=true then _ else Maps.size D+1)=L.length+1
 rw[if_neg (by decide),h.size hnd.2]
theorem MapI.len{w:World}{b n:Nat}{L:List (Int×Int)}(h:MapI w b n L)(hn:(L.map Prod.fst).Nodup)(ty:TypeId):(Builtin.len_ #[136] ty #[.map (some b)]).run Tryz.prog w= .ok (.int .i64 L.length) w:=by
 obtain⟨D,h⟩:=h
 have:=h.own.len Tryz.underlying136 ty
 rw[h.size hn] at this
 exact this
theorem wpList_putI{w:World}{ops:Array Oper}{rest:List Oper}{o:Oper}{a:Act}{Q:Exit->Act->World->Prop}(hg:o.guard=none)(m x u:Operand)(hop:o.op=Op.mapUpdate 136 m x u)
  {b n:Nat} {L:List (Int×Int)} (hm:a.eval m= .map (some b)) (h:MapI w b n L) (hn:n<100000) (z v:Int) (hx:a.eval x= .int .i64 z) (hu:a.eval u= .int .i64 v) (hz:I z) (hv:I v)
  (hK:∀w',MapI w' b (n+1) ((z,v)::L)->Onl [b] w w'->wpList Tryz.prog ops Q rest (a.put o.dst undef) w'):wpList Tryz.prog ops Q (o::rest) a w:=by
 refine wpList_plain hg fun K' hK' => ?_
 obtain⟨w',hrun,r1,r2⟩:=h.put hn hz hv
 unfold Oper.wp;simp[execOp,hop,hm,hx,hu,hrun,Result.andThen];exact hK' _ _ (hK w' r1 r2)
def MapS(w:World)(b n:Nat)(S:List Int):Prop:=∃D:DataW Unit,w.ownsMap Tryz.prog 3 (plainElem Tryz.prog 4) b n D/\∀z,D.atKey (kyI z) (.lit (.bool false))= .lit (.bool (decide (z∈S)))
theorem MapS.lt{w:World}{b n:Nat}{S:List Int}(h:MapS w b n S):b<w.heap.size:=by
 obtain⟨D,h1,_⟩:=h
 exact h1.lt
theorem MapS.block{w w':World}{b n:Nat}{S:List Int}(h:MapS w b n S)(hb:w'.heap[b]? =w.heap[b]?):MapS w' b n S:=by
 obtain⟨D,⟨es,clock,h1,h2⟩,h3⟩:=h
 exact⟨D,⟨es,clock,hb.trans h1,h2⟩,h3⟩
theorem MapS.below{w w':World}{b n:Nat}{S:List Int}(h:MapS w b n S)(hb:Below w.heap.size w w'):MapS w' b n S:=h.block (hb.block b h.lt)
theorem MapS.onl{w w':World}{b n:Nat}{S:List Int}{X:List Nat}(h:MapS w b n S)(ho:Onl X w w')(hX:b∉X):MapS w' b n S:=h.block (ho.block b h.lt hX)
theorem MapS.made(w:World):MapS (w.alloc (.map #[] 0)) w.heap.size 0 []:=⟨.map [],World.ownsMap_made _ _ _ _,fun z=>by simp[DataW.atKey]⟩
theorem plainElem_bool_inv{v:Value}{x:Bool}{ps:List MemPlace}(h:plainElem (H:=Unit) Tryz.prog 4 v=some (.lit (.bool x),ps)):v= .bool x:=by
 unfold plainElem at h
 rw[Tryz.underlying4] at h
 cases v<;>simp at h
 rw[h.1]
theorem MapS.look{w:World}{b n:Nat}{S:List Int}(h:MapS w b n S){z:Int}{v:Bool}(hz:I z)(hv:decide (z∈S)=v):(Instr.lookup 139 (.map (some b)) (.int .i64 z) false).run Tryz.prog w= .ok (.bool v) w:=by
 obtain⟨D,h1,h2⟩:=h
 obtain⟨u,ps,hrun,hr⟩:=h1.lookup (z:= .bool false) (zd:= .lit (.bool false)) (zp:=[]) keyedI Tryz.underlying139 (by kernel_rfl) (plainElem_bool Tryz.underlying4 false) (keyI hz)
 rw[h2 z,hv] at hr
 rw[hrun,plainElem_bool_inv hr]
theorem MapS.put{w:World}{b n:Nat}{S:List Int}(h:MapS w b n S)(hn:n<100000){z:Int}(v:Bool)(hz:I z):∃w',(Instr.mapUpdate 139 (.map (some b)) (.int .i64 z) (.bool v)).run Tryz.prog w= .ok () w'/\MapS w' b (n+1) (if v=true then z::S else S.filter (fun x=>x !=z))/\Onl [b] w w':=by
 obtain⟨D,h1,h2⟩:=h
 have hD:Maps.IsMap D:=h1.isMap
 obtain⟨w',hrun,hown,hg⟩:=h1.update (d:= .lit (.bool v)) (ps:=[]) keyedI Tryz.underlying139 (by unfold maxLen;omega) (keyI hz) (plainElem_bool Tryz.underlying4 v)
 refine⟨w',hrun,⟨_,hown,fun y=> ?_⟩,⟨hg.os,hg.tape,hg.output,hg.size,fun k hk hne=>hg.block k hk (by intro e;simp at e;simp[e] at hne)⟩⟩
 by_cases e:y=z
 ·subst e
  rw[Maps.atKey_put_same hD (by simp[kyI,WideAt.IsKeyLit])]
  cases v<;>simp
 rw[Maps.atKey_put_other (by simp[kyI,e]),h2 y]
 cases v<;>simp[e]
theorem wpList_putS{w:World}{ops:Array Oper}{rest:List Oper}{o:Oper}{a:Act}{Q:Exit->Act->World->Prop}(hg:o.guard=none)(m x u:Operand)(hop:o.op=Op.mapUpdate 139 m x u)
  {b n:Nat} {S:List Int} (hm:a.eval m= .map (some b)) (h:MapS w b n S) (hn:n<100000) (z:Int) (v:Bool) (hx:a.eval x= .int .i64 z) (hu:a.eval u= .bool v) (hz:I z)
  (hK:∀w',MapS w' b (n+1) (if v=true then z::S else S.filter (fun x=>x !=z))->Onl [b] w w'->wpList Tryz.prog ops Q rest (a.put o.dst undef) w'):wpList Tryz.prog ops Q (o::rest) a w:=by
 refine wpList_plain hg fun K' hK' => ?_
 obtain⟨w',hrun,r1,r2⟩:=h.put hn v hz
 unfold Oper.wp;simp[execOp,hop,hm,hx,hu,hrun,Result.andThen];exact hK' _ _ (hK w' r1 r2)
end Go.Proofs.YtpbepnpnpopmfaaGreat
namespace Go.Proofs.YtpbepnpnpopmfaaGreat
open Plain
set_option linter.unusedVariables false
set_option linter.unusedSimpArgs false

def ptr4(P off:Nat):Value:= .agg #[.pointer (some ⟨P,off+5,none⟩),.pointer (some ⟨P,off+6,none⟩),.pointer (some ⟨P,off+7,none⟩),.pointer (some ⟨P,off+8,none⟩)]
theorem idx4(P off:Nat){z:Nat}(h:z<4)(w:World):(Instr.index 118 (ptr4 P off) (.int .i64 (z:Nat))).run Tryz.prog w= .ok (.pointer (some ⟨P,off+5+z,none⟩)) w:=by
 have:z=0\/z=1\/z=2\/z=3:=by omega
 rcases this with rfl|rfl|rfl|rfl
 ·have e:(Instr.index 118 (ptr4 P off) (.int .i64 0)).run Tryz.prog w= .ok (.pointer (some ⟨P,off+5,none⟩)) w:=by kernel_rfl
  exact e
 ·have e:(Instr.index 118 (ptr4 P off) (.int .i64 1)).run Tryz.prog w= .ok (.pointer (some ⟨P,off+6,none⟩)) w:=by kernel_rfl
  exact e
 ·have e:(Instr.index 118 (ptr4 P off) (.int .i64 2)).run Tryz.prog w= .ok (.pointer (some ⟨P,off+7,none⟩)) w:=by kernel_rfl
  exact e
 have e:(Instr.index 118 (ptr4 P off) (.int .i64 3)).run Tryz.prog w= .ok (.pointer (some ⟨P,off+8,none⟩)) w:=by kernel_rfl
 exact e
def Bs.zl(s:Bs)(p z:Nat):Sl:=if p=0 then (if z=0 then s.l0 else if z=1 then s.h0 else if z=2 then s.f0 else s.g0) else (if z=0 then s.l1 else if z=1 then s.h1 else if z=2 then s.f1 else s.g1)
theorem Bx.zone{w:World}{P:Nat}{s:Bs}{B:Bd}(h:Bx w P s B){p z:Nat}(hp:p<2)(hz:z<4):w.cell? ⟨P,1+p*14+5+z,none⟩=some (.slice (s.zl p z).a (s.zl p z).n (s.zl p z).c):=by
 rw[h.cell];have h1:p=0\/p=1:=by omega
 have h2:z=0\/z=1\/z=2\/z=3:=by omega
 rcases h1 with rfl|rfl<;>rcases h2 with rfl|rfl|rfl|rfl<;>rfl
theorem BdR.zone{w:World}{s:Bs}{B:Bd}(h:BdR w s B)(p z:Nat):Rw ic 1 w (s.zl p z).v ((B.seat p).zs z):=by
 unfold Bs.zl Bd.seat Se.zs
 split<;>(split;rotate_left;split;rotate_left;split)
 ·exact h.s0.f
 ·exact h.s0.g
 ·exact h.s0.l
 ·exact h.s0.h
 ·exact h.s1.f
 ·exact h.s1.g
 ·exact h.s1.l
 exact h.s1.h
theorem rg64_1{P:Program}{B n:Nat}{w0:World}{L:List (Nat×Nat×Value)}{E F:World->Prop}{id:Nat}{Q:Exit->Act->World->Prop}{a:Act}{w:World}{A:Array Oper}{o0 o1 o2 o3 o4 o5 o6 o7 o8 o9 o10 o11 o12 o13:Oper}(hm:P.follows .mixedOrders=true)(hA:A=[o0,o1,o2,o3,o4,o5,o6,o7,o8,o9,o10,o11,o12,o13].toArray)(hB:regOk A [] [0,1,2,3,4,5,6,7,8,9,10,11,12] (.fs [0,1,2,3,4,5,6,7,8,9,10,11,12] (.altc 13 .done .stop))=true)(c:RC B w0 n L E F w)
  (h:∀wk,Kept B w0 n L wk->E wk->F wk->wpQuiet P A (fun _=>True) (fun a0=>((∀K1:Act->World->Prop,(∀a1 w1,Q .normal a1 w1->K1 a1 w1)->wpList P A (fun e a1 w1=>e= .normal/\K1 a1 w1) [o13] a0 wk)/\True)) [o0,o1,o2,o3,o4,o5,o6,o7,o8,o9,o10,o11,o12] a):(Code.region id A true).wp P Q a w:=by
 subst hA;exact wp_reg _ _ _ hm hB c (fun wk k e f=>have g:=h wk k e f;Scr.of_fs _ _ rfl g fun _ g=>(Scr.of_altc rfl (g.1 _ fun _ _ g=>g) (fun _ _ g=>g) trivial))
theorem lists(P off:Nat)(w:World):Calls Tryz.prog 64 #[.pointer (some ⟨P,off,none⟩)] w fun e w' =>e= .returned (ptr4 P off)/\Below w.heap.size w w':=by
 go_enter Tryz.func64,Tryz.ntmps64;go_wp2_with fail
 refine rg64_1 (w0:=w) (B:=w.heap.size) (n:=w.heap.size+1) (L:=[(w.heap.size,0,.pointer none),(w.heap.size,1,.pointer none),(w.heap.size,2,.pointer none),(w.heap.size,3,.pointer none)]) (by kernel_rfl) rfl (by kernel_rfl) (.t ⟨by go_grown,by go_size,(by simp[go_sem]<;>omega)⟩) (fun w1 K_w1 E_w1 F_w1=> ?_);have _ne:Nonempty (KX (w.heap.size) w (w.heap.size+1) [(w.heap.size,0,.pointer none),(w.heap.size,1,.pointer none),(w.heap.size,2,.pointer none),(w.heap.size,3,.pointer none)] (fun _=>True)):=⟨⟨_,K_w1,E_w1⟩⟩
 repeat (go_big_quiet_step (fail))
 refine wpQuiet_nil ?_;have KH_w1:=Hd K_w1;have hw_w1:=K_w1.below;have hz_w1:=K_w1.size;have lR_w1:w.heap.size<w1.heap.size:=by omega
 clear K_w1;clear E_w1 F_w1
 refine⟨fun K hK0=> ?_,trivial⟩
 have hK:=Hd hK0;clear hK0;have cR0_w1:=KH_w1.o.at (b:=w.heap.size) (o:=0) (v:= .pointer none) (by simp)
 have fR0_w1:=KH_w1.o.free (b:=w.heap.size) (o:=0) (v:= .pointer none) (by simp);have cR1_w1:=KH_w1.o.at (b:=w.heap.size) (o:=1) (v:= .pointer none) (by simp)
 have fR1_w1:=KH_w1.o.free (b:=w.heap.size) (o:=1) (v:= .pointer none) (by simp);have cR2_w1:=KH_w1.o.at (b:=w.heap.size) (o:=2) (v:= .pointer none) (by simp)
 have fR2_w1:=KH_w1.o.free (b:=w.heap.size) (o:=2) (v:= .pointer none) (by simp);have cR3_w1:=KH_w1.o.at (b:=w.heap.size) (o:=3) (v:= .pointer none) (by simp)
 have fR3_w1:=KH_w1.o.free (b:=w.heap.size) (o:=3) (v:= .pointer none) (by simp);go_wp2_with fail
 first|refine⟨rfl,hK.o _ _ ?_⟩|refine hK.o _ _ ?_
 clear hK K;clear _ne;go_wp2_with fail
 exact bodyPost_ret (v:=ptr4 P off) (by simp[results,Tryz.results64,go_sem,ptr4,lR_w1,cR0_w1,fR0_w1,cR1_w1,fR1_w1,cR2_w1,fR2_w1,cR3_w1,fR3_w1]) rfl ⟨rfl,by go_grown⟩

end Go.Proofs.YtpbepnpnpopmfaaGreat
namespace Go.Proofs.YtpbepnpnpopmfaaGreat
open Plain
set_option linter.unusedVariables false
set_option linter.unusedSimpArgs false

def Bs.isl(s:Bs)(j:Nat):Sl:=if j<8 then s.zl (j / 4) (j%4) else s.at'
def Plain.Bd.il(B:Bd)(j:Nat):List Int:=if j<8 then (B.seat (j / 4)).zs (j%4) else B.att
def TgO(lo hi:Nat)(w:World)(v:Value)(l:List Tg):Prop:=Ox tc 2 98 lo hi w v l\/(l=[]/\∃a c,v= .slice (some a) 0 c)
theorem TgO.map{lo hi lo' hi':Nat}{w w':World}{v:Value}{l:List Tg}(h:TgO lo hi w v l)(k:Ox tc 2 98 lo hi w v l->Ox tc 2 98 lo' hi' w' v l):TgO lo' hi' w' v l:=h.elim (fun h=> .inl (k h)) .inr
theorem TgO.rw{lo hi:Nat}{w:World}{v:Value}{l:List Tg}(h:TgO lo hi w v l)(hs:∀x∈l,(tc x).length=2):Rw tc 2 w v l:=h.elim (fun h=>Ox.rw h hs) (fun⟨h1,a,c,h2⟩=> .inl ⟨h1,.inr ⟨a,c,h2⟩⟩)
theorem TgO.keep{lo hi:Nat}{w w':World}{v:Value}{l:List Tg}(h:TgO lo hi w v l)(hk:∀k,lo<=k->k<hi->v.ownBlock=some k->w'.heap[k]? =w.heap[k]?):TgO lo hi w' v l:=h.map (fun h=>h.keep hk)
theorem TgO.below{lo hi:Nat}{w w':World}{v:Value}{l:List Tg}(h:TgO lo hi w v l)(hb:Below w.heap.size w w'):TgO lo hi w' v l:=h.map (fun h=>h.below hb)
theorem TgO.mono{lo hi lo' hi':Nat}{w:World}{v:Value}{l:List Tg}(h:TgO lo hi w v l)(h1:lo'<=lo)(h2:hi<=hi'):TgO lo' hi' w v l:=h.map (fun h=>h.mono h1 h2)
theorem TgO.ox{lo hi:Nat}{w:World}{v:Value}{l:List Tg}(h:TgO lo hi w v l)(h0:0<l.length):Ox tc 2 98 lo hi w v l:=h.elim id (fun⟨h1,_⟩=>by rw[h1] at h0;simp at h0)
theorem TgO.form{lo hi:Nat}{w:World}{v:Value}{l:List Tg}(h:TgO lo hi w v l):∃a c,v= .slice a l.length c:=h.elim (fun h=>h.1.form) (fun⟨h1,a,c,h2⟩=>⟨some a,c,by rw[h1];exact h2⟩)
theorem TgO.max{lo hi:Nat}{w:World}{v:Value}{l:List Tg}(h:TgO lo hi w v l):l.length<=maxLen:=h.elim (fun h=>h.1.max) (fun⟨h1,_⟩=>by rw[h1];simp[maxLen])
def ItO(lo hi:Nat)(w:World)(v:Value)(l:List It):Prop:=∃l':List (It×Sl),l'.map Prod.fst=l/\Ox itc 5 73 lo hi w v l'/\∀x∈l',TgO lo hi w x.2.v x.1.tg
theorem itc_len{l:List (It×Sl)}:∀x∈l,(itc x).length=5:=fun _ _=>rfl
theorem tc_len{l:List Tg}:∀x∈l,(tc x).length=2:=fun _ _=>rfl
theorem oc_len{l:List Ob}:∀x∈l,(oc x).length=12:=fun _ _=>rfl
theorem kc_len{l:List Bk}:∀x∈l,(kc x).length=2:=fun _ _=>rfl
theorem ItO.rd{lo hi:Nat}{w:World}{v:Value}{l:List It}(h:ItO lo hi w v l):ItR w v l:=by
 obtain⟨l',h1,h2,h3⟩:=h
 exact⟨l',h1,h2.rw itc_len,fun x hx=>(h3 x hx).rw tc_len⟩
theorem ItO.keep{lo hi:Nat}{w w':World}{v:Value}{l:List It}(h:ItO lo hi w v l)(hk:∀k,lo<=k->k<hi->w'.heap[k]? =w.heap[k]?):ItO lo hi w' v l:=by
 obtain⟨l',h1,h2,h3⟩:=h
 exact⟨l',h1,h2.keep (fun k a b _=>hk k a b),fun x hx=>(h3 x hx).keep (fun k a b _=>hk k a b)⟩
theorem ItO.below{lo hi:Nat}{w w':World}{v:Value}{l:List It}(h:ItO lo hi w v l)(hb:Below w.heap.size w w'):ItO lo hi w' v l:=by
 obtain⟨l',h1,h2,h3⟩:=h
 exact⟨l',h1,h2.below hb,fun x hx=>(h3 x hx).below hb⟩
theorem ItO.mono{lo hi lo' hi':Nat}{w:World}{v:Value}{l:List It}(h:ItO lo hi w v l)(h1:lo'<=lo)(h2:hi<=hi'):ItO lo' hi' w v l:=by
 obtain⟨l',g1,g2,g3⟩:=h
 exact⟨l',g1,g2.mono h1 h2,fun x hx=>(g3 x hx).mono h1 h2⟩
theorem ItO.onlT{lo hi:Nat}{w w':World}{v:Value}{l:List It}{g:Nat}{cur:Array Value}{e:TypeId}(h:ItO lo hi w v l)(ho:Onl [g] w w')(hg:w.heap[g]? =some (.cells cur e (0,0)))(he1:e≠73)(he2:e≠98):ItO lo hi w' v l:=by
 obtain⟨l',h1,h2,h3⟩:=h
 have key:∀{γ:Type} {f':γ->List Value} {sz':Nat} {e':TypeId} {v':Value} {m:List γ},e≠e'->Ox f' sz' e' lo hi w v' m->Ox f' sz' e' lo hi w' v' m:=fun he h=>h.keep (fun k a b hb=>ho.block k (h.blk hb).2.2 (fun hm=>by
  simp at hm
  subst hm
  obtain⟨_,_,c,hc⟩:=h.1.typ _ hb
  rw[hg] at hc
  simp at hc
  exact he hc.2))
 exact⟨l',h1,key he1 h2,fun x hx=>(h3 x hx).map (key he2)⟩
theorem ItO.nil(lo hi:Nat)(w:World):ItO lo hi w (.slice none 0 0) []:=⟨[],rfl,Ox.nil _ _ _ _,by simp⟩
structure BdO(lo hi:Nat)(w:World)(s:Bs)(B:Bd):Prop where
 ob:Ox oc 12 47 lo hi w s.ob.v B.ob
 il:∀j,j<9->Ox ic 1 3 lo hi w (s.isl j).v (B.il j)
 nd:∀i j,i<9->j<9->i≠j->∀b,(s.isl i).v.ownBlock=some b->(s.isl j).v.ownBlock≠some b
 st:ItO lo hi w s.st.v B.st
 qu:ItO lo hi w s.qu.v B.qu
 ns:∀b,s.st.v.ownBlock=some b->s.qu.v.ownBlock≠some b
 bl:Ox kc 2 89 lo hi w s.bl.v B.bl
theorem BdO.keep{lo hi:Nat}{w w':World}{s:Bs}{B:Bd}(h:BdO lo hi w s B)(hk:∀k,lo<=k->k<hi->w'.heap[k]? =w.heap[k]?):BdO lo hi w' s B:=
 ⟨h.ob.keep (fun k a b _=>hk k a b),fun j hj=>(h.il j hj).keep (fun k a b _=>hk k a b),h.nd,h.st.keep hk,h.qu.keep hk,h.ns,h.bl.keep (fun k a b _=>hk k a b)⟩
theorem BdO.below{lo hi:Nat}{w w':World}{s:Bs}{B:Bd}(h:BdO lo hi w s B)(hb:Below w.heap.size w w'):BdO lo hi w' s B:=
 ⟨h.ob.below hb,fun j hj=>(h.il j hj).below hb,h.nd,h.st.below hb,h.qu.below hb,h.ns,h.bl.below hb⟩
theorem BdO.mono{lo hi lo' hi':Nat}{w:World}{s:Bs}{B:Bd}(h:BdO lo hi w s B)(h1:lo'<=lo)(h2:hi<=hi'):BdO lo' hi' w s B:=
 ⟨h.ob.mono h1 h2,fun j hj=>(h.il j hj).mono h1 h2,h.nd,h.st.mono h1 h2,h.qu.mono h1 h2,h.ns,h.bl.mono h1 h2⟩
theorem BdO.rng{lo hi lo' hi':Nat}{w w':World}{s:Bs}{B:Bd}(h:BdO lo hi w s B)(hr:Rng lo' hi' w w')(hd:hi<=lo'\/hi'<=lo)(hs:hi<=w.heap.size):BdO lo hi w' s B:=
 h.keep (fun k a b=>hr.block k (by omega) (by omega))
theorem BdO.rd{lo hi:Nat}{w:World}{s:Bs}{B:Bd}(h:BdO lo hi w s B):BdR w s B:=by
 have z:∀j,j<9->Rw ic 1 w (s.isl j).v (B.il j):=fun j hj=>(h.il j hj).rw ic_len
 exact⟨h.ob.rw oc_len,⟨z 0 (by omega),z 1 (by omega),z 2 (by omega),z 3 (by omega)⟩,⟨z 4 (by omega),z 5 (by omega),z 6 (by omega),z 7 (by omega)⟩,h.st.rd,h.qu.rd,z 8 (by omega),h.bl.rw kc_len⟩
def Bs.setZ(s:Bs)(p z:Nat)(v:Sl):Bs:=if p=0 then (if z=0 then {s with l0:=v} else if z=1 then {s with h0:=v} else if z=2 then {s with f0:=v} else {s with g0:=v}) else (if z=0 then {s with l1:=v} else if z=1 then {s with h1:=v} else if z=2 then {s with f1:=v} else {s with g1:=v})
theorem setZ_zl(s:Bs)(v:Sl){p z q y:Nat}(hp:p<2)(hz:z<4)(hq:q<2)(hy:y<4):(s.setZ p z v).zl q y=if q=p/\y=z then v else s.zl q y:=by
 have:(p=0/\z=0)\/(p=0/\z=1)\/(p=0/\z=2)\/(p=0/\z=3)\/(p=1/\z=0)\/(p=1/\z=1)\/(p=1/\z=2)\/(p=1/\z=3):=by omega
 rcases this with⟨rfl,rfl⟩|⟨rfl,rfl⟩|⟨rfl,rfl⟩|⟨rfl,rfl⟩|⟨rfl,rfl⟩|⟨rfl,rfl⟩|⟨rfl,rfl⟩|⟨rfl,rfl⟩
 all_goals
  have:(q=0/\y=0)\/(q=0/\y=1)\/(q=0/\y=2)\/(q=0/\y=3)\/(q=1/\y=0)\/(q=1/\y=1)\/(q=1/\y=2)\/(q=1/\y=3):=by omega
  rcases this with⟨rfl,rfl⟩|⟨rfl,rfl⟩|⟨rfl,rfl⟩|⟨rfl,rfl⟩|⟨rfl,rfl⟩|⟨rfl,rfl⟩|⟨rfl,rfl⟩|⟨rfl,rfl⟩<;>rfl
theorem setZ_isl(s:Bs)(v:Sl){p z:Nat}(hp:p<2)(hz:z<4){j:Nat}(hj:j<9):(s.setZ p z v).isl j=if j=4*p+z then v else s.isl j:=by
 unfold Bs.isl
 by_cases h:j<8
 ·rw[if_pos h,if_pos h,setZ_zl s v hp hz (by omega) (by omega)]
  by_cases e:j=4*p+z
  ·rw[if_pos e,if_pos (by omega)]
  rw[if_neg e,if_neg (by omega)]
 rw[if_neg h,if_neg h,if_neg (by omega)]
 have:(p=0/\z=0)\/(p=0/\z=1)\/(p=0/\z=2)\/(p=0/\z=3)\/(p=1/\z=0)\/(p=1/\z=1)\/(p=1/\z=2)\/(p=1/\z=3):=by omega
 rcases this with⟨rfl,rfl⟩|⟨rfl,rfl⟩|⟨rfl,rfl⟩|⟨rfl,rfl⟩|⟨rfl,rfl⟩|⟨rfl,rfl⟩|⟨rfl,rfl⟩|⟨rfl,rfl⟩<;>rfl
theorem setZ_rest(s:Bs)(v:Sl){p z:Nat}(hp:p<2)(hz:z<4):(s.setZ p z v).ob=s.ob/\(s.setZ p z v).st=s.st/\(s.setZ p z v).qu=s.qu/\(s.setZ p z v).bl=s.bl/\(s.setZ p z v).at' =s.at':=by
 have:(p=0/\z=0)\/(p=0/\z=1)\/(p=0/\z=2)\/(p=0/\z=3)\/(p=1/\z=0)\/(p=1/\z=1)\/(p=1/\z=2)\/(p=1/\z=3):=by omega
 rcases this with⟨rfl,rfl⟩|⟨rfl,rfl⟩|⟨rfl,rfl⟩|⟨rfl,rfl⟩|⟨rfl,rfl⟩|⟨rfl,rfl⟩|⟨rfl,rfl⟩|⟨rfl,rfl⟩<;>exact⟨rfl,rfl,rfl,rfl,rfl⟩
theorem Bx.put{w:World}{P:Nat}{s s':Bs}{B B':Bd}(h:Bx w P s B)(i:Nat)(v:Value)(he:(bcells s B).setIfInBounds i v=bcells s' B'):Bx (w.setCell ⟨P,i,none⟩ v) P s' B':=by
 unfold Bx at*
 rw[<-he];exact heap_setCell_same w P i _ _ v h
theorem Bx.free{w:World}{P:Nat}{s:Bs}{B:Bd}(h:Bx w P s B)(i:Nat):w.frozen? ⟨P,i,none⟩=false:=by
 unfold World.frozen?;rw[show w.heap[P]? =_ from h]
 simp
theorem Bx.onl{w w':World}{P:Nat}{s:Bs}{B:Bd}{S:List Nat}(h:Bx w P s B)(ho:Onl S w w')(hS:P∉S):Bx w' P s B:=(ho.block P h.lt hS).trans h
theorem Bx.putZ{w:World}{P:Nat}{s:Bs}{B:Bd}(h:Bx w P s B){p z:Nat}(hp:p<2)(hz:z<4)(v:Sl):Bx (w.setCell ⟨P,1+p*14+5+z,none⟩ v.v) P (s.setZ p z v) B:=by
 apply h.put
 have:(p=0/\z=0)\/(p=0/\z=1)\/(p=0/\z=2)\/(p=0/\z=3)\/(p=1/\z=0)\/(p=1/\z=1)\/(p=1/\z=2)\/(p=1/\z=3):=by omega
 rcases this with⟨rfl,rfl⟩|⟨rfl,rfl⟩|⟨rfl,rfl⟩|⟨rfl,rfl⟩|⟨rfl,rfl⟩|⟨rfl,rfl⟩|⟨rfl,rfl⟩|⟨rfl,rfl⟩<;>rfl
theorem bcells_one(s:Bs)(B:Bd):(bcells s B).all (·.oneCell')=true:=by simp[bcells,Value.oneCell',Sl.v]
theorem wpList_store_bx{ops:Array Oper}{rest:List Oper}{op:Oper}{a:Act}{w:World}{Q:Exit->Act->World->Prop}(hgd:op.guard=none){P:Nat}{s:Bs}{B:Bd}(x y:Operand)(ho:op.op= .store 34 x y)(hx:a.eval x= .pointer (some ⟨P,0,none⟩))(hy:a.eval y=bv s B){old:Array Value}(hg:w.heap[P]? =some (.cells old 34 (0,0)))(hsz:old.size=38)
  (hK:∀w',w' =w.setRow P (bcells s B)->wpList Tryz.prog ops Q rest (a.put op.dst undef) w'):wpList Tryz.prog ops Q (op::rest) a w:=
 wpList_store_row hgd 34 x y ho P (bcells s B) hx hy 34 old hg (by kernel_rfl) (by rw[hsz];rfl) (bcells_one s B) (hK _ rfl)
theorem Bx.row{w:World}{P:Nat}{old:Array Value}(hg:w.heap[P]? =some (.cells old 34 (0,0)))(s:Bs)(B:Bd):Bx (w.setRow P (bcells s B)) P s B:=setRow_heap _ P old _ 34 _ hg
structure Il(lo hi:Nat)(w:World)(s:Bs)(B:Bd)(k:Nat):Prop where
 il:∀j,j<k->Ox ic 1 3 lo hi w (s.isl j).v (B.il j)
 nd:∀i j,i<k->j<k->i≠j->∀b,(s.isl i).v.ownBlock=some b->(s.isl j).v.ownBlock≠some b
theorem Il.below{lo hi:Nat}{w w':World}{s:Bs}{B:Bd}{k:Nat}(h:Il lo hi w s B k)(hb:Below w.heap.size w w'):Il lo hi w' s B k:=⟨fun j hj=>(h.il j hj).below hb,h.nd⟩
theorem Il.mono{lo hi hi':Nat}{w:World}{s:Bs}{B:Bd}{k:Nat}(h:Il lo hi w s B k)(h2:hi<=hi'):Il lo hi' w s B k:=⟨fun j hj=>(h.il j hj).mono (Nat.le_refl _) h2,h.nd⟩
theorem Il.zero(lo hi:Nat)(w:World)(s:Bs)(B:Bd):Il lo hi w s B 0:=⟨fun j hj=>by omega,fun i j hi=>by omega⟩
theorem Il.onl{lo hi:Nat}{w w':World}{s:Bs}{B:Bd}{k:Nat}{S:List Nat}(h:Il lo hi w s B k)(ho:Onl S w w')(hS:∀b∈S,b<lo\/hi<=b):Il lo hi w' s B k:=
 ⟨fun j hj=>(h.il j hj).keep (fun q a b hb=>ho.block q ((h.il j hj).blk hb).2.2 (fun hm=>by have:=hS q hm;omega)),h.nd⟩
theorem Il.next{lo hi hi':Nat}{w:World}{s:Bs}{B:Bd}{p z:Nat}(h:Il lo hi w s B (4*p+z))(hp:p<2)(hz:z<4)(hh:hi<=hi')(hlo:lo<=hi)(v:Sl)(hv:Ox ic 1 3 hi hi' w v.v ((B.seat p).zs z)):Il lo hi' w (s.setZ p z v) B (4*p+z+1):=by
 have e:∀j,j<4*p+z->(s.setZ p z v).isl j=s.isl j:=fun j hj=>by rw[setZ_isl s v hp hz (by omega),if_neg (by omega)]
 have e2:(s.setZ p z v).isl (4*p+z)=v:=by rw[setZ_isl s v hp hz (by omega),if_pos rfl]
 have e3:B.il (4*p+z)=(B.seat p).zs z:=by unfold Plain.Bd.il;rw[if_pos (by omega),show(4*p+z) / 4=p by omega,show(4*p+z)%4=z by omega]
 refine⟨fun j hj=> ?_,fun i j hi2 hj hij b hb=> ?_⟩
 ·rcases Nat.lt_or_ge j (4*p+z) with h1|h1
  ·rw[e j h1];exact(h.il j h1).mono (Nat.le_refl _) hh
  obtain rfl:j=4*p+z:=by omega
  rw[e2,e3];exact hv.mono hlo (Nat.le_refl _)
 rcases Nat.lt_or_ge i (4*p+z) with h1|h1
 ·rw[e i h1] at hb
  rcases Nat.lt_or_ge j (4*p+z) with h2|h2
  ·rw[e j h2];exact h.nd i j h1 h2 hij b hb
  obtain rfl:j=4*p+z:=by omega
  rw[e2]
  exact(h.il i h1).ne (w':=w) hv (.inl (Nat.le_refl _)) b hb
 obtain rfl:i=4*p+z:=by omega
 rw[e2] at hb
 have h2:j<4*p+z:=by omega
 rw[e j h2];exact hv.ne (w':=w) (h.il j h2) (.inr (Nat.le_refl _)) b hb
theorem Il.last{lo hi:Nat}{w:World}{s:Bs}{B:Bd}(h:Il lo hi w s B 8){lo2 hi2:Nat}(hv:Ox ic 1 3 lo2 hi2 w s.at'.v B.att)(hd:hi<=lo2\/hi2<=lo){l u:Nat}(hl:l<=lo/\l<=lo2)(hu:hi<=u/\hi2<=u):Il l u w s B 9:=by
 have e2:s.isl 8=s.at':=rfl
 have e3:B.il 8=B.att:=rfl
 refine⟨fun j hj=> ?_,fun i j hi2 hj hij b hb=> ?_⟩
 ·rcases Nat.lt_or_ge j 8 with h1|h1
  ·exact(h.il j h1).mono hl.1 hu.1
  obtain rfl:j=8:=by omega
  rw[e2,e3];exact hv.mono hl.2 hu.2
 rcases Nat.lt_or_ge i 8 with h1|h1
 ·rcases Nat.lt_or_ge j 8 with h2|h2
  ·exact h.nd i j h1 h2 hij b hb
  obtain rfl:j=8:=by omega
  rw[e2]
  exact(h.il i h1).ne (w':=w) hv (by omega) b hb
 obtain rfl:i=8:=by omega
 rw[e2] at hb
 exact hv.ne (w':=w) (h.il j (by omega)) (by omega) b hb
end Go.Proofs.YtpbepnpnpopmfaaGreat
