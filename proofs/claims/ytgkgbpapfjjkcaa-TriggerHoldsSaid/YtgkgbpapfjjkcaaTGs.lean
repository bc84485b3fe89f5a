/- Lists of items that are equal, by the reference of this layer. -/
import Derived.Test.YtgkgbpapfjjkcaaBSm
import Derived.Deep.DeepCutAuto
import Derived.LoopTactic
import Derived.Deep.MidRow
namespace Go.Proofs.Ytgkgbpapfjjkcaa
open Go.RowKit Plain
set_option linter.unusedVariables false
set_option linter.unusedSimpArgs false

set_option maxRecDepth 100000 in
set_option maxHeartbeats 4000000 in
theorem gsame(v1 v2:Value)(l:List It)(w:World)(h1:ItR w v1 l)(h2:ItR w v2 l):Calls Try.prog 11 #[v1,v2] w fun e w' =>e= .returned (.bool true)∧Below w.heap.size w w':=by
 obtain⟨m1,hm1,h1,ht1⟩:=h1
 obtain⟨m2,hm2,h2,ht2⟩:=h2
 obtain⟨hm,a1,c1,rfl,hf1⟩:=h1.form
 obtain⟨_,a2,c2,rfl,hf2⟩:=h2.form
 have en1:m1.length=l.length:=by rw[←hm1,List.length_map]
 have en2:m2.length=l.length:=by rw[←hm2,List.length_map]
 rw[en1] at hm hf1 ⊢
 rw[en2] at hf2 ⊢
 have HF1:=Lib.hid hf1;have HF2:=Lib.hid hf2;have HM1:=Lib.hid hm1;have HM2:=Lib.hid hm2;have HE1:=Lib.hid en1;have HE2:=Lib.hid en2;have HU1:=Lib.hid ht1;have HU2:=Lib.hid ht2;clear h1 h2 hf1 hf2 hm1 hm2 en1 en2 ht1 ht2;have hne:(l.length !=l.length)=false:=by simp
 have hne2:((l.length:Int) !=(l.length:Int))=false:=by simp
 go_enter Try.func11,Try.ntmps11;go_wp2_with fail
 go_loopw [5] (fun i wr=>LsL w l.length i wr) (fun i _=>l.length-(intOf i).toNat)
 case atStart=>exact⟨0,by omega,rfl,Below.refl _ _⟩
 case round=>
  obtain⟨k,hk,rfl,hb⟩:=hrel
  have HB:=Lib.hid hb
  by_cases hkl:k<l.length
  ·obtain⟨b1,o1,rfl,hlt1,hc1⟩:=HF1.out (by omega)
   obtain⟨b2,o2,rfl,hlt2,hc2⟩:=HF2.out (by omega)
   obtain⟨y1,hy1⟩:∃x,m1[k]? =some x:=⟨_,List.getElem?_eq_getElem (by have:=HE1.out;omega)⟩
   obtain⟨y2,hy2⟩:∃x,m2[k]? =some x:=⟨_,List.getElem?_eq_getElem (by have:=HE2.out;omega)⟩
   have hx1:l[k]? =some y1.1:=by rw[←HM1.out,List.getElem?_map,hy1];rfl
   have hx2:l[k]? =some y2.1:=by rw[←HM2.out,List.getElem?_map,hy2];rfl
   have hxx:y2.1=y1.1:=by rw[hx1] at hx2;simpa using hx2.symm
   have ht1:=HU1.out y1 (List.mem_of_getElem? hy1);have ht2:=HU2.out y2 (List.mem_of_getElem? hy2)
   obtain⟨x,⟨ta,tn,tc1⟩⟩:=y1
   obtain⟨x2,⟨ua,un,uc1⟩⟩:=y2
   simp only at hxx
   subst hxx;change Rw tc 2 w (.slice ta tn tc1) x2.tg at ht1
   change Rw tc 2 w (.slice ua un uc1) x2.tg at ht2
   have ez1:=ht1.length;have ez2:=ht2.length;subst ez1 ez2
   obtain⟨x,hxe⟩:∃x,x=x2:=⟨_,rfl⟩
   subst hxe;have HT1:=Lib.hid ht1;have HT2:=Lib.hid ht2;have hdd:∀(j:Nat) (u:Value),(itc (x,⟨ta,x.tg.length,tc1⟩))[j]? =some u→wr.cell? ⟨b1,o1+(k*5+j),none⟩=some u:=fun j u hu=>(hb.cell (p:=⟨b1,o1+(k*5+j),none⟩) hlt1).trans (hc1 k _ hy1 j u hu)
   have hde:∀(j:Nat) (u:Value),(itc (x,⟨ua,x.tg.length,uc1⟩))[j]? =some u→wr.cell? ⟨b2,o2+(k*5+j),none⟩=some u:=fun j u hu=>(hb.cell (p:=⟨b2,o2+(k*5+j),none⟩) hlt2).trans (hc2 k _ hy2 j u hu)
   have d0:wr.cell? ⟨b1,o1+k*5,none⟩=some (.int .i64 x.pl):=hdd 0 _ rfl;have d1:=cA hdd 1 rfl;have d2:=cA hdd 2 rfl;have d3:=cA hdd 3 rfl;have d4:wr.cell? ⟨b1,o1+k*5+4,none⟩=some (.slice ta x.tg.length tc1):=by rw[Nat.add_assoc];exact hdd 4 _ rfl
   have e0:wr.cell? ⟨b2,o2+k*5,none⟩=some (.int .i64 x.pl):=hde 0 _ rfl;have e1:=cA hde 1 rfl;have e2:=cA hde 2 rfl;have e3:=cA hde 3 rfl;have e4:wr.cell? ⟨b2,o2+k*5+4,none⟩=some (.slice ua x.tg.length uc1):=by rw[Nat.add_assoc];exact hde 4 _ rfl
   have g1:b1<wr.heap.size:=Nat.lt_of_lt_of_le hlt1 hb.size;have g2:b2<wr.heap.size:=Nat.lt_of_lt_of_le hlt2 hb.size;have i1:(0:Int)≤(k:Int):=by omega
   have i2:(k:Int)<(l.length:Int):=by omega
   clear hc1 hc2 hy1 hy2 hx1 hx2 hb hdd hde ht1 ht2
   go_upto_region 6 with fail
   refine rg51_6 (w0:=wr) (B:=wr.heap.size) (n:=wr.heap.size) (L:=[]) (by kernel_rfl) rfl (by kernel_rfl) (.t ⟨by go_grown,by go_size,(by simp[go_sem]<;>omega)⟩) (fun w21 K_w21 E_w21 F_w21=> ?_);have _ne:Nonempty (KX (wr.heap.size) wr (wr.heap.size) [] (fun _=>True)):=⟨⟨_,K_w21,E_w21⟩⟩
   repeat (go_big_quiet_step (fail))
   refine wpQuiet_nil ?_;have rd0:=rck _ne d0 g1;have rd1:=rck _ne d1 g1;have rd2:=rck _ne d2 g1;have rd3:=rck _ne d3 g1;have rd4:=rck _ne d4 g1;have re0:=rck _ne e0 g2;have re1:=rck _ne e1 g2;have re2:=rck _ne e2 g2;have re3:=rck _ne e3 g2;have re4:=rck _ne e4 g2
   repeat (go_big_quiet_step (fail))
   refine wpQuiet_nil ?_;have KH_w21:=Lib.hid K_w21;have hw_w21:=K_w21.below;have hz_w21:=K_w21.size;clear K_w21;clear E_w21 F_w21
   refine⟨fun K hK0=> ?_,trivial⟩
   have hK:=Lib.hid hK0;clear hK0;replace HB:=Lib.hid (below_via HB.out hw_w21);clear hw_w21 hz_w21;go_wp2_with fail
   with_reducible refine(rsameitem _ _ _ _ x w21 (HT1.out.below HB.out) (HT2.out.below HB.out)).mono ?_
   rintro e w30 ⟨rfl,hb30⟩;replace HB:=Lib.hid (below_via HB.out hb30);clear hb30;go_wp2_with fail
   first|refine⟨rfl,hK.out _ _ ?_⟩|refine hK.out _ _ ?_
   clear hK K
   repeat (go_big_quiet_step (fail))
   refine wpQuiet_nil ?_;clear rd0 rd1 rd2 rd3 rd4 re0 re1 re2 re3 re4;clear _ne;go_wp2_with fail
   go_roundw
   case rel=>exact⟨k+1,by omega,by go_num,HB.out⟩
   case measure=>simp[intOf];omega
  ·clear hb
   go_wp2_with fail
   go_returns
   exact⟨rfl,HB.out⟩
end Go.Proofs.Ytgkgbpapfjjkcaa
