/- ref12.Without: a list of operations without one of a number. Conditions: fewer than 10^8 operations. -/
import Derived.Test.YtmiolpfanlpfnaaGreatW27
set_option maxRecDepth 100000
set_option maxHeartbeats 4000000
set_option linter.unusedSimpArgs false
set_option linter.unusedVariables false
namespace Go.Proofs.YtmiolpfanlpfnaaGreat
open Go.RowKit
theorem V3s(l:List OpD)(id:Int)(k:Nat)(h:k<l.length):delO (l.take (k+1)) id=delO (l.take k) id++(if l[k].id=id then []else [l[k]]):=by
 unfold delO;rw[List.take_succ_eq_append_getElem h,List.filter_append]
 congr 1
 by_cases e:l[k].id=id<;>simp[e]
theorem X5b(l:List OpD)(id:Int):(delO l id).length<=l.length:=List.length_filter_le _ _
theorem Y5d(V:Value)(l:List OpD)(id:Int)(w:World)(hs:Sl w 11 ROp V l)(hn:l.length<=100000000):
  Calls Tryz.prog 58 #[V,.int .i64 id] w fun e w'=>(∃v,e= .returned v/\OwnL w' w.heap.size 32 11 OpD.cells v (delO l id))/\Ext w w':=by
 obtain⟨A,c,rfl⟩:=hs.form;obtain⟨_,hc1,hc2,hA⟩:=hs.at;have HA:=hD hA;clear hs hA;go_enter Tryz.func58,Tryz.ntmps58;go_wp2_with fail
 go_loopw [5,6] (fun v i wr=>∃k:Nat,k<=l.length/\i= .int .i64 k/\Ext w wr/\OwnL wr w.heap.size 32 11 OpD.cells v (delO (l.take k) id))
  (fun _ i _=>l.length-(intOf i).toNat)
 case atStart=>exact⟨0,by omega,rfl,Ext.refl _,OwnL.nil _ _ _ _ _⟩
 case round=>
  obtain⟨k,hk,rfl,hb,hown⟩:=hrel;have HB:=hD hb;have HO:=hD hown;have hzr:=hb.size;have HLEN:Hid ((delO (l.take k) id).length<=k):=by have:=X5b (l.take k) id;rw[aD]at this;unfold Hid;omega
  clear hb hown;by_cases hlt:k<l.length
  ·have hd:decide ((k:Int)<(l.length:Int))=true:=by simp;omega
   have HT:=hD (V3s l id k hlt);obtain⟨b,off,rfl,hbl,hx⟩:=HA.out (by omega);obtain⟨cs,rfl,_,hcs⟩:=hx k hlt;have HE:Hid (∀W:World,Ext w W->(W.cell? ⟨b,off+k*11,none⟩=some (.int .i64 l[k].id)/\W.cell? ⟨b,off+k*11+1,none⟩=some (.int .i64 l[k].proc)/\W.cell? ⟨b,off+k*11+2,none⟩=some (.int .i64 l[k].object)/\W.cell? ⟨b,off+k*11+3,none⟩=some (.int .i64 l[k].kind)/\W.cell? ⟨b,off+k*11+4,none⟩=some (.int .i64 l[k].method)/\W.cell? ⟨b,off+k*11+5,none⟩=some (.int .i64 l[k].arg)/\W.cell? ⟨b,off+k*11+6,none⟩=some (.int .i64 l[k].second)/\W.cell? ⟨b,off+k*11+7,none⟩=some (.bool l[k].done)/\W.cell? ⟨b,off+k*11+8,none⟩=some (.int .i64 l[k].result)/\W.cell? ⟨b,off+k*11+9,none⟩=some (.int .i64 l[k].invoke)/\W.cell? ⟨b,off+k*11+10,none⟩=some (.int .i64 l[k].ret))):=by intro W h;have hw:=fun j u hu=>(h.cell (p:=⟨b,off+k*11+j,none⟩) hbl).trans (hcs j u hu);exact⟨hw 0 _ rfl,hw 1 _ rfl,hw 2 _ rfl,hw 3 _ rfl,hw 4 _ rfl,hw 5 _ rfl,hw 6 _ rfl,hw 7 _ rfl,hw 8 _ rfl,hw 9 _ rfl,hw 10 _ rfl⟩
   clear hx hcs;generalize l[k]=x at *;generalize delO (l.take k) id=s at *;obtain⟨vA,vc,rfl⟩:=HO.out.form;have hbw:=aE hbl HB.out.size;obtain⟨e0,e1,e2,e3,e4,e5,e6,e7,e8,e9,e10⟩:=HE.out wr HB.out;by_cases heq:x.id=id
   ·have hq:(x.id !=id)=false:=by simpa using heq
    have HT3:Hid (delO (l.take (k+1)) id=s):=by unfold Hid;rw[HT.out,if_pos heq];simp
    clear heq HT;go_wp2_with fail
    go_roundw
    case measure=>simp[intOf];omega
    case rel=>
     exact⟨k+1,by omega,by go_num,HB.out,by rw[HT3.out];exact HO.out⟩
   ·have hq:(x.id !=id)=true:=by simpa using heq
    have HT3:Hid (delO (l.take (k+1)) id=s++ [x]):=by unfold Hid;rw[HT.out,if_neg heq]
    clear heq HT;go_wp2_with (at_builtin;refine Z2a elOp Z3b Z8p rfl (.tmp 20) (.tmp 25) rfl _ s rfl (HO.out.ext (by exact Xt)) (by simp;omega) _ 1 x rfl (Row1.made _ _ x.cells) (by have:=HLEN.out;omega) (by decide) ?_);intro pA pc wp hp hgp;have HXP:=hD ((HO.out.ext (by exact Xt)).grown (a:=w) (by exact Xx (HB.out)) hgp (by simp));have HP:=hD hp;clear hp hgp;go_wp2_with fail
    go_roundw
    case measure=>simp[intOf];omega
    case rel=>
     exact⟨k+1,by omega,by go_num,HXP.out,by rw[HT3.out];exact HP.out⟩
  ·obtain rfl:k=l.length:=by omega
   have hd:decide ((l.length:Int)<(l.length:Int))=false:=by simp
   rw[List.take_length]at HO HLEN;obtain⟨s,hs⟩:∃s,delO l id=s:=⟨_,rfl⟩;rw[hs]at HO HLEN;have HS:=hD hs;clear hs;obtain⟨vA,vc,rfl⟩:=HO.out.form;go_wp2_with fail;go_ret;exact⟨⟨_,rfl,by rw[HS.out];exact HO.out⟩,HB.out⟩
theorem X6a{tb p:Nat}{ts:Nat->Nat}{F:Nat->Prop}(o:OpD)(w:World)(ht:TblAt w tb p ts F)(ho:Z2i o≠0)(hr:In64 o.result):
  Calls Tryz.prog 55 #[.pointer (some ⟨tb,0,none⟩),o.val] w fun e w'=>e= .returned (.int .i64 (Z2i o))/\Ext w w':=by
 obtain⟨W0,hW0⟩:∃W0,w.alloc (.cells #[.int .i64 o.id,.int .i64 o.proc,.int .i64 o.object,.int .i64 o.kind,.int .i64 o.method,.int .i64 o.arg,.int .i64 o.second,.bool o.done,.int .i64 o.result,.int .i64 o.invoke,.int .i64 o.ret] 32)=W0:=⟨_,rfl⟩;have HX0:Hid (Ext w W0):=by unfold Hid;rw[<-hW0];exact Ext.alloc _ _
 have HR0:Hid (Row1 W0 w.heap.size 32 o.cells):=by unfold Hid;rw[<-hW0];exact Row1.made w _ _
 have cE:Hid (∀W,Calls Tryz.prog 118 #[.agg #[.int .i64 o.id,.int .i64 o.proc,.int .i64 o.object,.int .i64 o.kind,.int .i64 o.method,.int .i64 o.arg,.int .i64 o.second,.bool o.done,.int .i64 o.result,.int .i64 o.invoke,.int .i64 o.ret]] W fun e w'=>e= .returned (.tuple #[.string ⟨#[]⟩,.int .i64 (Z2i o)])/\Ext W w'):=fun W=>by have h1:=Z7c o W hr;rw[if_neg ho]at h1;exact h1
 have cM:Hid (∀W,Ext w W->Calls Tryz.prog 70 #[.pointer (some ⟨tb,0,none⟩)] W fun e w'=>e= .returned (.bool true)/\W=w'):=fun W hW=>Z2w W (ht.ext hW).row;obtain⟨c,hc⟩:∃c,Z2i o=c:=⟨_,rfl⟩;rw[hc]at cE ho ⊢;have q1:(c==0)=false:=by simpa using ho
 have q2:(c !=0)=true:=by simpa using ho
 clear hc ht hr;go_enter Tryz.func55,Tryz.ntmps55;go_upto_region 1 with fail;clear hW0;obtain⟨b0,b1,b2,b3,b4,b5,b6,b7,b8,b9,b10⟩:=At11.row HR0.out;go_wp2_with (first
  | (go_at_call 118;(with_reducible refine(cE.out _).mono ?_);clear cE;rintro e w1 ⟨rfl,hb1⟩;have b0:=(At11.row (HR0.out.ext hb1 HR0.out.lt)).1;have HB1:Hid (Ext w w1):=HX0.out.trans hb1;clear hb1)
  | (go_at_call 70;(with_reducible refine(cM.out _ HB1.out).mono ?_);clear cM;rintro e w2 ⟨rfl,rfl⟩))
 go_ret;exact⟨rfl,HB1.out⟩
end Go.Proofs.YtmiolpfanlpfnaaGreat
