/- ref20.Run: the answer to a query, of a list of operations. Conditions: that all can be read, fewer than 10^8 operations. -/
import Derived.Test.YtmiolpfanlpfnaaGreatV45
import Derived.Deep.CutBlock
set_option maxRecDepth 100000
set_option maxHeartbeats 4000000
set_option linter.unusedSimpArgs false
set_option linter.unusedVariables false
namespace Go.Proofs.YtmiolpfanlpfnaaGreat
open Go.RowKit
theorem X5i(V:Value)(l:List OpD)(d:Nat)(t:ND)(n:NCell)(ord:ByteArray)(down:Bool)(limit:Int)(count:Bool)(w:World)(hs:Sl w 11 ROp V l)(hn:RN n n.cells)(hd:Nd w d t n)(hl:l.length≤100000000)(hlim: -9223372036854775808≤limit∧limit≤9223372036854775807):
  Calls Tryz.prog 39 #[V,.agg #[.int .i64 n.kind,n.kids,.string n.field,.string n.sign,.int .i64 n.value,.string ord,.bool down,.int .i64 limit,.bool count]] w fun e w'=>
   (∃v,e= .returned (.tuple #[v,.int .i64 (cutL limit (runL ord down l t l)).length])∧if count then v= .slice none 0 0 else Sl w' 11 ROp v (cutL limit (runL ord down l t l)))∧Ext w w':=by
 obtain⟨A,c,rfl⟩:=hs.form
 have HS:=hD hs
 obtain⟨_,hc1,hc2,hA⟩:=hs.at
 have HA:=hD hA
 have HRN:=hD hn
 have HD:=hD hd
 have IH:=hD (X0w A c l)
 obtain⟨nA,nm,nc,hkk⟩:=hn.2.2.2
 clear hs hA hn hd
 obtain⟨nk,nkids,nf,ns,nv⟩:=n
 dsimp only at *
 subst hkk
 have HQ:Hid (Ext w (w.alloc (.cells #[.int .i64 nk,.slice nA nm nc,.string nf,.string ns,.int .i64 nv,.string ord,.bool down,.int .i64 limit,.bool count] 69))):=Ext.alloc _ _
 have HBOX:Hid (∀W:World,Ext (w.alloc (.cells #[.int .i64 nk,.slice nA nm nc,.string nf,.string ns,.int .i64 nv,.string ord,.bool down,.int .i64 limit,.bool count] 69)) W→
   W.cell? ⟨w.heap.size,0,none⟩=some (.int .i64 nk)∧W.cell? ⟨w.heap.size,1,none⟩=some (.slice nA nm nc)∧W.cell? ⟨w.heap.size,2,none⟩=some (.string nf)∧W.cell? ⟨w.heap.size,3,none⟩=some (.string ns)∧W.cell? ⟨w.heap.size,4,none⟩=some (.int .i64 nv)∧
   W.cell? ⟨w.heap.size,5,none⟩=some (.string ord)∧W.cell? ⟨w.heap.size,6,none⟩=some (.bool down)∧W.cell? ⟨w.heap.size,7,none⟩=some (.int .i64 limit)∧W.cell? ⟨w.heap.size,8,none⟩=some (.bool count)):=
  fun W hb=>⟨by rw[hb.cell (by first | (simp;done) | (simp;omega) | omega)];go_simp,by rw[hb.cell (by first | (simp;done) | (simp;omega) | omega)];go_simp,by rw[hb.cell (by first | (simp;done) | (simp;omega) | omega)];go_simp,by rw[hb.cell (by first | (simp;done) | (simp;omega) | omega)];go_simp,by rw[hb.cell (by first | (simp;done) | (simp;omega) | omega)];go_simp,by rw[hb.cell (by first | (simp;done) | (simp;omega) | omega)];go_simp,by rw[hb.cell (by first | (simp;done) | (simp;omega) | omega)];go_simp,by rw[hb.cell (by first | (simp;done) | (simp;omega) | omega)];go_simp,by rw[hb.cell (by first | (simp;done) | (simp;omega) | omega)];go_simp⟩
 go_enter Tryz.func39,Tryz.ntmps39
 go_wp2_with fail
 go_loopw [6,7] (fun v i wr=>∃k:Nat,k≤l.length∧i= .int .i64 k∧Ext (w.alloc (.cells #[.int .i64 nk,.slice nA nm nc,.string nf,.string ns,.int .i64 nv,.string ord,.bool down,.int .i64 limit,.bool count] 69)) wr∧OwnL wr (w.heap.size+1) 32 11 OpD.cells v (runL ord down l t (l.take k)))
  (fun _ i _=>l.length-(intOf i).toNat)
 case atStart=>exact⟨0,by omega,rfl,Ext.refl _,OwnL.nil _ _ _ _ _⟩
 case round=>
  obtain⟨k,hk,rfl,hb,hown⟩:=hrel
  have HB:=hD hb
  have HO:=hD hown
  have HX:Hid (Ext w wr):=Ext.trans HQ.out hb
  have hzr:=hb.size
  simp at hzr
  clear hb hown
  by_cases hlt:k<l.length
  ·have hd:decide ((k:Int)<(l.length:Int))=true:=by simp;omega
   have HT:=hD (X2r ord down l t l k hlt)
   have HLEN:=hD (X8p ord down l t l k hk)
   obtain⟨b,off,rfl,hbl,hx⟩:=HA.out (by omega)
   obtain⟨cs,rfl,_,hcs⟩:=hx k hlt
   have HE:Hid (∀W:World,Ext w W→(W.cell? ⟨b,off+k*11,none⟩=some (.int .i64 l[k].id)∧W.cell? ⟨b,off+k*11+1,none⟩=some (.int .i64 l[k].proc)∧W.cell? ⟨b,off+k*11+2,none⟩=some (.int .i64 l[k].object)∧W.cell? ⟨b,off+k*11+3,none⟩=some (.int .i64 l[k].kind)∧W.cell? ⟨b,off+k*11+4,none⟩=some (.int .i64 l[k].method)∧W.cell? ⟨b,off+k*11+5,none⟩=some (.int .i64 l[k].arg)∧W.cell? ⟨b,off+k*11+6,none⟩=some (.int .i64 l[k].second)∧W.cell? ⟨b,off+k*11+7,none⟩=some (.bool l[k].done)∧W.cell? ⟨b,off+k*11+8,none⟩=some (.int .i64 l[k].result)∧W.cell? ⟨b,off+k*11+9,none⟩=some (.int .i64 l[k].invoke)∧W.cell? ⟨b,off+k*11+10,none⟩=some (.int .i64 l[k].ret))):=by
    intro W h
    have hw:=fun j u hu=>(h.cell (p:=⟨b,off+k*11+j,none⟩) hbl).trans (hcs j u hu)
    exact⟨hw 0 _ rfl,hw 1 _ rfl,hw 2 _ rfl,hw 3 _ rfl,hw 4 _ rfl,hw 5 _ rfl,hw 6 _ rfl,hw 7 _ rfl,hw 8 _ rfl,hw 9 _ rfl,hw 10 _ rfl⟩
   clear hx hcs
   generalize l[k]=x at *
   generalize runL ord down l t (l.take k)=out at *
   obtain⟨vA,vc,rfl⟩:=HO.out.form
   have hbw:=Nat.lt_of_lt_of_le hbl HX.out.size
   have HKK:Hid (∀W:World,Ext wr W→(W.cell? ⟨w.heap.size,0,none⟩=some (.int .i64 nk)∧W.cell? ⟨w.heap.size,1,none⟩=some (.slice nA nm nc)∧W.cell? ⟨w.heap.size,2,none⟩=some (.string nf)∧W.cell? ⟨w.heap.size,3,none⟩=some (.string ns)∧W.cell? ⟨w.heap.size,4,none⟩=some (.int .i64 nv)∧W.cell? ⟨b,off+k*11,none⟩=some (.int .i64 x.id)∧W.cell? ⟨b,off+k*11+1,none⟩=some (.int .i64 x.proc)∧W.cell? ⟨b,off+k*11+2,none⟩=some (.int .i64 x.object)∧W.cell? ⟨b,off+k*11+3,none⟩=some (.int .i64 x.kind)∧W.cell? ⟨b,off+k*11+4,none⟩=some (.int .i64 x.method)∧W.cell? ⟨b,off+k*11+5,none⟩=some (.int .i64 x.arg)∧W.cell? ⟨b,off+k*11+6,none⟩=some (.int .i64 x.second)∧W.cell? ⟨b,off+k*11+7,none⟩=some (.bool x.done)∧W.cell? ⟨b,off+k*11+8,none⟩=some (.int .i64 x.result)∧W.cell? ⟨b,off+k*11+9,none⟩=some (.int .i64 x.invoke)∧W.cell? ⟨b,off+k*11+10,none⟩=some (.int .i64 x.ret))):=by
    intro W h
    obtain⟨y0,y1,y2,y3,y4,_⟩:=HBOX.out W (HB.out.trans h)
    exact⟨y0,y1,y2,y3,y4,HE.out W (HX.out.trans h)⟩
   obtain⟨y0,y1,y2,y3,y4,e0,e1,e2,e3,e4,e5,e6,e7,e8,e9,e10⟩:=HKK.out wr (Ext.refl _)
   go_wp2_with fail
   go_region_held3 (fun w'=>(w'.cell? ⟨w.heap.size,0,none⟩=some (.int .i64 nk)∧w'.cell? ⟨w.heap.size,1,none⟩=some (.slice nA nm nc)∧w'.cell? ⟨w.heap.size,2,none⟩=some (.string nf)∧w'.cell? ⟨w.heap.size,3,none⟩=some (.string ns)∧w'.cell? ⟨w.heap.size,4,none⟩=some (.int .i64 nv)∧w'.cell? ⟨b,off+k*11,none⟩=some (.int .i64 x.id)∧w'.cell? ⟨b,off+k*11+1,none⟩=some (.int .i64 x.proc)∧w'.cell? ⟨b,off+k*11+2,none⟩=some (.int .i64 x.object)∧w'.cell? ⟨b,off+k*11+3,none⟩=some (.int .i64 x.kind)∧w'.cell? ⟨b,off+k*11+4,none⟩=some (.int .i64 x.method)∧w'.cell? ⟨b,off+k*11+5,none⟩=some (.int .i64 x.arg)∧w'.cell? ⟨b,off+k*11+6,none⟩=some (.int .i64 x.second)∧w'.cell? ⟨b,off+k*11+7,none⟩=some (.bool x.done)∧w'.cell? ⟨b,off+k*11+8,none⟩=some (.int .i64 x.result)∧w'.cell? ⟨b,off+k*11+9,none⟩=some (.int .i64 x.invoke)∧w'.cell? ⟨b,off+k*11+10,none⟩=some (.int .i64 x.ret)))
    (first | (refine HKK.out _ ?_;(exact Xx (K1.out));done) | (refine HKK.out _ ?_;(exact Xx (Ext.refl _));done))
    ((go_at_call 34;refine(IH.out x d t ⟨nk,.slice nA nm nc,nf,ns,nv⟩ _ HRN.out (HD.out.ext (Ext.trans HX.out (by exact Xx (Ext.refl _)))) (HS.out.ext (Ext.trans HX.out (by exact Xx (Ext.refl _))))).mono ?_;rintro e w1 ⟨rfl,hb1⟩;have K1:=hD (Ext.trans (by exact Xx (Ext.refl _):Ext wr _) hb1);clear hb1))
   all_goals
    clear y0 y1 y2 y3 y4 e0 e1 e2 e3 e4 e5 e6 e7 e8 e9 e10
    cases hv:Z0n l x t with
    | false=>
      have HV:Hid (runL ord down l t (l.take (k+1))=out):=by unfold Hid;rw[HT.out];unfold Z2q;rw[hv];rfl
      clear hv
      go_wp2_with fail
      go_roundw
      case measure=>simp[intOf];omega
      case rel=>exact⟨k+1,by omega,by go_num,Ext.trans HB.out (by exact Xx (K1.out)),by rw[HV.out];exact HO.out.ext (by exact Xx (K1.out))⟩
    | true=>
      have HV:Hid (runL ord down l t (l.take (k+1))=insO ord down x out):=by unfold Hid;rw[HT.out];unfold Z2q;rw[hv];rfl
      clear hv
      have HO1:=hD (HO.out.ext (w':=w1) (by exact Xx (K1.out)))
      have HB1:=hD (Ext.trans HB.out (by exact Xx (K1.out):Ext wr w1))
      clear HO
      simp only[Bool.not_true]
      go_upto_block 2 with fail
      go_cut [8] (fun s wx=>∃p:Nat,s= .int .i64 p∧p≤out.length∧Ext w1 wx∧insO ord down x out=out.take p++ [x]++out.drop p)
      case first=>
       go_wp2_with fail
       go_loopw [8] (fun i wz=>∃p:Nat,p≤out.length∧i= .int .i64 p∧Ext w1 wz∧∀(j:Nat) (hj:j<out.length),j<p→Z0z ord down out[j] x=true)
        (fun i _=>out.length-(intOf i).toNat)
       case atStart=>exact⟨0,by omega,rfl,by exact Xt,fun j _ h=>absurd h (by omega)⟩
       case round=>
        obtain⟨p,hp,rfl,hb,hall⟩:=hrel
        have KZ:=hD hb
        have HF:=hD hall
        clear hb hall
        by_cases hpl:p<out.length
        ·have hdp:decide ((p:Int)<(out.length:Int))=true:=by simp;omega
         obtain⟨_,_,_,hO⟩:=(HO1.out.sl (R:=ROp) Z2t (fun _=>rfl)).at
         obtain⟨b2,off2,rfl,hbl2,hcell2⟩:=hO (by omega)
         obtain⟨cs2,rfl,_,hcs2⟩:=hcell2 p hpl
         have HE2:Hid (∀W:World,Ext w1 W→(W.cell? ⟨b2,off2+p*11,none⟩=some (.int .i64 out[p].id)∧W.cell? ⟨b2,off2+p*11+1,none⟩=some (.int .i64 out[p].proc)∧W.cell? ⟨b2,off2+p*11+2,none⟩=some (.int .i64 out[p].object)∧W.cell? ⟨b2,off2+p*11+3,none⟩=some (.int .i64 out[p].kind)∧W.cell? ⟨b2,off2+p*11+4,none⟩=some (.int .i64 out[p].method)∧W.cell? ⟨b2,off2+p*11+5,none⟩=some (.int .i64 out[p].arg)∧W.cell? ⟨b2,off2+p*11+6,none⟩=some (.int .i64 out[p].second)∧W.cell? ⟨b2,off2+p*11+7,none⟩=some (.bool out[p].done)∧W.cell? ⟨b2,off2+p*11+8,none⟩=some (.int .i64 out[p].result)∧W.cell? ⟨b2,off2+p*11+9,none⟩=some (.int .i64 out[p].invoke)∧W.cell? ⟨b2,off2+p*11+10,none⟩=some (.int .i64 out[p].ret))):=by
          intro W h
          have hw:=fun j u hu=>(h.cell (p:=⟨b2,off2+p*11+j,none⟩) hbl2).trans (hcs2 j u hu)
          exact⟨hw 0 _ rfl,hw 1 _ rfl,hw 2 _ rfl,hw 3 _ rfl,hw 4 _ rfl,hw 5 _ rfl,hw 6 _ rfl,hw 7 _ rfl,hw 8 _ rfl,hw 9 _ rfl,hw 10 _ rfl⟩
         have HPO:=hD (X1n ord down x out p hp (fun j hj=>HF.out j (by omega) hj))
         have HF2:Hid (Z0z ord down out[p] x=true→∀(j:Nat) (hj:j<out.length),j<p+1→Z0z ord down out[j] x=true):=by
          intro ha j hj hjp
          by_cases e:j=p
          ·subst e;exact ha
          ·exact HF.out j hj (by omega)
         have HPO2:Hid (Z0z ord down out[p] x=false→insO ord down x out=out.take p++ [x]++out.drop p):=fun h=>HPO.out (fun _=>h)
         clear hO hcell2 hcs2 HPO
         generalize out[p]=y at *
         have hbw2:=Nat.lt_of_lt_of_le hbl2 KZ.out.size
         have HK2:Hid (∀W:World,Ext wr W→(W.cell? ⟨w.heap.size,0,none⟩=some (.int .i64 nk)∧W.cell? ⟨w.heap.size,1,none⟩=some (.slice nA nm nc)∧W.cell? ⟨w.heap.size,2,none⟩=some (.string nf)∧W.cell? ⟨w.heap.size,3,none⟩=some (.string ns)∧W.cell? ⟨w.heap.size,4,none⟩=some (.int .i64 nv)∧
           W.cell? ⟨w.heap.size,5,none⟩=some (.string ord)∧W.cell? ⟨w.heap.size,6,none⟩=some (.bool down)∧W.cell? ⟨w.heap.size,7,none⟩=some (.int .i64 limit)∧W.cell? ⟨w.heap.size,8,none⟩=some (.bool count)∧(W.cell? ⟨b2,off2+p*11,none⟩=some (.int .i64 y.id)∧W.cell? ⟨b2,off2+p*11+1,none⟩=some (.int .i64 y.proc)∧W.cell? ⟨b2,off2+p*11+2,none⟩=some (.int .i64 y.object)∧W.cell? ⟨b2,off2+p*11+3,none⟩=some (.int .i64 y.kind)∧W.cell? ⟨b2,off2+p*11+4,none⟩=some (.int .i64 y.method)∧W.cell? ⟨b2,off2+p*11+5,none⟩=some (.int .i64 y.arg)∧W.cell? ⟨b2,off2+p*11+6,none⟩=some (.int .i64 y.second)∧W.cell? ⟨b2,off2+p*11+7,none⟩=some (.bool y.done)∧W.cell? ⟨b2,off2+p*11+8,none⟩=some (.int .i64 y.result)∧W.cell? ⟨b2,off2+p*11+9,none⟩=some (.int .i64 y.invoke)∧W.cell? ⟨b2,off2+p*11+10,none⟩=some (.int .i64 y.ret))∧W.cell? ⟨b,off+k*11,none⟩=some (.int .i64 x.id)∧W.cell? ⟨b,off+k*11+1,none⟩=some (.int .i64 x.proc)∧W.cell? ⟨b,off+k*11+2,none⟩=some (.int .i64 x.object)∧W.cell? ⟨b,off+k*11+3,none⟩=some (.int .i64 x.kind)∧W.cell? ⟨b,off+k*11+4,none⟩=some (.int .i64 x.method)∧W.cell? ⟨b,off+k*11+5,none⟩=some (.int .i64 x.arg)∧W.cell? ⟨b,off+k*11+6,none⟩=some (.int .i64 x.second)∧W.cell? ⟨b,off+k*11+7,none⟩=some (.bool x.done)∧W.cell? ⟨b,off+k*11+8,none⟩=some (.int .i64 x.result)∧W.cell? ⟨b,off+k*11+9,none⟩=some (.int .i64 x.invoke)∧W.cell? ⟨b,off+k*11+10,none⟩=some (.int .i64 x.ret))):=by
          intro W h
          obtain⟨y0,y1,y2,y3,y4,y5,y6,y7,y8⟩:=HBOX.out W (Ext.trans HB1.out (KZ.out.trans h))
          exact⟨y0,y1,y2,y3,y4,y5,y6,y7,y8,HE2.out W (KZ.out.trans h),HE.out W (Ext.trans (Ext.trans HQ.out HB1.out) (KZ.out.trans h))⟩
         go_wp2_with fail
         go_region_held3 (fun w'=>(w'.cell? ⟨w.heap.size,0,none⟩=some (.int .i64 nk)∧w'.cell? ⟨w.heap.size,1,none⟩=some (.slice nA nm nc)∧w'.cell? ⟨w.heap.size,2,none⟩=some (.string nf)∧w'.cell? ⟨w.heap.size,3,none⟩=some (.string ns)∧w'.cell? ⟨w.heap.size,4,none⟩=some (.int .i64 nv)∧
           w'.cell? ⟨w.heap.size,5,none⟩=some (.string ord)∧w'.cell? ⟨w.heap.size,6,none⟩=some (.bool down)∧w'.cell? ⟨w.heap.size,7,none⟩=some (.int .i64 limit)∧w'.cell? ⟨w.heap.size,8,none⟩=some (.bool count)∧(w'.cell? ⟨b2,off2+p*11,none⟩=some (.int .i64 y.id)∧w'.cell? ⟨b2,off2+p*11+1,none⟩=some (.int .i64 y.proc)∧w'.cell? ⟨b2,off2+p*11+2,none⟩=some (.int .i64 y.object)∧w'.cell? ⟨b2,off2+p*11+3,none⟩=some (.int .i64 y.kind)∧w'.cell? ⟨b2,off2+p*11+4,none⟩=some (.int .i64 y.method)∧w'.cell? ⟨b2,off2+p*11+5,none⟩=some (.int .i64 y.arg)∧w'.cell? ⟨b2,off2+p*11+6,none⟩=some (.int .i64 y.second)∧w'.cell? ⟨b2,off2+p*11+7,none⟩=some (.bool y.done)∧w'.cell? ⟨b2,off2+p*11+8,none⟩=some (.int .i64 y.result)∧w'.cell? ⟨b2,off2+p*11+9,none⟩=some (.int .i64 y.invoke)∧w'.cell? ⟨b2,off2+p*11+10,none⟩=some (.int .i64 y.ret))∧w'.cell? ⟨b,off+k*11,none⟩=some (.int .i64 x.id)∧w'.cell? ⟨b,off+k*11+1,none⟩=some (.int .i64 x.proc)∧w'.cell? ⟨b,off+k*11+2,none⟩=some (.int .i64 x.object)∧w'.cell? ⟨b,off+k*11+3,none⟩=some (.int .i64 x.kind)∧w'.cell? ⟨b,off+k*11+4,none⟩=some (.int .i64 x.method)∧w'.cell? ⟨b,off+k*11+5,none⟩=some (.int .i64 x.arg)∧w'.cell? ⟨b,off+k*11+6,none⟩=some (.int .i64 x.second)∧w'.cell? ⟨b,off+k*11+7,none⟩=some (.bool x.done)∧w'.cell? ⟨b,off+k*11+8,none⟩=some (.int .i64 x.result)∧w'.cell? ⟨b,off+k*11+9,none⟩=some (.int .i64 x.invoke)∧w'.cell? ⟨b,off+k*11+10,none⟩=some (.int .i64 x.ret)))
          (first | (refine HK2.out _ ?_;(exact Xx (K3.out));done) | (refine HK2.out _ ?_;(exact Xx (Ext.refl _));done))
          ((go_at_call 92;refine(Y8r ⟨nk,.slice nA nm nc,nf,ns,nv⟩ nA nm nc rfl ord down limit count y x _).mono ?_;rintro e w3 ⟨rfl,hb3⟩;have K3:=hD (Ext.trans (by exact Xx (Ext.refl _):Ext wr _) hb3);clear hb3))
         all_goals
          cases ha:Z0z ord down y x with
          | true=>
            have HF3:=hD (HF2.out ha)
            clear ha
            go_wp2_with fail
            go_roundw
            case measure=>simp[intOf];omega
            case rel=>exact⟨p+1,by omega,by go_num,Ext.trans KZ.out (by exact Xx (K3.out)),HF3.out⟩
          | false=>
            have HF3:=hD (HPO2.out ha)
            clear ha
            go_wp2_with fail
            go_meet
            exact⟨p,rfl,hp,Ext.trans KZ.out (by exact Xx (K3.out)),HF3.out⟩
        ·have hdp:decide ((p:Int)<(out.length:Int))=false:=by simp;omega
         have HF3:=hD (X1n ord down x out p hp (fun j hj=>HF.out j (by omega) hj) (fun h=>(hpl h).elim))
         go_wp2_with fail
         go_quiet (fail)
         go_wp2_with fail
         go_meet
         exact⟨p,rfl,hp,Ext.trans KZ.out (by exact Xt),HF3.out⟩
      case rest=>
       obtain⟨p,rfl,hp,hbx,hins⟩:=hcut
       have HINS:=hD hins
       have HBC:=hD (Ext.trans HB1.out hbx)
       have HOC:=hD (HO1.out.ext hbx)
       have hzc:=HBC.out.size
       simp at hzc
       have HSL:=hD (HOC.out.sl (R:=ROp) Z2t (fun _=>rfl))
       have hbw3:=Nat.lt_of_lt_of_le hbl (Ext.trans HQ.out HBC.out:Ext w wc).size
       clear hbx hins HO1 HB1
       obtain⟨hco1,hco2⟩:out.length≤vc∧vc≤9223372036854775807:=by obtain⟨_,h1,h2,_⟩:=HSL.out.at;exact⟨h1,h2⟩
       have hou:=HLEN.out
       go_upto_region 10 with (at_builtin;go_loud (refine Z2d elOp Z2t Z7r rfl (.tmp 43) (.tmp 46) rfl _ [] rfl (OwnL.made _ _ _ _) (by first | (simp;done) | (simp;omega) | omega) _ _ _ (out.take p) rfl ?la1 ?la2 ?la3 (by decide) ?_))
       case la1=>rw[List.length_take];omega
       case la2=>exact Src.sl Z2t (by decide) (fun _ _ h=>h) ((HSL.out.ext (by exact Xt)).take hp)
       case la3=>rw[List.length_take];simp;omega
       intro pA pc wp hp1 hgp
       have X1:=hD ((OwnL.made wc 32 11 OpD.cells).grown (a:=wc) (by exact Xt) hgp (by simp))
       have O1:=hD hp1
       clear hgp hp1
       have hz1:=X1.out.size
       have HP1:Hid ((out.take p).length=p):=by unfold Hid;rw[List.length_take];omega
       obtain⟨e0,e1,e2,e3,e4,e5,e6,e7,e8,e9,e10⟩:=HE.out wp (Ext.trans (Ext.trans HQ.out HBC.out) X1.out)
       have hbw4:=Nat.lt_of_lt_of_le hbw3 hz1
       go_upto_region 10 with fail
       go_upto_region 11 with (at_builtin;go_loud (refine Z5o elOp Z2t Z7r rfl (.tmp 48) (.tmp 53) rfl _ (out.take p) rfl (O1.out.ext (by exact Xt)) (by first | (simp;done) | (simp;omega) | omega) _ 1 x rfl (Row1.made _ _ x.cells) (by have:=HP1.out;omega) (by decide) ?_))
       intro qA qc wq hq1 hgq
       have X2:=hD ((O1.out.ext (by exact Xt)).grown (a:=wc) (by exact Xx (X1.out)) hgq (Nat.le_refl _))
       have O2:=hD hq1
       clear hgq hq1 e0 e1 e2 e3 e4 e5 e6 e7 e8 e9 e10
       have hz2:=X2.out.size
       have HP2:Hid ((out.take p++ [x]).length=p+1):=by unfold Hid;rw[List.length_append,HP1.out];rfl
       go_upto_region 11 with fail
       go_wp2_with (at_builtin;go_loud (refine Z2d elOp Z2t Z7r rfl (.tmp 55) (.tmp 58) rfl _ (out.take p++ [x]) rfl O2.out (by first | (simp;done) | (simp;omega) | omega) _ _ _ (out.drop p) rfl ?lb1 ?lb2 ?lb3 (by decide) ?_))
       all_goals (try (first
        | (rw [List.length_drop];done)
        | (rw [HP2.out,List.length_drop];omega)
        | (have hdr:=(HSL.out.ext X2.out).drop hp;rw[if_pos (by assumption)]at hdr;exact Src.sl Z2t (by decide) (fun _ _ h=>h) hdr)
        | (have hdr:=(HSL.out.ext X2.out).drop hp;rw[if_neg (by assumption)]at hdr;exact Src.sl Z2t (by decide) (fun _ _ h=>h) hdr)))
       all_goals
        intro rA rc wz hr1 hgr
        have X3:=hD (O2.out.grown (a:=wc) (by exact Xx (X2.out)) hgr (Nat.le_refl _))
        have O3:=hD hr1
        clear hgr hr1
        go_wp2_with fail
        go_roundw
        case measure=>simp[intOf];omega
        case rel=>exact⟨k+1,by omega,by go_num,Ext.trans HBC.out X3.out,by rw[HV.out,HINS.out,List.append_assoc];exact O3.out.lower (by omega)⟩
  ·obtain rfl:k=l.length:=by omega
   have hd:decide ((l.length:Int)<(l.length:Int))=false:=by simp
   rw[List.take_length]at HO
   have HRL:Hid ((runL ord down l t l).length≤l.length):=by have:=X8p ord down l t l l.length (Nat.le_refl _);rwa [List.take_length]at this
   obtain⟨out,hout⟩:∃out,runL ord down l t l=out:=⟨_,rfl⟩
   rw[hout]at HO HRL
   have HR:=hD hout
   clear hout
   obtain⟨vA,vc,rfl⟩:=HO.out.form
   have HSL:=hD (HO.out.sl (R:=ROp) Z2t (fun _=>rfl))
   obtain⟨hco1,hco2⟩:out.length≤vc∧vc≤9223372036854775807:=by obtain⟨_,h1,h2,_⟩:=HSL.out.at;exact⟨h1,h2⟩
   obtain⟨y0,y1,y2,y3,y4,y5,y6,y7,y8⟩:=HBOX.out wr HB.out
   by_cases h0:0≤limit
   ·obtain⟨m,rfl⟩:∃m:Nat,limit=m:=⟨limit.toNat,by omega⟩
    by_cases h1:m<out.length
    ·have q1:decide ((m:Int)<(out.length:Int))=true:=by simp;omega
     have HC:Hid (cutL m out=out.take m):=by unfold Hid cutL;rw[if_pos ⟨by omega,by omega⟩];simp
     have HCL:Hid ((out.take m).length=m):=by unfold Hid;rw[List.length_take];omega
     have hmv:m≤vc:=by omega
     cases count with
     | true=>
       go_wp2_with fail
       go_ret2
       exact⟨by rw[HR.out,HC.out];(try rw[HCL.out]);first | done | rfl,HX.out⟩
     | false=>
       go_wp2_with fail
       go_ret2
       refine⟨⟨_,by rw[HR.out,HC.out];(try rw[HCL.out]);first | done | rfl,?_⟩,HX.out⟩
       rw[HR.out,HC.out]
       exact HSL.out.take (by omega)
    ·have q1:decide ((m:Int)<(out.length:Int))=false:=by simp;omega
     have HC:Hid (cutL m out=out):=by unfold Hid cutL;rw[if_neg (by omega)]
     have HCL:Hid (out.length=out.length):=rfl
     cases count with
     | true=>
       go_wp2_with fail
       go_ret2
       exact⟨by rw[HR.out,HC.out];(try rw[HCL.out]);first | done | rfl,HX.out⟩
     | false=>
       go_wp2_with fail
       go_ret2
       refine⟨⟨_,by rw[HR.out,HC.out];(try rw[HCL.out]);first | done | rfl,?_⟩,HX.out⟩
       rw[HR.out,HC.out]
       exact HSL.out
   ·have q1:decide ((0:Int)≤limit)=false:=by simp;omega
    have HC:Hid (cutL limit out=out):=by unfold Hid cutL;rw[if_neg (by omega)]
    have HCL:Hid (out.length=out.length):=rfl
    cases count with
    | true=>
      go_wp2_with fail
      go_ret2
      exact⟨by rw[HR.out,HC.out];(try rw[HCL.out]);first | done | rfl,HX.out⟩
    | false=>
      go_wp2_with fail
      go_ret2
      refine⟨⟨_,by rw[HR.out,HC.out];(try rw[HCL.out]);first | done | rfl,?_⟩,HX.out⟩
      rw[HR.out,HC.out]
      exact HSL.out
end Go.Proofs.YtmiolpfanlpfnaaGreat
