/- find.Plan: the walk. Conditions: that the condition can be read. -/
import Derived.Test.YtmiolpfanlpfnaaGreatV06
import Derived.Test.YtmiolpfanlpfnaaGreatV16
set_option maxRecDepth 100000
set_option maxHeartbeats 4000000
set_option linter.unusedSimpArgs false
set_option linter.unusedVariables false
namespace Go.Proofs.YtmiolpfanlpfnaaGreat
open Go.RowKit
theorem Y9w(d:Nat)(t:ND)(nk:Int)(nA:Option Addr)(nm nc:Nat)(nf ns:ByteArray)(nv:Int)(w:World)(hn:RN ⟨nk,.slice nA nm nc,nf,ns,nv⟩ (NCell.cells ⟨nk,.slice nA nm nc,nf,ns,nv⟩))(hd:Nd w d t ⟨nk,.slice nA nm nc,nf,ns,nv⟩):
  Calls Tryz.prog 42 #[.agg #[.int .i64 nk,.slice nA nm nc,.string nf,.string ns,.int .i64 nv]] w fun e w'=>(∃v,e= .returned (.tuple #[.int .i64 ((Z5y t).1:Nat),v])∧OwnL w' w.heap.size 3 1 encN v (Z5y t).2)∧Ext w w':=by
 have HN:=hD hn
 have HD:=hD hd
 clear hn hd
 go_enter Tryz.func42,Tryz.ntmps42
 go_upto_if 14 with fail
 go_cut [4] (fun v wx=>∃ks,KidsR wx v ks t∧Ext w wx)
 case first=>
  by_cases h2:nk=2
  ·subst h2
   obtain⟨ks,hks⟩:=X1a HD.out rfl
   have HK:=hD hks
   clear hks
   go_wp2_with fail
   go_meet
   exact⟨ks,HK.out.ext (by exact Xt),by exact Xt⟩
  ·have q1:(nk==2)=false:=by simpa using h2
   have HK:Hid (∀(W:World) (g:Nat) (ty:TypeId),Row1 W g ty [.int .i64 nk,.slice nA nm nc,.string nf,.string ns,.int .i64 nv]→KidsR W (.slice (some ⟨g,0,none⟩) 1 1) [⟨nk,.slice nA nm nc,nf,ns,nv⟩] t):=fun W g ty hg=>Y9b HD.out HN.out h2 hg
   clear h2
   go_wp2_with fail
   go_meet
   exact⟨_,HK.out _ _ 50 (Row1.made' (by simp) _ [.int .i64 nk,.slice nA nm nc,.string nf,.string ns,.int .i64 nv]),by exact Xt⟩
 case rest=>
 obtain⟨ks,hks,hx⟩:=hcut
 obtain⟨A,c,rfl⟩:=hks.sl.form
 have HK:=hD hks
 have HX:=hD hx
 clear hks hx HN HD
 go_wp2_with fail
 generalize hW:World.alloc _ _=W2
 have HG:Hid (Row1 W2 wc.heap.size 9 (fNamesB.map Value.string)):=by unfold Hid;rw[←hW];exact(Row1.made wc _ (fNamesB.map Value.string)).alloc _
 have HV:Hid (Row1 W2 (wc.heap.size+1) 3 V2b):=by unfold Hid;rw[←hW];exact Row1.made' (by simp) _ V2b
 have HX2:Hid (Ext wc W2):=by unfold Hid;rw[←hW];exact(Ext.alloc _ _).trans (Ext.alloc _ _)
 have HK:=hD (HK.out.ext HX2.out)
 have HX:=hD (HX.out.trans HX2.out)
 clear hW HX2
 generalize wc.heap.size=g at *
 go_loopw [20] (fun i wr=>∃k:Nat,k≤4∧i= .int .i64 k∧Ext W2 wr∧∀m,m<k→V7v t m) (fun i _=>4-(intOf i).toNat)
 case atStart=>exact⟨0,by omega,rfl,Ext.refl _,fun m hm=>absurd hm (by omega)⟩
 case round=>
  obtain⟨k,hk,rfl,hb,hno⟩:=hrel
  have HB:=hD hb
  have HNO:=hD hno
  clear hb hno
  by_cases hk4:k<4
  ·have q1:decide ((k:Int)<4)=true:=decide_eq_true (by omega)
   obtain⟨fb,hfb,hfn⟩:=X6t k hk4
   have v0:wr.cell? ⟨g+1,k,none⟩=some (.int .i64 (fWay k:Nat)):=by rw[(HV.out.ext HB.out HV.out.lt).cell k];exact V2a k hk4
   have HFC:Hid (∀W,Ext wr W→W.cell? ⟨g,k,none⟩=some (.string fb)):=fun W hW=>by rw[(HG.out.ext (HB.out.trans hW) HG.out.lt).cell k,List.getElem?_map,hfb];rfl
   have HFN:=hD hfn
   clear hfb hfn
   generalize wr=wo at *
   go_wp2_with fail
   go_loopw [27] (fun i wi=>∃j:Nat,j≤ks.length∧i= .int .i64 j∧Ext wo wi∧∀(j':Nat) (x':ND),j'<j→(Z0r t)[j']? =some x'→hitN (Y4j k) x'=false) (fun i _=>ks.length-(intOf i).toNat)
   case atStart=>exact⟨0,by omega,rfl,Ext.refl _,fun j' x' hj=>absurd hj (by omega)⟩
   case round=>
    obtain⟨j,hj,rfl,hb,hnj⟩:=hrel
    have HBI:=hD hb
    have HNJ:=hD hnj
    clear hb hnj
    by_cases hjl:j<ks.length
    ·have q2:decide ((j:Int)<(ks.length:Int))=true:=by simp;omega
     have HKI:=hD (HK.out.ext (HB.out.trans HBI.out))
     obtain⟨_,_,_,hA⟩:=HKI.out.sl.at
     obtain⟨b,off,rfl,hbl,hcell⟩:=hA (by omega)
     obtain⟨cs,⟨rfl,hrn⟩,_,hcs⟩:=hcell j hjl
     obtain⟨x,hx⟩:∃x,(Z0r t)[j]? =some x:=⟨_,List.getElem?_eq_getElem (by have:=HKI.out.len;omega)⟩
     obtain⟨s1,s2,s3,s4⟩:=HKI.out.same j x ks[j] hx (List.getElem?_eq_getElem hjl)
     have HXJ:=hD hx
     have k0:=hcs 0 _ rfl
     have k1:=hcs 1 _ rfl
     have k2:=hcs 2 _ rfl
     have k3:=hcs 3 _ rfl
     have k4:=hcs 4 _ rfl
     simp only[Nat.add_zero]at k0
     obtain⟨kA,kn,kc,hkk⟩:=hrn.2.2
     have HF0:=HFC.out _ (HBI.out.trans (Ext.alloc wr (.cells #[.int .i64 ks[j].kind,ks[j].kids,.string ks[j].field,.string ks[j].sign,.int .i64 ks[j].value] 50)))
     clear hcell hcs hrn hA hx
     have HH:Hid (hitN (Y4j k) x=((ks[j].kind==4)&&(ks[j].field.toList==fb.toList)&&(ks[j].sign.toList== [61]))):=by unfold Hid hitN;rw[s1,s2,s3,HFN.out]
     have HVAL:Hid (ks[j].value=x.value):=s4
     clear s1 s2 s3 s4
     generalize ks[j]=n at *
     obtain⟨mk,mkids,mf,ms,mv⟩:=n
     dsimp only at *
     subst hkk
     have HBOX:Hid (∀W,Ext (wr.alloc (.cells #[.int .i64 mk,.slice kA kn kc,.string mf,.string ms,.int .i64 mv] 50)) W→W.cell? ⟨wr.heap.size,4,none⟩=some (.int .i64 mv)):=fun W h=>((Row1.made wr _ [.int .i64 mk,.slice kA kn kc,.string mf,.string ms,.int .i64 mv]).ext h (by simp)).cell 4
     have NO:hitN (Y4j k) x=false→Hid (∀(j':Nat) (x':ND),j'<j+1→(Z0r t)[j']? =some x'→hitN (Y4j k) x'=false):=fun h0 j' x' h1 h2=>by
      by_cases e:j'=j
      ·subst e
       have:=h2.symm.trans HXJ.out
       injection this with this
       rw[this];exact h0
      ·exact HNJ.out j' x' (by omega) h2
     cases e1:(mk==4)with
     | false=>
       have HNO2:=NO (by rw[HH.out,e1];rfl)
       clear NO HH
       go_wp2_with fail
       go_quiet (fail)
       go_wp2_with fail
       go_roundw
       case rel=>exact⟨j+1,by omega,by go_num,HBI.out.trans (by exact Xt),HNO2.out⟩
       case measure=>simp[intOf];omega
     | true=>
       cases e2:(mf.toList==fb.toList)with
       | false=>
         have HNO2:=NO (by rw[HH.out,e1,e2];rfl)
         clear NO HH
         go_wp2_with fail
         go_quiet (fail)
         go_wp2_with fail
         go_roundw
         case rel=>exact⟨j+1,by omega,by go_num,HBI.out.trans (by exact Xt),HNO2.out⟩
         case measure=>simp[intOf];omega
       | true=>
         cases e3:(ms.toList== [61])with
         | false=>
           have HNO2:=NO (by rw[HH.out,e1,e2,e3];rfl)
           clear NO HH
           go_wp2_with fail
           go_quiet (fail)
           go_wp2_with fail
           go_roundw
           case rel=>exact⟨j+1,by omega,by go_num,HBI.out.trans (by exact Xt),HNO2.out⟩
           case measure=>simp[intOf];omega
         | true=>
           have HP:Hid (Z5y t=(fWay k,[x.value])):=X9j t k hk4 j x HXJ.out (by rw[HH.out,e1,e2,e3];rfl) HNO.out HNJ.out
           clear NO HH
           go_wp2_with fail
           go_quiet (fail)
           go_wp2_with fail
           refine wp_region_held_drew (S:=fun W=>W.cell? ⟨wr.heap.size,4,none⟩=some (.int .i64 mv)) (by kernel_rfl) (HBOX.out _ (by exact Xt)) (fun hHeld=> ?_)
           refine' tk 0 ?_
           refine' tk 1 ?_
           refine' tk 2 ?_
           refine' tk 4 ?_
           refine stp 3 (fun K hK=> ?_);go_simp
           skip
           refine hK.out _ _ (HBOX.out _ (by exact Xt)) (fun hHeld=> ?_)
           clear hK K
           refine pt ?_
           refine' tk 5 ?_
           refine wpAnyH_done (by kernel_rfl) ?_ _
           go_wp2_with fail
           go_ret2
           rw[HP.out]
           refine⟨⟨_,rfl,?_⟩,HX.out.trans (HB.out.trans (HBI.out.trans (by exact Xt)))⟩
           rw[HVAL.out]
           have z1:=HX.out.size
           have z2:=HB.out.size
           have z3:=HBI.out.size
           exact OwnL.ofRow (l:= [x.value]) (spare:= []) (k:=1) (cap:=1) (Row1.made' (by simp) _ [.int .i64 x.value]) (by omega) (Nat.le_refl 1) (by decide) rfl (fun _=>rfl)
    ·have HNK:Hid (V7v t k):=fun j' x' h=>HNJ.out j' x' (by have:=HK.out.len;have:=(List.getElem?_eq_some_iff.1 h).1;omega) h
     have q2:decide ((j:Int)<(ks.length:Int))=false:=by simp;omega
     go_wp2_with fail
     go_roundw
     case rel=>exact⟨k+1,by omega,by go_num,HB.out.trans HBI.out,fun m hm=>by
      by_cases e:m=k
      ·rw[e];exact HNK.out
      ·exact HNO.out m (by omega)⟩
     case measure=>simp[intOf];omega
  ·have q1:decide ((k:Int)<4)=false:=decide_eq_false (by omega)
   have HP:Hid (Z5y t=(0,[])):=V4x t (fun m hm=>HNO.out m (by omega))
   go_wp2_with fail
   go_ret2
   rw[HP.out]
   exact⟨⟨_,rfl,OwnL.nil _ _ _ _ _⟩,HX.out.trans HB.out⟩
end Go.Proofs.YtmiolpfanlpfnaaGreat
