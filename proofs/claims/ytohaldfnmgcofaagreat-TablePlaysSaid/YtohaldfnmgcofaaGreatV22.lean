/- Put into a tree whose root is not cut; Get. Conditions: a path of pages that bear nodes. -/
import Derived.Test.YtohaldfnmgcofaaGreatV21
set_option maxRecDepth 100000
set_option maxHeartbeats 4000000
set_option linter.unusedSimpArgs false
set_option linter.unusedVariables false
namespace Go.Proofs.YtohaldfnmgcofaaGreat
open Go.RowKit
def V7l(S:StoreD)(k:ByteArray):Nat->Nat->NodeD->Prop
 | 0,a,n=>PageN S a n/\n.leaf=true/\Z3e n.keys
 | d+1,a,n=>∃m,PageN S a m/\m.leaf=false/\Z3e m.keys/\V7l S k d (m.kids[Z0g m.keys k]?.getD 0).toNat n
def getN(n:NodeD)(k:ByteArray):Value:=if hasB n.keys k=true then .tuple #[.string (n.vals[posB n.keys k]?.getD ⟨#[]⟩),.int .i64 0]else .tuple #[.string ⟨#[]⟩,.int .i64 6]
theorem Z6f{w:World}{v:Value}{base:Nat}{l:List Int}(h:OwnL w base 3 1 encN v l)(j:Nat)(hl:j<l.length):∃g c,v= .slice (some ⟨g,0,none⟩) l.length c/\g<w.heap.size/\w.cell? ⟨g,j,none⟩=some (.int .i64 (l[j]?.getD 0)):=by obtain⟨A,c,rfl,_,_,hx⟩:=Y9e h;obtain⟨b,rfl,_,hb,_,hc⟩:=hx (by omega);have:=hc j hl;exact⟨b,c,rfl,hb,by rw[aB hl];exact this⟩
theorem Z4a{w:World}{v:Value}{base:Nat}{l:List ByteArray}(h:OwnL w base 9 1 encS v l)(j:Nat)(hl:j<l.length):∃g c,v= .slice (some ⟨g,0,none⟩) l.length c/\g<w.heap.size/\w.cell? ⟨g,j,none⟩=some (.string (l[j]?.getD ⟨#[]⟩)):=by obtain⟨A,c,rfl,_,_,hx⟩:=Z6t h;obtain⟨b,rfl,_,hb,_,hc⟩:=hx (by omega);have:=hc j hl;exact⟨b,c,rfl,hb,by rw[aB hl];exact this⟩
theorem Z4z{l:List ByteArray}{k:ByteArray}(hri:Z3e l)(hh:hasB l k=true):∃h:posB l k<l.length,l[posB l k]=k:=by
 obtain⟨j,hj,hje⟩:=List.mem_iff_getElem.1 ((Z5z _ _).1 hh);have e:posB l k=j:=X0u (l:=l) (k:=k) (p:=j) (by omega) (fun q hq hlt=>by rw[<-hje];exact Z1r hri hj hlt) (fun q hq hle=>by
  rw[<-hje];rcases Nat.eq_or_lt_of_le hle with e | e
  ·subst e;exact Z1g _
  ·exact Z2y (Z1r hri hq e))
 subst e;exact⟨hj,hje⟩
theorem Z4g{l:List ByteArray}{k:ByteArray}(hri:Z3e l):Z0g l k<=l.length:=by
 unfold Z0g;split
 ·rename_i h
  have:=(Z4z hri h).1;omega
 ·exact Y0l l k
theorem V6e{t p i:Nat}{F:Nat->Prop}{S:StoreD}(k:ByteArray)(w:World)(ht:Z0b w t p i)(hnt:¬F t)(h:PagerAt w p F S)(hi:i<16)(hroot:Z1u S i=0):
  Calls Tryz.prog 77 #[.pointer (some ⟨t,0,none⟩),.string k] w fun e w'=>e= .returned (.tuple #[.string ⟨#[]⟩,.int .i64 6])/\∃F',PagerAt w' p F' S/\Keeps F F' w w':=by
 have cR:=Z3w w ht hnt h hi;rw[hroot]at cR;clear ht hnt h hroot;go_enter Tryz.func77,Tryz.ntmps77;go_wp2_with (go_at_call 78;(with_reducible refine cR.mono ?_);clear cR;rintro e w1 ⟨rfl,F1,hp1,hk1⟩;have HP1:=hD hp1;have HK1:=hD hk1;clear hp1 hk1)
 go_ret2
 exact⟨rfl,F1,HP1.out,HK1.out⟩
theorem V9j{t p i:Nat}{F:Nat->Prop}{S:StoreD}(a d:Nat)(k:ByteArray)(n:NodeD)(w:World)(ht:Z0b w t p i)(hnt:¬F t)(h:PagerAt w p F S)(hi:i<16)(hroot:Z1u S i=a)(ha:0<a)(hpath:V7l S k d a n)(hd:d<1024):
  Calls Tryz.prog 77 #[.pointer (some ⟨t,0,none⟩),.string k] w fun e w'=>e= .returned (getN n k)/\∃F',PagerAt w' p F' S/\Keeps F F' w w':=by
 have cR:=Z3w w ht hnt h hi;rw[hroot]at cR;have ha0:decide ((a:Int)=0)=false:=aM;have ha1:((a:Int)==0)=false:=by simp;omega
 have HPA:=hD hpath;have HT:=hD ht;have HNT:=hD hnt;have HTL:=hD ht.lt;have HGN:Hid (getN n k=if hasB n.keys k=true then .tuple #[.string (n.vals[posB n.keys k]?.getD ⟨#[]⟩),.int .i64 0]else .tuple #[.string ⟨#[]⟩,.int .i64 6]):=rfl;clear ht hnt h hroot hpath hi;go_enter Tryz.func77,Tryz.ntmps77;go_wp2_with (go_at_call 78;(with_reducible refine cR.mono ?_);clear cR;rintro e w1 ⟨rfl,F1,hp1,hk1⟩;have HP1:=hD hp1;have HK1:=hD hk1;clear hp1 hk1)
 go_loopw [6,26] (fun x z wr=>∃(c j b:Nat),c+j=d/\x= .int .i64 b/\z= .int .i64 c/\Hid (V7l S k j b n)/\∃Fr,Hid (PagerAt wr p Fr S)/\Hid (Keeps F Fr w wr)) (fun _ z _=>d-(intOf z).toNat)
 case atStart=>exact⟨0,d,a,by omega,rfl,rfl,HPA,F1,HP1,HK1⟩
 case round=>
  obtain⟨c,j,b,hc,rfl,rfl,hsp,Fr,hpr,hkr⟩:=hrel;have q1:decide ((c:Int)<1024)=true:=aN;have hnr:¬Fr t:=hkr.out.out HTL.out HNT.out;have htr:Z0b wr t p i:=hkr.out.only.row HT.out HNT.out;cases j with
  | zero=>
    obtain⟨hn,hl,hri⟩:=hsp.out;have cL:=Z1k b n wr htr hpr.out hn;have HLE:Hid (n.keys.length<=255):=hn.ok.many;have HVL:Hid (n.vals.length=n.keys.length):=(hn.ok.leafs hl).1;have HPL:=hD (Y0l n.keys k);have HRI:=hD hri;have HKR:=hkr;rw[hl]at cL;have HPH:Hid (hasB n.keys k=true->posB n.keys k<n.keys.length):=fun hh=>(Z4z hri hh).1;clear hn hl hnr htr hpr hkr hsp hri;obtain⟨bh,hbh⟩:∃bh,hasB n.keys k=bh:=⟨_,rfl⟩;obtain⟨pos,hpo⟩:∃pos,posB n.keys k=pos:=⟨_,rfl⟩;have HBH:=hD hbh;have HPO:=hD hpo;cases bh
    ·go_wp2_with (first
      | (go_at_call 82;(with_reducible refine cL.mono ?_);clear cL;rintro e w2 ⟨kA,kn,kc,vA,vn,vc,cA,cn,cc,B,F2,rfl,hn1,hp1,hk1,hB,hF1,hBW⟩
         have cS:=Z4j k (w2.alloc (.cells #[.bool true,.slice kA kn kc,.slice vA vn vc,.slice cA cn cc] 166)) (hn1.keys.alloc _) HRI.out (by have:=HLE.out;omega);rw[HBH.out,HPO.out]at cS;have HP2:Hid (PagerAt (w2.alloc (.cells #[.bool true,.slice kA kn kc,.slice vA vn vc,.slice cA cn cc] 166)) p F2 S):=hp1.ext (Ext.alloc _ _);have HK2:Hid (Keeps F F2 w (w2.alloc (.cells #[.bool true,.slice kA kn kc,.slice vA vn vc,.slice cA cn cc] 166))):=Keeps.ext (Keeps.trans HKR.out hk1) (Ext.alloc _ _);clear hn1 hp1 hk1 hB hF1 hBW)
      | (go_at_call 138;(with_reducible refine cS.mono ?_);clear cS;rintro e w3 ⟨rfl,rfl⟩))
     go_ret2
     refine⟨?_,F2,HP2.out,HK2.out⟩;rw[HGN.out,if_neg (by rw[HBH.out];decide)];rfl
    ·have hpk:pos<n.vals.length:=by rw[HVL.out,<-HPO.out];exact HPH.out HBH.out
     have HPK:=hD hpk;clear hpk;go_wp2_with (first
      | (go_at_call 82;(with_reducible refine cL.mono ?_);clear cL;rintro e w2 ⟨kA,kn,kc,vA,vn,vc,cA,cn,cc,B,F2,rfl,hn1,hp1,hk1,hB,hF1,hBW⟩
         obtain⟨g,c9,hcv,hg,hgc⟩:=Z4a hn1.vals pos HPK.out;injection hcv with e1 e2 e3;subst e1;have q3:(pos:Int)<vn:=by have:=HPK.out;omega
         have q4:pos<vn:=by have:=HPK.out;omega
         obtain⟨x,hx⟩:∃x,n.vals[pos]?.getD ⟨#[]⟩=x:=⟨_,rfl⟩;rw[hx]at hgc;have HX:=hD hx;have d0:(w2.alloc (.cells #[.bool true,.slice kA kn kc,.slice (some ⟨g,0,none⟩) vn vc,.slice cA cn cc] 166)).cell? ⟨g,pos,none⟩=some (.string x):=((Ext.alloc w2 _).cell (p:=⟨g,pos,none⟩) hg).trans hgc;have cS:=Z4j k (w2.alloc (.cells #[.bool true,.slice kA kn kc,.slice (some ⟨g,0,none⟩) vn vc,.slice cA cn cc] 166)) (hn1.keys.alloc _) HRI.out (by have:=HLE.out;omega);rw[HBH.out,HPO.out]at cS;have HP2:Hid (PagerAt (w2.alloc (.cells #[.bool true,.slice kA kn kc,.slice (some ⟨g,0,none⟩) vn vc,.slice cA cn cc] 166)) p F2 S):=hp1.ext (Ext.alloc _ _);have HK2:Hid (Keeps F F2 w (w2.alloc (.cells #[.bool true,.slice kA kn kc,.slice (some ⟨g,0,none⟩) vn vc,.slice cA cn cc] 166))):=Keeps.ext (Keeps.trans HKR.out hk1) (Ext.alloc _ _);clear hn1 hp1 hk1 hB hF1 hBW hx hgc e2 e3)
      | (go_at_call 138;(with_reducible refine cS.mono ?_);clear cS;rintro e w3 ⟨rfl,rfl⟩))
     go_ret2
     refine⟨?_,F2,HP2.out,HK2.out⟩;rw[HGN.out,if_pos HBH.out,HPO.out,HX.out];rfl
  | succ j=>
    obtain⟨m,hm,hl,hri,hsn⟩:=hsp.out;have cL:=Z1k b m wr htr hpr.out hm;have hkl:=(hm.ok.inner hl).2;have hdn:Z0g m.keys k<m.kids.length:=by have:=Z4g (k:=k) hri;omega
    have hc0:(0:Int)<=m.kids[Z0g m.keys k]?.getD 0:=by rw[aB hdn];exact(hm.ok.kids _ (List.getElem_mem _)).1
    have HLE:Hid (m.keys.length<=255):=hm.ok.many;have HRI:=hD hri;have HKR:=hkr;have HSN:=hD hsn;have HDN:=hD hdn;have HLF:=hD hl;have HC:Hid ((((m.kids[Z0g m.keys k]?.getD 0).toNat:Nat):Int)=m.kids[Z0g m.keys k]?.getD 0):=Int.toNat_of_nonneg hc0;rw[hl]at cL;clear hm hl hnr htr hpr hkr hsp hsn hkl hri hdn hc0;obtain⟨q,hq⟩:∃q,Z0g m.keys k=q:=⟨_,rfl⟩;have HQ:=hD hq;rw[hq]at HSN HDN HC;obtain⟨x,hx⟩:∃x,(m.kids[q]?.getD 0).toNat=x:=⟨_,rfl⟩;rw[hx]at HSN HC;clear hq hx;go_upto_region 12 with (first
     | (go_at_call 82;(with_reducible refine cL.mono ?_);clear cL;rintro e w2 ⟨kA,kn,kc,vA,vn,vc,cA,cn,cc,B,F2,rfl,hn1,hp1,hk1,hB,hF1,hBW⟩
        have HN1:=hD hn1;have HP1:=hD hp1;have HK1:=hD hk1;have HBW:=hD hBW;clear hn1 hp1 hk1 hB hF1 hBW))
    obtain⟨g,c9,hcv,hg,hgc⟩:=Z6f HN1.out.kids q HDN.out;injection hcv with e1 e2 e3;subst e1;rw[<-HC.out]at hgc;have q4:q<cn:=by have:=HDN.out;omega
    have q5:(q:Int)<cn:=by omega
    have HGC:=hD hgc;have HG:=hD hg;clear hgc hg e2 e3;generalize hw3:w2.alloc _=w3;have hx3:Ext w2 w3:=hw3▸Ext.alloc _ _;have hr3:Row1 w3 w2.heap.size 166 [.bool false,.slice kA kn kc,.slice vA vn vc,.slice (some ⟨g,0,none⟩) cn cc]:=hw3▸Row1.made _ _ _;have HX3:=hD hx3;have cD:Hid (∀W,Ext w3 W->Calls Tryz.prog 137 #[.agg #[.bool false,.slice kA kn kc,.slice vA vn vc,.slice (some ⟨g,0,none⟩) cn cc],.string k] W fun e w'=>e= .returned (.int .i64 q)/\Ext W w'):=fun W hW=>by have h9:=Y2g k W (HN1.out.ext (Ext.trans HX3.out hW)) HRI.out (by have:=HLE.out;omega);rw[HLF.out,HQ.out]at h9;exact h9
    have HKS:Hid (∀W,Ext w3 W->W.cell? ⟨w2.heap.size,0,none⟩=some (.bool false)/\W.cell? ⟨w2.heap.size,1,none⟩=some (.slice kA kn kc)/\W.cell? ⟨w2.heap.size,2,none⟩=some (.slice vA vn vc)/\W.cell? ⟨w2.heap.size,3,none⟩=some (.slice (some ⟨g,0,none⟩) cn cc)/\W.cell? ⟨g,q,none⟩=some (.int .i64 x)):=fun W hW=>by have h9:=hr3.ext hW hr3.lt;exact⟨h9.cell 0,h9.cell 1,h9.cell 2,h9.cell 3,((Ext.trans HX3.out hW).cell (p:=⟨g,q,none⟩) HG.out).trans HGC.out⟩
    clear hx3 hr3 hw3;refine wp_region_held_drew (S:=fun W=>W.cell? ⟨w2.heap.size,0,none⟩=some (.bool false)/\W.cell? ⟨w2.heap.size,1,none⟩=some (.slice kA kn kc)/\W.cell? ⟨w2.heap.size,2,none⟩=some (.slice vA vn vc)/\W.cell? ⟨w2.heap.size,3,none⟩=some (.slice (some ⟨g,0,none⟩) cn cc)/\W.cell? ⟨g,q,none⟩=some (.int .i64 x)) (by kernel_rfl) (HKS.out _ (by exact Xt)) (fun hHeld=> ?_);refine' tk 0 ?_;refine' tk 1 ?_;refine' tk 2 ?_;refine' tk 3 ?_;refine stp 4 (fun K hK=> ?_);go_simp
    (with_reducible refine(cD.out _ ?_).mono ?_)
    ·exact Xt
    rintro e w4 ⟨rfl,hb4⟩;have HB4:Hid (Ext w3 w4):=Ext.trans (by exact Xt) hb4;clear hb4
    (try dsimp only)
    (try go_simp)
    refine hK.out _ _ (HKS.out _ HB4.out) (fun hHeld=> ?_);clear hK K;refine pt ?_;refine' tk 5 ?_;refine' tk 6 ?_;refine' tk 7 ?_;refine wpAnyH_done (by kernel_rfl) ?_ _;go_wp2_with fail
    go_roundw
    case rel=>exact⟨c+1,j,x,by omega,by go_num,by go_num,HSN,F2,HP1.out.ext (Ext.trans HX3.out HB4.out),(Keeps.trans HKR.out HK1.out).ext (Ext.trans HX3.out HB4.out)⟩
    case measure=>simp[intOf];omega
end Go.Proofs.YtohaldfnmgcofaaGreat
