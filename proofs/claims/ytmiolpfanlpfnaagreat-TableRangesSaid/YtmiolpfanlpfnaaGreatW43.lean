/- ref13.Find: the operations under a way's key, in the order of the keys. Conditions: that all can be read, fewer than 10^8 operations. -/
import Derived.Test.YtmiolpfanlpfnaaGreatW27
import Derived.Deep.CutBlock
import Derived.Test.YtmiolpfanlpfnaaGreatW39
set_option maxRecDepth 100000
set_option maxHeartbeats 4000000
set_option linter.unusedSimpArgs false
set_option linter.unusedVariables false
namespace Go.Proofs.YtmiolpfanlpfnaaGreat
open Go.RowKit
def insW(lt:OpD->OpD->Bool)(o:OpD):List OpD->List OpD
 | []=> [o]
 | x::r=>if lt x o then x::insW lt o r else o::x::r
theorem X2i(lt:OpD->OpD->Bool)(o:OpD):∀(xs:List OpD) (p:Nat) (hp:p<=xs.length),(∀j (hj:j<p),lt (xs[j]'(by omega)) o=true)->(∀h:p<xs.length,lt xs[p] o=false)->insW lt o xs=xs.take p++ [o]++xs.drop p
 | [],p,hp,_,_=>by
   obtain rfl:p=0:=by simpa using hp
   rfl
 | x::r,0,_,_,h2=>by
   have:lt x o=false:=h2 (by simp);simp[insW,this]
 | x::r,p+1,hp,h1,h2=>by have h0:lt x o=true:=h1 0 (by omega);have ih:=X2i lt o r p (by simpa using hp) (fun j hj=>h1 (j+1) (by omega)) (fun h=>h2 (by simpa using h));simp[insW,h0,ih]
theorem X4t(lt:OpD->OpD->Bool)(o:OpD):∀xs:List OpD,(insW lt o xs).length=xs.length+1
 | []=>rfl
 | x::r=>by
   unfold insW;split
   ·simp[X4t lt o r]
   ·simp
def okF(way:Int)(fr:List Int)(o:OpD):Bool:= !(wayI way o).isEmpty&&decide (fr.length<=4)&&fr.isPrefixOf (wayI way o)
def ltW(way:Int)(a b:OpD):Bool:=ltI (wayI way a) (wayI way b)
def Y9i(way:Int)(fr:List Int)(out:List OpD)(o:OpD):List OpD:=if okF way fr o then insW (ltW way) o out else out
def Z5c(way:Int)(fr:List Int)(l:List OpD):List OpD:=l.foldl (Y9i way fr) []
theorem Y1i(way:Int)(fr:List Int)(l:List OpD)(k:Nat)(h:k<l.length):Z5c way fr (l.take (k+1))=Y9i way fr (Z5c way fr (l.take k)) l[k]:=by unfold Z5c;rw[List.take_succ_eq_append_getElem h,List.foldl_append];rfl
theorem Y4k(way:Int)(fr:List Int)(l:List OpD)(k:Nat)(h:k<=l.length):(Z5c way fr (l.take k)).length<=k:=by
 induction k with
 | zero=>simp[Z5c]
 | succ k ih=>
   rw[Y1i way fr l k (by omega)];have:=ih (by omega);unfold Y9i;split
   ·rw[X4t];omega
   ·omega
theorem Y7k(V U:Value)(l:List OpD)(way:Int)(fr:List Int)(w:World)(hs:Sl w 11 ROp V l)(hu:Sl w 1 RIn U fr)(hl:l.length<=100000000):
  Calls Tryz.prog 18 #[V,.int .i64 way,U] w fun e w'=>(∃v,e= .returned v/\OwnL w' w.heap.size 32 11 OpD.cells v (Z5c way fr l))/\Ext w w':=by
 obtain⟨A,c,rfl⟩:=hs.form;obtain⟨B,d,rfl⟩:=hu.form;obtain⟨_,hc1,hc2,hA⟩:=hs.at;have HA:=hD hA;have HU:=hD hu;clear hs hA hu;go_enter Tryz.func18,Tryz.ntmps18;go_wp2_with fail
 go_loopw [7,8] (fun v i wr=>∃k:Nat,k<=l.length/\i= .int .i64 k/\Ext w wr/\OwnL wr w.heap.size 32 11 OpD.cells v (Z5c way fr (l.take k)))
  (fun _ i _=>l.length-(intOf i).toNat)
 case atStart=>exact⟨0,by omega,rfl,Ext.refl _,OwnL.nil _ _ _ _ _⟩
 case round=>
  obtain⟨k,hk,rfl,hb,hown⟩:=hrel;have HX:=hD hb;have HO:=hD hown;have hzr:=hb.size;clear hb hown;by_cases hlt:k<l.length
  ·have hd:decide ((k:Int)<(l.length:Int))=true:=by simp;omega
   have HT:=hD (Y1i way fr l k hlt);have HLEN:=hD (Y4k way fr l k hk);obtain⟨b,off,rfl,hbl,hx⟩:=HA.out (by omega);obtain⟨cs,rfl,_,hcs⟩:=hx k hlt;have HE:Hid (∀W:World,Ext w W->(W.cell? ⟨b,off+k*11,none⟩=some (.int .i64 l[k].id)/\W.cell? ⟨b,off+k*11+1,none⟩=some (.int .i64 l[k].proc)/\W.cell? ⟨b,off+k*11+2,none⟩=some (.int .i64 l[k].object)/\W.cell? ⟨b,off+k*11+3,none⟩=some (.int .i64 l[k].kind)/\W.cell? ⟨b,off+k*11+4,none⟩=some (.int .i64 l[k].method)/\W.cell? ⟨b,off+k*11+5,none⟩=some (.int .i64 l[k].arg)/\W.cell? ⟨b,off+k*11+6,none⟩=some (.int .i64 l[k].second)/\W.cell? ⟨b,off+k*11+7,none⟩=some (.bool l[k].done)/\W.cell? ⟨b,off+k*11+8,none⟩=some (.int .i64 l[k].result)/\W.cell? ⟨b,off+k*11+9,none⟩=some (.int .i64 l[k].invoke)/\W.cell? ⟨b,off+k*11+10,none⟩=some (.int .i64 l[k].ret))):=by intro W h;have hw:=fun j u hu=>(h.cell (p:=⟨b,off+k*11+j,none⟩) hbl).trans (hcs j u hu);exact⟨hw 0 _ rfl,hw 1 _ rfl,hw 2 _ rfl,hw 3 _ rfl,hw 4 _ rfl,hw 5 _ rfl,hw 6 _ rfl,hw 7 _ rfl,hw 8 _ rfl,hw 9 _ rfl,hw 10 _ rfl⟩
   clear hx hcs;generalize l[k]=x at *;generalize Z5c way fr (l.take k)=out at *;obtain⟨vA,vc,rfl⟩:=HO.out.form;have hbw:=aE hbl HX.out.size;obtain⟨e0,e1,e2,e3,e4,e5,e6,e7,e8,e9,e10⟩:=HE.out wr HX.out;have cK:=Z6x way x wr;obtain⟨kl,hkl⟩:∃kl,wayI way x=kl:=⟨_,rfl⟩;have HKL:=hD hkl;rw[hkl]at cK;clear hkl;go_upto_region 6 with (go_at_call 62;(with_reducible refine cK.mono ?_);clear cK;rintro e w1 ⟨⟨v1,rfl,hv1⟩,hx1⟩;obtain⟨k1A,k1c,rfl⟩:=hv1.form;have HV1:=hD hv1;have HX1:=hD hx1;clear hv1 hx1);have HS1:Hid (Sl w1 1 RIn (.slice k1A kl.length k1c) kl):=HV1.out.sl (R:=RIn) (fun _=>rfl) (fun _=>rfl);have HB1:Hid (Ext w w1):=HX.out.trans HX1.out;clear e0 e1 e2 e3 e4 e5 e6 e7 e8 e9 e10;obtain⟨ok,hok⟩:∃ok,okF way fr x=ok:=⟨_,rfl⟩;have HOK:Hid ((!kl.isEmpty&&decide (fr.length<=4)&&fr.isPrefixOf kl)=ok):=by unfold Hid;rw[<-hok,<-HKL.out];rfl
   have HSTEP:Hid (Y9i way fr out x=if ok then insW (ltW way) x out else out):=by unfold Hid Y9i;rw[hok]
   clear hok;have cB:=Y7l (.slice k1A kl.length k1c) (.slice B fr.length d) kl fr w1 HS1.out (HU.out.ext HB1.out)
   go_cut [37] (fun s wx=>s= .bool (!ok)/\Ext w1 wx)
   case first=>
    by_cases h1:kl= []
    ·have n1:((kl.length:Int)==0)=true:=by rw[h1];rfl
     have n2:(kl.length==0)=true:=by rw[h1];rfl
     have HF:Hid (ok=false):=by unfold Hid;rw[<-HOK.out,h1];rfl
     go_wp2_with fail
     go_meet
     exact⟨by rw[HF.out];rfl,Ext.refl _⟩
    ·have n0:kl.length≠0:=fun e=>h1 (List.eq_nil_of_length_eq_zero e);have n1:((kl.length:Int)==0)=false:=by simpa using h1
     have hne:kl.isEmpty=false:=by cases kl with | nil=>exact absurd rfl h1 | cons _ _=>rfl
     by_cases h2:4<fr.length
     ·have n2:decide ((4:Int)<(fr.length:Int))=true:=by simp;omega
      have HF:Hid (ok=false):=by unfold Hid;rw[<-HOK.out,decide_eq_false (show¬fr.length<=4 by omega),Bool.and_false,Bool.false_and]
      clear hne h1;go_wp2_with fail
      go_meet
      exact⟨by rw[HF.out];rfl,Ext.refl _⟩
     ·have n2:decide ((4:Int)<(fr.length:Int))=false:=by simp;omega
      have HF:Hid (fr.isPrefixOf kl=ok):=by unfold Hid;rw[<-HOK.out,decide_eq_true (show fr.length<=4 by omega),hne];rfl
      rw[HF.out]at cB;clear hne h1;go_wp2_with (go_at_call 63;(with_reducible refine cB.mono ?_);clear cB;rintro e w2 ⟨rfl,hx2⟩;have HX2:=hD hx2;clear hx2)
      go_meet
      exact⟨rfl,HX2.out⟩
   case rest=>
   obtain⟨rfl,hbc⟩:=hcut;have HB2:=hD (HB1.out.trans hbc);have HO2:=hD ((HO.out.ext HX1.out).ext hbc);have HK2:=hD (HS1.out.ext hbc);clear hbc cB HO HV1 HS1;cases ok with
   | false=>
     have HV:Hid (Z5c way fr (l.take (k+1))=out):=by unfold Hid;rw[HT.out,HSTEP.out];rfl
     simp only[Bool.not_false];go_wp2_with fail
     go_roundw
     case measure=>simp[intOf];omega
     case rel=>exact⟨k+1,by omega,by go_num,HB2.out,by rw[HV.out];exact HO2.out⟩
   | true=>
     have HV:Hid (Z5c way fr (l.take (k+1))=insW (ltW way) x out):=by unfold Hid;rw[HT.out,HSTEP.out];rfl
     simp only[Bool.not_true];have hbw2:=aE hbl HB2.out.size;generalize wc=w1 at *
     go_upto_block 2 with fail
     go_cut [10] (fun s wx=>∃p:Nat,s= .int .i64 p/\p<=out.length/\Ext w1 wx/\insW (ltW way) x out=out.take p++ [x]++out.drop p)
     case first=>
      go_wp2_with fail
      go_loopw [10] (fun i wz=>∃p:Nat,p<=out.length/\i= .int .i64 p/\Ext w1 wz/\∀(j:Nat) (hj:j<out.length),j<p->ltW way out[j] x=true)
       (fun i _=>out.length-(intOf i).toNat)
      case atStart=>exact⟨0,by omega,rfl,by exact Xt,fun j _ h=>absurd h (by omega)⟩
      case round=>
       obtain⟨p,hp,rfl,hb,hall⟩:=hrel;have KZ:=hD hb;have HF:=hD hall;clear hb hall;by_cases hpl:p<out.length
       ·have hdp:decide ((p:Int)<(out.length:Int))=true:=by simp;omega
        obtain⟨_,_,_,hO⟩:=(HO2.out.sl (R:=ROp) Z3b (fun _=>rfl)).at;obtain⟨b2,off2,rfl,hbl2,hcell2⟩:=hO (by omega);obtain⟨cs2,rfl,_,hcs2⟩:=hcell2 p hpl;have HE2:Hid (∀W:World,Ext w1 W->(W.cell? ⟨b2,off2+p*11,none⟩=some (.int .i64 out[p].id)/\W.cell? ⟨b2,off2+p*11+1,none⟩=some (.int .i64 out[p].proc)/\W.cell? ⟨b2,off2+p*11+2,none⟩=some (.int .i64 out[p].object)/\W.cell? ⟨b2,off2+p*11+3,none⟩=some (.int .i64 out[p].kind)/\W.cell? ⟨b2,off2+p*11+4,none⟩=some (.int .i64 out[p].method)/\W.cell? ⟨b2,off2+p*11+5,none⟩=some (.int .i64 out[p].arg)/\W.cell? ⟨b2,off2+p*11+6,none⟩=some (.int .i64 out[p].second)/\W.cell? ⟨b2,off2+p*11+7,none⟩=some (.bool out[p].done)/\W.cell? ⟨b2,off2+p*11+8,none⟩=some (.int .i64 out[p].result)/\W.cell? ⟨b2,off2+p*11+9,none⟩=some (.int .i64 out[p].invoke)/\W.cell? ⟨b2,off2+p*11+10,none⟩=some (.int .i64 out[p].ret))):=by intro W h;have hw:=fun j u hu=>(h.cell (p:=⟨b2,off2+p*11+j,none⟩) hbl2).trans (hcs2 j u hu);exact⟨hw 0 _ rfl,hw 1 _ rfl,hw 2 _ rfl,hw 3 _ rfl,hw 4 _ rfl,hw 5 _ rfl,hw 6 _ rfl,hw 7 _ rfl,hw 8 _ rfl,hw 9 _ rfl,hw 10 _ rfl⟩
        have HPO:=hD (X2i (ltW way) x out p hp (fun j hj=>HF.out j (by omega) hj));have HF2:Hid (ltW way out[p] x=true->∀(j:Nat) (hj:j<out.length),j<p+1->ltW way out[j] x=true):=by
         intro ha j hj hjp;by_cases e:j=p
         ·subst e;exact ha
         ·exact HF.out j hj (by omega)
        have HPO2:Hid (ltW way out[p] x=false->insW (ltW way) x out=out.take p++ [x]++out.drop p):=fun h=>HPO.out (fun _=>h);have HLW:Hid (ltI (wayI way out[p]) kl=ltW way out[p] x):=by unfold Hid ltW;rw[HKL.out]
        clear hO hcell2 hcs2 HPO;generalize out[p]=y at *;have hbw3:=aE hbl2 KZ.out.size;have cK:=Z6x way y wr;have cB:Hid (∀(A':Option Addr) (c':Nat) (W:World),Ext w1 W->Sl W 1 RIn (.slice A' (wayI way y).length c') (wayI way y)->Calls Tryz.prog 64 #[.slice A' (wayI way y).length c',.slice k1A kl.length k1c] W fun e w'=>e= .returned (.bool (ltW way y x))/\Ext W w'):=fun A' c' W h1 h2=>by have h3:=Y3g _ _ _ _ W h2 (HK2.out.ext h1);rw[HLW.out]at h3;exact h3
        obtain⟨z0,z1,z2,z3,z4,z5,z6,z7,z8,z9,z10⟩:=HE2.out wr KZ.out;generalize ltW way y x=lt at *;generalize wayI way y=ky at *;clear HLW
        go_upto_if 51 with (first
         | (go_at_call 62;(with_reducible refine cK.mono ?_);clear cK;rintro e w3 ⟨⟨v3,rfl,hv3⟩,hx3⟩;obtain⟨k3A,k3c,rfl⟩:=hv3.form;have HV3:Hid (Sl w3 1 RIn (.slice k3A ky.length k3c) ky):=hv3.sl (R:=RIn) (fun _=>rfl) (fun _=>rfl);have HX3:=hD (KZ.out.trans hx3);clear hv3 hx3)
         | (go_at_call 64;(with_reducible refine(cB.out _ _ _ HX3.out HV3.out).mono ?_);clear cB;rintro e w4 ⟨rfl,hx4⟩;have HX4:=hD (HX3.out.trans hx4);clear hx4))
        cases lt with
        | true=>
          have HF3:=hD (HF2.out rfl);go_wp2_with fail
          go_roundw
          case measure=>simp[intOf];omega
          case rel=>exact⟨p+1,by omega,by go_num,HX4.out,HF3.out⟩
        | false=>
          have HF3:=hD (HPO2.out rfl);go_wp2_with fail
          go_meet
          exact⟨p,rfl,hp,HX4.out,HF3.out⟩
       ·have hdp:decide ((p:Int)<(out.length:Int))=false:=by simp;omega
        have HF3:=hD (X2i (ltW way) x out p hp (fun j hj=>HF.out j (by omega) hj) (fun h=>(hpl h).elim));go_wp2_with fail
        go_meet
        exact⟨p,rfl,hp,KZ.out,HF3.out⟩
     case rest=>
      obtain⟨p,rfl,hp,hbx,hins⟩:=hcut;have HINS:=hD hins;have HBC:=hD (Ext.trans HB2.out hbx);have HOC:=hD (HO2.out.ext hbx);have hzc:=HBC.out.size;have HSL:=hD (HOC.out.sl (R:=ROp) Z3b (fun _=>rfl));have hbw3:=aE hbl HBC.out.size;clear hbx hins HO2 HB2 HK2;obtain⟨hco1,hco2⟩:out.length<=vc/\vc<=9223372036854775807:=by obtain⟨_,h1,h2,_⟩:=HSL.out.at;exact⟨h1,h2⟩
      have hou:=HLEN.out;go_upto_region 11 with (at_builtin;go_loud (refine Z2j elOp Z3b Z8p rfl (.tmp 54) (.tmp 57) rfl _ [] rfl (OwnL.made _ _ _ _) (by first | (simp;done) | (simp;omega) | omega) _ _ _ (out.take p) rfl ?la1 ?la2 ?la3 (by decide) ?_))
      case la2=>exact Src.sl Z3b (by decide) (fun _ _ h=>h) ((HSL.out.ext (by exact Xt)).take hp)
      case la3=>(first | omega | (rw [aD];simp;omega))
      intro pA pc wp hp1 hgp;have X1:=hD ((OwnL.made wc 32 11 OpD.cells).grown (a:=wc) (by exact Xt) hgp (by simp));have O1:=hD hp1;clear hgp hp1;have hz1:=X1.out.size;have HP1:Hid ((out.take p).length=p):=by unfold Hid;rw[aD];omega
      obtain⟨e0,e1,e2,e3,e4,e5,e6,e7,e8,e9,e10⟩:=HE.out wp (Ext.trans HBC.out X1.out);have hbw4:=aE hbw3 hz1;go_upto_region 11 with fail;go_upto_region 12 with (at_builtin;go_loud (refine Z2a elOp Z3b Z8p rfl (.tmp 59) (.tmp 64) rfl _ (out.take p) rfl (O1.out.ext (by exact Xt)) (by first | (simp;done) | (simp;omega) | omega) _ 1 x rfl (Row1.made _ _ x.cells) (by have:=HP1.out;omega) (by decide) ?_));intro qA qc wq hq1 hgq;have X2:=hD ((O1.out.ext (by exact Xt)).grown (a:=wc) (by exact Xx (X1.out)) hgq (aF _));have O2:=hD hq1;clear hgq hq1 e0 e1 e2 e3 e4 e5 e6 e7 e8 e9 e10;have hz2:=X2.out.size;have HP2:Hid ((out.take p++ [x]).length=p+1):=by unfold Hid;rw[aA,HP1.out];rfl
      go_upto_region 12 with fail;go_wp2_with (at_builtin;go_loud (refine Z2j elOp Z3b Z8p rfl (.tmp 66) (.tmp 69) rfl _ (out.take p++ [x]) rfl O2.out (by first | (simp;done) | (simp;omega) | omega) _ _ _ (out.drop p) rfl ?lb1 ?lb2 ?lb3 (by decide) ?_))
      all_goals (try (first
       | (rw [aJ];done)
       | (rw [HP2.out,aJ];omega)
       | (have hdr:=(HSL.out.ext X2.out).drop hp;rw[if_pos (by assumption)]at hdr;exact Src.sl Z3b (by decide) (fun _ _ h=>h) hdr)
       | (have hdr:=(HSL.out.ext X2.out).drop hp;rw[if_neg (by assumption)]at hdr;exact Src.sl Z3b (by decide) (fun _ _ h=>h) hdr)))
      all_goals
       intro rA rc wz hr1 hgr;have X3:=hD (O2.out.grown (a:=wc) (by exact Xx (X2.out)) hgr (aF _));have O3:=hD hr1;clear hgr hr1;go_wp2_with fail
       go_roundw
       case measure=>simp[intOf];omega
       case rel=>exact⟨k+1,by omega,by go_num,Ext.trans HBC.out X3.out,by rw[HV.out,HINS.out,aG];exact O3.out.lower (by omega)⟩
  ·obtain rfl:k=l.length:=by omega
   have hd:decide ((l.length:Int)<(l.length:Int))=false:=by simp
   rw[List.take_length]at HO;obtain⟨vA,vc,hvf⟩:=HO.out.form;go_wp2_with fail;go_ret;exact⟨⟨_,rfl,HO.out⟩,HX.out⟩
def inR(way:Int)(fr:List Int)(lo hi:Int)(o:OpD):Bool:=match (wayI way o)[fr.length]? with
 | some x=>decide (lo<=x)&&decide (x<=hi)
 | none=>false
def Z2r(way:Int)(fr:List Int)(lo hi:Int)(l:List OpD):List OpD:=if 3<fr.length then []else(Z5c way fr l).filter (inR way fr lo hi)
theorem Y4l{p:OpD->Bool}(l:List OpD)(k:Nat)(h:k<l.length):(l.take (k+1)).filter p=(l.take k).filter p++(if p l[k]then [l[k]]else []):=by
 rw[List.take_succ_eq_append_getElem h,List.filter_append]
 congr 1
 cases hp:p l[k]<;>simp[hp]
theorem Y5e(V U:Value)(l:List OpD)(way:Int)(fr:List Int)(lo hi:Int)(w:World)(hs:Sl w 11 ROp V l)(hu:Sl w 1 RIn U fr)(hl:l.length<=100000000):
  Calls Tryz.prog 21 #[V,.int .i64 way,U,.int .i64 lo,.int .i64 hi] w fun e w'=>(∃v,e= .returned v/\OwnL w' w.heap.size 32 11 OpD.cells v (Z2r way fr lo hi l))/\Ext w w':=by
 obtain⟨B,d,rfl⟩:=hu.form;have cF:=Y7k V (.slice B fr.length d) l way fr w hs hu hl;obtain⟨A,c,rfl⟩:=hs.form;have HU:=hD hu;have hal:(Z5c way fr l).length<=l.length:=by have:=Y4k way fr l l.length (aF _);rwa [List.take_length]at this
 have HAL:=hD hal;have HR:Hid (Z2r way fr lo hi l=if 3<fr.length then []else(Z5c way fr l).filter (inR way fr lo hi)):=rfl;clear hs hu;go_enter Tryz.func21,Tryz.ntmps21;by_cases h3:3<fr.length
 ·have d3:decide ((3:Int)<(fr.length:Int))=true:=by simp;omega
  have HR2:Hid (Z2r way fr lo hi l= []):=by unfold Hid;rw[HR.out,if_pos h3]
  go_wp2_with fail;go_ret;exact⟨⟨_,rfl,by rw[HR2.out];exact OwnL.nil _ _ _ _ _⟩,Ext.refl _⟩
 ·have d3:decide ((3:Int)<(fr.length:Int))=false:=by simp;omega
  have HR2:Hid (Z2r way fr lo hi l=(Z5c way fr l).filter (inR way fr lo hi)):=by unfold Hid;rw[HR.out,if_neg h3]
  obtain⟨all,hall⟩:∃all,Z5c way fr l=all:=⟨_,rfl⟩;rw[hall]at cF HAL HR2;clear hall hal HR;have hn:all.length<=100000000:=Nat.le_trans HAL.out hl;go_upto_region 5 with (go_at_call 18;(with_reducible refine cF.mono ?_);clear cF;rintro e w1 ⟨⟨v1,rfl,hv1⟩,hx1⟩;obtain⟨vA,vc,rfl⟩:=hv1.form;have HV1:=hD hv1;have HX1:=hD hx1;clear hv1 hx1);obtain⟨_,hc1,hc2,hA⟩:=(HV1.out.sl (R:=ROp) Z3b (fun _=>rfl)).at;have HA:=hD hA;clear hA;go_wp2_with fail
  go_loopw [11,13] (fun v i wr=>∃k:Nat,k<=all.length/\i= .int .i64 k/\Ext w1 wr/\OwnL wr w1.heap.size 32 11 OpD.cells v ((all.take k).filter (inR way fr lo hi)))
   (fun _ i _=>all.length-(intOf i).toNat)
  case atStart=>exact⟨0,by omega,rfl,Ext.refl _,OwnL.nil _ _ _ _ _⟩
  case round=>
   obtain⟨k,hk,rfl,hb,hown⟩:=hrel;have HX:=hD hb;have HO:=hD hown;have hzr:=hb.size;clear hb hown;by_cases hlt:k<all.length
   ·have hd:decide ((k:Int)<(all.length:Int))=true:=by simp;omega
    have HT:=hD (Y4l (p:=inR way fr lo hi) all k hlt);have HLEN:Hid (((all.take k).filter (inR way fr lo hi)).length<=100000000):=by have h1:=List.length_filter_le (inR way fr lo hi) (all.take k);rw[aD]at h1;unfold Hid;omega
    obtain⟨b,off,rfl,hbl,hx⟩:=HA.out (by omega);obtain⟨cs,rfl,_,hcs⟩:=hx k hlt;have HE:Hid (∀W:World,Ext w1 W->(W.cell? ⟨b,off+k*11,none⟩=some (.int .i64 all[k].id)/\W.cell? ⟨b,off+k*11+1,none⟩=some (.int .i64 all[k].proc)/\W.cell? ⟨b,off+k*11+2,none⟩=some (.int .i64 all[k].object)/\W.cell? ⟨b,off+k*11+3,none⟩=some (.int .i64 all[k].kind)/\W.cell? ⟨b,off+k*11+4,none⟩=some (.int .i64 all[k].method)/\W.cell? ⟨b,off+k*11+5,none⟩=some (.int .i64 all[k].arg)/\W.cell? ⟨b,off+k*11+6,none⟩=some (.int .i64 all[k].second)/\W.cell? ⟨b,off+k*11+7,none⟩=some (.bool all[k].done)/\W.cell? ⟨b,off+k*11+8,none⟩=some (.int .i64 all[k].result)/\W.cell? ⟨b,off+k*11+9,none⟩=some (.int .i64 all[k].invoke)/\W.cell? ⟨b,off+k*11+10,none⟩=some (.int .i64 all[k].ret))):=by intro W h;have hw:=fun j u hu=>(h.cell (p:=⟨b,off+k*11+j,none⟩) hbl).trans (hcs j u hu);exact⟨hw 0 _ rfl,hw 1 _ rfl,hw 2 _ rfl,hw 3 _ rfl,hw 4 _ rfl,hw 5 _ rfl,hw 6 _ rfl,hw 7 _ rfl,hw 8 _ rfl,hw 9 _ rfl,hw 10 _ rfl⟩
    clear hx hcs;generalize all[k]=x at *;generalize (all.take k).filter (inR way fr lo hi)=out at *;obtain⟨uA,uc,rfl⟩:=HO.out.form;have hbw:=aE hbl HX.out.size;obtain⟨e0,e1,e2,e3,e4,e5,e6,e7,e8,e9,e10⟩:=HE.out wr HX.out;have cK:=Z6x way x wr;obtain⟨kl,hkl⟩:∃kl,wayI way x=kl:=⟨_,rfl⟩;obtain⟨ok,hok⟩:∃ok,inR way fr lo hi x=ok:=⟨_,rfl⟩;have HOK:Hid ((match kl[fr.length]? with | some x=>decide (lo<=x)&&decide (x<=hi) | none=>false)=ok):=by unfold Hid;rw[<-hok,<-hkl];rfl
    rw[hkl]at cK;rw[hok]at HT;clear hkl hok;go_upto_region 9 with (go_at_call 62;(with_reducible refine cK.mono ?_);clear cK;rintro e w2 ⟨⟨v2,rfl,hv2⟩,hx2⟩;obtain⟨k1A,k1c,rfl⟩:=hv2.form;have HV2:=hD hv2;have HX2:=hD hx2;clear hv2 hx2);clear e0 e1 e2 e3 e4 e5 e6 e7 e8 e9 e10
    go_cut [56] (fun s wx=>s= .bool ok/\Ext w2 wx)
    case first=>
     by_cases h1:fr.length<kl.length
     ·have n1:decide ((fr.length:Int)<(kl.length:Int))=true:=by simp;omega
      have n11:(fr.length:Int)<(kl.length:Int):=by omega
      have hsl:Sl w2 1 RIn (.slice k1A kl.length k1c) kl:=HV2.out.sl (R:=RIn) (fun _=>rfl) (fun _=>rfl);obtain⟨hq0,hq1,hq2,hq⟩:=hsl.at;obtain⟨g,og,rfl,hgl,hgx⟩:=hq (by omega);obtain⟨cs,rfl,_,hcs⟩:=hgx fr.length h1;have g0:=hcs 0 _ rfl;simp only[Nat.add_zero,Nat.mul_one]at g0;have HOK2:Hid ((decide (lo<=kl[fr.length])&&decide (kl[fr.length]<=hi))=ok):=by have h:=HOK.out;rw[aB h1]at h;exact h
      clear hq hgx hcs HOK hq0 hsl;generalize kl[fr.length]=y at *;by_cases h2:lo<=y
      ·have n2:decide (lo<=y)=true:=decide_eq_true h2;have HOK3:Hid (decide (y<=hi)=ok):=by have h:=HOK2.out;rw[n2,Bool.true_and]at h;exact h
       clear HOK2;go_wp2_with fail
       go_meet
       exact⟨by rw[HOK3.out],by exact Xt⟩
      ·have n2:decide (lo<=y)=false:=decide_eq_false h2;have HOK3:Hid (ok=false):=by have h:=HOK2.out;rw[n2,Bool.false_and]at h;exact h.symm
       clear HOK2;go_wp2_with fail
       go_meet
       exact⟨by rw[HOK3.out],by exact Xt⟩
     ·have n1:decide ((fr.length:Int)<(kl.length:Int))=false:=by simp;omega
      have HOK3:Hid (ok=false):=by have h:=HOK.out;rw[List.getElem?_eq_none (by omega)]at h;exact h.symm
      go_wp2_with fail
      go_meet
      exact⟨by rw[HOK3.out],by exact Xt⟩
    case rest=>
    obtain⟨rfl,hbc⟩:=hcut;have HB2:=hD ((HX.out.trans HX2.out).trans hbc);have HO2:=hD ((HO.out.ext HX2.out).ext hbc);have hz2:=HB2.out.size;clear hbc HO HV2 HOK;cases ok with
    | false=>
      have HV:Hid ((all.take (k+1)).filter (inR way fr lo hi)=out):=by unfold Hid;rw[HT.out];simp
      go_wp2_with fail
      go_roundw
      case measure=>simp[intOf];omega
      case rel=>exact⟨k+1,by omega,by go_num,HB2.out,by rw[HV.out];exact HO2.out⟩
    | true=>
      have HV:Hid ((all.take (k+1)).filter (inR way fr lo hi)=out++ [x]):=by unfold Hid;rw[HT.out];simp
      have hbw2:=aE hbl hz2;obtain⟨e0,e1,e2,e3,e4,e5,e6,e7,e8,e9,e10⟩:=HE.out wc HB2.out;have hou:=HLEN.out;go_wp2_with (at_builtin;go_loud (refine Z2a elOp Z3b Z8p rfl (.tmp 57) (.tmp 62) rfl _ out rfl (HO2.out.ext (by exact Xt)) (by first | (simp;done) | (simp;omega) | omega) _ 1 x rfl (Row1.made _ _ x.cells) (by omega) (by decide) ?_));intro qA qc wq hq1 hgq;have X2:=hD ((HO2.out.ext (by exact Xt)).grown (a:=w1) (by exact Xx (HB2.out)) hgq (aF _));have O2:=hD hq1;clear hgq hq1 e0 e1 e2 e3 e4 e5 e6 e7 e8 e9 e10;go_wp2_with fail
      go_roundw
      case measure=>simp[intOf];omega
      case rel=>exact⟨k+1,by omega,by go_num,X2.out,by rw[HV.out];exact O2.out⟩
   ·obtain rfl:k=all.length:=by omega
    have hd:decide ((all.length:Int)<(all.length:Int))=false:=by simp
    rw[List.take_length]at HO;have hz1:=HX1.out.size;go_wp2_with fail;go_ret;exact⟨⟨_,rfl,by rw[HR2.out];exact HO.out.lower hz1⟩,HX1.out.trans HX.out⟩
end Go.Proofs.YtmiolpfanlpfnaaGreat
