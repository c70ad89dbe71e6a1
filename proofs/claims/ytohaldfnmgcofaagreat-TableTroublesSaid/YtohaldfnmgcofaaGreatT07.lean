/- A disk's use and Write. Conditions: a disk in memory, fewer than 10^9 blocks written since the last flush. -/
import Derived.Test.YtohaldfnmgcofaaGreatT06
import Derived.Deep.RegionLaw
set_option maxRecDepth 100000
set_option maxHeartbeats 4000000
set_option linter.unusedSimpArgs false
set_option linter.unusedVariables false
namespace Go.Proofs.YtohaldfnmgcofaaGreat
open Go.RowKit
theorem Z8y(D:DiskD):(useD D).1.blocks=D.blocks:=by unfold useD;split<;>(try split)<;>rfl
theorem Z6z(D:DiskD):(useD D).1.late=D.late:=by unfold useD;split<;>(try split)<;>rfl
theorem X9l{g:Nat}{F:Nat->Prop}{D:DiskD}{bv lv:Value}(w:World)(h:DiskAs w g F D bv lv):
  cQ 158 #[tp g] w fun e w'=>e= .returned (.int .i64 (useD D).2)/\DiskAs w' g F (useD D).1 bv lv/\Only (fun i=>i=g) w w':=by
 have c2:w.cell? ⟨g,2,none⟩=some (.int .i64 D.left):=h.row.cell 2;have c3:w.cell? ⟨g,3,none⟩=some (.bool D.dead):=h.row.cell 3;have f2:w.frozen? ⟨g,2,none⟩=false:=h.row.soft 2;have f3:w.frozen? ⟨g,3,none⟩=false:=h.row.soft 3;have HD:=hD h;have HB:Hid (∀(D':DiskD) (W:World),D'.blocks=D.blocks->D'.late=D.late->D'.left<=9223372036854775807->Row1 W g 202 [bv,lv,.int .i64 D'.left,.bool D'.dead,.string zeroB]->Only (fun i=>i=g) w W->DiskAs W g F D' bv lv):=fun D' W e1 e2 e3 hr hb=>by
  have ab:bv.ownBlock≠some g:=HD.out.blocks.apartRow HD.out.row (by decide);have al:lv.ownBlock≠some g:=HD.out.late.apartRow HD.out.row (by decide);have hw:=HD.out.wf;exact⟨hr,by rw[e1];exact HD.out.blocks.only hb (fun k hk q=>ab (by rw[hk,q])),by rw[e2];exact HD.out.late.only hb (fun k hk q=>al (by rw[hk,q])),HD.out.fg,HD.out.fb,HD.out.fl,
   ⟨by rw[e1];exact hw.one,by rw[e1];exact hw.many,by rw[e1];exact hw.size,by rw[e1,e2];exact hw.late,e3⟩⟩
 clear h;have hle:=HD.out.wf.fits;have HO:Hid (∀i v,Only (fun i=>i=g) w (w.setCell ⟨g,i,none⟩ v)):=fun i v=>Only.setCell (F:=fun i=>i=g) (p:=⟨g,i,none⟩) Only.refl (.inl rfl) v;by_cases h0:D.left=0
 ·have q0:decide (D.left=0)=true:=decide_eq_true h0;have hu:useD D=({ D with dead:=true},11):=by unfold useD;rw[if_pos h0]
  rw[hu];clear hu;go_enter Tryz.func158,Tryz.ntmps158;go_wp2_with fail;go_ret;exact⟨rfl,HB.out _ _ rfl rfl hle (HD.out.row.set 3 _) (HO.out 3 _),HO.out 3 _⟩
 ·have q0:decide (D.left=0)=false:=decide_eq_false h0;by_cases h1:0<D.left
  ·have q1:decide (0<D.left)=true:=decide_eq_true h1;have hu:useD D=({ D with left:=D.left-1},0):=by unfold useD;rw[if_neg h0,if_pos h1]
   rw[hu];clear hu;go_enter Tryz.func158,Tryz.ntmps158;go_wp2_with fail;go_ret;exact⟨rfl,HB.out _ _ rfl rfl (by dsimp only;omega) (HD.out.row.set 2 _) (HO.out 2 _),HO.out 2 _⟩
  ·have q1:decide (0<D.left)=false:=decide_eq_false h1;have hu:useD D=(D,0):=by unfold useD;rw[if_neg h0,if_neg h1]
   rw[hu];clear hu;go_enter Tryz.func158,Tryz.ntmps158;go_wp2_with fail;go_ret;exact⟨rfl,HD.out,Only.refl⟩
theorem Z7h(s:ByteArray)(h:s.size<=256):(padB s).size=256:=by unfold padB;rw[ByteArray.size_append,ByteArray.size_extract,Z4q];omega
theorem Only.grown{w w':World}{row:Option Nat}(h:w.grownBy w' row):Only (fun i=>row=some i) w w':=⟨h.os,h.tape,h.output,h.size,fun i hi hn=>h.block i hi (fun e=>hn e.symm)⟩
theorem X3c{w1 W w2:World}{g:Nat}{F:Nat->Prop}{D:DiskD}{bv lv v':Value}{late':List (Nat×ByteArray)}(H:DiskAs w1 g F D bv lv)(hW:Ext w1 W)(hown:OwnL w2 0 252 2 encP v' late')(hgr:W.grownBy w2 lv.ownBlock)
 (hwh:∀k,v'.ownBlock=some k->lv.ownBlock=some k\/W.heap.size<=k)(hl:∀p∈late',p.1<D.blocks.length/\p.2.size=256):
  ∃F',DiskAt (w2.setCell ⟨g,1,none⟩ v') g F' { D with late:=late'}/\Keeps F F' w1 (w2.setCell ⟨g,1,none⟩ v'):=by
 have HW:=H.ext hW;have hlg:lv.ownBlock≠some g:=HW.late.apartRow HW.row (by decide);have hbg:bv.ownBlock≠some g:=HW.blocks.apartRow HW.row (by decide);have hR2:Row1 w2 g 202 [bv,lv,.int .i64 D.left,.bool D.dead,.string zeroB]:=HW.row.grown hgr (fun e=>hlg e.symm);have hvg:v'.ownBlock≠some g:=hown.apartRow hR2 (by decide);have hb2:OwnL w2 0 9 1 encS bv D.blocks:=HW.blocks.only (Only.grown hgr) (fun k hk q=>HW.blocks.apart HW.late (by decide) hk q);have ho:Only (fun i=>i=g) w2 (w2.setCell ⟨g,1,none⟩ v'):=Only.setCell (F:=fun i=>i=g) (p:=⟨g,1,none⟩) Only.refl (.inl rfl) v';refine⟨fun i=>F i\/v'.ownBlock=some i,⟨bv,v',hR2.set 1 v',hb2.only ho (fun k hk q=>hbg (by rw[hk,q])),hown.only ho (fun k hk q=>hvg (by rw[hk,q])),.inl H.fg,fun b hb=> .inl (H.fb b hb),fun b hb=> .inr hb,⟨H.wf.one,H.wf.many,H.wf.size,hl,H.wf.fits⟩⟩,⟨?_,?_⟩⟩
 ·refine((Only.of hW).trans (Only.grown hgr) (fun i q=> .inl (H.fl i q))).trans ho (fun i q=> .inl (by rw[q];exact H.fg))
 ·intro i q;rcases q with q | q
  ·exact .inl q
  ·rcases hwh i q with q | q
   ·exact .inl (H.fl i q)
   ·exact .inr (Nat.le_trans hW.size q)
theorem Tryz.infoPend:(Tryz.prog.info? 252).map (fun i=>(i.zero,i.size,i.bytes))=some (some (.agg #[.int .i64 0,.string ⟨#[]⟩]),2,24):=by kernel_rfl
theorem U2i:Elem Tryz.prog 200 252 2 24:=Elem.of Tryz.underlying200 Tryz.infoPend rfl (by decide)
theorem Z4p{g:Nat}{F:Nat->Prop}{D:DiskD}(n:Int)(s:ByteArray)(w:World)(h:DiskAt w g F D)(hlate:D.late.length+1<=1000000000):
  cQ 114 #[tp g,.int .i64 n,.string s] w fun e w'=>e= .returned (.int .i64 (Z1d D n s).2)/\∃F',DiskAt w' g F' (Z1d D n s).1/\Keeps F F' w w':=by
 have hr:=Y3t n w h;obtain⟨R,hR⟩:∃R,Z4j D n=R:=⟨_,rfl⟩;rw[hR]at hr;have HH:=hD h;by_cases hR0:R=0
 ·subst hR0;by_cases hbig:256<s.size
  ·have hw:Z1d D n s=(D,21):=by unfold Z1d;rw[if_neg (by simp[hR]),if_pos hbig]
   rw[hw];have q1:decide (256<(s.size:Int))=true:=aN;clear hw h hR;go_enter Tryz.func114,Tryz.ntmps114;go_wp2_with (go_at_call 157;refine hr.mono ?_;clear hr;rintro e w1 ⟨rfl,rfl⟩);go_ret;exact⟨rfl,F,HH.out,Keeps.refl⟩
  ·have q1:decide (256<(s.size:Int))=false:=aM;obtain⟨bv,lv,h⟩:=h;have hu:=X9l w h;have hn:0<=n/\n<D.blocks.length:=by
    unfold Z4j at hR;split at hR
    ·omega
    ·split at hR
     ·omega
     ·omega
   obtain⟨m,rfl⟩:∃m:Nat,n=m:=⟨n.toNat,by omega⟩;have HW:Hid (Z1d D m s=if(useD D).2≠0 then useD D else({ (useD D).1 with late:=(useD D).1.late++ [(m,padB s)]},0)):=by unfold Hid Z1d;rw[if_neg (by simp[hR]),if_neg hbig,Int.toNat_natCast]
   obtain⟨D1,u,hu1⟩:∃D1 u,useD D=(D1,u):=⟨_,_,rfl⟩;have hl1:D1.late=D.late:=by have:=Z6z D;rwa [hu1]at this
   have hb1:D1.blocks=D.blocks:=by have:=Z8y D;rwa [hu1]at this
   have HW:Hid (Z1d D m s=if u≠0 then(D1,u)else({ D1 with late:=D1.late++ [(m,padB s)]},0)):=by rw[HW.out,hu1];exact rfl
   rw[HW.out];rw[hu1]at hu;clear h hR hu1 HW;rw[<-hl1]at hlate;rw[<-hb1]at hn;clear hl1 hb1;by_cases hu0:u=0
   ·subst hu0;rw[if_neg (by simp)];go_enter Tryz.func114,Tryz.ntmps114;go_upto_region 7 with (first | (go_at_call 157;refine hr.mono ?_;clear hr;rintro e w1 ⟨rfl,rfl⟩) | (go_at_call 158;refine hu.mono ?_;clear hu;rintro e w1 ⟨rfl,h1,hb1⟩));obtain⟨lA,lc,rfl,hl1,hl2,_⟩:=Y4e h1.late;have H1:=hD h1;have hz:zeroB.size=256:=Z4q;have hs:(s.size:Int)<=256:=by omega
    have hq:¬9223372036854775807<s.size+(256-s.size):=by omega
    have HO1:=hD hb1;have HH1:=hD h1;have HPL:Hid (∀p∈D1.late++ [(m,padB s)],p.1<D1.blocks.length/\p.2.size=256):=fun p hp=>by
     rcases List.mem_append.1 hp with hp | hp
     ·exact H1.out.wf.late p hp
     ·obtain rfl:=List.mem_singleton.1 hp;exact⟨by dsimp only;omega,Z7h _ (by omega)⟩
    have hgl:g<w1.heap.size:=h1.row.lt;have HB1:Hid (∀W,Ext w1 W->Row1 W g 202 [bv,.slice lA D1.late.length lc,.int .i64 D1.left,.bool D1.dead,.string zeroB]):=fun W hW=>(H1.out.ext hW).row;have hlg:(Value.slice lA D1.late.length lc).ownBlock≠some g:=H1.out.late.apartRow H1.out.row (by decide);have c1:w1.cell? ⟨g,1,none⟩=some (.slice lA D1.late.length lc):=h1.row.cell 1;have c4:w1.cell? ⟨g,4,none⟩=some (.string zeroB):=h1.row.cell 4;have f1:w1.frozen? ⟨g,1,none⟩=false:=h1.row.soft 1;go_region_law (refine Z8f U2i Y2y X5n rfl (.tmp 28) (.tmp 40) rfl (.slice lA D1.late.length lc) D1.late rfl (H1.out.late.only (G:=fun _=>False) (Only.of (by exact Xt)) (fun _ _ q=>q)) (Nat.zero_le _) _ 1 (m,padB s) rfl (Row1.made' (by simp) _ (encP (m,padB s))) (by omega) (by decide) ?_;intro A' c' w2 hown2 hgr hwh;have HR2:=Row1.grown (HB1.out _ (by exact Xt)) hgr (fun e=>hlg e.symm);have g1:w2.cell? ⟨g,1,none⟩=_:=HR2.cell 1;have f2:w2.frozen? ⟨g,1,none⟩=false:=HR2.soft 1)
    all_goals
     have hfin:=X3c HH1.out (by exact Xt) hown2 hgr hwh HPL.out;rw[aA,aK]at hfin;go_wp2_with fail;go_ret;obtain⟨F',q1,q2⟩:=hfin;exact⟨rfl,F',q1,Keeps.trans (F':=F) ⟨HO1.out.mono (fun i q=> .inl (by rw[q];exact H1.out.fg)),fun _ q=> .inl q⟩ q2⟩
   ·rw[if_pos hu0];have q2:decide (u=0)=false:=decide_eq_false hu0;go_enter Tryz.func114,Tryz.ntmps114;go_wp2_with (first | (go_at_call 157;refine hr.mono ?_;clear hr;rintro e w1 ⟨rfl,rfl⟩) | (go_at_call 158;refine hu.mono ?_;clear hu;rintro e w1 ⟨rfl,h1,hb1⟩));go_ret;exact⟨rfl,F,⟨bv,lv,h1⟩,⟨hb1.mono (fun i q=> .inl (by rw[q];exact h1.fg)),fun _ q=> .inl q⟩⟩
 ·have hw:Z1d D n s=(D,R):=by unfold Z1d;rw[if_pos (by rw[hR];exact hR0),hR]
  rw[hw];have q1:decide (R=0)=false:=decide_eq_false hR0;clear hw h hR;go_enter Tryz.func114,Tryz.ntmps114;go_wp2_with (go_at_call 157;refine hr.mono ?_;clear hr;rintro e w1 ⟨rfl,rfl⟩);go_ret;exact⟨rfl,F,HH.out,Keeps.refl⟩
theorem V2i(late:List (Nat×ByteArray))(bs:List ByteArray)(k:Nat)(hk:k<late.length):layB (late.take (k+1)) bs=(layB (late.take k) bs).set late[k].1 late[k].2:=by unfold layB;rw[List.take_add_one,aB hk,List.foldl_append];rfl
theorem Z6j(late:List (Nat×ByteArray)):∀(bs:List ByteArray),(layB late bs).length=bs.length:=by
 unfold layB
 induction late with
 | nil=>intro bs;rfl
 | cons p r ih=>intro bs;rw[List.foldl_cons,ih];simp
theorem V2j(late:List (Nat×ByteArray))(h:∀p∈late,p.2.size=256):∀(bs:List ByteArray),(∀b∈bs,b.size=256)->∀b∈layB late bs,b.size=256:=by
 unfold layB
 induction late with
 | nil=>intro bs hb;exact hb
 | cons p r ih=>
   intro bs hb;rw[List.foldl_cons];refine ih (fun q hq=>h q (by simp[hq])) _ fun b hb2=> ?_;rcases List.mem_or_eq_of_mem_set hb2 with q | q
   ·exact hb b q
   ·rw[q];exact h p (by simp)
theorem V6v{w:World}{base n c g:Nat}{e:TypeId}{l:List ByteArray}(h:OwnL w base e 1 encS (.slice (some ⟨g,0,none⟩) n c) l)(i:Nat)(hi:i<l.length)(t:ByteArray):
  OwnL (w.setCell ⟨g,i,none⟩ (.string t)) base e 1 encS (.slice (some ⟨g,0,none⟩) n c) (l.set i t):=by
 have h':w.ownsRow base e 1 (.slice (some ⟨g,0,none⟩) n c) l.length (l.flatMap encS):=h;obtain⟨A,c',he,_⟩:=Z3c h';injection he with e1 e2 e3;subst e2;have h2:=U0t h' i (.string t);have h3:=Y0j encS 1 Z0d l i l[i] 0 (.string t) t hi rfl (by omega) rfl;rw[Nat.mul_one,Nat.add_zero]at h3;rw[h3]at h2;unfold OwnL;rw[List.length_set];exact h2
theorem Z6m{g:Nat}{F:Nat->Prop}{D:DiskD}(w:World)(h:DiskAt w g F D):
  cQ 160 #[tp g] w fun e w'=>e= .returned (.int .i64 (Z0v D).2)/\DiskAt w' g F (Z0v D).1/\Only F w w':=by
 have hr:=Y3t 0 w h;obtain⟨R,hR⟩:∃R,Z4j D 0=R:=⟨_,rfl⟩;rw[hR]at hr;have HH:=hD h;by_cases hR0:R=0
 ·subst hR0;obtain⟨bv,lv,h⟩:=h;have hu:=X9l w h;obtain⟨D1,u,hu1⟩:∃D1 u,useD D=(D1,u):=⟨_,_,rfl⟩;have hl1:D1.late=D.late:=by have:=Z6z D;rwa [hu1]at this
  have hb1:D1.blocks=D.blocks:=by have:=Z8y D;rwa [hu1]at this
  have HW:Hid (Z0v D=if u≠0 then(D1,u)else({ D1 with blocks:=layB D1.late D1.blocks,late:= []},0)):=by unfold Hid Z0v;rw[if_neg (by simp[hR]),hu1,hl1,hb1]
  rw[HW.out];rw[hu1]at hu;clear h hR hu1 HW hl1 hb1;by_cases hu0:u=0
  ·subst hu0;rw[if_neg (by simp)];go_enter Tryz.func160,Tryz.ntmps160;go_upto_region 5 with (first | (go_at_call 157;refine hr.mono ?_;clear hr;rintro e w1 ⟨rfl,rfl⟩) | (go_at_call 158;refine hu.mono ?_;clear hu;rintro e w1 ⟨rfl,h1,hb1⟩));obtain⟨b,c,rfl,hc1,hc2,hFb,hbl,_,_⟩:=h1.open;obtain⟨lA,lc,rfl,hl1,hl2,hlx⟩:=Y4e h1.late;have H1:=hD h1;have HL:=hD hlx;have HO:=hD hb1;have c0:w1.cell? ⟨g,0,none⟩=_:=h1.row.cell 0;have c1:w1.cell? ⟨g,1,none⟩=_:=h1.row.cell 1;have hgb:g≠b:=fun e=>H1.out.blocks.apartRow H1.out.row (by decide) (by rw[e];rfl);have hgl:=h1.row.lt;have h2:=h1.wf.many;clear h1 hlx hb1;go_wp2_with fail
   go_loopw [19] (fun i wr=>∃k:Nat,k<=D1.late.length/\i= .int .i64 k/\Only (fun i=>i=b) w1 wr/\OwnL wr 0 9 1 encS (.slice (some ⟨b,0,none⟩) D1.blocks.length c) (layB (D1.late.take k) D1.blocks)) (fun i _=>D1.late.length-(intOf i).toNat)
   case atStart=>exact⟨0,by omega,rfl,Only.refl,H1.out.blocks⟩
   case round=>
    obtain⟨k,hk,rfl,hx,ho⟩:=hrel;have HX:=hD hx;have HB:=hD ho;have hz:=hx.size;have d0:wr.cell? ⟨g,0,none⟩=_:=(hx.row H1.out.row hgb).cell 0;have d1:wr.cell? ⟨g,1,none⟩=_:=(hx.row H1.out.row hgb).cell 1;have f1:wr.frozen? ⟨g,1,none⟩=false:=(hx.row H1.out.row hgb).soft 1;clear hx ho;by_cases hkl:k<D1.late.length
    ·obtain⟨lb,rfl,_,hlb,_,hlc⟩:=HL.out (by omega);have hne:lb≠b:=fun e=>H1.out.late.apart H1.out.blocks (by decide) rfl (by rw[e];rfl);have d2:wr.cell? ⟨lb,k*2,none⟩=_:=(HX.out.cell hlb hne).trans (hlc k hkl).1;have d3:wr.cell? ⟨lb,k*2+1,none⟩=_:=(HX.out.cell hlb hne).trans (hlc k hkl).2;have hal:=(H1.out.wf.late _ (List.getElem_mem hkl)).1;have HS:=hD (V2i D1.late D1.blocks k hkl);obtain⟨a,ha⟩:∃a,D1.late[k].1=a:=⟨_,rfl⟩;obtain⟨t,ht⟩:∃t,D1.late[k].2=t:=⟨_,rfl⟩;have HS:Hid (layB (D1.late.take (k+1)) D1.blocks=(layB (D1.late.take k) D1.blocks).set a t):=by rw[<-ha,<-ht];exact HS.out
     rw[ha]at d2 hal;rw[ht]at d3;have fa:wr.frozen? ⟨b,a,none⟩=false:=by obtain⟨A,cc,he,_,_,hq⟩:=Z7i HB.out;injection he with e1 e2 e3;obtain⟨b2,e4,_,_,hf,_⟩:=hq (by rw[Z6j];omega);rw[e4]at e1;injection e1 with e1;injection e1 with e1;rw[e1];exact hf a
     have ca:∃v,wr.cell? ⟨b,a,none⟩=some (.string v):=by obtain⟨A,cc,he,_,_,hq⟩:=Z7i HB.out;injection he with e1 e2 e3;obtain⟨b2,e4,_,_,_,hf⟩:=hq (by rw[Z6j];omega);rw[e4]at e1;injection e1 with e1;injection e1 with e1;rw[e1];exact⟨_,hf a (by rw[Z6j];exact hal)⟩
     obtain⟨va,ca⟩:=ca;have hbw:b<wr.heap.size:=by omega
     have hgw:g<wr.heap.size:=by omega
     have hlw:lb<wr.heap.size:=by omega
     clear ha ht hlc c0 c1;go_upto_region 8 with fail
     go_big_region
     go_wp2_with fail
     go_roundw
     case rel=>
      refine⟨k+1,by omega,by go_num,by(repeat' (with_reducible first | exact HX.out | exact Only.refl | refine Only.drewN ?_ _ | refine Only.drew ?_ | refine Only.setCell ?_ ?_ _ | refine Only.alloc ?_ _))<;>(first | exact .inl rfl | (left;assumption) | (right;simp;done) | (right;simp;omega)),?_⟩;rw[HS.out];exact(V6v HB.out a (by rw[Z6j];exact hal) t).ext (by exact Xt)
     case measure=>simp[intOf];omega
    ·obtain rfl:k=D1.late.length:=by omega
     go_wp2_with fail;go_ret;rw[List.take_length]at HB;have hvb:(Value.slice (some ⟨b,0,none⟩) D1.blocks.length c).ownBlock=some b:=rfl;have hR:=HX.out.row H1.out.row hgb;refine⟨rfl,⟨_,_,hR.set 1 _,HB.out.only (Only.setCell (F:=fun i=>i=g) (p:=⟨g,1,none⟩) Only.refl (.inl rfl) _) (fun q hq e=>hgb (by injection hq with hq;rw[<-e,<-hq])),?_,H1.out.fg,H1.out.fb,(fun q hq=>by cases hq),⟨?_,?_,?_,(fun q hq=>by cases hq),H1.out.wf.fits⟩⟩,?_⟩
     ·exact OwnL.nil _ _ _ _ _
     ·rw[Z6j];exact H1.out.wf.one
     ·rw[Z6j];exact H1.out.wf.many
     ·exact V2j _ (fun p hp=>(H1.out.wf.late p hp).2) _ H1.out.wf.size
     ·exact((HO.out.mono (fun i q=> .inl (by rw[q];exact H1.out.fg))).trans HX.out (fun i q=> .inl (by rw[q];exact H1.out.fb b rfl))).setCell (.inl H1.out.fg) _
  ·rw[if_pos hu0];have q2:decide (u=0)=false:=decide_eq_false hu0;go_enter Tryz.func160,Tryz.ntmps160;go_wp2_with (first | (go_at_call 157;refine hr.mono ?_;clear hr;rintro e w1 ⟨rfl,rfl⟩) | (go_at_call 158;refine hu.mono ?_;clear hu;rintro e w1 ⟨rfl,h1,hb1⟩));go_ret;exact⟨rfl,⟨bv,lv,h1⟩,hb1.mono (fun i q=> .inl (by rw[q];exact h1.fg))⟩
 ·have hw:Z0v D=(D,R):=by unfold Z0v;rw[if_pos (by rw[hR];exact hR0),hR]
  rw[hw];have q1:decide (R=0)=false:=decide_eq_false hR0;clear hw h hR;go_enter Tryz.func160,Tryz.ntmps160;go_wp2_with (go_at_call 157;refine hr.mono ?_;clear hr;rintro e w1 ⟨rfl,rfl⟩);go_ret;exact⟨rfl,HH.out,Only.refl⟩
theorem Tryz.infoStr:(Tryz.prog.info? 9).map (fun i=>(i.zero,i.size,i.bytes))=some (some (.string ⟨#[]⟩),1,16):=by kernel_rfl
theorem elStr:Elem Tryz.prog 164 9 1 16:=Elem.of Tryz.underlying164 Tryz.infoStr rfl (by decide)
def newD(n:Nat):DiskD:=⟨List.replicate n zeroB,[],-1,false⟩
theorem X3d(n:Nat)(w:World)(h1:1<=n)(h2:n<=2048):
  cQ 55 #[.int .i64 n] w fun e w'=>∃g F,e= .returned (.tuple #[tp g,.int .i64 0])/\DiskAt w' g F (newD n)/\Ext w w'/\∀i,F i->w.heap.size<=i:=by
 have q1:decide ((n:Int)<1)=false:=aM;have q2:decide (2048<(n:Int))=false:=aM;go_enter Tryz.func55,Tryz.ntmps55;go_wp2_with (go_at_call 111;refine(X8z _).mono ?_;rintro e w1 ⟨rfl,hb1⟩);have HB1:=hD hb1;have hz1:=hb1.size;clear hb1
 go_loopw [15] (fun i wr=>∃(k:Nat) (bv:Value),k<=n/\i= .int .i64 k/\Row1 wr w1.heap.size 202 [bv,.slice none 0 0,.int .i64 (-1),.bool false,.string zeroB]/\OwnL wr w.heap.size 9 1 encS bv (List.replicate k zeroB)/\Ext w wr) (fun i _=>n-(intOf i).toNat)
 case atStart=>exact⟨0,_,by omega,rfl,Row1.made w1 _ _,OwnL.nil _ _ _ _ _,by exact Xx (HB1.out)⟩
 case round=>
  obtain⟨k,bv,hk,rfl,hr,ho,hx⟩:=hrel;have HR:=hD hr;have HO:=hD ho;have HX:=hD hx;obtain⟨A,c,rfl⟩:=ho.form;have hz:=hx.size;have hgl:=hr.lt;have c0:wr.cell? ⟨w1.heap.size,0,none⟩=_:=hr.cell 0;have c4:wr.cell? ⟨w1.heap.size,4,none⟩=_:=hr.cell 4;have f0:wr.frozen? ⟨w1.heap.size,0,none⟩=false:=hr.soft 0;generalize w1.heap.size=g at *;clear hr ho hx;by_cases hkl:k<n
  ·have hkr:(List.replicate k zeroB).length=k:=by simp
   rw[hkr]at c0 HO HR;have hlg:(Value.slice A k c).ownBlock≠some g:=HO.out.apartRow HR.out (by decide);have HRX:Hid (∀W,Ext wr W->Row1 W g 202 [.slice A k c,.slice none 0 0,.int .i64 (-1),.bool false,.string zeroB]):=fun W h=>HR.out.ext h HR.out.lt;go_upto_region 6 with fail;go_region_law (refine Z8f elStr Z0d Z1n rfl (.tmp 21) (.tmp 26) rfl (.slice A k c) (List.replicate k zeroB) rfl (HO.out.ext (by exact Xt)) (by simp;omega) _ 1 zeroB rfl (Row1.made' (by simp) _ (encS zeroB)) (by rw[hkr];omega) (by decide) ?_;intro A' c' w2 hown2 hgr hwh;have HR2:=Row1.grown (HRX.out _ (by exact Xt)) hgr (fun e=>hlg e.symm);have g1:w2.cell? ⟨g,0,none⟩=_:=HR2.cell 0;have f2:w2.frozen? ⟨g,0,none⟩=false:=HR2.soft 0)
   all_goals
    have hx2:Ext w w2:=OwnL.grown (HO.out.ext (by exact Xt)) (by exact Xx (HX.out)) hgr (aF _);have HX2:=hD hx2;have HR3:=hD HR2;rw[<-List.replicate_succ']at hown2;have HO2:=hD hown2;clear hx2 HR2 hown2;rw[List.length_replicate]at HO2;go_wp2_with fail
    go_roundw
    case rel=>exact⟨k+1,_,by omega,by go_num,HR3.out.set 0 _,HO2.out.only (Only.setCell (F:=fun i=>i=g) (p:=⟨g,0,none⟩) Only.refl (.inl rfl) _) (fun q hq e=>HO2.out.apartRow HR3.out (by decide) (by rw[hq,e])),by exact Xx (HX2.out)⟩
    case measure=>simp[intOf];omega
  ·obtain rfl:k=n:=by omega
   go_wp2_with fail
   go_ret2
   refine⟨g,fun i=>i=g\/(Value.slice A (List.replicate k zeroB).length c).ownBlock=some i,rfl,⟨_,_,HR.out,HO.out.lower (Nat.zero_le _),OwnL.nil _ _ _ _ _,.inl rfl,fun q hq=> .inr hq,(fun q hq=>by cases hq),⟨?_,?_,?_,(fun q hq=>by cases hq),?_⟩⟩,HX.out,?_⟩
   ·simpa [newD]using h1
   ·simpa [newD]using h2
   ·intro b hb;simp only[newD,List.mem_replicate]at hb;rw[hb.2];exact Z4q
   ·simp[newD]
   ·intro i hi;rcases hi with hi | hi
    ·rw[hi];exact hz1
    ·exact(HO.out.lt i hi).1
theorem DiskAt.shrink{w:World}{g:Nat}{F:Nat->Prop}{D:DiskD}(h:DiskAt w g F D):DiskAt w g (fun i=>F i/\i<w.heap.size) D:=by obtain⟨bv,lv,h⟩:=h;exact⟨bv,lv,⟨h.row,h.blocks,h.late,⟨h.fg,h.row.lt⟩,fun b hb=>⟨h.fb b hb,(h.blocks.lt b hb).2⟩,fun b hb=>⟨h.fl b hb,(h.late.lt b hb).2⟩,h.wf⟩⟩
theorem Keeps.shrink{F F' P:Nat->Prop}{w w':World}(h:Keeps F F' w w'):Keeps F (fun i=>F' i/\P i) w w':=⟨h.only,fun i q=>h.new i q.1⟩
theorem Keeps.widen{F F' G:Nat->Prop}{w w':World}(h:Keeps G F' w w')(hG:∀i,G i->F i):Keeps F F' w w':=⟨h.only.mono (fun i q=> .inl (hG i q)),fun i q=>by
 rcases h.new i q with q | q
 ·exact .inl (hG i q)
 ·exact .inr q⟩
def Z5z(h:HeadD):ByteArray:=bts (Z1g h++notL (Z1g h))
theorem Z8n(h:HeadD):(Z5z h).size=40:=by unfold Z5z;rw[Z0e,aA,Y8e,Y0g]
def putD(D:DiskD)(h:HeadD):DiskD×Int:=if(Z1d D (h.seq%2:Nat) (Z5z h)).2≠0 then Z1d D (h.seq%2:Nat) (Z5z h)else Z0v (Z1d D (h.seq%2:Nat) (Z5z h)).1
theorem V0w{g:Nat}{F:Nat->Prop}{D:DiskD}(h:HeadD)(w:World)(hd:DiskAt w g F D)(hh:HeadOk h)(hl:D.late.length+1<=1000000000):
  cQ 115 #[tp g,.agg #[.int .u64 h.seq,.int .i64 h.used,.int .i64 h.room,.int .i64 h.pages]] w fun e w'=>e= .returned (.int .i64 (putD D h).2)/\∃F',DiskAt w' g F' (putD D h).1/\Keeps F F' w w':=by
 obtain⟨D1,R,hR⟩:∃D1 R,Z1d D (h.seq%2:Nat) (Z5z h)=(D1,R):=⟨_,_,rfl⟩;have HP:Hid (putD D h=if R≠0 then(D1,R)else Z0v D1):=by unfold Hid putD;rw[hR]
 have HD:=hD hd.shrink;have cH:Hid (∀W,cQ 159 #[.agg #[.int .u64 h.seq,.int .i64 h.used,.int .i64 h.room,.int .i64 h.pages]] W fun e w'=>e= .returned (.string (Z5z h))/\Ext W w'):=fun W=>Y7d h W hh;have cW:Hid (∀W,Ext w W->cQ 114 #[tp g,.int .i64 (h.seq%2:Nat),.string (Z5z h)] W fun e w'=>e= .returned (.int .i64 R)/\∃F',DiskAt w' g F' D1/\Keeps (fun i=>F i/\i<w.heap.size) F' W w'):=fun W hW=>by have h1:=Z4p ((h.seq%2:Nat):Int) (Z5z h) W (HD.out.ext hW) hl;rw[hR]at h1;exact h1
 obtain⟨PD,PR,hPD⟩:∃PD PR,putD D h=(PD,PR):=⟨_,_,rfl⟩;rw[hPD]at HP ⊢;obtain⟨hb,hhb⟩:∃hb,Z5z h=hb:=⟨_,rfl⟩;rw[hhb]at cH cW;obtain⟨s1,s2,s3,s4⟩:=hh;obtain⟨sq,us,ro,pa⟩:=h;dsimp only at *;clear hR hPD hd hhb;obtain⟨m2,hm2⟩:∃m2,sq%2=m2:=⟨_,rfl⟩;have u1:(sq:Int).tmod 2=(m2:Int):=by rw[<-hm2,Int.tmod_eq_emod_of_nonneg (by omega)];omega
 have u2:IntKind.i64.wrap (m2:Int)=(m2:Int):=by rw[IntKind.wrap_i64];omega
 rw[hm2]at cW;clear hm2;obtain⟨W0,hW0⟩:∃W0,w.alloc (.cells #[.int .u64 sq,.int .i64 us,.int .i64 ro,.int .i64 pa] 207)=W0:=⟨_,rfl⟩;have HW0:Hid (Ext w W0/\Row1 W0 w.heap.size 207 [.int .u64 sq,.int .i64 us,.int .i64 ro,.int .i64 pa]/\W0.heap.size=w.heap.size+1):=by subst hW0;exact⟨by exact Xt,Row1.made _ _ _,by simp⟩
 have HKS:Hid (∀W,Only (fun i=>F i/\i<w.heap.size) W0 W->W.cell? ⟨w.heap.size,0,none⟩=some (.int .u64 sq)/\W.cell? ⟨w.heap.size,1,none⟩=some (.int .i64 us)/\W.cell? ⟨w.heap.size,2,none⟩=some (.int .i64 ro)/\W.cell? ⟨w.heap.size,3,none⟩=some (.int .i64 pa)):=fun W hW=>by have hr:=hW.row HW0.out.2.1 (fun q=>by have:=q.2;omega);exact⟨hr.cell 0,hr.cell 1,hr.cell 2,hr.cell 3⟩
 go_enter Tryz.func115,Tryz.ntmps115;go_upto_region 1 with fail;clear hW0;refine wp_region_held_drew (S:=fun W=>W.cell? ⟨w.heap.size,0,none⟩=some (.int .u64 sq)/\W.cell? ⟨w.heap.size,1,none⟩=some (.int .i64 us)/\W.cell? ⟨w.heap.size,2,none⟩=some (.int .i64 ro)/\W.cell? ⟨w.heap.size,3,none⟩=some (.int .i64 pa)) (by kernel_rfl) (HKS.out _ (Only.of (by exact Xt))) (fun hHeld=> ?_);refine' tk 0 ?_;refine' tk 1 ?_;refine' tk 2 ?_;refine' tk 3 ?_;refine' tk 4 ?_;refine' tk 5 ?_;refine stp 6 (fun K hK=> ?_);go_simp;refine(cH.out _).mono ?_;rintro e w1 ⟨rfl,hb1⟩;have HB1:Hid (Ext W0 w1):=Ext.trans (by exact Xt) hb1;have HB:Hid (Only (fun i=>F i/\i<w.heap.size) W0 w1):=Only.of HB1.out;clear hb1
 (try dsimp only)
 (try go_simp)
 refine hK.out _ _ (HKS.out _ HB.out) (fun hHeld=> ?_);clear hK K;refine pt ?_;refine stp 7 (fun K hK=> ?_);go_simp;refine(cW.out _ (Ext.trans HW0.out.1 HB1.out)).mono ?_;rintro e w2 ⟨rfl,F2,hd2,hk2⟩;have HB:Hid (Only (fun i=>F i/\i<w.heap.size) W0 w2):=(Only.of HB1.out).trans' hk2.only;have HK2:Hid (Keeps (fun i=>F i/\i<w.heap.size) F2 w w2):=Keeps.trans (Keeps.of (Ext.trans HW0.out.1 HB1.out)) hk2;have HD2:=hD hd2;clear hd2 hk2
 (try dsimp only)
 (try go_simp)
 refine hK.out _ _ (HKS.out _ HB.out) (fun hHeld=> ?_);clear hK K;refine pt ?_;refine' tk 8 ?_;refine wpAnyH_done (by kernel_rfl) ?_ _;by_cases hR0:R=0
 ·subst hR0;rw[if_neg (by simp)]at HP;have cF:=Z6m w2 HD2.out;rw[<-HP.out]at cF;go_wp2_with (go_at_call 160;refine cF.mono ?_;clear cF;rintro e w3 ⟨rfl,hd3,hk3⟩);go_ret;exact⟨rfl,F2,hd3,Keeps.widen (Keeps.trans HK2.out ⟨hk3,fun _ q=> .inl q⟩) (fun i q=>q.1)⟩
 ·have q1:¬R=0:=hR0;rw[if_pos hR0]at HP;have HP1:PD=D1/\PR=R:=by have:=HP.out;simpa using this
  obtain⟨rfl,rfl⟩:=HP1;have q2:(PR !=0)=true:=by simpa using hR0
  have q3:decide (PR=0)=false:=decide_eq_false hR0;go_wp2_with fail;go_ret;exact⟨rfl,F2,HD2.out,Keeps.widen HK2.out (fun i q=>q.1)⟩
def fmtD(n room pages:Nat):DiskD:=⟨(List.replicate n zeroB).set 1 zeroB |>.set 0 (padB (Z5z ⟨2,0,room,pages⟩)),[],-1,false⟩
theorem Y1h(n:Nat)(late:List (Nat×ByteArray))(bl:List ByteArray)(k:Int)(h0:0<=k)(h1:k<bl.length):Z4j ⟨bl,late,-1,false⟩ k=0:=by unfold Z4j;rw[if_neg (by simp),if_neg (by dsimp only;omega)]
theorem Y7i(late:List (Nat×ByteArray))(bl:List ByteArray):useD ⟨bl,late,-1,false⟩=(⟨bl,late,-1,false⟩,0):=by unfold useD;rw[if_neg (by simp),if_neg (by simp)]
theorem V6p(n:Nat):(⟨#[]⟩:ByteArray)++(⟨Array.replicate n 0⟩:ByteArray).extract (⟨#[]⟩:ByteArray).size n=⟨Array.replicate n 0⟩:=by rw[ByteArray.ext_iff,ByteArray.data_append,ByteArray.data_extract];simp[ByteArray.size]
theorem Y1l:padB ⟨#[]⟩=zeroB:=V6p 256
theorem X8f{g:Nat}{F:Nat->Prop}(n room pg:Nat)(w:World)(hd:DiskAt w g F (newD n))(hn:n<=2048)(hr1:1<=room)(hr2:room+3<=n)(hpg:pg=min (n-2-room) 1024):
  cQ 56 #[tp g,.int .i64 room] w fun e w'=>e= .returned (.int .i64 0)/\∃F',DiskAt w' g F' (fmtD n room pg)/\Keeps F F' w w':=by
 have hln:(newD n).blocks.length=n:=by simp[newD]
 have cL:=Y4w w hd;rw[hln]at cL;have cR:=Z9h 0 w hd rfl (by rw[hln];omega);have HD:=hD hd.shrink;have HW:Hid (Z1d (newD n) 1 ⟨#[]⟩=(⟨List.replicate n zeroB,[(1,zeroB)],-1,false⟩,0)):=by unfold Hid Z1d newD;rw[Y1h n _ _ _ (by omega) (by simp;omega),if_neg (by simp),if_neg (by simp[ByteArray.size]),Y7i,if_neg (by simp)];rw[Y1l];rfl
 have cW:Hid (∀W,Ext w W->cQ 114 #[tp g,.int .i64 1,.string ⟨#[]⟩] W fun e w'=>e= .returned (.int .i64 0)/\∃F',DiskAt w' g F' ⟨List.replicate n zeroB,[(1,zeroB)],-1,false⟩/\Keeps F F' W w'):=fun W hW=>by have h1:=Z4p 1 ⟨#[]⟩ W (hd.ext hW) (by simp[newD]);rw[HW.out]at h1;exact h1
 have HP:Hid (putD ⟨List.replicate n zeroB,[(1,zeroB)],-1,false⟩ ⟨2,0,room,pg⟩=(fmtD n room pg,0)):=by
  unfold Hid putD;have e1:Z1d ⟨List.replicate n zeroB,[(1,zeroB)],-1,false⟩ ((2%2:Nat):Int) (Z5z ⟨2,0,room,pg⟩)=(⟨List.replicate n zeroB,[(1,zeroB),(0,padB (Z5z ⟨2,0,room,pg⟩))],-1,false⟩,0):=by unfold Z1d;rw[Y1h n _ _ _ (by omega) (by simp;omega),if_neg (by simp),if_neg (by rw[Z8n];omega),Y7i,if_neg (by simp)];rfl
  dsimp only;rw[e1];rw[if_neg (by simp)];unfold Z0v;rw[Y1h n _ _ _ (by omega) (by simp;omega),if_neg (by simp),Y7i,if_neg (by simp)];rfl
 obtain⟨V,hV,hmin⟩:∃V:Int,V=pg/\((1024:Int)<(n:Int)-2-room/\V=1024\/¬(1024:Int)<(n:Int)-2-room/\V=(n:Int)-2-room):=⟨pg,rfl,by omega⟩;have cP:Hid (∀(W:World) (F1:Nat->Prop),DiskAt W g F1 ⟨List.replicate n zeroB,[(1,zeroB)],-1,false⟩->cQ 115 #[tp g,.agg #[.int .u64 2,.int .i64 0,.int .i64 room,.int .i64 V]] W fun e w'=>e= .returned (.int .i64 0)/\∃F',DiskAt w' g F' (fmtD n room pg)/\Keeps F1 F' W w'):=fun W F1 hW=>by have h1:=V0w ⟨2,0,room,pg⟩ W hW ⟨by dsimp only;omega,by dsimp only;omega,by dsimp only;omega,by dsimp only;omega⟩ (by simp);rw[HP.out]at h1;rw[hV];exact h1
 obtain⟨FD,hFD⟩:∃FD,fmtD n room pg=FD:=⟨_,rfl⟩;rw[hFD]at cP ⊢;have q1:decide ((room:Int)<1)=false:=aM;have q2:decide ((n:Int)<room)=false:=aM;have q3:decide ((n:Int)-2-room<1)=false:=aM;obtain⟨bx,hbx⟩:∃bx,Z0x (newD n) 0=bx:=⟨_,rfl⟩;rw[hbx]at cR;clear hbx hFD hd hln HW HP hV hpg;rcases hmin with ⟨q4,rfl⟩ | ⟨q4,rfl⟩<;>(
  go_enter Tryz.func56,Tryz.ntmps56;go_wp2_with (first
   | (go_at_call 112;refine cL.mono ?_;clear cL;rintro e w1 ⟨rfl,rfl⟩)
   | (go_at_call 113;refine cR.mono ?_;clear cR;rintro e w1 ⟨rfl,hb1⟩)
   | (go_at_call 114;refine(cW.out _ hb1).mono ?_;rintro e w2 ⟨rfl,F2,hd2,hk2⟩)
   | (go_at_call 115;refine(cP.out _ _ hd2).mono ?_;rintro e w3 ⟨rfl,F3,hd3,hk3⟩))
  go_ret;exact⟨rfl,F3,hd3,Keeps.trans (Keeps.trans (Keeps.of hb1) hk2) hk3⟩)
def zeroH:HeadD:=⟨0,0,0,0⟩
structure FitsH (N:Nat) (h:HeadD):Prop where
 ok:HeadOk h
 room:1<=h.room
 pages:1<=h.pages
 most:h.pages<=1024
 used:h.used<=h.room
 fits:2+h.room+h.pages<=N
def X6d(N:Nat)(b:ByteArray):Prop:=Z4l b=(zeroH,false)\/∃h,Z4l b=(h,true)/\FitsH N h
def Z3u(D:DiskD):Nat->HeadD×Bool
 | 0=>(zeroH,false)
 | k+1=>if(Z4l (Z0x D k)).2=true/\(Z3u D k).1.seq<(Z4l (Z0x D k)).1.seq/\(Z4l (Z0x D k)).1.seq%2=k then((Z4l (Z0x D k)).1,true)else Z3u D k
theorem Y8w(D:DiskD)(jH:∀i,i<2->X6d D.blocks.length (Z0x D i)):∀k,k<=2->HeadOk (Z3u D k).1/\((Z3u D k).2=true->FitsH D.blocks.length (Z3u D k).1)
 | 0,_=>⟨⟨by simp[Z3u,zeroH],by simp[Z3u,zeroH],by simp[Z3u,zeroH],by simp[Z3u,zeroH]⟩,fun h=>by cases h⟩
 | k+1,hk=>by
   have ih:=Y8w D jH k (by omega);unfold Z3u;split
   ·rename_i hc
    rcases jH k (by omega)with h | ⟨h,h1,h2⟩
    ·rw[h]at hc;exact absurd hc.1 (by simp)
    ·rw[h1];exact⟨h2.ok,fun _=>h2⟩
   ·exact ih
def Y1o(D:DiskD):HeadD×Bool:=Z3u D 2
def Y4j(D:DiskD):Int:=if(Y1o D).2=true then 0 else 14
theorem X7o{g:Nat}{F:Nat->Prop}{D:DiskD}(w:World)(h:DiskAt w g F D)(hd:D.dead=false)(hN:2<=D.blocks.length)(jH:∀i,i<2->X6d D.blocks.length (Z0x D i))(hsz:∀i,(Z0x D i).size=256):
  cQ 116 #[tp g] w fun e w'=>e= .returned (.tuple #[(Y1o D).1.val,.int .i64 (Y4j D)])/\Ext w w':=by
 have cR:Hid (∀(k:Nat) W,k<2->Ext w W->cQ 113 #[tp g,.int .i64 k] W fun e w'=>e= .returned (.tuple #[.string (Z0x D k),.int .i64 0])/\Ext W w'):=fun k W hk hW=>Z9h k W (h.ext hW) hd (by omega);have cH:Hid (∀(b:ByteArray) W,b.size=256->cQ 161 #[.string b] W fun e w'=>e= .returned (.tuple #[(Z4l b).1.val,.bool (Z4l b).2])/\Ext W w'):=fun b W hb=>Y9y b W (by omega) (by omega);have cL:Hid (∀W,Ext w W->cQ 112 #[tp g] W fun e w'=>e= .returned (.int .i64 D.blocks.length)/\W=w'):=fun W hW=>Y4w W (h.ext hW);have HSZ:=hD hsz;have HB:=hD (Y8w D jH);have HD:=hD jH;have HN:=hD h.wf.many;clear h hd hsz jH;go_enter Tryz.func116,Tryz.ntmps116;go_wp2_with fail
 go_loopw [12,5] (fun i fd wr=>∃k:Nat,k<=2/\i= .int .i64 k/\fd= .bool (Z3u D k).2/\Row1 wr w.heap.size 207 zeroH.cells/\Row1 wr (w.heap.size+1) 207 (Z3u D k).1.cells/\Ext w wr) (fun i _ _=>2-(intOf i).toNat)
 case atStart=>exact⟨0,by omega,rfl,rfl,(Row1.made w _ zeroH.cells).alloc _,Row1.made' (by simp) _ zeroH.cells,by exact Xt⟩
 case round=>
  obtain⟨k,hk,rfl,rfl,hr0,hr1,hx⟩:=hrel;have HX:=hD hx;have hz:=hx.size;have HR0:=hD hr0;have HR1:=hD hr1;clear hx hr0 hr1;by_cases hkl:k<2
  ·have q1:decide ((k:Int)<2)=true:=aN;obtain⟨bk,hbk⟩:∃bk,Z0x D k=bk:=⟨_,rfl⟩;have HSK:Hid (bk.size=256):=by unfold Hid;rw[<-hbk];exact HSZ.out k
   have cR2:Hid (∀W,Ext w W->cQ 113 #[tp g,.int .i64 k] W fun e w'=>e= .returned (.tuple #[.string bk,.int .i64 0])/\Ext W w'):=fun W hW=>by rw[<-hbk];exact cR.out k W hkl hW
   have HS:Hid (Z3u D (k+1)=if(Z4l bk).2=true/\(Z3u D k).1.seq<(Z4l bk).1.seq/\(Z4l bk).1.seq%2=k then((Z4l bk).1,true)else Z3u D k):=by unfold Hid;rw[<-hbk];rfl
   have HDK:=HD.out k hkl;rw[hbk]at HDK;clear hbk;rcases HDK with hv | ⟨h,hv,hfit⟩
   ·have HS1:Hid (Z3u D (k+1)=Z3u D k):=by unfold Hid;rw[HS.out,hv,if_neg (by simp)]
    have cH2:Hid (∀W,cQ 161 #[.string bk] W fun e w'=>e= .returned (.tuple #[.agg #[.int .u64 0,.int .i64 0,.int .i64 0,.int .i64 0],.bool false])/\Ext W w'):=fun W=>by have h1:=cH.out bk W HSK.out;rw[hv]at h1;exact h1
    clear hv HS;go_upto_region 11 with (first | (go_at_call 113;refine(cR2.out _ HX.out).mono ?_;rintro e w1 ⟨rfl,hb1⟩;have HB1:=hD (Ext.trans HX.out hb1);have HB1r:=hD hb1;clear hb1) | (go_at_call 161;refine(cH2.out _).mono ?_;rintro e w2 ⟨rfl,hb2⟩;have HB2:=hD (Ext.trans HB1.out hb2);have HBR:=hD (Ext.trans HB1r.out hb2);clear hb2));have HKS:Hid (∀W,Ext (w2.alloc (.cells #[.int .u64 0,.int .i64 0,.int .i64 0,.int .i64 0] 207)) W->W.cell? ⟨w2.heap.size,2,none⟩=some (.int .i64 0)/\W.cell? ⟨w2.heap.size,3,none⟩=some (.int .i64 0)):=fun W hW=>by have hr:=(Row1.made w2 207 zeroH.cells).ext hW (by simp);exact⟨hr.cell 2,hr.cell 3⟩
    refine wp_region_held_drew (S:=fun W=>W.cell? ⟨w2.heap.size,2,none⟩=some (.int .i64 0)/\W.cell? ⟨w2.heap.size,3,none⟩=some (.int .i64 0)) (by kernel_rfl) (HKS.out _ (by exact Xt)) (fun hHeld=> ?_);refine' tk 0 ?_;refine' tk 1 ?_;refine' tk 2 ?_;refine' tk 3 ?_;refine' tkn 4 ?_;refine' tkn 5 ?_;refine' tkn 6 ?_;refine' tk 7 ?_;refine' tk 8 ?_;refine' tkn 9 ?_;refine' tkn 10 ?_;refine' tkn 11 ?_;refine' tk 12 ?_;refine' tk 13 ?_;refine' tkn 14 ?_;refine' tkn 15 ?_;refine' tkn 16 ?_;refine' tkn 17 ?_;refine' tkn 18 ?_;refine' tk 19 ?_;refine' tk 20 ?_;refine' tkn 21 ?_;refine' tkn 22 ?_;refine' tkn 23 ?_;refine' tkn 24 ?_;refine' tkn 25 ?_;refine' tk 26 ?_;refine' tk 27 ?_;refine' tkn 28 ?_;refine' tkn 29 ?_;refine' tkn 30 ?_;refine' tkn 31 ?_;refine' tkn 32 ?_;refine' tkn 33 ?_;refine' tkn 34 ?_;refine' tkn 35 ?_;refine' tkn 36 ?_;refine' tk 37 ?_;refine' tk 38 ?_;refine wpAnyH_done (by kernel_rfl) ?_ _;go_wp2_with fail
    go_roundw
    case rel=>exact⟨k+1,by omega,by go_num,by rw[HS1.out],HR0.out.ext (Ext.trans HBR.out (by exact Xt)) HR0.out.lt,by rw[HS1.out];exact HR1.out.ext (Ext.trans HBR.out (by exact Xt)) HR1.out.lt,Ext.trans HB2.out (by exact Xt)⟩
    case measure=>simp[intOf];omega
   ·obtain⟨h1,h2,h3,h4⟩:=hfit.ok;obtain⟨s,us,ro,pa⟩:=h;have h5:=hfit.room;have h6:=hfit.pages;have h7:=hfit.most;have h8:=hfit.used;have h9:=hfit.fits;dsimp only at h1 h2 h3 h4 h5 h6 h7 h8 h9;have cH2:Hid (∀W,cQ 161 #[.string bk] W fun e w'=>e= .returned (.tuple #[.agg #[.int .u64 s,.int .i64 us,.int .i64 ro,.int .i64 pa],.bool true])/\Ext W w'):=fun W=>by have h1:=cH.out bk W HSK.out;rw[hv]at h1;exact h1
    have HS1:Hid (Z3u D (k+1)=if(Z3u D k).1.seq<s/\s%2=k then(⟨s,us,ro,pa⟩,true)else Z3u D k):=by unfold Hid;rw[HS.out,hv];simp
    clear hv HS;go_upto_region 11 with (first | (go_at_call 113;refine(cR2.out _ HX.out).mono ?_;rintro e w1 ⟨rfl,hb1⟩;have HB1:=hD (Ext.trans HX.out hb1);have HB1r:=hD hb1;clear hb1) | (go_at_call 161;refine(cH2.out _).mono ?_;rintro e w2 ⟨rfl,hb2⟩;have HB2:=hD (Ext.trans HB1.out hb2);have HBR:=hD (Ext.trans HB1r.out hb2);clear hb2));have HKS:Hid (∀W,Ext (w2.alloc (.cells #[.int .u64 s,.int .i64 us,.int .i64 ro,.int .i64 pa] 207)) W->W.cell? ⟨w2.heap.size,0,none⟩=some (.int .u64 s)/\W.cell? ⟨w2.heap.size,1,none⟩=some (.int .i64 us)/\W.cell? ⟨w2.heap.size,2,none⟩=some (.int .i64 ro)/\W.cell? ⟨w2.heap.size,3,none⟩=some (.int .i64 pa)):=fun W hW=>by have hr:=(Row1.made w2 207 [.int .u64 s,.int .i64 us,.int .i64 ro,.int .i64 pa]).ext hW (by simp);exact⟨hr.cell 0,hr.cell 1,hr.cell 2,hr.cell 3⟩
    have p1:decide (1<=(ro:Int))=true:=aN;have p2:decide (1<=(pa:Int))=true:=aN;have p3:decide ((pa:Int)<=1024)=true:=aN;have p4:decide ((us:Int)<=ro)=true:=aN;have p5:decide ((ro:Int)<=D.blocks.length)=true:=aN;have p5':decide (ro<=D.blocks.length)=true:=aN;have p6:decide ((2:Int)+ro+pa<=D.blocks.length)=true:=aN;refine wp_region_held_drew (S:=fun W=>W.cell? ⟨w2.heap.size,0,none⟩=some (.int .u64 s)/\W.cell? ⟨w2.heap.size,1,none⟩=some (.int .i64 us)/\W.cell? ⟨w2.heap.size,2,none⟩=some (.int .i64 ro)/\W.cell? ⟨w2.heap.size,3,none⟩=some (.int .i64 pa)) (by kernel_rfl) (HKS.out _ (by exact Xt)) (fun hHeld=> ?_);refine' tk 0 ?_;refine' tk 1 ?_;refine' tk 2 ?_;refine' tk 3 ?_;refine' tk 4 ?_;refine' tk 5 ?_;refine' tk 6 ?_;refine' tk 7 ?_;refine' tk 8 ?_;refine' tk 9 ?_;refine' tk 10 ?_;refine' tk 11 ?_;refine' tk 12 ?_;refine' tk 13 ?_;refine' tk 14 ?_;refine' tk 15 ?_;refine' tk 16 ?_;refine' tk 17 ?_;refine' tk 18 ?_;refine' tk 19 ?_;refine' tk 20 ?_;refine' tk 21 ?_;refine' tk 22 ?_;refine' tk 23 ?_;refine stp 24 (fun K hK=> ?_);go_simp;refine(cL.out _ (Ext.trans HB2.out (by exact Xt))).mono ?_;rintro e w3 ⟨rfl,rfl⟩
    (try dsimp only)
    (try go_simp)
    refine hK.out _ _ (HKS.out _ (by exact Xt)) (fun hHeld=> ?_);clear hK K;refine pt ?_;refine' tk 25 ?_;refine' tk 26 ?_;refine' tk 27 ?_;refine' tk 28 ?_;refine' tk 29 ?_;refine' tk 30 ?_;refine' tk 31 ?_;refine' tk 32 ?_;refine' tk 33 ?_;refine' tk 34 ?_;refine stp 35 (fun K hK=> ?_);go_simp;refine(cL.out _ (Ext.trans HB2.out (by exact Xt))).mono ?_;rintro e w3 ⟨rfl,rfl⟩
    (try dsimp only)
    (try go_simp)
    refine hK.out _ _ (HKS.out _ (by exact Xt)) (fun hHeld=> ?_);clear hK K;refine pt ?_;refine' tk 36 ?_;refine' tk 37 ?_;refine' tk 38 ?_;refine wpAnyH_done (by kernel_rfl) ?_ _;obtain⟨wz,hwz⟩:∃wz,(w2.alloc (.cells #[.int .u64 s,.int .i64 us,.int .i64 ro,.int .i64 pa] 207)).drew=wz:=⟨_,rfl⟩;rw[hwz];have HZ:Hid (Ext w2 wz/\Row1 wz w2.heap.size 207 [.int .u64 s,.int .i64 us,.int .i64 ro,.int .i64 pa]):=by subst hwz;exact⟨by exact Xt,(Row1.made w2 207 [.int .u64 s,.int .i64 us,.int .i64 ro,.int .i64 pa])⟩
    have HXZ:Hid (Ext w wz/\Ext wr wz):=⟨Ext.trans HB2.out HZ.out.1,Ext.trans HBR.out HZ.out.1⟩;have HB1':=hD (HR1.out.ext HXZ.out.2 HR1.out.lt);have HB0':=hD (HR0.out.ext HXZ.out.2 HR0.out.lt);have d0:wz.cell? ⟨w2.heap.size,0,none⟩=some (.int .u64 s):=HZ.out.2.cell 0;have d1:wz.cell? ⟨w2.heap.size,1,none⟩=some (.int .i64 us):=HZ.out.2.cell 1;have d2:wz.cell? ⟨w2.heap.size,2,none⟩=some (.int .i64 ro):=HZ.out.2.cell 2;have d3:wz.cell? ⟨w2.heap.size,3,none⟩=some (.int .i64 pa):=HZ.out.2.cell 3;have g0:wz.frozen? ⟨w.heap.size+1,0,none⟩=false:=HB1'.out.soft 0;have g1:wz.frozen? ⟨w.heap.size+1,1,none⟩=false:=HB1'.out.soft 1;have g2:wz.frozen? ⟨w.heap.size+1,2,none⟩=false:=HB1'.out.soft 2;have g3:wz.frozen? ⟨w.heap.size+1,3,none⟩=false:=HB1'.out.soft 3;obtain⟨⟨bs,b1,b2,b3⟩,hbs⟩:∃bs,(Z3u D k).1=bs:=⟨_,rfl⟩;rw[hbs]at HB1' HS1;have e0:wz.cell? ⟨w.heap.size+1,0,none⟩=some (.int .u64 bs):=HB1'.out.cell 0;have e1:wz.cell? ⟨w.heap.size+1,1,none⟩=some (.int .i64 b1):=HB1'.out.cell 1;have e2:wz.cell? ⟨w.heap.size+1,2,none⟩=some (.int .i64 b2):=HB1'.out.cell 2;have e3:wz.cell? ⟨w.heap.size+1,3,none⟩=some (.int .i64 b3):=HB1'.out.cell 3;have HBS:=hD hbs;dsimp only at HS1;clear hwz hbs hHeld;have u1:(s:Int).tmod 2=((s%2:Nat):Int):=by rw[Int.tmod_eq_emod_of_nonneg (by omega)];omega
    obtain⟨m2,hm2⟩:∃m2,s%2=m2:=⟨_,rfl⟩;have hm3:m2<2:=by omega
    rw[hm2]at u1 HS1;clear hm2;by_cases c1:bs<s
    ·have q2:decide ((bs:Int)<s)=true:=aN;have q2':decide (bs<s)=true:=aN;by_cases c2:m2=k
     ·subst c2;rw[if_pos ⟨c1,rfl⟩]at HS1;have q3:decide ((m2:Int)=m2)=true:=decide_eq_true rfl;go_wp2_with fail
      go_roundw
      case rel=>
       have hne:w.heap.size+1≠w.heap.size:=by omega
       refine⟨m2+1,by omega,by go_num,by rw[HS1.out],?_,?_,?_⟩
       ·exact(((HB0'.out.setFar (by simp) _).setFar (by simp) _).setFar (by simp) _).setFar (by simp) _
       ·rw[HS1.out];exact(((HB1'.out.set 0 _).set 1 _).set 2 _).set 3 _
       ·have:=HXZ.out.1;exact Xx (HXZ.out.1)
      case measure=>simp[intOf];omega
     ·have q3:decide ((m2:Int)=k)=false:=aM;have q3':((m2:Int)==k)=false:=by simp;omega
      rw[if_neg (fun h=>c2 h.2)]at HS1;go_wp2_with fail
      go_roundw
      case rel=>exact⟨k+1,by omega,by go_num,by rw[HS1.out],HB0'.out,by rw[HS1.out,HBS.out];exact HB1'.out,HXZ.out.1⟩
      case measure=>simp[intOf];omega
    ·have q2:decide ((bs:Int)<s)=false:=aM;have q2':decide (bs<s)=false:=aM;rw[if_neg (fun h=>c1 h.1)]at HS1;go_wp2_with fail
     go_roundw
     case rel=>exact⟨k+1,by omega,by go_num,by rw[HS1.out],HB0'.out,by rw[HS1.out,HBS.out];exact HB1'.out,HXZ.out.1⟩
     case measure=>simp[intOf];omega
  ·obtain rfl:k=2:=by omega
   have z0:wr.cell? ⟨w.heap.size,0,none⟩=some (.int .u64 0):=HR0.out.cell 0;have z1:wr.cell? ⟨w.heap.size,1,none⟩=some (.int .i64 0):=HR0.out.cell 1;have z2:wr.cell? ⟨w.heap.size,2,none⟩=some (.int .i64 0):=HR0.out.cell 2;have z3:wr.cell? ⟨w.heap.size,3,none⟩=some (.int .i64 0):=HR0.out.cell 3;have f0:wr.frozen? ⟨w.heap.size,0,none⟩=false:=HR0.out.soft 0;have f1:wr.frozen? ⟨w.heap.size,1,none⟩=false:=HR0.out.soft 1;have f2:wr.frozen? ⟨w.heap.size,2,none⟩=false:=HR0.out.soft 2;have f3:wr.frozen? ⟨w.heap.size,3,none⟩=false:=HR0.out.soft 3;obtain⟨bh,bf,hbb⟩:∃bh bf,Z3u D 2=(bh,bf):=⟨_,_,rfl⟩;have HQ:Hid (Y1o D=(bh,bf)):=hbb;have HE:Hid (Y4j D=if bf=true then 0 else 14):=by unfold Hid Y4j;rw[HQ.out]
   have HRQ:Hid (Row1 wr (w.heap.size+1) 207 bh.cells):=by have:=HR1.out;rw[hbb]at this;exact this
   obtain⟨s,us,ro,pa⟩:=bh;have m0:wr.cell? ⟨w.heap.size+1,0,none⟩=some (.int .u64 s):=HRQ.out.cell 0;have m1:wr.cell? ⟨w.heap.size+1,1,none⟩=some (.int .i64 us):=HRQ.out.cell 1;have m2:wr.cell? ⟨w.heap.size+1,2,none⟩=some (.int .i64 ro):=HRQ.out.cell 2;have m3:wr.cell? ⟨w.heap.size+1,3,none⟩=some (.int .i64 pa):=HRQ.out.cell 3;rw[hbb];clear hbb;cases bf
   ·go_wp2_with fail;refine bodyPost_ret (Y2s rfl _ _ w.heap.size ⟨s,us,ro,pa⟩ _ rfl rfl ((((HR0.out.set 0 _).set 1 _).set 2 _).set 3 _)) rfl ?_;rw[HE.out,HQ.out];exact⟨rfl,by exact Xx (HX.out)⟩
   ·go_wp2_with fail;refine bodyPost_ret (Y2s rfl _ _ w.heap.size ⟨s,us,ro,pa⟩ _ rfl rfl ((((HR0.out.set 0 _).set 1 _).set 2 _).set 3 _)) rfl ?_;rw[HE.out,HQ.out];exact⟨rfl,by exact Xx (HX.out)⟩
structure StoreD where
 disk:DiskD
 head:HeadD
 dirty:Int->Option ByteArray
 dead:Bool
structure StoreWf (S:StoreD):Prop where
 fits:FitsH S.disk.blocks.length S.head
 dirty:∀x b,S.dirty x=some b->0<=x/\x<S.head.pages/\b.size=256
theorem StoreWf.small{S:StoreD}(h:StoreWf S):Small 1024 S.dirty:=fun x hx=>by obtain⟨b,hb⟩:=Option.isSome_iff_exists.1 hx;have h1:=h.dirty x b hb;have h2:=h.fits.most;omega
def encB(b:ByteArray):Value:= .string b
structure StoreAs (w:World) (s:Nat) (F:Nat->Prop) (S:StoreD) (g m:Nat):Prop where
 row:Row1 w s 212 [tp g,.int .u64 S.head.seq,.int .i64 S.head.used,.int .i64 S.head.room,.int .i64 S.head.pages,.map (some m),.bool S.dead]
 disk:DiskAt w g F S.disk
 map:MapI w 3 m 1024 encB S.dirty
 fs:F s
 fm:F m
 wf:StoreWf S
def StoreAt(w:World)(s:Nat)(F:Nat->Prop)(S:StoreD):Prop:=∃g m,StoreAs w s F S g m
section
variable {w w':World} {s:Nat} {F F' G:Nat->Prop} {S:StoreD} {g m:Nat}
theorem StoreAs.only(h:StoreAs w s F S g m)(hb:Only G w w')(hG:∀i,F i->¬G i):StoreAs w' s F S g m:=
 ⟨hb.row h.row (hG s h.fs),h.disk.only hb hG,hb.map h.map (hG m h.fm),h.fs,h.fm,h.wf⟩
theorem StoreAs.ext(h:StoreAs w s F S g m)(hb:Ext w w'):StoreAs w' s F S g m:=h.only (G:=fun _=>False) (Only.of hb) (fun _ _ q=>q)
theorem StoreAs.shrink(h:StoreAs w s F S g m):StoreAs w s (fun i=>F i/\i<w.heap.size) S g m:=⟨h.row,h.disk.shrink,h.map,⟨h.fs,h.row.lt⟩,⟨h.fm,h.map.lt⟩,h.wf⟩
theorem StoreAt.only(h:StoreAt w s F S)(hb:Only G w w')(hG:∀i,F i->¬G i):StoreAt w' s F S:=let ⟨_,_,h⟩:=h;⟨_,_,h.only hb hG⟩
theorem StoreAt.ext(h:StoreAt w s F S)(hb:Ext w w'):StoreAt w' s F S:=let ⟨_,_,h⟩:=h;⟨_,_,h.ext hb⟩
theorem StoreAt.shrink(h:StoreAt w s F S):StoreAt w s (fun i=>F i/\i<w.heap.size) S:=let ⟨_,_,h⟩:=h;⟨_,_,h.shrink⟩
theorem StoreAt.wf(h:StoreAt w s F S):StoreWf S:=let ⟨_,_,h⟩:=h;h.wf
end
theorem Y5g{D:DiskD}(h:DiskWf D)(n:Nat):(Z0x D n).size=256:=by
 unfold Z0x Z2z;have h0:(D.blocks[n]?.getD zeroB).size=256:=by
  cases hb:D.blocks[n]? with
  | none=>exact Z4q
  | some b=>exact h.size b (List.mem_of_getElem? hb)
 have hl:=h.late;generalize D.blocks[n]?.getD zeroB=s at h0;generalize D.late=l at hl
 induction l generalizing s with
 | nil=>exact h0
 | cons p r ih=>
   rw[List.foldl_cons];exact ih _ (by split;exact(hl p (by simp)).2;exact h0) (fun q hq=>hl q (by simp[hq]))
def Z1a(S:StoreD)(n:Nat):ByteArray:=(S.dirty n).getD (Z0x S.disk (2+S.head.room+n))
def Live(S:StoreD):Prop:=S.dead=false/\S.disk.dead=false
theorem X6k{w:World}{s:Nat}{F:Nat->Prop}{S:StoreD}(h:StoreAt w s F S)(n:Nat):(Z1a S n).size=256:=by
 obtain⟨g,m,h⟩:=h;unfold Z1a;cases hd:S.dirty n with
 | none=>exact Y5g h.disk.wf _
 | some b=>exact(h.wf.dirty _ _ hd).2.2
def Y9x(S:StoreD)(n:Int):Int:=if S.dead=true then 11 else if n<0\/(S.head.pages:Int)<=n then 10 else 0
theorem Y1g{s:Nat}{F:Nat->Prop}{S:StoreD}(n:Int)(w:World)(h:StoreAt w s F S):
  cQ 166 #[tp s,.int .i64 n] w fun e w'=>e= .returned (.int .i64 (Y9x S n))/\w=w':=by
 obtain⟨g,m,h⟩:=h;have c0:w.cell? ⟨s,0,none⟩=some (tp g):=h.row.cell 0;obtain⟨pa,hpa⟩:∃pa,S.head.pages=pa:=⟨_,rfl⟩;have c4:w.cell? ⟨s,4,none⟩=some (.int .i64 pa):=by rw[<-hpa];exact h.row.cell 4
 obtain⟨dd,hdd⟩:∃dd,S.dead=dd:=⟨_,rfl⟩;have c6:w.cell? ⟨s,6,none⟩=some (.bool dd):=by rw[<-hdd];exact h.row.cell 6
 have HR:Hid (Y9x S n=if dd=true then 11 else if n<0\/(pa:Int)<=n then 10 else 0):=by unfold Hid Y9x;rw[hpa,hdd]
 rw[HR.out];clear h hpa hdd HR;cases dd
 ·by_cases hn:n<0
  ·have q1:decide (n<0)=true:=decide_eq_true hn;go_enter Tryz.func166,Tryz.ntmps166;go_wp2_with fail;go_ret;exact⟨by simp[hn],rfl⟩
  ·have q1:decide (n<0)=false:=decide_eq_false hn;by_cases hm:(pa:Int)<=n
   ·have q2:decide ((pa:Int)<=n)=true:=decide_eq_true hm;go_enter Tryz.func166,Tryz.ntmps166;go_wp2_with fail;go_ret;exact⟨by simp[hm],rfl⟩
   ·have q2:decide ((pa:Int)<=n)=false:=decide_eq_false hm;go_enter Tryz.func166,Tryz.ntmps166;go_wp2_with fail;go_ret;exact⟨by simp[hn,hm],rfl⟩
 ·go_enter Tryz.func166,Tryz.ntmps166;go_wp2_with fail;go_ret;exact⟨by simp,rfl⟩
theorem Z5g{s:Nat}{F:Nat->Prop}{S:StoreD}(w:World)(h:StoreAt w s F S):
  cQ 96 #[tp s] w fun e w'=>e= .returned (.int .i64 S.head.pages)/\w=w':=by
 obtain⟨g,m,h⟩:=h;have c4:w.cell? ⟨s,4,none⟩=some (.int .i64 S.head.pages):=h.row.cell 4;clear h;go_enter Tryz.func96,Tryz.ntmps96;go_wp2_with fail;go_ret;exact⟨rfl,rfl⟩
theorem Y3u{S:StoreD}{n:Nat}(h1:S.dead=false)(h2:n<S.head.pages):Y9x S n=0:=by unfold Y9x;rw[h1,if_neg (by simp),if_neg (by omega)]
theorem Tryz.zeroStr(w:World):(zeroValue 9).run Tryz.prog w= .ok (.string ⟨#[]⟩) w:=by kernel_rfl
theorem U0c{n:Nat}(h:n<1000000):(Lit.int .i64 (n:Int)).wf=true:=by
 have e1:IntKind.i64.min= -9223372036854775808:=by decide
 have e2:IntKind.i64.max=9223372036854775807:=by decide
 simp only[Lit.wf,e1,e2,Bool.and_eq_true,decide_eq_true_eq];omega
theorem Z9s{s:Nat}{F:Nat->Prop}{S:StoreD}(n:Nat)(w:World)(h:StoreAt w s F S)(hL:Live S)(hn:n<S.head.pages):
  cQ 119 #[tp s,.int .i64 n] w fun e w'=>e= .returned (.tuple #[.string (Z1a S n),.int .i64 0])/\Ext w w':=by
 have hr:=Y1g (n:Int) w h;rw[Y3u hL.1 hn]at hr;obtain⟨g,m,h⟩:=h;have hm:=h.wf.fits.most;have hft:=h.wf.fits.fits;have hl:=(h.map.look (t:=210) (e:=9) Tryz.underlying3 Tryz.underlying210 (Tryz.zeroStr w) (U0c (n:=n) (by omega)));have c0:w.cell? ⟨s,0,none⟩=some (tp g):=h.row.cell 0;have c3:w.cell? ⟨s,3,none⟩=some (.int .i64 S.head.room):=h.row.cell 3;have c5:w.cell? ⟨s,5,none⟩=some (.map (some m)):=h.row.cell 5;have HV:Hid (Z1a S n=(S.dirty n).getD (Z0x S.disk (2+S.head.room+n))):=rfl;cases hd:S.dirty n with
 | some b=>
   rw[hd]at hl HV;simp only[Option.map_some,Option.getD_some,Option.isSome_some,encB]at hl HV;rw[HV.out];clear h hd HV;go_enter Tryz.func119,Tryz.ntmps119;go_wp2_with (go_at_call 166;refine hr.mono ?_;clear hr;rintro e w1 ⟨rfl,rfl⟩)
   go_ret2
   exact⟨rfl,Ext.refl _⟩
 | none=>
   rw[hd]at hl HV;simp only[Option.map_none,Option.getD_none,Option.isSome_none]at hl HV;rw[HV.out];have cR:Hid (∀W,Ext w W->cQ 113 #[tp g,.int .i64 ((2:Int)+S.head.room+n)] W fun e w'=>e= .returned (.tuple #[.string (Z0x S.disk (2+S.head.room+n)),.int .i64 0])/\Ext W w'):=fun W hW=>Z9h (2+S.head.room+n) W (h.disk.ext hW) hL.2 (by omega);have HKS:Hid (∀W,Ext w W->W.cell? ⟨s,0,none⟩=some (tp g)/\W.cell? ⟨s,3,none⟩=some (.int .i64 S.head.room)):=fun W hW=>⟨((h.ext hW).row).cell 0,((h.ext hW).row).cell 3⟩;obtain⟨ro,hro⟩:∃ro,S.head.room=ro:=⟨_,rfl⟩;rw[hro]at cR HKS c3 hft ⊢;obtain⟨bk,hbk⟩:∃bk,Z0x S.disk (2+ro+n)=bk:=⟨_,rfl⟩;rw[hbk]at cR ⊢;have hmany:=h.disk.wf.many;have hro2:(ro:Int)<2048:=by omega
   have hn2:(n:Int)<1024:=by omega
   have u1:IntKind.i64.wrap ((2:Int)+ro)=2+ro:=by rw[IntKind.wrap_i64];omega
   have u2:IntKind.i64.wrap ((2:Int)+ro+n)=2+ro+n:=by rw[IntKind.wrap_i64];omega
   clear h hd HV hro hbk;go_enter Tryz.func119,Tryz.ntmps119;go_upto_region 7 with (go_at_call 166;refine hr.mono ?_;clear hr;rintro e w1 ⟨rfl,rfl⟩);refine wp_region_held_drew (S:=fun W=>W.cell? ⟨s,0,none⟩=some (tp g)/\W.cell? ⟨s,3,none⟩=some (.int .i64 ro)) (by kernel_rfl) (HKS.out _ (by exact Xt)) (fun hHeld=> ?_);refine' tk 0 ?_;refine' tk 1 ?_;refine' tk 2 ?_;refine' tk 3 ?_;refine' tk 4 ?_;refine' tk 5 ?_;refine' tk 6 ?_;refine' tk 7 ?_;refine' tk 8 ?_;refine' tk 9 ?_;refine' tk 10 ?_;refine' tk 11 ?_;refine stp 12 (fun K hK=> ?_);go_simp
   (with_reducible refine(cR.out _ ?_).mono ?_)
   ·exact Xt
   rintro e w2 ⟨rfl,hb2⟩;have HB:Hid (Ext w w2):=Ext.trans (by exact Xt) hb2;clear hb2
   (try dsimp only)
   (try go_simp)
   refine hK.out _ _ (HKS.out _ HB.out) (fun hHeld=> ?_);clear hK K;refine pt ?_;refine' tk 13 ?_;refine' tk 14 ?_;refine' tk 15 ?_;refine' tk 16 ?_;refine' tk 17 ?_;refine wpAnyH_done (by kernel_rfl) ?_ _;go_wp2_with fail
   go_ret2
   exact⟨rfl,HB.out⟩
theorem Y2u(s:ByteArray)(k:Nat)(hk:k=256-s.size)(hs:s.size<=256):s++bts (List.replicate k 0)=padB s:=by
 unfold padB
 congr 1
 rw[ByteArray.ext_iff,ByteArray.data_extract,V4t];simp only[zeroB];subst hk;apply Array.ext
 ·simp
 ·intro i h1 h2;simp
def putP(S:StoreD)(n:Nat)(s:ByteArray):StoreD:= { S with dirty:=updI S.dirty n (some (padB s))}
theorem U0p{S:StoreD}(h:StoreWf S){n:Nat}{s:ByteArray}(hn:n<S.head.pages)(hs:s.size<=256):StoreWf (putP S n s):=
 ⟨h.fits,fun x b hb=>by
   unfold putP at hb ⊢;dsimp only at hb ⊢;by_cases e:x=n
   ·subst e;rw[Z9q]at hb;injection hb with hb;subst hb;exact⟨by omega,by omega,Z7h s hs⟩
   ·rw[Z3n _ _ e]at hb;exact h.dirty x b hb⟩
theorem Z2d(S:StoreD)(n:Nat)(s:ByteArray)(i:Nat):Z1a (putP S n s) i=if i=n then padB s else Z1a S i:=by
 unfold Z1a putP;dsimp only;by_cases e:i=n
 ·subst e;rw[Z9q,if_pos rfl];rfl
 ·rw[Z3n _ _ (by omega),if_neg e]
theorem X5a{S:StoreD}(h:Live S)(n:Nat)(s:ByteArray):Live (putP S n s):=h
theorem Y9u(w:World)(n:Nat)(hn:n<=1000000000):∃w',(Instr.makeSlice 106 (.int .i64 (n:Int)) (.int .i64 (n:Int))).run Tryz.prog w= .ok (.slice (some ⟨w.heap.size,0,none⟩) n n) w'/\OwnB w' w.heap.size (.slice (some ⟨w.heap.size,0,none⟩) n n) (List.replicate n 0)/\Ext w w':=by obtain⟨i,hi,hz,hs,hb⟩:=info_parts Tryz.elemU8;obtain⟨w',h,h1,h2⟩:=run_make_full (P:=Tryz.prog) w w.heap.size 106 5 i (.int .u8 0) 1 Tryz.underlying106 hi hz hs .i64 .i64 n (by rw[hb];omega) (by simp[maxLen];omega) (aF _);refine⟨w',h,?_,⟨h2.os,h2.tape,h2.output,h2.size,fun k hk=>h2.block k hk (by simp)⟩⟩;rw[V9q]at h1;unfold OwnB OwnL;rw[List.length_replicate];exact h1
theorem Row1.notMap{α:Type}{enc:α->Value}{f:Int->Option α}{w:World}{k t:TypeId}{s b n:Nat}{cs:List Value}(h:Row1 w s t cs)(hm:MapI w k b n enc f):s≠b:=fun e=>by obtain⟨D,⟨es,clock,hb,_⟩,_⟩:=hm;subst e;have:=h.symm.trans hb;cases this
theorem OwnL.notMap{α β:Type}{w:World}{base sz:Nat}{e k:TypeId}{enc:α->List Value}{v:Value}{l:List α}{enc':β->Value}{f:Int->Option β}{b n:Nat}(h:OwnL w base e sz enc v l)(hm:MapI w k b n enc' f):v.ownBlock≠some b:=fun q=>by obtain⟨cur,hc⟩:=Z3d h q;obtain⟨D,⟨es,clock,hb,_⟩,_⟩:=hm;have:=hc.symm.trans hb;cases this
theorem DiskAt.butMap{β:Type}{enc':β->Value}{f:Int->Option β}{w w':World}{g:Nat}{F:Nat->Prop}{D:DiskD}{k:TypeId}{b n:Nat}(h:DiskAt w g F D)(hm:MapI w k b n enc' f)(hb:But b w w'):DiskAt w' g F D:=by obtain⟨bv,lv,h⟩:=h;have ho:Only (fun i=>i=b) w w':=Only.but hb (.inl rfl);exact⟨bv,lv,⟨ho.row h.row (h.row.notMap hm),h.blocks.only ho (fun k hk q=>h.blocks.notMap hm (by rw[hk,q])),h.late.only ho (fun k hk q=>h.late.notMap hm (by rw[hk,q])),h.fg,h.fb,h.fl,h.wf⟩⟩
theorem MapI.storeT{α:Type}{enc:α->Value}{f:Int->Option α}{w:World}{k t e:TypeId}{b:Nat}{N:Nat}(h:MapI w k b N enc f)(hk:Tryz.prog.underlying k=some (.int .i64))(ht:Tryz.prog.underlying t=some (.map k e))(hN:N<=1000000){x:Nat}(hx:x<N)(hf:Small N f)(a:α){V:Value}(hV:V=enc a):
  ∃w',(Instr.mapUpdate t (.map (some b)) (.int .i64 x) V).run Tryz.prog w= .ok () w'/\MapI w' k b N enc (updI f x (some a))/\But b w w':=by
 obtain⟨w',h1,h2,h3⟩:=h.store hk ht (by omega) (U0c (n:=x) (by omega)) a hV;refine⟨w',h1,h2.tight hk (fun y hy=> ?_),Z4m h3⟩;by_cases e:y=x
 ·subst e;omega
 ·rw[Z3n _ _ e]at hy;exact hf y hy
theorem Y5k{s:Nat}{F:Nat->Prop}{S:StoreD}(n:Nat)(d:ByteArray)(w:World)(h:StoreAt w s F S)(hL:Live S)(hn:n<S.head.pages)(hs:d.size<=256):
  cQ 168 #[tp s,.int .i64 n,.string d] w fun e w'=>e= .returned (.int .i64 0)/\StoreAt w' s F (putP S n d)/\Only F w w':=by
 have hr:=Y1g (n:Int) w h;rw[Y3u hL.1 hn]at hr;obtain⟨g,m,h⟩:=h;have hm:=h.wf.fits.most;have HH:=hD h;have c5:w.cell? ⟨s,5,none⟩=some (.map (some m)):=h.row.cell 5;have HKS:Hid (∀W,Ext w W->W.cell? ⟨s,5,none⟩=some (.map (some m))):=fun W hW=>((h.ext hW).row).cell 5;have q1:decide (256<(d.size:Int))=false:=aM;have hs1:(d.size:Int)<=256:=by omega
 obtain⟨k,hk⟩:∃k:Nat,k=256-d.size:=⟨_,rfl⟩;have u1:IntKind.i64.wrap ((256:Int)-d.size)=(k:Int):=by rw[IntKind.wrap_i64];omega
 have hkl:k<=256:=by omega
 have HPB:=hD (Y2u d k hk hs);have hq:¬9223372036854775807<d.size+(bts (List.replicate k 0)).size:=by rw[Z0e,List.length_replicate];omega
 clear h hk;go_enter Tryz.func168,Tryz.ntmps168;go_upto_region 6 with (go_at_call 166;refine hr.mono ?_;clear hr;rintro e w1 ⟨rfl,rfl⟩);refine wp_region_held_drew (S:=fun W=>W.cell? ⟨s,5,none⟩=some (.map (some m))) (by kernel_rfl) (HKS.out _ (by exact Xt)) (fun hHeld=> ?_);refine' tk 0 ?_;refine' tk 1 ?_;refine' tk 2 ?_;refine' tk 3 ?_;refine' tk 4 ?_;refine' tk 5 ?_;refine' tk 6 ?_;refine' tk 7 ?_;refine' tk 8 ?_;refine stp 9 (fun K hK=> ?_);go_simp;obtain⟨w2,hrun,ho2,hb2⟩:=Y9u w.drew k (by omega);rw[hrun];simp only[Result.andThen];rw[Oper.upon_value];have HB:Hid (Ext w w2):=Ext.trans (by exact Xt) hb2;have hc2:Sem.run Tryz.prog (convert 106 9 (.slice (some ⟨w.heap.size,0,none⟩) k k)) w2=_:=ho2.text;clear hrun hb2 ho2;refine hK.out _ _ (HKS.out _ HB.out) (fun hHeld=> ?_);clear hK K;refine pt ?_;refine stp 10 (fun K hK=> ?_);go_simp
 skip
 refine hK.out _ _ (HKS.out _ HB.out) (fun hHeld=> ?_);clear hK K;refine pt ?_;refine' tk 11 ?_;refine stp 12 (fun K hK=> ?_);go_simp;rw[HPB.out];obtain⟨w3,hrun,hm3,hb3⟩:=(HH.out.ext HB.out).map.storeT (t:=210) (e:=9) Tryz.underlying3 Tryz.underlying210 (by omega) (x:=n) (by omega) HH.out.wf.small (padB d) (V:= .string (padB d)) rfl;rw[hrun];simp only[Result.andThen];rw[Oper.upon_skip];have hne:s≠m:=HH.out.row.notMap HH.out.map;have HB:Hid (Only F w w3/\But m w2 w3/\Ext w w2):=⟨(Only.of HB.out).turn hb3 (.inl HH.out.fm),hb3,HB.out⟩;have HR:=hD ((HH.out.ext HB.out.2.2).row.grown hb3 (by simpa using hne));have HM:=hD hm3;clear hb3 hrun hm3;refine hK.out _ _ (HR.out.cell 5) (fun hHeld=> ?_);clear hK K;refine pt ?_;refine wpAnyH_done (by kernel_rfl) ?_ _;go_wp2_with fail;go_ret;refine⟨rfl,⟨g,m,HR.out,?_,HM.out,HH.out.fs,HH.out.fm,U0p HH.out.wf hn hs⟩,HB.out.1⟩;exact(HH.out.ext HB.out.2.2).disk.butMap (HH.out.ext HB.out.2.2).map HB.out.2.1
def hdsN(n:Nat):Nat:=(4*n+259)/256
theorem Y6n(n:Nat)(w:World)(hn:n<=1000000):cQ 164 #[.int .i64 n] w fun e w'=>e= .returned (.int .i64 (hdsN n))/\w=w':=by
 have HH:Hid (((4*(n:Int)+4+256-1)/256:Int)=(hdsN n:Int)):=by unfold Hid hdsN;omega
 go_enter Tryz.func164,Tryz.ntmps164;go_wp2_with fail;go_ret;refine⟨?_,rfl⟩;exact congrArg (fun x=>Ending.returned (Value.int .i64 x)) HH.out
theorem X2q(n:Nat)(w:World)(hn:n<=1000000):cQ 162 #[.int .i64 n] w fun e w'=>e= .returned (.int .i64 ((hdsN n+n:Nat):Int))/\w=w':=by
 have c1:=Y6n n w hn;obtain⟨h,hh⟩:∃h,hdsN n=h:=⟨_,rfl⟩;have hh2:h<=1000000:=by unfold hdsN at hh;omega
 rw[hh]at c1 ⊢;clear hh;go_enter Tryz.func162,Tryz.ntmps162;go_wp2_with (go_at_call 164;refine c1.mono ?_;clear c1;rintro e w1 ⟨rfl,rfl⟩);go_ret;refine⟨?_,rfl⟩;exact congrArg (fun x=>Ending.returned (Value.int .i64 x)) (by omega)
theorem X0w(s:ByteArray)(w:World)(hs:s.size<=256):cQ 233 #[.string s] w fun e w'=>e= .returned (.string (padB s))/\Ext w w':=by
 obtain⟨k,hk⟩:∃k:Nat,k=256-s.size:=⟨_,rfl⟩;have u1:IntKind.i64.wrap ((256:Int)-s.size)=(k:Int):=by rw[IntKind.wrap_i64];omega
 have hkl:k<=256:=by omega
 have HPB:=hD (Y2u s k hk hs);have hq:¬9223372036854775807<s.size+(bts (List.replicate k 0)).size:=by rw[Z0e,List.length_replicate];omega
 clear hk;obtain⟨w2,hrun,ho2,hb2⟩:=Y9u w k (by omega);have hc2:Sem.run Tryz.prog (convert 106 9 (.slice (some ⟨w.heap.size,0,none⟩) k k)) w2=_:=ho2.text;have HB:=hD hb2;clear ho2 hb2;go_enter Tryz.func233,Tryz.ntmps233;go_wp2_with fail;go_ret;exact⟨by rw[HPB.out];rfl,HB.out⟩
theorem MapI.alloc'{α:Type}{enc:α->Value}{f:Int->Option α}{w:World}{k:TypeId}{b n:Nat}(h:MapI w k b n enc f)(o:Obj):MapI (w.alloc o) k b n enc f:=h.ext (Ext.alloc w o)
def X0m:Int->Option ByteArray:=fun _=>none
theorem X6u{g:Nat}{F:Nat->Prop}{D:DiskD}(h:HeadD)(w:World)(hd:DiskAt w g F D)(hde:D.dead=false)(hN:2<=D.blocks.length)(jH:∀i,i<2->X6d D.blocks.length (Z0x D i))(hnew:Y1o D=(h,true))(hu:h.used=0):
  cQ 57 #[tp g] w fun e w'=>∃s F',e= .returned (.tuple #[tp s,.int .i64 0])/\StoreAt w' s F' ⟨D,h,X0m,false⟩/\Keeps F F' w w'/\w.heap.size<=s:=by
 have hok:=Y8w D jH 2 (by omega);have hn2:Z3u D 2=(h,true):=hnew;rw[hn2]at hok;have hfit:=hok.2 rfl;have cN:=X7o w hd hde hN jH (fun i=>Y5g hd.wf i);have he:Y4j D=0:=by unfold Y4j;rw[hnew];rfl
 rw[he,hnew]at cN;have HD:=hD hd;obtain⟨s,us,ro,pa⟩:=h;dsimp only at hu;subst hu;have cN:cQ 116 #[tp g] w fun e w'=>e= .returned (.tuple #[.agg #[.int .u64 s,.int .i64 0,.int .i64 ro,.int .i64 pa],.int .i64 0])/\Ext w w':=cN;have HF:=hD hfit;clear hd hnew hn2 hok he hfit;have hmm:= @run_makeMap Tryz.prog;go_enter Tryz.func57,Tryz.ntmps57;go_wp2_with (go_at_call 116;refine cN.mono ?_;clear cN;rintro e w1 ⟨rfl,hb1⟩)
 go_ret2
 have hz:=hb1.size;have hE1:Ext w (w1.alloc (.cells #[.int .u64 s,.int .i64 0,.int .i64 ro,.int .i64 pa] 207)):=by exact Xx (hb1)
 generalize hw2:w1.alloc (.cells #[.int .u64 s,.int .i64 0,.int .i64 ro,.int .i64 pa] 207)=w2 at *;have hz2:w2.heap.size=w1.heap.size+1:=by rw[<-hw2];simp
 rw[<-hz2];have hm:=((MapI.made w2 3 encB).alloc' (.cells #[tp g,.int .u64 s,.int .i64 0,.int .i64 ro,.int .i64 pa,.map (some w2.heap.size),.bool false] 212)).mono (m:=1024) (by omega);have hX:Ext w ((w2.alloc (.map #[] 0)).alloc (.cells #[tp g,.int .u64 s,.int .i64 0,.int .i64 ro,.int .i64 pa,.map (some w2.heap.size),.bool false] 212)):=by have:=hE1.size;exact Xx (hE1)
 refine⟨w2.heap.size+1,fun i=>F i\/w2.heap.size<=i,rfl,⟨g,w2.heap.size,Row1.made' (by simp) _ _,(HD.out.ext hX).mono (fun i q=> .inl q),hm,.inr (by omega),.inr (by omega),⟨HF.out,fun x b hb=>by cases hb⟩⟩,⟨by rw[<-hw2]at hX ⊢;exact Only.of hX,fun i q=>by
  rcases q with q | q
  ·exact .inl q
  ·exact .inr (by have:=hE1.size;omega)⟩,by have:=hE1.size;omega⟩
end Go.Proofs.YtohaldfnmgcofaaGreat
