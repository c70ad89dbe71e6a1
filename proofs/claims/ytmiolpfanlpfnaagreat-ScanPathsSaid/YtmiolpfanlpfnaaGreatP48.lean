/- scan.group: a list's numbers, counted in a map, ranged over and sorted: the list that the document defines. Conditions: fewer than 10^9 operations, numbers that an int holds. -/
import Derived.Test.YtmiolpfanlpfnaaGreatP47
import Derived.Maps.RangeWalk
import Derived.Test.YtmiolpfanlpfnaaGreatP45
set_option maxRecDepth 100000
set_option maxHeartbeats 3200000
set_option linter.unusedSimpArgs false
set_option linter.unusedVariables false
namespace Go.Proofs.YtmiolpfanlpfnaaGreat
section
open Go.RowKit Go.Maps
structure CntD (D:DataW Unit) (vs:List Int):Prop where
 isMap:Maps.IsMap D
 at0:∀v,D.atKey (.int .i64 v) (.lit (.int .i64 0))= .lit (.int .i64 (vs.count v))
 has:∀v,Maps.has D (.int .i64 v)=decide (0<vs.count v)
theorem CntD.start:CntD (.map []) []:=⟨isMap_empty,fun v=>rfl,fun v=>rfl⟩
theorem Y3v{a b:Int}(h:a≠b):(Lit.int .i64 a)≠Lit.int .i64 b:=fun e=>h (by injection e)
theorem CntD.step{D:DataW Unit}{vs:List Int}(h:CntD D vs)(x c:Int)(hc:c=vs.count x):CntD (D.put (.int .i64 x) (.lit (.int .i64 (c+1)))) (vs++ [x]):=by
 subst hc
 refine⟨h.isMap.put _ _,fun v=> ?_,fun v=> ?_⟩
 ·by_cases e:v=x
  ·subst e
   rw[atKey_put_same h.isMap (show WideAt.IsKeyLit (Lit.int .i64 v)from trivial)]
   simp[List.count_append]
  ·rw[atKey_put_other (Y3v e),h.at0 v]
   have e':¬x=v:=fun q=>e q.symm
   simp[List.count_append,e']
 ·by_cases e:v=x
  ·subst e
   rw[has_put_same h.isMap (show WideAt.IsKeyLit (Lit.int .i64 v)from trivial)]
   simp[List.count_append]
  ·rw[has_put_other (Y3v e),h.has v]
   have e':¬x=v:=fun q=>e q.symm
   simp[List.count_append,e']
structure Coll (vs:List Int) (left:Lit→Bool) (gs:List Grp):Prop where
 nodup:(gs.map Grp.val).Nodup
 iff:∀g:Grp,g∈gs↔0<vs.count g.val∧left (.int .i64 g.val)=false∧g.cnt=(vs.count g.val:Int)
theorem Coll.start{D:DataW Unit}{vs:List Int}(h:CntD D vs):Coll vs (Maps.has D) []:=
 ⟨List.nodup_nil,fun g=>⟨fun q=>absurd q (by simp),fun⟨a,b,_⟩=>by rw[h.has,decide_eq_false_iff_not]at b;exact absurd a b⟩⟩
theorem Coll.step{D:DataW Unit}{vs:List Int}{left:Lit→Bool}{gs:List Grp}(h:Coll vs left gs)(jH:CntD D vs)(x c:Int)(hl:left (.int .i64 x)=true)(hat:∀zd,D.atKey (.int .i64 x) zd= .lit (.int .i64 c)):
  Coll vs (fun z=>left z&& !z.sameKey (.int .i64 x)) (gs++ [⟨x,c⟩]):=by
 have hc:c=(vs.count x:Int):=by
  have:=(hat (.lit (.int .i64 0))).symm.trans (jH.at0 x)
  injection this with this
  injection this
 have hpos:0<vs.count x:=by
  have h1:=jH.has x
  rw[has_true_of_atKey hat]at h1
  simpa using h1.symm
 have hnot:∀g∈gs,g.val≠x:=fun g hg e=>by
  have:=((h.iff g).1 hg).2.1
  rw[e,hl]at this
  cases this
 refine⟨?_,fun g=> ?_⟩
 ·rw[List.map_append,List.nodup_append]
  refine⟨h.nodup,by simp,fun a ha b hb=> ?_⟩
  obtain⟨g,hg,rfl⟩:=List.mem_map.1 ha
  simp only[List.map_cons,List.map_nil,List.mem_singleton]at hb
  rw[hb];exact hnot g hg
 ·rw[List.mem_append,List.mem_singleton,h.iff g]
  by_cases e:g.val=x
  ·subst e
   have hs:(Lit.int .i64 g.val).sameKey (.int .i64 g.val)=true:=by simp[Lit.sameKey]
   obtain⟨a,b⟩:=g
   simp only[hl,hs]at *
   simp[hc,hpos]
  ·have hs:(Lit.int .i64 g.val).sameKey (.int .i64 x)=false:=sameKey_ne (Y3v e)
   have hne:¬g=⟨x,c⟩:=fun q=>e (by rw[q])
   simp[hs,hne]
theorem Coll.done{vs:List Int}{left:Lit→Bool}{gs:List Grp}(h:Coll vs left gs)(hl:∀kl,left kl=false):(gs.map Grp.val).Nodup∧Z9s (fun x=>vs.count x) gs:=
 ⟨h.nodup,fun g=>by rw[h.iff g,hl];simp⟩
theorem Y6w{vs:List Int}{gs gs':List Grp}(hn:(gs.map Grp.val).Nodup)(hc:Z9s (fun x=>vs.count x) gs)(hp:gs'.Perm gs)(hs:gs'.Pairwise (fun a b=>a.val≤b.val)):gs'=Z0s vs:=by
 refine Y5c vs gs' ?_ (fun g=>by rw[hp.mem_iff];exact hc g)
 have hn':(gs'.map Grp.val).Nodup:=(hp.map Grp.val).nodup_iff.2 hn
 have hn2:gs'.Pairwise (fun a b=>a.val≠b.val):=by
  have:=hn'
  unfold List.Nodup at this
  rwa [List.pairwise_map]at this
 exact(hs.and hn2).imp fun {a b} h=>by have:=h.1;have:=h.2;omega
theorem Tryz.keyInt:Keyed Tryz.prog 3:=int_keyed Tryz.underlying3
theorem Tryz.zeroInt(w:World):(zeroValue 3).run Tryz.prog w= .ok (.int .i64 0) w:=by kernel_rfl
theorem Tryz.infoGroup1:(Tryz.prog.info? 125).map (fun i=>(i.zero,i.size,i.bytes))=some (some (.agg #[.int .i64 0,.int .i64 0]),2,16):=by kernel_rfl
theorem Ext.toGrown{w w':World}(h:Ext w w'):w.grownBy w' none:=⟨h.os,h.tape,h.output,h.size,fun k hk _=>h.block k hk⟩
def V8b(g:FuncId)(fld:OpD→Int):Prop:=∀(o:OpD) (w:World),Calls Tryz.prog g #[o.val] w fun e w'=>e= .returned (.int .i64 (fld o))∧Ext w w'
theorem Y4e(g:FuncId)(fld:OpD→Int)(eg:∀args w,(callFunc g args).run Tryz.prog w= .ok (.enter g args) w)(hg:V8b g fld)
 (V:Value)(ops:List OpD)(w:World)(hs:Sl w 11 ROp V ops)(hn:ops.length≤1000000000)(hwf:∀o∈ops,(Lit.int .i64 (fld o)).wf=true):
  Calls Tryz.prog 81 #[V,.func (.func g) #[] #[]] w fun e w'=>(∃v,e= .returned v∧Sl w' 2 RG v (Z0s (ops.map fld))∧∀g,v.ownBlock=some g→w.heap.size≤g)∧Ext w w':=by
 obtain⟨A,c,rfl⟩:=hs.form
 obtain⟨_,hc1,hc2,hA⟩:=hs.at
 have hmm:= @run_makeMap Tryz.prog
 have HG:=hD hg
 have HWF:=hD hwf
 clear hg hwf hs
 obtain⟨i0,hi0,hz0,hz1,hz2⟩:=info_parts Tryz.infoGroup1
 go_enter Tryz.func81,Tryz.ntmps81
 go_wp2_with fail
 go_loopw [14] (fun i wr=>∃(k:Nat) (D:DataW Unit),k≤ops.length∧i= .int .i64 k∧wr.ownsMap Tryz.prog 3 (plainElem Tryz.prog 3) w.heap.size k D∧CntD D ((ops.map fld).take k)∧Ext w wr)
  (fun i _=>ops.length-(intOf i).toNat)
 case atStart=>exact⟨0,_,by omega,rfl,World.ownsMap_made _ _ _ _,CntD.start,Ext.alloc _ _⟩
 case round=>
  obtain⟨k,D,hk,rfl,hown,jH,hb⟩:=hrel
  have HD:=hD jH
  have HB:=hD hb
  have HO:=hD hown
  have hlt0:=hown.lt
  clear jH hb hown
  by_cases hlt:k<ops.length
  ·obtain⟨b,off,rfl,hbl,hx⟩:=hA (by omega)
   obtain⟨cs,rfl,_,hcs⟩:=hx k hlt
   have hw:=fun j u hu=>(HB.out.cell (p:=⟨b,off+k*11+j,none⟩) hbl).trans (hcs j u hu)
   have h0:=hw 0 _ rfl
   have h1:=hw 1 _ rfl
   have h2:=hw 2 _ rfl
   have h3:=hw 3 _ rfl
   have h4:=hw 4 _ rfl
   have h5:=hw 5 _ rfl
   have h6:=hw 6 _ rfl
   have h7:=hw 7 _ rfl
   have h8:=hw 8 _ rfl
   have h9:=hw 9 _ rfl
   have h10:=hw 10 _ rfl
   simp only[Nat.add_zero]at h0
   clear hx hcs hw hA
   have HT:Hid ((ops.map fld).take (k+1)=(ops.map fld).take k++ [fld ops[k]]):=by
    unfold Hid
    rw[List.take_succ_eq_append_getElem (by simpa using hlt),List.getElem_map]
   have hwx:=HWF.out ops[k] (List.getElem_mem hlt)
   have HCL:Hid (∀x,((ops.map fld).take k).count x≤k):=fun x=>Nat.le_trans List.count_le_length (by simp[List.length_take];omega)
   generalize ops[k]=o at *
   obtain⟨x,hxe⟩:∃x,fld o=x:=⟨_,rfl⟩
   rw[hxe]at HT hwx
   have HX:=hD hxe
   clear hxe
   have HWX:=hD hwx
   clear hwx
   go_wp2_with fail
   refine(HG.out o _).mono ?_
   rintro e w1 ⟨rfl,hb1⟩
   rw[show fld o=x from HX.out]
   have HB1:=hD (Ext.trans (by exact Xx (HB.out):Ext w _) hb1)
   have hown1:=(HO.out.alloc (.cells #[.int .i64 o.id,.int .i64 o.proc,.int .i64 o.object,.int .i64 o.kind,.int .i64 o.method,.int .i64 o.arg,.int .i64 o.second,.bool o.done,.int .i64 o.result,.int .i64 o.invoke,.int .i64 o.ret] 32)).kept hb1.toGrown (by simp)
   clear hb1 h0 h1 h2 h3 h4 h5 h6 h7 h8 h9 h10
   have HBND:Hid (∀c:Int,D.atKey (.int .i64 x) (.lit (.int .i64 0))= .lit (.int .i64 c)→c=(((ops.map fld).take k).count x:Int)∧0≤c∧c≤1000000000):=by
    intro c hc
    have h1:=hc.symm.trans (HD.out.at0 x)
    injection h1 with h1
    injection h1 with _ h1
    have:=HCL.out x
    exact⟨h1,by omega,by omega⟩
   go_wp2_with (first | (at_lookup;refine wpList_lookup_own_int _ rfl _ _ 213 rfl 3 3 .i64 Tryz.keyInt Tryz.underlying213 Tryz.underlying3 (Tryz.zeroInt _) w.heap.size k _ rfl hown1 _ _ rfl (keyOf_int_mk Tryz.underlying3 HWX.out) ?_;intro c hat hwc;have hcb:=HBND.out c hat;clear hat hwc;obtain⟨hce,hcb1,hcb2⟩:=hcb;have HCE:=hD hce;clear hce) | (at_mapUpdate;refine wpList_mapUpdate_own _ rfl _ _ _ 213 rfl 3 3 Tryz.keyInt Tryz.underlying213 _ w.heap.size k _ rfl hown1 (by unfold maxLen;omega) _ _ _ rfl rfl (keyOf_int_mk Tryz.underlying3 HWX.out) _ [] (plainElem_int Tryz.underlying3 (WalkArith.wf_i64 (by omega))) ?_;intro w2 hown2 hgrow2))
   go_roundw
   case measure=>simp[intOf];omega
   case rel=>
    refine⟨k+1,_,by omega,by go_num,hown2,?_,?_⟩
    ·rw[HT.out];exact HD.out.step x c HCE.out
    ·exact HB1.out.grown hgrow2 HB1.out.size (fun j hj=>by cases hj;exact Nat.le_refl _)
  ·obtain rfl:k=ops.length:=by omega
   rw[show (ops.map fld).take ops.length=ops.map fld from List.take_of_length_le (by simp)]at HD
   generalize hvs:ops.map fld=vs at *
   have HVS:=hD hvs
   clear hvs
   go_wp2_with (at_range;refine wpList_range_own _ rfl _ 213 rfl 3 3 Tryz.keyInt Tryz.underlying213 _ w.heap.size ops.length _ rfl HO.out ?_;intro w0 hrg0 hg0 hs0)
   go_frame
   have hB0:Ext w w0:=HB.out.trans ⟨hg0.os,hg0.tape,hg0.output,hg0.size,fun k hk=>hg0.block k hk (by simp)⟩
   obtain⟨r,hr⟩:∃r,wr.heap.size=r:=⟨_,rfl⟩
   rw[hr]at hrg0 hs0 ⊢
   have hrB:w.heap.size<r:=by rw[←hr];exact hlt0
   have HS0:=hD hs0
   have HR:=hD hr
   clear hs0 hr
   have hcnt0:Maps.size D≤1000000000:=by
    have h1:=HO.out.size_le
    omega
   go_loopw [8] (fun v wz=>∃(left:Lit→Bool) (cnt:Nat) (gs:List Grp),wz.ranges Tryz.prog 3 (plainElem Tryz.prog 3) w.heap.size r ops.length D left cnt∧gs.length+cnt≤1000000000∧
     wz.ownsRow (r+1) 125 2 v gs.length (gs.flatMap Grp.cells)∧Coll vs left gs∧Ext w wz∧r<wz.heap.size) (fun _ wz=>wz.rangeLeft w.heap.size r)
   case atStart=>exact⟨_,_,[],hrg0,by simpa using hcnt0,World.ownsRow_nil _ _ _ _,Coll.start HD.out,hB0,by rw[HS0.out];omega⟩
   case round=>
    obtain⟨left,cnt,gs,hrg,hcs,hown,hC,hb,hrl⟩:=hrel
    have HB2:=hD hb
    have HC:=hD hC
    have HOW:=hD hown
    have HRG:=hD hrg
    clear hb hC hown hrg
    go_wp2_with (at_next;refine wpList_next_ranges_ii _ rfl _ rfl 3 3 .i64 .i64 Tryz.keyInt Tryz.underlying3 Tryz.underlying3 w.heap.size r ops.length _ _ _ rfl HRG.out ?_ ?_)
    ·intro hc0 hl0
     obtain⟨hnd,hcn⟩:=HC.out.done hl0
     have HND:=hD hnd
     have HCN:=hD hcn
     clear hnd hcn hc0 hl0
     go_wp2_with fail
     refine(Y4z _ gs (r+1) _ HOW.out (by omega)).mono ?_
     rintro e w3 ⟨rfl,⟨gs',hp,hso,hsl⟩,hgr⟩
     have hfin:=Y6w HND.out HCN.out hp hso
     have HB3:=hD (HB2.out.grown hgr (by exact HB2.out.size) (fun j hj=>by have:=(HOW.out.lt j hj).1;omega))
     have HSL:=hD hsl
     have HF:=hD hfin
     clear hp hso hsl hgr hfin
     go_wp2_with fail
     go_ret
     rw[HVS.out]
     refine⟨⟨_,rfl,by rw[←HF.out];exact HSL.out,fun g hg=> ?_⟩,HB3.out⟩
     have:=(HOW.out.lt g hg).1
     omega
    ·intro x c w1 cnt1 hwx hwc hlx hat hrg1 hlt hg1 hs1 hen
     have HC1:=hD (HC.out.step HD.out x c hlx hat)
     have HRG1:=hD hrg1
     have HO1:=hD (HOW.out.kept hg1 (.inr (fun e=>by have:=(HOW.out.lt r e).1;omega)))
     have HB1:=hD (HB2.out.grown hg1 HB2.out.size (fun j hj=>by cases hj;omega))
     have hrl1:r<w1.heap.size:=by rw[hs1];exact hrl
     have hlc:=hlt
     clear hlx hat hrg1 hg1 hs1
     go_wp2_with (at_builtin;refine Z9t _ rfl (.tmp 32) (.tmp 36) _ rfl (r+1) 125 i0 _ 2 16 Tryz.underlying59 hi0 hz0 hz1 hz2 rfl (by decide) _ _ _ rfl (HO1.out.alloc _) _ 1 1 [.int .i64 x,.int .i64 c] rfl ?ax4 ?ax5 ?ax6 ?ax7 ?ax8 ?_)
     case ax4=>exact Src.new _ _ _ 1 2 rfl
     case ax5=>intro u hu;simp at hu;rcases hu with rfl | rfl<;>rfl
     case ax6=>simp[maxLen];omega
     case ax7=>omega
     case ax8=>simp;omega
     intro v2 w2 hown2 hg2
     have hrg2:=(HRG1.out.alloc (.cells #[.int .i64 x,.int .i64 c] 125)).kept hg2 (fun e=>by have:=(HO1.out.lt _ e.symm).1;omega) (fun e=>by have:=(HO1.out.lt _ e.symm).1;omega)
     have HRG2:=hD hrg2
     clear hrg2
     have hx2:Ext w w2:=(Ext.trans HB1.out (Ext.alloc _ _)).grown hg2 (by have:=HB1.out.size;simp;omega) (fun j hj=>by have:=(HO1.out.lt j hj).1;omega)
     have HX2:=hD hx2
     have hsz2:=hg2.size
     simp at hsz2
     have HO2:=hD hown2
     clear hx2 hg2 hown2
     go_wp2_with fail
     go_roundw
     case measure=>rw[HRG2.out.left_eq,HRG.out.left_eq];exact hlc
     case rel=>
      refine⟨_,cnt1,gs++ [⟨x,c⟩],HRG2.out,by simp;omega,?_,HC1.out,HX2.out,by omega⟩
      ·rw[List.length_append,List.flatMap_append]
       exact HO2.out
end
section
open Go.RowKit
theorem U1c:V8b 82 OpD.object:=by
 intro o w
 go_enter Tryz.func82,Tryz.ntmps82
 go_wp2
 go_ret
 exact⟨rfl,by exact Xt⟩
theorem U1b:V8b 83 OpD.proc:=by
 intro o w
 go_enter Tryz.func83,Tryz.ntmps83
 go_wp2
 go_ret
 exact⟨rfl,by exact Xt⟩
theorem U1a:V8b 84 OpD.method:=by
 intro o w
 go_enter Tryz.func84,Tryz.ntmps84
 go_wp2
 go_ret
 exact⟨rfl,by exact Xt⟩
def OpWf(o:OpD):Prop:=(Lit.int .i64 o.object).wf=true∧(Lit.int .i64 o.proc).wf=true∧(Lit.int .i64 o.method).wf=true
theorem X2a(V:Value)(ops:List OpD)(w:World)(hs:Sl w 11 ROp V ops)(hn:ops.length≤1000000000)(hwf:∀o∈ops,OpWf o):
  Calls Tryz.prog 30 #[V] w fun e w'=>(∃OV PV MV,e= .returned (.agg #[.int .i64 ops.length,OV,PV,MV])∧Sl w' 2 RG OV (Z0s (ops.map OpD.object))∧Sl w' 2 RG PV (Z0s (ops.map OpD.proc))∧Sl w' 2 RG MV (Z0s (ops.map OpD.method)))∧Ext w w':=by
 obtain⟨A,c,rfl⟩:=hs.form
 have HS:=hD hs
 have HWF:=hD hwf
 clear hs hwf
 have g1:=Y4e _ _ (enters_of Tryz.func82 (by kernel_rfl) rfl) U1c
 have g2:=Y4e _ _ (enters_of Tryz.func83 (by kernel_rfl) rfl) U1b
 have g3:=Y4e _ _ (enters_of Tryz.func84 (by kernel_rfl) rfl) U1a
 have G1:=hD g1
 have G2:=hD g2
 have G3:=hD g3
 clear g1 g2 g3
 go_enter Tryz.func30,Tryz.ntmps30
 go_wp2_with fail
 refine(G1.out _ ops _ (HS.out.ext (Ext.alloc _ _)) hn (fun o ho=>(HWF.out o ho).1)).mono ?_
 rintro e w1 ⟨⟨OV,rfl,ho,fo⟩,hb1⟩
 obtain⟨oa,oc,rfl⟩:=ho.form
 have R4:=hD ((Row1.made w 61 [.int .i64 0,.slice none 0 0,.slice none 0 0,.slice none 0 0]).ext hb1 (by simp))
 have FO:=hD fo
 clear fo
 have HO:=hD ho
 have K1:=hD (Ext.trans (Ext.alloc _ _) hb1)
 have hlt1:=R4.out.lt
 clear ho hb1
 go_wp2_with fail
 refine(G2.out _ ops _ (HS.out.ext K1.out) hn (fun o ho=>(HWF.out o ho).2.1)).mono ?_
 rintro e w2 ⟨⟨PV,rfl,hp,fp⟩,hb2⟩
 obtain⟨pa,pc,rfl⟩:=hp.form
 have R4:=hD (R4.out.ext hb2 R4.out.lt)
 have HO:=hD (HO.out.ext hb2)
 have FP:=hD fp
 clear fp
 have HP:=hD hp
 have K2:=hD (Ext.trans K1.out hb2)
 have hlt2:=R4.out.lt
 clear hp hb2
 go_wp2_with fail
 refine(G3.out _ ops _ (HS.out.ext K2.out) hn (fun o ho=>(HWF.out o ho).2.2)).mono ?_
 rintro e w3 ⟨⟨MV,rfl,hm,fm⟩,hb3⟩
 obtain⟨ma,mc,rfl⟩:=hm.form
 have R4:=hD (R4.out.ext hb3 R4.out.lt)
 have HO:=hD (HO.out.ext hb3)
 have HP:=hD (HP.out.ext hb3)
 have FM:=hD fm
 clear fm
 have HM:=hD hm
 have K3:=hD (Ext.trans K2.out hb3)
 clear hm hb3
 have c0:w3.cell? ⟨w.heap.size,0,none⟩=some (.int .i64 0):=R4.out.cell 0
 have c1:w3.cell? ⟨w.heap.size,1,none⟩=some (.slice none 0 0):=R4.out.cell 1
 have c2:w3.cell? ⟨w.heap.size,2,none⟩=some (.slice none 0 0):=R4.out.cell 2
 have c3:w3.cell? ⟨w.heap.size,3,none⟩=some (.slice none 0 0):=R4.out.cell 3
 have f0:=R4.out.soft 0
 have f1:=R4.out.soft 1
 have f2:=R4.out.soft 2
 have f3:=R4.out.soft 3
 have hlt:=R4.out.lt
 go_wp2_with fail
 refine bodyPost_ret (v:= .agg #[.int .i64 ops.length,.slice oa (Z0s (ops.map OpD.object)).length oc,.slice pa (Z0s (ops.map OpD.proc)).length pc,.slice ma (Z0s (ops.map OpD.method)).length mc]) (by simp[results,Tryz.results30,go_sem,c0,c1,c2,c3]) rfl ⟨⟨_,_,_,rfl,?_,?_,?_⟩,?_⟩
 ·exact HO.out.but (g:=w.heap.size) (by (repeat' (with_reducible first | exact But.refl | exact But.refl | refine But.drewN ?_ _ | refine But.drew ?_ | refine But.setCell ?_ ?_ _ | refine But.alloc ?_ _))<;>(first | exact .inl rfl | (right;simp;done) | (right;simp;omega))) (fun e=>by have:=FO.out _ e;simp at this;omega)
 ·exact HP.out.but (g:=w.heap.size) (by (repeat' (with_reducible first | exact But.refl | exact But.refl | refine But.drewN ?_ _ | refine But.drew ?_ | refine But.setCell ?_ ?_ _ | refine But.alloc ?_ _))<;>(first | exact .inl rfl | (right;simp;done) | (right;simp;omega))) (fun e=>by have:=FP.out _ e;omega)
 ·exact HM.out.but (g:=w.heap.size) (by (repeat' (with_reducible first | exact But.refl | exact But.refl | refine But.drewN ?_ _ | refine But.drew ?_ | refine But.setCell ?_ ?_ _ | refine But.alloc ?_ _))<;>(first | exact .inl rfl | (right;simp;done) | (right;simp;omega))) (fun e=>by have:=FM.out _ e;omega)
 ·exact Xx (K3.out)
end
end Go.Proofs.YtmiolpfanlpfnaaGreat
