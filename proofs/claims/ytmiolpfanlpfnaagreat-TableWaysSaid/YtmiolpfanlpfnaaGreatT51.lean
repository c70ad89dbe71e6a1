/- The statement of layer 13's ways: every way finds every operation. The walk. Conditions: acts that can be read. -/
import Derived.Test.YtmiolpfanlpfnaaGreatT50
set_option maxRecDepth 100000
set_option maxHeartbeats 8000000
set_option linter.unusedSimpArgs false
set_option linter.unusedVariables false
namespace Go.Proofs.YtmiolpfanlpfnaaGreat
open Go.RowKit
theorem X8l(x y:OpD):∃b:Bool,(b=true↔x=y)∧∀w:World,(binOp .eql 32 (.agg #[.int .i64 x.id,.int .i64 x.proc,.int .i64 x.object,.int .i64 x.kind,.int .i64 x.method,.int .i64 x.arg,.int .i64 x.second,.bool x.done,.int .i64 x.result,.int .i64 x.invoke,.int .i64 x.ret]) (.agg #[.int .i64 y.id,.int .i64 y.proc,.int .i64 y.object,.int .i64 y.kind,.int .i64 y.method,.int .i64 y.arg,.int .i64 y.second,.bool y.done,.int .i64 y.result,.int .i64 y.invoke,.int .i64 y.ret])).run Tryz.prog w= .ok (.bool b) w:=by
 by_cases h:x=y
 ·subst h
  exact⟨true,by simp,fun w=>by go_simp⟩
 ·refine⟨false,by simp[h],fun w=> ?_⟩
  go_simp
  intro a0 a1 a2 a3 a4 a5 a6 a7 a8 a9 a10
  apply h
  cases x
  cases y
  simp only[OpD.mk.injEq]
  exact⟨a0,a1,a2,a3,a4,a5,a6,a7,a8,a9,a10⟩
theorem Sl.num{α:Type}{w:World}{sz:Nat}{R:α→List Value→Prop}{A:Option Addr}{n c:Nat}{xs:List α}(h:Sl w sz R (.slice A n c) xs):xs.length=n:=by
 obtain⟨_,_,e,_⟩:=h
 injection e with _ e
 exact e.symm
theorem X6k{α:Type}[DecidableEq α](l:List α)(x:α)(k:Nat)(h:k<l.length)(b:Bool)(hb:b=true↔l[k]=x):(l.take (k+1)).count x=(l.take k).count x+(if b then 1 else 0):=by
 rw[List.take_succ_eq_append_getElem h,List.count_append,List.count_singleton]
 congr 1
 by_cases e:l[k]=x
 ·rw[hb.2 e];simp[e]
 ·cases b with
  | true=>exact absurd (hb.1 rfl) e
  | false=>simp[e]
noncomputable instance:DecidableEq OpD:=fun _ _=>Classical.propDecidable _
theorem Y6f(hAw:∀w,Calls Tryz.prog 16 #[] w fun e w'=>e= .returned (.bool true)∧Ext w w')(V:Value)(acts:List (Int×OpD))(w:World)(hs:Sl w 12 RAct V acts)(hin:∀a∈acts,In64 a.2.id∧In64 a.2.result):
  Calls Tryz.prog 4 #[V] w fun e w'=>e= .returned (.bool true)∧Ext w w':=by
 obtain⟨A,c,rfl⟩:=hs.form
 obtain⟨_,hc1,hc2,hA⟩:=hs.at
 have HA:=hD hA
 have HIN:=hD hin
 have HAW:=hD hAw
 have cB:=Y4b w
 clear hs hA hin hAw
 go_enter Tryz.func4,Tryz.ntmps4
 go_upto_block 0 with (go_at_call 15;(with_reducible refine cB.mono ?_);clear cB;rintro e w1 ⟨d,p,tb,ts,F,rfl,ht,hb,hz⟩;have HST:=hD (LawI.start ht hb);clear ht hb hz)
 generalize hW2:World.alloc w1 _=W2 at *
 obtain⟨bl,hbl⟩:∃bl,w1.heap.size=bl:=⟨_,rfl⟩
 rw[hbl]at HST ⊢
 have HBL:=hD hbl
 clear hW2 hbl
 obtain⟨L,hL⟩:∃L,X6v (acts.take 40)=L:=⟨_,rfl⟩
 have HL:=hD hL
 go_cut [7] (fun _ wx=>∃F,LawI w tb p bl ts L 40 F wx)
 case first=>
  go_wp2_with fail
  go_loopw [7] (fun i wr=>∃(k:Nat) (F:Nat→Prop),k≤acts.length∧k≤40∧i= .int .i64 k∧LawI w tb p bl ts (X6v (acts.take k)) k F wr) (fun i _=>acts.length-(intOf i).toNat)
  case atStart=>exact⟨0,_,by omega,by omega,rfl,HST.out⟩
  case round=>
   obtain⟨k,F2,hk,hk40,rfl,hr⟩:=hrel
   have HR:=hD hr
   clear hr
   by_cases hlt:k<acts.length
   ·have hd:decide ((k:Int)<(acts.length:Int))=true:=by simp;omega
    by_cases h40:k<40
    ·have hd2:decide ((k:Int)<40)=true:=by simp;omega
     have HT:=hD (X6u acts k hlt)
     have HIK:=hD (HIN.out _ (List.getElem_mem hlt))
     obtain⟨b,off,rfl,hbl,hx⟩:=HA.out (by omega)
     obtain⟨cs,rfl,_,hcs⟩:=hx k hlt
     have HE:Hid (∀W:World,Ext w W→(W.cell? ⟨b,off+k*12,none⟩=some (.int .i64 acts[k].1)∧W.cell? ⟨b,off+k*12+1,none⟩=some (.int .i64 acts[k].2.id)∧W.cell? ⟨b,off+k*12+2,none⟩=some (.int .i64 acts[k].2.proc)∧W.cell? ⟨b,off+k*12+3,none⟩=some (.int .i64 acts[k].2.object)∧W.cell? ⟨b,off+k*12+4,none⟩=some (.int .i64 acts[k].2.kind)∧W.cell? ⟨b,off+k*12+5,none⟩=some (.int .i64 acts[k].2.method)∧W.cell? ⟨b,off+k*12+6,none⟩=some (.int .i64 acts[k].2.arg)∧W.cell? ⟨b,off+k*12+7,none⟩=some (.int .i64 acts[k].2.second)∧W.cell? ⟨b,off+k*12+8,none⟩=some (.bool acts[k].2.done)∧W.cell? ⟨b,off+k*12+9,none⟩=some (.int .i64 acts[k].2.result)∧W.cell? ⟨b,off+k*12+10,none⟩=some (.int .i64 acts[k].2.invoke)∧W.cell? ⟨b,off+k*12+11,none⟩=some (.int .i64 acts[k].2.ret))):=by
      intro W h
      have hw:=fun j u hu=>(h.cell (p:=⟨b,off+k*12+j,none⟩) hbl).trans (hcs j u hu)
      exact⟨hw 0 _ rfl,hw 1 _ rfl,hw 2 _ rfl,hw 3 _ rfl,hw 4 _ rfl,hw 5 _ rfl,hw 6 _ rfl,hw 7 _ rfl,hw 8 _ rfl,hw 9 _ rfl,hw 10 _ rfl,hw 11 _ rfl⟩
     clear hx hcs
     generalize acts[k]=x at *
     obtain⟨kd,o⟩:=x
     dsimp only at HE HIK
     generalize X6v (acts.take k)=l at *
     have hbw:=Nat.lt_of_lt_of_le hbl HR.out.ext.size
     obtain⟨e0,e1,e2,e3,e4,e5,e6,e7,e8,e9,e10,e11⟩:=HE.out wr HR.out.ext
     by_cases hkd:kd<2
     ·have q1:decide (kd<2)=true:=decide_eq_true hkd
      have HS:Hid (V3e l (kd,o)=actL kd o l):=if_pos hkd
      have cD:=HR.out.act kd o (by omega) HIK.out.1 HIK.out.2 h40
      unfold actV at cD
      clear hkd
      go_wp2_with (go_at_call 17;(with_reducible refine cD.mono ?_);clear cD;rintro e w3 ⟨rfl,F3,hl3⟩;have HL3:=hD hl3;clear hl3)
      go_roundw
      case rel=>exact⟨k+1,F3,by omega,by omega,by go_num,by rw[HT.out,HS.out];exact HL3.out⟩
      case measure=>simp[intOf];omega
     ·have q1:decide (kd<2)=false:=decide_eq_false hkd
      have HS:Hid (V3e l (kd,o)=l):=if_neg hkd
      clear hkd
      go_wp2_with fail
      go_roundw
      case rel=>exact⟨k+1,F2,by omega,by omega,by go_num,by rw[HT.out,HS.out];exact HR.out.skip⟩
      case measure=>simp[intOf];omega
    ·obtain rfl:k=40:=by omega
     have hd2:decide (((40:Nat):Int)<40)=false:=by simp
     rw[HL.out]at HR
     go_wp2_with fail
     go_meet
     exact⟨F2,HR.out⟩
   ·have hd:decide ((k:Int)<(acts.length:Int))=false:=by simp;omega
    have HF:Hid (∃F,LawI w tb p bl ts L 40 F wr):=by
     refine⟨F2,?_⟩
     have e1:acts.take k=acts.take 40:=by rw[List.take_of_length_le (by omega),List.take_of_length_le (by omega)]
     have h1:=HR.out
     rw[e1,HL.out]at h1
     exact h1.more hk40
    go_wp2_with fail
    go_meet
    exact HF.out
 case rest=>
 obtain⟨F1,hr1⟩:=hcut
 have HR1:=hD hr1
 clear hr1 HST
 have HLN:Hid (L.length≤40):=HR1.out.len
 clear hL
 go_wp2_with fail
 go_loopw [8] (fun v wr=>∃(m:Nat) (F:Nat→Prop),m≤5∧v= .int .i64 m∧LawI w tb p bl ts L 40 F wr) (fun v _=>5-(intOf v).toNat)
 case atStart=>exact⟨0,F1,by omega,rfl,HR1.out⟩
 case round=>
  obtain⟨m,F2,hm,rfl,hr⟩:=hrel
  have HR:=hD hr
  clear hr
  by_cases hm5:m<5
  ·have hd:decide ((m:Int)<5)=true:=by simp;omega
   obtain⟨S,Ts,all,k,hT,hf,cF⟩:=HR.out.found m 1000 [] (by omega) hm5 (Sl.nil _ _ _) (fun x hx=>by cases hx) (by simp) (by omega)
   have hLn:L.Nodup:=(hT.ids 0 (by omega)).imp (fun {a b} h e=>h (by rw[e]))
   have hP:(all.take k).Perm L:=by
    have h1:=hf.perm hT hm5
    rwa [List.filter_eq_self.2 (fun o _=>X7o (List.nil_prefix))]at h1
   have hal:all.length≤L.length:=(hf.nodup hT hm5).length_le_of_subset (fun o ho=>hf.mem o ho)
   obtain⟨n,hn⟩:∃n,L.length=n:=⟨_,rfl⟩
   have HN:=hD hn
   have HKN:Hid (k=n∧n≤40):=by
    have h1:=hP.length_eq
    rw[List.length_take]at h1
    have:=HLN.out
    have:=hf.le
    exact⟨by omega,by omega⟩
   have HCT:Hid (∀(i:Nat) (h:i<L.length),(all.take k).count L[i]=1):=fun i h=>by
    rw[hP.count_eq]
    exact Nat.le_antisymm (List.nodup_iff_count.1 hLn _) (List.one_le_count_iff.2 (List.getElem_mem h))
   rw[show ((1000:Nat):Int)=1000 from rfl]at cF
   clear hLn hP hal hT hf hn
   go_wp2_with (go_at_call 20;(with_reducible refine cF.mono ?_);clear cF;rintro e w3 ⟨gA,gc,j,F3,rfl,hg,hj1,hj2,hl3,_⟩;obtain rfl:j=n:=(by have:=HKN.out;omega);have HG:=hD hg;have HL3:=hD hl3;obtain⟨lA,lc,hbr,hls⟩:=hl3.list;rw[HN.out]at hbr hls;have HBR:=hD hbr;have HLS:=hD hls;have c0:w3.cell? ⟨bl,0,none⟩=some (.slice lA j lc):=hbr.cell 0;clear hg hl3 hbr hls hj1 hj2)
   obtain rfl:j=k:=HKN.out.1.symm
   have hj40:j≤40:=HKN.out.2
   generalize all.take j=got at *
   have hgl:=HG.out.num
   have hll:=HLS.out.num
   have hgx:=HG.out.at.2.2.2
   have hlx:=HLS.out.at.2.2.2
   have HGX:=hD hgx
   have HLX:=hD hlx
   have HCN:Hid (∀i (h:i<L.length),got.count L[i]=1):=HCT.out
   have HGL:=hD hgl
   have HLL:=hD hll
   have HC0:Hid (∀W,Ext w3 W→W.cell? ⟨bl,0,none⟩=some (.slice lA j lc)):=fun W hW=>(HBR.out.ext hW HBR.out.lt).cell 0
   clear hgl hll hgx hlx HCT HKN HN
   go_wp2_with fail
   clear c0
   go_loopw [10] (fun v wz=>∃q:Nat,q≤j∧v= .int .i64 q∧Ext w3 wz) (fun v _=>j-(intOf v).toNat)
   case atStart=>exact⟨0,by omega,rfl,Ext.refl _⟩
   case round=>
    obtain⟨q,hq,rfl,hz⟩:=hrel
    have HZ:=hD hz
    have c0:=HC0.out _ hz
    clear hz
    by_cases hqj:q<j
    ·have hd3:decide ((q:Int)<(j:Int))=true:=by simp;omega
     have hqL:q<L.length:=by rw[HLL.out];exact hqj
     have HONE:=hD (HCN.out q hqL)
     obtain⟨lb,lo,rfl,hlb,hlc⟩:=HLX.out (by omega)
     obtain⟨cs,rfl,_,hcs⟩:=hlc q hqL
     have HEL:Hid (∀W:World,Ext w3 W→(W.cell? ⟨lb,lo+q*11,none⟩=some (.int .i64 L[q].id)∧W.cell? ⟨lb,lo+q*11+1,none⟩=some (.int .i64 L[q].proc)∧W.cell? ⟨lb,lo+q*11+2,none⟩=some (.int .i64 L[q].object)∧W.cell? ⟨lb,lo+q*11+3,none⟩=some (.int .i64 L[q].kind)∧W.cell? ⟨lb,lo+q*11+4,none⟩=some (.int .i64 L[q].method)∧W.cell? ⟨lb,lo+q*11+5,none⟩=some (.int .i64 L[q].arg)∧W.cell? ⟨lb,lo+q*11+6,none⟩=some (.int .i64 L[q].second)∧W.cell? ⟨lb,lo+q*11+7,none⟩=some (.bool L[q].done)∧W.cell? ⟨lb,lo+q*11+8,none⟩=some (.int .i64 L[q].result)∧W.cell? ⟨lb,lo+q*11+9,none⟩=some (.int .i64 L[q].invoke)∧W.cell? ⟨lb,lo+q*11+10,none⟩=some (.int .i64 L[q].ret))):=by
      intro W h
      have hw:=fun j u hu=>(h.cell (p:=⟨lb,lo+q*11+j,none⟩) hlb).trans (hcs j u hu)
      exact⟨hw 0 _ rfl,hw 1 _ rfl,hw 2 _ rfl,hw 3 _ rfl,hw 4 _ rfl,hw 5 _ rfl,hw 6 _ rfl,hw 7 _ rfl,hw 8 _ rfl,hw 9 _ rfl,hw 10 _ rfl⟩
     clear hlc hcs
     have hlbz:=Nat.lt_of_lt_of_le hlb HZ.out.size
     generalize L[q]=x at *
     go_wp2_with fail
     clear c0
     go_loopw [11,12] (fun u v wy=>∃r:Nat,r≤j∧u= .int .i64 ((got.take r).count x:Nat)∧v= .int .i64 r∧Ext w3 wy) (fun _ v _=>j-(intOf v).toNat)
     case atStart=>exact⟨0,by omega,by simp,rfl,by exact Xx (HZ.out)⟩
     case round=>
      obtain⟨r,hr,rfl,rfl,hy⟩:=hrel
      have HY:=hD hy
      have c0:=HC0.out _ hy
      clear hy
      by_cases hrj:r<j
      ·have hd4:decide ((r:Int)<(j:Int))=true:=by simp;omega
       have hrG:r<got.length:=by rw[HGL.out];exact hrj
       obtain⟨gb,go_,rfl,hgb,hgc⟩:=HGX.out (by omega)
       obtain⟨cs,rfl,_,hcs⟩:=hgc r hrG
       have HEG:Hid (∀W:World,Ext w3 W→(W.cell? ⟨gb,go_+r*11,none⟩=some (.int .i64 got[r].id)∧W.cell? ⟨gb,go_+r*11+1,none⟩=some (.int .i64 got[r].proc)∧W.cell? ⟨gb,go_+r*11+2,none⟩=some (.int .i64 got[r].object)∧W.cell? ⟨gb,go_+r*11+3,none⟩=some (.int .i64 got[r].kind)∧W.cell? ⟨gb,go_+r*11+4,none⟩=some (.int .i64 got[r].method)∧W.cell? ⟨gb,go_+r*11+5,none⟩=some (.int .i64 got[r].arg)∧W.cell? ⟨gb,go_+r*11+6,none⟩=some (.int .i64 got[r].second)∧W.cell? ⟨gb,go_+r*11+7,none⟩=some (.bool got[r].done)∧W.cell? ⟨gb,go_+r*11+8,none⟩=some (.int .i64 got[r].result)∧W.cell? ⟨gb,go_+r*11+9,none⟩=some (.int .i64 got[r].invoke)∧W.cell? ⟨gb,go_+r*11+10,none⟩=some (.int .i64 got[r].ret))):=by
        intro W h
        have hw:=fun j u hu=>(h.cell (p:=⟨gb,go_+r*11+j,none⟩) hgb).trans (hcs j u hu)
        exact⟨hw 0 _ rfl,hw 1 _ rfl,hw 2 _ rfl,hw 3 _ rfl,hw 4 _ rfl,hw 5 _ rfl,hw 6 _ rfl,hw 7 _ rfl,hw 8 _ rfl,hw 9 _ rfl,hw 10 _ rfl⟩
       clear hgc hcs
       have hgbz:=Nat.lt_of_lt_of_le hgb HY.out.size
       have hlby:=Nat.lt_of_lt_of_le hlb HY.out.size
       obtain⟨bq,hbq,hrun⟩:=X8l got[r] x
       have HCT:Hid ((got.take (r+1)).count x=(got.take r).count x+(if bq then 1 else 0)):=X6k got x r hrG bq hbq
       have HLE:Hid ((got.take r).count x≤r):=Nat.le_trans List.count_le_length (by rw[List.length_take];omega)
       clear hbq
       generalize got[r]=y at *
       generalize (got.take r).count x=z at *
       obtain⟨e0,e1,e2,e3,e4,e5,e6,e7,e8,e9,e10⟩:=HEG.out wr HY.out
       obtain⟨f0,f1,f2,f3,f4,f5,f6,f7,f8,f9,f10⟩:=HEL.out wr HY.out
       cases bq with
       | true=>
         have HCU:Hid ((got.take (r+1)).count x=z+1):=HCT.out
         go_wp2_with fail
         go_quiet (fail)
         go_wp2_with fail
         go_roundw
         case rel=>
          have:=HLE.out
          refine⟨r+1,by omega,?_,by go_num,HY.out.trans (by exact Xt)⟩
          have hz40:z+1≤41:=by omega
          rw[HCU.out,IntWalk.wrap64_in _ ⟨by omega,by omega⟩]
          rfl
         case measure=>simp[intOf];omega
       | false=>
         have HCU:Hid ((got.take (r+1)).count x=z+0):=HCT.out
         go_wp2_with fail
         go_quiet (fail)
         go_wp2_with fail
         go_roundw
         case rel=>
          have:=HLE.out
          refine⟨r+1,by omega,?_,by go_num,HY.out.trans (by exact Xt)⟩
          rw[HCU.out]
          rfl
         case measure=>simp[intOf];omega
      ·obtain rfl:r=j:=by omega
       have hd4:decide ((r:Int)<(r:Int))=false:=by simp
       have h1:(got.take r).count x=1:=by rw[List.take_of_length_le (by rw[HGL.out];exact Nat.le_refl _)];exact HONE.out
       rw[h1]
       clear h1
       go_wp2_with fail
       go_roundw
       case rel=>exact⟨q+1,by omega,by go_num,HY.out⟩
       case measure=>simp[intOf];omega
    ·obtain rfl:q=j:=by omega
     have hd3:decide ((q:Int)<(q:Int))=false:=by simp
     go_wp2_with fail
     go_roundw
     case rel=>exact⟨m+1,F3,by omega,by go_num,HL3.out.to HZ.out⟩
     case measure=>simp[intOf];omega
  ·obtain rfl:m=5:=by omega
   have hd:decide (((5:Nat):Int)<5)=false:=by simp
   go_wp2_with (go_at_call 16;(with_reducible refine(HAW.out _).mono ?_);rintro e w4 ⟨rfl,hx4⟩;have HX4:=hD (HR.out.ext.trans hx4);clear hx4)
   go_ret
   exact⟨rfl,HX4.out⟩
end Go.Proofs.YtmiolpfanlpfnaaGreat
