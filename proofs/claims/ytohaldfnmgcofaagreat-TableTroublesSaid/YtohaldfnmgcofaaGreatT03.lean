/- op.Check, and what it calls: which operations may be. No conditions. -/
import Derived.Test.YtohaldfnmgcofaaGreatT02
set_option maxRecDepth 100000
set_option maxHeartbeats 8000000
set_option linter.unusedSimpArgs false
set_option linter.unusedVariables false
namespace Go.Proofs.YtohaldfnmgcofaaGreat
open Go.RowKit
theorem Z1s(n:Int)(w:World):cQ 217 #[.int .i64 n] w fun e w'=>e= .returned (.bool (valB n))/\w'=w:=by
 by_cases h0:0<=n
 ·have q0:decide (0<=n)=true:=by simpa using h0
  have HV:Hid (valB n=decide (n<=1073741824)):=by unfold Hid valB betw;simp[h0]
  clear h0;go_enter Tryz.func217,Tryz.ntmps217;go_wp2_with fail;go_ret;exact⟨by rw[HV.out];rfl,rfl⟩
 ·have q0:decide (0<=n)=false:=by simpa using h0
  have HV:Hid (valB n=false):=by unfold Hid valB betw;simp[h0]
  clear h0;go_enter Tryz.func217,Tryz.ntmps217;go_wp2_with fail;go_ret;exact⟨by rw[HV.out];rfl,rfl⟩
theorem Z8h(k m:Int)(w:World):cQ 190 #[.int .i64 k,.int .i64 m] w fun e w'=>e= .returned (.bool (Y1x k m))/\w'=w:=by
 have HV:Hid (Y1x k m=if k=1 then betw m 1 3 else if k=2 then m==1 || m==4 || m==5 else if k=3 then m==6 || m==7 else if k=4 then m==8 || m==9 else if k=5 then betw m 10 12 else if k=6 then m==13 || m==14 else false):=rfl;go_enter Tryz.func190,Tryz.ntmps190;go_wp2
 all_goals (go_ret)
 all_goals (refine ⟨?_,rfl⟩)
 all_goals go_light
 all_goals (rw [HV.out])
 all_goals (simp_all [betw])
 all_goals (try omega)
theorem Y1m(o:OpD)(w:World):cQ 191 #[o.val] w fun e w'=>e= .returned (.bool (Y0p o.method o.arg o.second))/\Ext w w':=by
 obtain⟨id,proc,object,kind,method,arg,second,done,result,invoke,ret⟩:=o;dsimp only[OpD.val];by_cases h3:method=3
 ·subst h3;have HV:Hid (Y0p 3 arg second=(valB arg&&valB second)):=rfl;cases ha:valB arg with
  | false=>
    rw[ha]at HV;have HA:=hD ha;clear ha;go_enter Tryz.func191,Tryz.ntmps191;go_wp2_with (go_at_call 217;refine(Z1s _ _).mono ?_;rintro e w1 ⟨rfl,rfl⟩;rw[HA.out]);go_ret;exact⟨by rw[HV.out];rfl,by exact Xt⟩
  | true=>
    rw[ha]at HV;have HA:=hD ha;clear ha;obtain⟨b,hb⟩:∃b,valB second=b:=⟨_,rfl⟩;rw[hb]at HV;have HB:=hD hb;clear hb;go_enter Tryz.func191,Tryz.ntmps191;go_wp2_with (go_at_call 217;first | (refine (Z1s arg _).mono ?_;rintro e w1 ⟨rfl,rfl⟩;rw[HA.out]) | (refine (Z1s second _).mono ?_;rintro e w1 ⟨rfl,rfl⟩;rw[HB.out]));go_ret;exact⟨by rw[HV.out];rfl,by exact Xt⟩
 ·by_cases hm:method=2\/method=6\/method=8\/method=10\/method=11\/method=12
  ·have HV:Hid (Y0p method arg second=(valB arg&&second==0)):=by unfold Hid Y0p;rw[if_neg h3,if_pos hm]
   obtain⟨b,hb⟩:∃b,(second==0)=b:=⟨_,rfl⟩;rw[hb]at HV;clear h3;cases ha:valB arg with
   | false=>
     rw[ha]at HV;have HA:=hD ha;clear ha;rcases hm with rfl | rfl | rfl | rfl | rfl | rfl
     all_goals
      go_enter Tryz.func191,Tryz.ntmps191;go_wp2_with (go_at_call 217;refine(Z1s _ _).mono ?_;rintro e w1 ⟨rfl,rfl⟩;rw[HA.out]);go_ret;exact⟨by rw[HV.out];rfl,by exact Xt⟩
   | true=>
     rw[ha]at HV;have HA:=hD ha;clear ha;rcases hm with rfl | rfl | rfl | rfl | rfl | rfl
     all_goals
      go_enter Tryz.func191,Tryz.ntmps191;go_wp2_with (go_at_call 217;refine(Z1s _ _).mono ?_;rintro e w1 ⟨rfl,rfl⟩;rw[HA.out]);go_ret;exact⟨by rw[HV.out];rfl,by exact Xt⟩
  ·have HV:Hid (Y0p method arg second=(arg==0&&second==0)):=by unfold Hid Y0p;rw[if_neg h3,if_neg hm]
   have q3:(method==3)=false:=by simpa using h3
   have q2:(method==2)=false:=by simp;omega
   have q6:(method==6)=false:=by simp;omega
   have q8:(method==8)=false:=by simp;omega
   have q10:(method==10)=false:=by simp;omega
   have q11:(method==11)=false:=by simp;omega
   have q12:(method==12)=false:=by simp;omega
   obtain⟨b,hb⟩:∃b,(second==0)=b:=⟨_,rfl⟩;rw[hb]at HV;clear h3 hm;cases ha:(arg==0)with
   | false=>
     rw[ha]at HV;go_enter Tryz.func191,Tryz.ntmps191;go_wp2_with fail;go_ret;exact⟨by rw[HV.out];rfl,by exact Xt⟩
   | true=>
     rw[ha]at HV;go_enter Tryz.func191,Tryz.ntmps191;go_wp2_with fail;go_ret;exact⟨by rw[HV.out];rfl,by exact Xt⟩
theorem X0k(o:OpD)(w:World)(hr: -9223372036854775808<=o.result/\o.result<=9223372036854775807):cQ 192 #[o.val] w fun e w'=>e= .returned (.bool (resB o.kind o.method o.result))/\Ext w w':=by
 obtain⟨id,proc,object,kind,method,arg,second,done,result,invoke,ret⟩:=o;dsimp only[OpD.val]at *;by_cases h1:method=1
 ·subst h1;have HV:Hid (resB kind 1 result=(valB result || kind==2&&valB (-result))):=rfl;cases ha:valB result with
  | true=>
    rw[ha]at HV;have HA:=hD ha;clear ha;go_enter Tryz.func192,Tryz.ntmps192;go_wp2_with (go_at_call 217;refine(Z1s _ _).mono ?_;rintro e w1 ⟨rfl,rfl⟩;rw[HA.out]);go_ret;exact⟨by rw[HV.out];rfl,by exact Xt⟩
  | false=>
    rw[ha]at HV;have HA:=hD ha;cases hk:(kind==2)with
    | false=>
      rw[hk]at HV;clear ha;go_enter Tryz.func192,Tryz.ntmps192;go_wp2_with (go_at_call 217;refine(Z1s _ _).mono ?_;rintro e w1 ⟨rfl,rfl⟩;rw[HA.out]);go_ret;exact⟨by rw[HV.out];rfl,by exact Xt⟩
    | true=>
      rw[hk]at HV;have hw:valB (wrap64 (-result))=valB (-result):=by
       by_cases hm:result= -9223372036854775808
       ·subst hm;unfold valB betw wrap64;rfl
       ·rw[show wrap64 (-result)= -result by unfold wrap64;omega]
      obtain⟨b,hb⟩:∃b,valB (-result)=b:=⟨_,rfl⟩;rw[hb]at HV hw;have HB:=hD hw;have HB2:=hD hb;clear ha hb hw hr;go_enter Tryz.func192,Tryz.ntmps192;go_wp2_with (go_at_call 217;first | (refine (Z1s result _).mono ?_;rintro e w1 ⟨rfl,rfl⟩;rw[HA.out]) | (go_loud (refine (Z1s _ _).mono ?_;rintro e w1 ⟨rfl,rfl⟩;first | rw[HB.out] | rw[HB2.out])));go_ret;exact⟨by rw[HV.out];rfl,by exact Xt⟩
 ·by_cases hm:method=3\/method=10\/method=11\/method=12
  ·have HV:Hid (resB kind method result=(result==0 || result==1)):=by unfold Hid resB;rw[if_neg h1,if_pos hm]
   obtain⟨b,hb⟩:∃b,(result==1)=b:=⟨_,rfl⟩;rw[hb]at HV;clear h1;cases ha:(result==0)with
   | true=>
     rw[ha]at HV;rcases hm with rfl | rfl | rfl | rfl
     all_goals
      go_enter Tryz.func192,Tryz.ntmps192;go_wp2_with fail;go_ret;exact⟨by rw[HV.out];rfl,by exact Xt⟩
   | false=>
     rw[ha]at HV;rcases hm with rfl | rfl | rfl | rfl
     all_goals
      go_enter Tryz.func192,Tryz.ntmps192;go_wp2_with fail;go_ret;exact⟨by rw[HV.out];rfl,by exact Xt⟩
  ·by_cases hm2:method=7\/method=9
   ·have HV:Hid (resB kind method result=(result== -1 || valB result)):=by unfold Hid resB;rw[if_neg h1,if_neg hm,if_pos hm2]
    clear h1 hm;obtain⟨b,hb⟩:∃b,valB result=b:=⟨_,rfl⟩;rw[hb]at HV;have HA:=hD hb;clear hb;cases ha:(result== -1)with
    | true=>
      rw[ha]at HV;rcases hm2 with rfl | rfl
      all_goals
       go_enter Tryz.func192,Tryz.ntmps192;go_wp2_with fail;go_ret;exact⟨by rw[HV.out];rfl,by exact Xt⟩
    | false=>
      rw[ha]at HV;rcases hm2 with rfl | rfl
      all_goals
       go_enter Tryz.func192,Tryz.ntmps192;go_wp2_with (go_at_call 217;refine(Z1s _ _).mono ?_;rintro e w1 ⟨rfl,rfl⟩;rw[HA.out]);go_ret;exact⟨by rw[HV.out];rfl,by exact Xt⟩
   ·have HV:Hid (resB kind method result=(result==0)):=by unfold Hid resB;rw[if_neg h1,if_neg hm,if_neg hm2]
    have q1:(method==1)=false:=by simpa using h1
    have q3:(method==3)=false:=by simp;omega
    have q10:(method==10)=false:=by simp;omega
    have q11:(method==11)=false:=by simp;omega
    have q12:(method==12)=false:=by simp;omega
    have q7:(method==7)=false:=by simp;omega
    have q9:(method==9)=false:=by simp;omega
    clear h1 hm hm2;go_enter Tryz.func192,Tryz.ntmps192;go_wp2_with fail;go_ret;exact⟨by rw[HV.out];rfl,by exact Xt⟩
def chk1(o:OpD):Bool:=decide (o.id<1) || decide (1073741824<o.id) || decide (o.proc<0) || decide (1023<o.proc) || decide (o.object<0) || decide (1023<o.object)
def chk2(o:OpD):Bool:= !Y1x o.kind o.method || !Y0p o.method o.arg o.second || o.done&& !resB o.kind o.method o.result || !o.done&&o.result !=0
def chk3(o:OpD):Bool:=decide (o.invoke<0) || decide (1099511627776<o.invoke) || o.done&&(decide (o.ret<=o.invoke) || decide (1099511627776<o.ret)) || !o.done&&o.ret !=0
theorem X2m(o:OpD):Z1p o=if chk1 o=true then 30 else if chk2 o=true then 33 else if chk3 o=true then 31 else 0:=rfl
theorem Y4g(o:OpD)(w:World)(hr: -9223372036854775808<=o.result/\o.result<=9223372036854775807):cQ 147 #[o.val] w fun e w'=>e= .returned (.int .i64 (Z1p o))/\Ext w w':=by
 have HP:=hD (X2m o);have H1:Hid (chk1 o=(decide (o.id<1) || decide (1073741824<o.id) || decide (o.proc<0) || decide (1023<o.proc) || decide (o.object<0) || decide (1023<o.object))):=rfl;have H3:Hid (chk3 o=(decide (o.invoke<0) || decide (1099511627776<o.invoke) || o.done&&(decide (o.ret<=o.invoke) || decide (1099511627776<o.ret)) || !o.done&&o.ret !=0)):=rfl;have H2:Hid (chk2 o=(!Y1x o.kind o.method || !Y0p o.method o.arg o.second || o.done&& !resB o.kind o.method o.result || !o.done&&o.result !=0)):=rfl;have HRES:=hD hr;have HBX:Hid (∀W:World,Ext (w.alloc (.cells #[.int .i64 o.id,.int .i64 o.proc,.int .i64 o.object,.int .i64 o.kind,.int .i64 o.method,.int .i64 o.arg,.int .i64 o.second,.bool o.done,.int .i64 o.result,.int .i64 o.invoke,.int .i64 o.ret] 73)) W->At11 W w.heap.size o):=fun W h=>(At11.row (Row1.made w 73 o.cells)).ext h (by simp);clear hr;obtain⟨b1,hb1⟩:∃b,chk1 o=b:=⟨_,rfl⟩;obtain⟨b2,hb2⟩:∃b,chk2 o=b:=⟨_,rfl⟩;obtain⟨b3,hb3⟩:∃b,chk3 o=b:=⟨_,rfl⟩;rw[hb1]at H1;rw[hb2]at H2;rw[hb3]at H3;rw[hb1,hb2,hb3]at HP;clear hb1 hb2 hb3;go_enter Tryz.func147,Tryz.ntmps147;go_upto_region 1 with fail
 go_cut [3] (fun s wx=>s= .bool b1/\wx=w.alloc (.cells #[.int .i64 o.id,.int .i64 o.proc,.int .i64 o.object,.int .i64 o.kind,.int .i64 o.method,.int .i64 o.arg,.int .i64 o.second,.bool o.done,.int .i64 o.result,.int .i64 o.invoke,.int .i64 o.ret] 73))
 case first=>
  go_wp2_with fail
  all_goals go_meet
  all_goals (refine ⟨?_,rfl⟩)
  all_goals go_light
  all_goals (rw [H1.out])
  all_goals (simp_all;try omega)
 case rest=>
 obtain⟨rfl,rfl⟩:=hcut;cases b1 with
 | true=>
   rw[if_pos rfl]at HP;go_wp2_with fail;go_ret;exact⟨by rw[HP.out];rfl,by exact Xt⟩
 | false=>
   rw[if_neg (by decide)]at HP;clear H1;go_upto_region 3 with fail
   go_cut [32] (fun s wx=>s= .bool b2/\Ext (w.alloc (.cells #[.int .i64 o.id,.int .i64 o.proc,.int .i64 o.object,.int .i64 o.kind,.int .i64 o.method,.int .i64 o.arg,.int .i64 o.second,.bool o.done,.int .i64 o.result,.int .i64 o.invoke,.int .i64 o.ret] 73)) wx)
   case first=>
    cases hf:Y1x o.kind o.method with
    | false=>
      have HF:=hD hf;obtain rfl:b2=true:=by rw[H2.out,hf];rfl
      clear hf H2 H3;go_wp2_with (go_at_call 190;refine(Z8h _ _ _).mono ?_;rintro e w1 ⟨rfl,rfl⟩;rw[HF.out])
      go_meet
      exact⟨rfl,Ext.refl _⟩
    | true=>
      have HF:=hD hf;cases ha:Y0p o.method o.arg o.second with
      | false=>
        have HA:=hD ha;obtain rfl:b2=true:=by rw[H2.out,hf,ha];rfl
        clear hf ha H2 H3;go_wp2_with (go_at_call 190;refine(Z8h _ _ _).mono ?_;rintro e w1 ⟨rfl,rfl⟩;rw[HF.out]);refine(Y1m o _).mono ?_;rintro e w1 ⟨rfl,hb1⟩;rw[HA.out];have K1:=hD hb1;clear hb1;go_wp2_with fail
        go_meet
        exact⟨rfl,K1.out⟩
      | true=>
        have HA:=hD ha;obtain⟨dn,hd⟩:∃d,o.done=d:=⟨_,rfl⟩;cases dn with
        | false=>
          obtain⟨q,hq⟩:∃q,(o.result !=0)=q:=⟨_,rfl⟩;obtain rfl:b2=q:=by rw[H2.out,hf,ha,hd,hq];rfl
          have HD:=hD hd;clear hf ha hd H2 H3;go_wp2_with (go_at_call 190;refine(Z8h _ _ _).mono ?_;rintro e w1 ⟨rfl,rfl⟩;rw[HF.out]);refine(Y1m o _).mono ?_;rintro e w1 ⟨rfl,hb1⟩;rw[HA.out];have K1:=hD hb1;obtain⟨a0,a1,a2,a3,a4,a5,a6,a7,a8,a9,a10⟩:=HBX.out _ hb1;rw[HD.out]at a7;clear hb1;go_wp2_with fail
          go_meet
          exact⟨rfl,K1.out⟩
        | true=>
          obtain⟨q,hq⟩:∃q,resB o.kind o.method o.result=q:=⟨_,rfl⟩;obtain rfl:b2= !q:=by rw[H2.out,hf,ha,hd,hq];cases q<;>rfl
          have HD:=hD hd;have HR:=hD hq;clear hf ha hd hq H2 H3;go_wp2_with (go_at_call 190;refine(Z8h _ _ _).mono ?_;rintro e w1 ⟨rfl,rfl⟩;rw[HF.out]);refine(Y1m o _).mono ?_;rintro e w1 ⟨rfl,hb1⟩;rw[HA.out];have K1:=hD hb1;obtain⟨a0,a1,a2,a3,a4,a5,a6,a7,a8,a9,a10⟩:=HBX.out _ hb1;rw[HD.out]at a7;clear hb1;go_wp2_with fail;have HRR:=X0k o w1 HRES.out;dsimp only[OpD.val]at HRR;rw[HD.out]at HRR;refine HRR.mono ?_;rintro e w2 ⟨rfl,hb2⟩;rw[HR.out];have K2:=hD (Ext.trans K1.out hb2);clear HRR a0 a1 a2 a3 a4 a5 a6 a7 a8 a9 a10;obtain⟨a0,a1,a2,a3,a4,a5,a6,a7,a8,a9,a10⟩:=HBX.out _ K2.out;rw[HD.out]at a7;clear hb2;cases q<;>(go_wp2_with fail;go_meet;exact⟨rfl,K2.out⟩)
   case rest=>
   obtain⟨rfl,hbx⟩:=hcut;have KC:=hD hbx;obtain⟨a0,a1,a2,a3,a4,a5,a6,a7,a8,a9,a10⟩:=HBX.out _ hbx;clear hbx H2;cases b2 with
   | true=>
     rw[if_pos rfl]at HP;go_wp2_with fail;go_ret;exact⟨by rw[HP.out];rfl,Ext.trans (Ext.alloc _ _) KC.out⟩
   | false=>
     rw[if_neg (by decide)]at HP;go_upto_region 5 with fail
     go_cut [63] (fun s wx=>s= .bool b3/\Ext (w.alloc (.cells #[.int .i64 o.id,.int .i64 o.proc,.int .i64 o.object,.int .i64 o.kind,.int .i64 o.method,.int .i64 o.arg,.int .i64 o.second,.bool o.done,.int .i64 o.result,.int .i64 o.invoke,.int .i64 o.ret] 73)) wx)
     case first=>
      go_wp2_with fail
      all_goals go_meet
      all_goals (refine ⟨?_,KC.out⟩)
      all_goals go_light
      all_goals (rw [H3.out])
      all_goals (simp_all;try omega)
     case rest=>
     obtain⟨rfl,hbx⟩:=hcut;clear a0 a1 a2 a3 a4 a5 a6 a7 a8 a9 a10;cases b3 with
     | true=>
       rw[if_pos rfl]at HP;go_wp2_with fail;go_ret;exact⟨by rw[HP.out];rfl,Ext.trans (Ext.alloc _ _) hbx⟩
     | false=>
       rw[if_neg (by decide)]at HP;go_wp2_with fail;go_ret;exact⟨by rw[HP.out];rfl,Ext.trans (Ext.alloc _ _) hbx⟩
end Go.Proofs.YtohaldfnmgcofaaGreat
