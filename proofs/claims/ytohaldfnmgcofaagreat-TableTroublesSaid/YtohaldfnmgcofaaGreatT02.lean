/- Which operations may be: the document's answer and the program's are the same. No program. -/
import Derived.Test.YtohaldfnmgcofaaGreatT01
set_option maxRecDepth 100000
set_option maxHeartbeats 4000000
set_option linter.unusedSimpArgs false
set_option linter.unusedVariables false
namespace Go.Proofs.YtohaldfnmgcofaaGreat
section
def betw(n a b:Int):Bool:=decide (a<=n)&&decide (n<=b)
def rowsL:List (Int×Int×Int×Int):= [(1,1,0,2),(1,2,1,0),(1,3,2,1),(2,1,0,3),(2,4,0,0),(2,5,0,0),(3,6,1,0),(3,7,0,4),(4,8,1,0),(4,9,0,4),(5,10,1,1),(5,11,1,1),(5,12,1,1),(6,13,0,0),(6,14,0,0)]
def Z3t(k m:Int):Option (Int×Int×Int×Int):=rowsL.find? (fun r=>r.1==k&&r.2.1==m)
def ansB(n how:Int):Bool:=if how=0 then n==0 else if how=1 then n==0 || n==1 else if how=2 then betw n 0 1073741824 else if how=3 then betw n (-1073741824) 1073741824 else betw n (-1) 1073741824
def V9u(o:OpD)(a how:Int):Int:=
 if(!betw o.arg 0 (if 1<=a then 1073741824 else 0) || !betw o.second 0 (if 2<=a then 1073741824 else 0))=true then 33
 else if(o.done&& !ansB o.result how || !o.done&&o.result !=0)=true then 33
 else if(!betw o.invoke 0 1099511627776 || !o.done&&o.ret !=0)=true then 31
 else if(o.done&&(decide (o.ret<=o.invoke) || decide (1099511627776<o.ret)))=true then 31 else 0
def chkL(o:OpD):Int:=
 if(!betw o.id 1 1073741824 || !betw o.proc 0 1023 || !betw o.object 0 1023)=true then 30
 else match Z3t o.kind o.method with
  | none=>33
  | some r=>V9u o r.2.2.1 r.2.2.2
def valB(n:Int):Bool:=betw n 0 1073741824
def Y1x(k m:Int):Bool:=
 if k=1 then betw m 1 3 else if k=2 then m==1 || m==4 || m==5 else if k=3 then m==6 || m==7 else if k=4 then m==8 || m==9 else if k=5 then betw m 10 12 else if k=6 then m==13 || m==14 else false
def Y0p(m a s:Int):Bool:=if m=3 then valB a&&valB s else if m=2\/m=6\/m=8\/m=10\/m=11\/m=12 then valB a&&s==0 else a==0&&s==0
def resB(k m n:Int):Bool:=if m=1 then valB n || k==2&&valB (-n)else if m=3\/m=10\/m=11\/m=12 then n==0 || n==1 else if m=7\/m=9 then n== -1 || valB n else n==0
def Z1p(o:OpD):Int:=
 if(decide (o.id<1) || decide (1073741824<o.id) || decide (o.proc<0) || decide (1023<o.proc) || decide (o.object<0) || decide (1023<o.object))=true then 30
 else if(!Y1x o.kind o.method || !Y0p o.method o.arg o.second || o.done&& !resB o.kind o.method o.result || !o.done&&o.result !=0)=true then 33
 else if(decide (o.invoke<0) || decide (1099511627776<o.invoke) || o.done&&(decide (o.ret<=o.invoke) || decide (1099511627776<o.ret)) || !o.done&&o.ret !=0)=true then 31 else 0
theorem Y6v(k m:Int)(h:Y1x k m=true):(k=1/\m=1)\/(k=1/\m=2)\/(k=1/\m=3)\/(k=2/\m=1)\/(k=2/\m=4)\/(k=2/\m=5)\/(k=3/\m=6)\/(k=3/\m=7)\/(k=4/\m=8)\/(k=4/\m=9)\/
  (k=5/\m=10)\/(k=5/\m=11)\/(k=5/\m=12)\/(k=6/\m=13)\/(k=6/\m=14):=by
 unfold Y1x betw at h;split at h
 ·rename_i hk;subst hk;simp only[Bool.and_eq_true,Bool.or_eq_true,decide_eq_true_eq,beq_iff_eq]at h
  have hm:m=1\/m=2\/m=3:=by omega
  rcases hm with rfl | rfl | rfl<;>simp
 split at h
 ·rename_i hk;subst hk;simp only[Bool.and_eq_true,Bool.or_eq_true,decide_eq_true_eq,beq_iff_eq]at h
  have hm:m=1\/m=4\/m=5:=by omega
  rcases hm with rfl | rfl | rfl<;>simp
 split at h
 ·rename_i hk;subst hk;simp only[Bool.and_eq_true,Bool.or_eq_true,decide_eq_true_eq,beq_iff_eq]at h
  have hm:m=6\/m=7:=by omega
  rcases hm with rfl | rfl<;>simp
 split at h
 ·rename_i hk;subst hk;simp only[Bool.and_eq_true,Bool.or_eq_true,decide_eq_true_eq,beq_iff_eq]at h
  have hm:m=8\/m=9:=by omega
  rcases hm with rfl | rfl<;>simp
 split at h
 ·rename_i hk;subst hk;simp only[Bool.and_eq_true,Bool.or_eq_true,decide_eq_true_eq,beq_iff_eq]at h
  have hm:m=10\/m=11\/m=12:=by omega
  rcases hm with rfl | rfl | rfl<;>simp
 split at h
 ·rename_i hk;subst hk;simp only[Bool.and_eq_true,Bool.or_eq_true,decide_eq_true_eq,beq_iff_eq]at h
  have hm:m=13\/m=14:=by omega
  rcases hm with rfl | rfl<;>simp
 cases h
theorem Y8r(k m:Int):(∃r∈rowsL,r.1=k/\r.2.1=m/\Z3t k m=some r)\/(Z3t k m=none/\Y1x k m=false):=by
 cases h:Z3t k m with
 | some r=>
   have h1:=List.find?_some h;have h2:=List.mem_of_find?_eq_some h;simp only[Bool.and_eq_true,beq_iff_eq]at h1;exact .inl ⟨r,h2,h1.1,h1.2,rfl⟩
 | none=>
   refine .inr ⟨rfl,?_⟩;cases hb:Y1x k m
   ·rfl
   ·exfalso;rcases Y6v k m hb with ⟨rfl,rfl⟩ | ⟨rfl,rfl⟩ | ⟨rfl,rfl⟩ | ⟨rfl,rfl⟩ | ⟨rfl,rfl⟩ | ⟨rfl,rfl⟩ | ⟨rfl,rfl⟩ | ⟨rfl,rfl⟩ | ⟨rfl,rfl⟩ | ⟨rfl,rfl⟩ | ⟨rfl,rfl⟩ | ⟨rfl,rfl⟩ | ⟨rfl,rfl⟩ | ⟨rfl,rfl⟩ | ⟨rfl,rfl⟩<;>exact absurd h (by decide)
theorem V7a(o:OpD):Z1p o=chkL o:=by
 unfold Z1p chkL;have e1:(decide (o.id<1) || decide (1073741824<o.id) || decide (o.proc<0) || decide (1023<o.proc) || decide (o.object<0) || decide (1023<o.object))=(!betw o.id 1 1073741824 || !betw o.proc 0 1023 || !betw o.object 0 1023):=by rw[Bool.eq_iff_iff];simp[betw];omega
 rw[e1];split
 ·rfl
 ·rcases Y8r o.kind o.method with ⟨r,hr,hk,hm,hf⟩ | ⟨hf,hb⟩
  ·rw[hf];obtain⟨id,proc,object,kind,method,arg,second,done,result,invoke,ret⟩:=o;simp only at hk hm ⊢;subst hk hm;clear hf e1;simp only[rowsL,List.mem_cons,List.not_mem_nil,or_false]at hr;rcases hr with rfl | rfl | rfl | rfl | rfl | rfl | rfl | rfl | rfl | rfl | rfl | rfl | rfl | rfl | rfl<;>
    (simp only[V9u,Y1x,Y0p,resB,ansB,valB,betw];cases done<;>simp<;>(repeat' split)<;>(first | rfl | omega | (simp at *;omega)))
  ·rw[hf,hb];simp
end
section
open Go.RowKit
theorem Z6o(n a b:Int)(w:World):cQ 128 #[.int .i64 n,.int .i64 a,.int .i64 b] w fun e w'=>e= .returned (.bool (betw n a b))/\w'=w:=by
 have HV:Hid (betw n a b=(decide (a<=n)&&decide (n<=b))):=rfl;cases h:decide (a<=n)with
 | true=>
   rw[h]at HV;go_enter Tryz.func128,Tryz.ntmps128;go_wp2_with fail;go_ret;exact⟨by rw[HV.out];rfl,rfl⟩
 | false=>
   rw[h]at HV;go_enter Tryz.func128,Tryz.ntmps128;go_wp2_with fail;go_ret;exact⟨by rw[HV.out];rfl,rfl⟩
theorem X8u(n how:Int)(w:World):cQ 130 #[.int .i64 n,.int .i64 how] w fun e w'=>e= .returned (.bool (ansB n how))/\w'=w:=by
 have HV:Hid (ansB n how=if how=0 then n==0 else if how=1 then n==0 || n==1 else if how=2 then betw n 0 1073741824 else if how=3 then betw n (-1073741824) 1073741824 else betw n (-1) 1073741824):=rfl;go_enter Tryz.func130,Tryz.ntmps130;go_wp2_with (go_at_call 128;refine(Z6o _ _ _ _).mono ?_;rintro e w' ⟨rfl,rfl⟩)
 all_goals (go_ret)
 all_goals (refine ⟨?_,rfl⟩)
 all_goals go_light
 all_goals (rw [HV.out])
 all_goals (simp_all)
def Z6h(r:Int×Int×Int×Int):List Value:= [.int .i64 r.1,.int .i64 r.2.1,.int .i64 r.2.2.1,.int .i64 r.2.2.2]
def U2g:List Value:= [.int .i64 1,.int .i64 1,.int .i64 0,.int .i64 2,.int .i64 1,.int .i64 2,.int .i64 1,.int .i64 0,.int .i64 1,.int .i64 3,.int .i64 2,.int .i64 1,.int .i64 2,.int .i64 1,.int .i64 0,.int .i64 3,.int .i64 2,.int .i64 4,.int .i64 0,.int .i64 0,.int .i64 2,.int .i64 5,.int .i64 0,.int .i64 0,.int .i64 3,.int .i64 6,.int .i64 1,.int .i64 0,.int .i64 3,.int .i64 7,.int .i64 0,.int .i64 4,.int .i64 4,.int .i64 8,.int .i64 1,.int .i64 0,.int .i64 4,.int .i64 9,.int .i64 0,.int .i64 4,.int .i64 5,.int .i64 10,.int .i64 1,.int .i64 1,.int .i64 5,.int .i64 11,.int .i64 1,.int .i64 1,.int .i64 5,.int .i64 12,.int .i64 1,.int .i64 1,.int .i64 6,.int .i64 13,.int .i64 0,.int .i64 0,.int .i64 6,.int .i64 14,.int .i64 0,.int .i64 0]
theorem V5x:U2g=rowsL.flatMap Z6h:=rfl
theorem V5w(w:World):cQ 177 #[] w fun e w'=>e= .returned (.slice (some ⟨w.heap.size,0,none⟩) 15 15)/\w'=w.alloc (.cells #[.int .i64 1,.int .i64 1,.int .i64 0,.int .i64 2,.int .i64 1,.int .i64 2,.int .i64 1,.int .i64 0,.int .i64 1,.int .i64 3,.int .i64 2,.int .i64 1,.int .i64 2,.int .i64 1,.int .i64 0,.int .i64 3,.int .i64 2,.int .i64 4,.int .i64 0,.int .i64 0,.int .i64 2,.int .i64 5,.int .i64 0,.int .i64 0,.int .i64 3,.int .i64 6,.int .i64 1,.int .i64 0,.int .i64 3,.int .i64 7,.int .i64 0,.int .i64 4,.int .i64 4,.int .i64 8,.int .i64 1,.int .i64 0,.int .i64 4,.int .i64 9,.int .i64 0,.int .i64 4,.int .i64 5,.int .i64 10,.int .i64 1,.int .i64 1,.int .i64 5,.int .i64 11,.int .i64 1,.int .i64 1,.int .i64 5,.int .i64 12,.int .i64 1,.int .i64 1,.int .i64 6,.int .i64 13,.int .i64 0,.int .i64 0,.int .i64 6,.int .i64 14,.int .i64 0,.int .i64 0] 223):=by go_enter Tryz.func177,Tryz.ntmps177;go_wp2_with fail;go_ret;exact⟨rfl,rfl⟩
theorem X3b(k m:Int)(j:Nat)(h:j<rowsL.length)(h1:rowsL[j].1=k/\rowsL[j].2.1=m)(h2:∀i (hi:i<rowsL.length),i<j->¬(rowsL[i].1=k/\rowsL[i].2.1=m)):Z3t k m=some rowsL[j]:=by unfold Z3t;rw[List.find?_eq_some_iff_getElem];exact⟨by simp[h1.1,h1.2],j,h,rfl,fun i hi=>by have:=h2 i (by omega) hi;simp only[Bool.not_eq_true',Bool.and_eq_false_iff,beq_eq_false_iff_ne];omega⟩
theorem X1d(k m:Int)(h2:∀i (hi:i<rowsL.length),¬(rowsL[i].1=k/\rowsL[i].2.1=m)):Z3t k m=none:=by unfold Z3t;rw[List.find?_eq_none];intro x hx;obtain⟨i,hi,rfl⟩:=List.mem_iff_getElem.1 hx;have:=h2 i hi;simpa using this
theorem X2d(k m:Int)(w:World):cQ 129 #[.int .i64 k,.int .i64 m] w fun e w'=>e= .returned (.tuple #[.agg (Z6h ((Z3t k m).getD (0,0,0,0))).toArray,.bool (Z3t k m).isSome])/\Ext w w':=by
 go_enter Tryz.func129,Tryz.ntmps129;go_wp2_with fail;refine(V5w _).mono ?_;rintro e w1 ⟨rfl,hw1⟩;have R0:Row1 w1 (w.heap.size+1) 223 (rowsL.flatMap Z6h):=by rw[hw1,<-V5x];exact Row1.made' (by simp) _ U2g
 have C0:Row1 w1 w.heap.size 223 [.int .i64 0,.int .i64 0,.int .i64 0,.int .i64 0]:=by rw[hw1];exact(Row1.made w _ [.int .i64 0,.int .i64 0,.int .i64 0,.int .i64 0]).alloc _
 have HX:Hid (Ext w w1):=by unfold Hid;rw[hw1];exact Xt
 have HR:=hD R0;have HC:=hD C0;have hz1:=HR.out.lt;clear R0 C0 hw1;go_wp2_with fail
 go_loop [7] (fun i=>∃j:Nat,j<=15/\i= .int .i64 j/\∀i (hi:i<rowsL.length),i<j->¬(rowsL[i].1=k/\rowsL[i].2.1=m)) (fun i=>15-(intOf i).toNat)
 case atStart=>exact⟨0,by omega,rfl,fun _ _ h=>absurd h (by omega)⟩
 case round=>
  obtain⟨j,hj,rfl,hf⟩:=hrel;have HF:=hD hf;clear hf;have hR:Row1 w1 (w.heap.size+1) 223 (rowsL.flatMap Z6h):=HR.out;by_cases hlt:j<15
  ·have hd:decide ((j:Int)<15)=true:=by simp;omega
   have hjl:j<rowsL.length:=hlt;have hw:=fun i u hu=>(hR.cell (j*4+i)).trans (Z3j Z6h 4 (fun _=>rfl) rowsL j _ (aB hjl) i u hu);have h0:=hw 0 _ rfl;have h1:=hw 1 _ rfl;have h2:=hw 2 _ rfl;have h3:=hw 3 _ rfl;simp only[Nat.add_zero]at h0;have c0:w1.cell? ⟨w.heap.size,0,none⟩=some (.int .i64 0):=HC.out.cell 0;have c1:w1.cell? ⟨w.heap.size,1,none⟩=some (.int .i64 0):=HC.out.cell 1;have c2:w1.cell? ⟨w.heap.size,2,none⟩=some (.int .i64 0):=HC.out.cell 2;have c3:w1.cell? ⟨w.heap.size,3,none⟩=some (.int .i64 0):=HC.out.cell 3;have f0:=fun i=>HC.out.soft i;have HHIT:Hid (rowsL[j].1=k/\rowsL[j].2.1=m->Z3t k m=some rowsL[j]):=fun h=>X3b k m j hjl h HF.out;have HF2:Hid (¬(rowsL[j].1=k/\rowsL[j].2.1=m)->∀i (hi:i<rowsL.length),i<j+1->¬(rowsL[i].1=k/\rowsL[i].2.1=m)):=by
    intro hne i hi hij;by_cases e:i=j
    ·subst e;exact hne
    ·exact HF.out i hi (by omega)
   clear hw hR;generalize rowsL[j]=r at *;obtain⟨r0,r1,r2,r3⟩:=r;dsimp only at h0 h1 h2 h3 HHIT HF2;by_cases e0:r0=k
   ·by_cases e1:r1=m
    ·have HV:=hD (HHIT.out ⟨e0,e1⟩);subst e0 e1;go_wp2_with fail;have HRR:=hD (show Row1 ((((w1.setCell ⟨w.heap.size,0,none⟩ (.int .i64 r0)).setCell ⟨w.heap.size,1,none⟩ (.int .i64 r1)).setCell ⟨w.heap.size,2,none⟩ (.int .i64 r2)).setCell ⟨w.heap.size,3,none⟩ (.int .i64 r3)) w.heap.size 223 [.int .i64 r0,.int .i64 r1,.int .i64 r2,.int .i64 r3]from(((HC.out.set 0 _).set 1 _).set 2 _).set 3 _);have d0:=HRR.out.cell 0;have d1:=HRR.out.cell 1;have d2:=HRR.out.cell 2;have d3:=HRR.out.cell 3;simp only[List.getElem?_cons_zero,List.getElem?_cons_succ]at d0 d1 d2 d3;refine bodyPost_ret (v:= .tuple #[.agg #[.int .i64 r0,.int .i64 r1,.int .i64 r2,.int .i64 r3],.bool true]) (by simp[results,Tryz.results129,go_sem,d0,d1,d2,d3]) rfl ⟨?_,by exact Xx (HX.out)⟩;rw[HV.out];rfl
    ·have q1:(r1==m)=false:=by simpa using e1
     have HF3:=hD (HF2.out (fun h=>e1 h.2));subst e0;clear e1;go_wp2_with fail
     go_round
     case rel=>exact⟨j+1,by omega,by go_num,HF3.out⟩
     case measure=>simp[intOf];omega
   ·have q0:(r0==k)=false:=by simpa using e0
    have HF3:=hD (HF2.out (fun h=>e0 h.1));clear e0;go_wp2_with fail
    go_round
    case rel=>exact⟨j+1,by omega,by go_num,HF3.out⟩
    case measure=>simp[intOf];omega
  ·obtain rfl:j=15:=by omega
   have HV:=hD (X1d k m (fun i hi=>HF.out i hi (by have:rowsL.length=15:=rfl;omega)));have c0:w1.cell? ⟨w.heap.size,0,none⟩=some (.int .i64 0):=HC.out.cell 0;have c1:w1.cell? ⟨w.heap.size,1,none⟩=some (.int .i64 0):=HC.out.cell 1;have c2:w1.cell? ⟨w.heap.size,2,none⟩=some (.int .i64 0):=HC.out.cell 2;have c3:w1.cell? ⟨w.heap.size,3,none⟩=some (.int .i64 0):=HC.out.cell 3;have f0:=fun i=>HC.out.soft i;clear hR;go_wp2_with fail;have HRR:=hD (show Row1 ((((w1.setCell ⟨w.heap.size,0,none⟩ (.int .i64 0)).setCell ⟨w.heap.size,1,none⟩ (.int .i64 0)).setCell ⟨w.heap.size,2,none⟩ (.int .i64 0)).setCell ⟨w.heap.size,3,none⟩ (.int .i64 0)) w.heap.size 223 [.int .i64 0,.int .i64 0,.int .i64 0,.int .i64 0]from(((HC.out.set 0 _).set 1 _).set 2 _).set 3 _);have d0:=HRR.out.cell 0;have d1:=HRR.out.cell 1;have d2:=HRR.out.cell 2;have d3:=HRR.out.cell 3;simp only[List.getElem?_cons_zero,List.getElem?_cons_succ]at d0 d1 d2 d3;refine bodyPost_ret (v:= .tuple #[.agg #[.int .i64 0,.int .i64 0,.int .i64 0,.int .i64 0],.bool false]) (by simp[results,Tryz.results129,go_sem,d0,d1,d2,d3]) rfl ⟨?_,by exact Xx (HX.out)⟩;rw[HV.out];rfl
def rc1(o:OpD):Bool:= !betw o.id 1 1073741824 || !betw o.proc 0 1023 || !betw o.object 0 1023
def rcF(a:Int):Int:=if 1<=a then 1073741824 else 0
def rcS(a:Int):Int:=if 2<=a then 1073741824 else 0
def rc2(o:OpD)(a:Int):Bool:= !betw o.arg 0 (rcF a) || !betw o.second 0 (rcS a)
def rc3(o:OpD)(how:Int):Bool:=o.done&& !ansB o.result how || !o.done&&o.result !=0
def rc4(o:OpD):Bool:= !betw o.invoke 0 1099511627776 || !o.done&&o.ret !=0
def rc5(o:OpD):Bool:=o.done&&(decide (o.ret<=o.invoke) || decide (1099511627776<o.ret))
theorem X8o(o:OpD):chkL o=if rc1 o=true then 30 else match Z3t o.kind o.method with
  | none=>33
  | some r=>if rc2 o r.2.2.1=true then 33 else if rc3 o r.2.2.2=true then 33 else if rc4 o=true then 31 else if rc5 o=true then 31 else 0:=rfl
theorem Y9w(o:OpD)(w:World):cQ 67 #[o.val] w fun e w'=>e= .returned (.int .i64 (chkL o))/\Ext w w':=by
 have HP:=hD (X8o o);have H1:Hid (rc1 o=(!betw o.id 1 1073741824 || !betw o.proc 0 1023 || !betw o.object 0 1023)):=rfl;have H4:Hid (rc4 o=(!betw o.invoke 0 1099511627776 || !o.done&&o.ret !=0)):=rfl;have H5:Hid (rc5 o=(o.done&&(decide (o.ret<=o.invoke) || decide (1099511627776<o.ret)))):=rfl;have HBX:Hid (∀W:World,Ext (w.alloc (.cells #[.int .i64 o.id,.int .i64 o.proc,.int .i64 o.object,.int .i64 o.kind,.int .i64 o.method,.int .i64 o.arg,.int .i64 o.second,.bool o.done,.int .i64 o.result,.int .i64 o.invoke,.int .i64 o.ret] 73)) W->At11 W w.heap.size o):=fun W h=>(At11.row (Row1.made w 73 o.cells)).ext h (by simp);obtain⟨b1,hb1⟩:∃b,rc1 o=b:=⟨_,rfl⟩;obtain⟨b4,hb4⟩:∃b,rc4 o=b:=⟨_,rfl⟩;obtain⟨b5,hb5⟩:∃b,rc5 o=b:=⟨_,rfl⟩;rw[hb1]at H1;rw[hb4]at H4;rw[hb5]at H5;rw[hb1,hb4,hb5]at HP;clear hb1 hb4 hb5;go_enter Tryz.func67,Tryz.ntmps67;go_upto_region 1 with fail
 go_cut [22] (fun s wx=>s= .bool b1/\wx=w.alloc (.cells #[.int .i64 o.id,.int .i64 o.proc,.int .i64 o.object,.int .i64 o.kind,.int .i64 o.method,.int .i64 o.arg,.int .i64 o.second,.bool o.done,.int .i64 o.result,.int .i64 o.invoke,.int .i64 o.ret] 73))
 case first=>
  go_wp2_with (go_at_call 128;refine(Z6o _ _ _ _).mono ?_;rintro e w' ⟨rfl,rfl⟩)
  all_goals go_meet
  all_goals (refine ⟨?_,rfl⟩)
  all_goals go_light
  all_goals (rw [H1.out])
  all_goals (simp_all)
 case rest=>
 obtain⟨rfl,rfl⟩:=hcut;cases b1 with
 | true=>
   rw[if_pos rfl]at HP;go_wp2_with fail;go_ret;exact⟨by rw[HP.out];rfl,by exact Xt⟩
 | false=>
   rw[if_neg (by decide)]at HP;clear H1;go_wp2_with fail;refine(X2d _ _ _).mono ?_;rintro e w1 ⟨rfl,hb⟩;obtain⟨a0,a1,a2,a3,a4,a5,a6,a7,a8,a9,a10⟩:=HBX.out _ hb;have hz1:=hb.size;simp at hz1;have hlt0:w.heap.size<w1.heap.size:=by omega
   have K1:=hD (Ext.trans (Ext.alloc _ _:Ext w _) hb);clear hb HBX;cases hf:Z3t o.kind o.method with
   | none=>
     rw[hf]at HP;simp only[Option.getD_none,Option.isSome_none,Z6h];clear hf;go_wp2_with fail;go_ret;exact⟨by rw[HP.out];rfl,by exact Xx (K1.out)⟩
   | some r=>
     rw[hf]at HP;obtain⟨r0,r1,a,how⟩:=r;dsimp only at HP;have HP2:=hD HP.out;have H2:Hid (rc2 o a=(!betw o.arg 0 (rcF a) || !betw o.second 0 (rcS a))):=rfl;have H3:Hid (rc3 o how=(o.done&& !ansB o.result how || !o.done&&o.result !=0)):=rfl;have HFS:Hid (rcF a=if 1<=a then 1073741824 else 0):=rfl;have HSS:Hid (rcS a=if 2<=a then 1073741824 else 0):=rfl;generalize rc2 o a=b2 at *;generalize rc3 o how=b3 at *;generalize rcF a=F at *;generalize rcS a=S at *;simp only[Option.getD_some,Option.isSome_some,Z6h];clear hf HP
     go_upto_if 35 with fail
     go_cut [5] (fun s wx=>s= .int .i64 F/\wx=w1.alloc (.cells #[.int .i64 r0,.int .i64 r1,.int .i64 a,.int .i64 how] 223))
     case first=>
      go_wp2_with fail
      all_goals go_meet
      all_goals (refine ⟨?_,rfl⟩)
      all_goals go_light
      all_goals (rw [HFS.out])
      all_goals (first | (rw [if_pos (by omega)];done) | (rw [if_pos (by omega)];rfl) | (rw [if_neg (by omega)];done) | (rw [if_neg (by omega)];rfl) | (simp_all;omega))
     case rest=>
     obtain⟨rfl,rfl⟩:=hcut
     go_upto_if 38 with fail
     go_cut [6] (fun s wx=>s= .int .i64 S/\wx=w1.alloc (.cells #[.int .i64 r0,.int .i64 r1,.int .i64 a,.int .i64 how] 223))
     case first=>
      go_wp2_with fail
      all_goals go_meet
      all_goals (refine ⟨?_,rfl⟩)
      all_goals go_light
      all_goals (rw [HSS.out])
      all_goals (first | (rw [if_pos (by omega)];done) | (rw [if_pos (by omega)];rfl) | (rw [if_neg (by omega)];done) | (rw [if_neg (by omega)];rfl) | (simp_all;omega))
     case rest=>
     obtain⟨rfl,rfl⟩:=hcut;clear HFS HSS;go_upto_region 11 with fail
     go_cut [50] (fun s wx=>s= .bool b2/\wx=w1.alloc (.cells #[.int .i64 r0,.int .i64 r1,.int .i64 a,.int .i64 how] 223))
     case first=>
      go_wp2_with (go_at_call 128;refine(Z6o _ _ _ _).mono ?_;rintro e w' ⟨rfl,rfl⟩)
      all_goals go_meet
      all_goals (refine ⟨?_,rfl⟩)
      all_goals go_light
      all_goals (rw [H2.out])
      all_goals (simp_all)
     case rest=>
     obtain⟨rfl,rfl⟩:=hcut;clear H2;cases b2 with
     | true=>
       rw[if_pos rfl]at HP2;go_wp2_with fail;go_ret;exact⟨by rw[HP2.out];rfl,by exact Xx (K1.out)⟩
     | false=>
     rw[if_neg (by decide)]at HP2;go_upto_region 13 with fail
     go_cut [70] (fun s wx=>s= .bool b3/\wx=w1.alloc (.cells #[.int .i64 r0,.int .i64 r1,.int .i64 a,.int .i64 how] 223))
     case first=>
      go_wp2_with (go_at_call 130;refine(X8u _ _ _).mono ?_;rintro e w' ⟨rfl,rfl⟩)
      all_goals go_meet
      all_goals (refine ⟨?_,rfl⟩)
      all_goals go_light
      all_goals (rw [H3.out])
      all_goals (simp_all)
     case rest=>
     obtain⟨rfl,rfl⟩:=hcut;clear H3;cases b3 with
     | true=>
       rw[if_pos rfl]at HP2;go_wp2_with fail;go_ret;exact⟨by rw[HP2.out];rfl,by exact Xx (K1.out)⟩
     | false=>
     rw[if_neg (by decide)]at HP2;go_upto_region 15 with fail
     go_cut [84] (fun s wx=>s= .bool b4/\wx=w1.alloc (.cells #[.int .i64 r0,.int .i64 r1,.int .i64 a,.int .i64 how] 223))
     case first=>
      go_wp2_with (go_at_call 128;refine(Z6o _ _ _ _).mono ?_;rintro e w' ⟨rfl,rfl⟩)
      all_goals go_meet
      all_goals (refine ⟨?_,rfl⟩)
      all_goals go_light
      all_goals (rw [H4.out])
      all_goals (simp_all)
     case rest=>
     obtain⟨rfl,rfl⟩:=hcut;clear H4;cases b4 with
     | true=>
       rw[if_pos rfl]at HP2;go_wp2_with fail;go_ret;exact⟨by rw[HP2.out];rfl,by exact Xx (K1.out)⟩
     | false=>
     rw[if_neg (by decide)]at HP2;go_wp2_with fail
     all_goals go_ret
     all_goals (refine ⟨?_,by exact Xx (K1.out)⟩)
     all_goals go_light
     all_goals (rw [HP2.out,H5.out])
     all_goals (simp_all;try omega)
end
end Go.Proofs.YtohaldfnmgcofaaGreat
