/- An answer cut: neighbours in it, and its first part (plain law). No program. -/
import Derived.Test.YtmiolpfanlpfnaaGreatV48
set_option maxRecDepth 100000
set_option maxHeartbeats 4000000
set_option linter.unusedSimpArgs false
set_option linter.unusedVariables false
namespace Go.Proofs.YtmiolpfanlpfnaaGreat
section
theorem V4f(ord:ByteArray)(down:Bool)(ls:List OpD)(t:ND)(hid:ls.Pairwise (fun a b=>a.id≠b.id)):(runL ord down ls t ls).Pairwise (fun a b=>a.id≠b.id):=
 ((Z8o ord down ls t ls).1.pairwise_iff (fun {a b} h=>Ne.symm h)).2 (hid.filter _)
theorem U0y(ord:ByteArray)(down:Bool)(l:List OpD)(hid:l.Pairwise (fun a b=>a.id≠b.id))(hs:l.Pairwise (fun a b=>Z0z ord down b a=false))(i:Nat)(h:i+1<l.length):
  (Z0u ord l[i+1]=Z0u ord l[i]→l[i].id<l[i+1].id)∧(Z0u ord l[i+1]≠Z0u ord l[i]→(decide (Z0u ord l[i]<Z0u ord l[i+1])==down)=false):=by
 have h1:=List.pairwise_iff_getElem.1 hid i (i+1) (by omega) h (by omega)
 have h2:=List.pairwise_iff_getElem.1 hs i (i+1) (by omega) h (by omega)
 unfold Z0z at h2
 refine⟨fun e=> ?_,fun e=> ?_⟩
 ·rw[if_pos e]at h2
  have:=of_decide_eq_false h2
  omega
 ·rw[if_neg e]at h2
  have h3:decide (Z0u ord l[i+1]<Z0u ord l[i])= !decide (Z0u ord l[i]<Z0u ord l[i+1]):=by
   by_cases hh:Z0u ord l[i]<Z0u ord l[i+1]
   ·rw[decide_eq_true hh,decide_eq_false (by omega)];rfl
   ·rw[decide_eq_false hh,decide_eq_true (by omega)];rfl
  rw[h3]at h2
  revert h2
  cases decide (Z0u ord l[i]<Z0u ord l[i+1])<;>cases down<;>decide
def X7m(limit:Int)(n:Nat):Nat:=if 0≤limit∧limit<n then limit.toNat else n
theorem V7e(limit:Int)(l:List OpD):(cutL limit l).length=X7m limit l.length:=by
 unfold cutL X7m
 split
 ·rw[List.length_take];omega
 ·rfl
theorem V7f(limit:Int)(l:List OpD)(i:Nat)(h:i<(cutL limit l).length):∃h':i<l.length,(cutL limit l)[i]=l[i]:=by
 have h0:=h
 unfold cutL at h0 ⊢
 split at h0
 ·rename_i c
  rw[List.length_take]at h0
  refine⟨by omega,?_⟩
  simp only[if_pos c,List.getElem_take]
 ·rename_i c
  refine⟨h0,?_⟩
  simp only[if_neg c]
end
section
open Go.RowKit
theorem Y0m(hAw:AwOk)(V:Value)(ops:List OpD)(d:Nat)(t:ND)(nk:Int)(nA:Option Addr)(nm nc:Nat)(nf ns:ByteArray)(nv:Int)(ord:ByteArray)(down:Bool)(limit0:Int)(count:Bool)(lim:Int)(w:World)
 (hs:Sl w 11 ROp V ops)(hin:∀o∈ops,In64 o.result)(hn:RN ⟨nk,.slice nA nm nc,nf,ns,nv⟩ (NCell.cells ⟨nk,.slice nA nm nc,nf,ns,nv⟩))(hd:Nd w d t ⟨nk,.slice nA nm nc,nf,ns,nv⟩)(hlim:In64 lim):
  Calls Tryz.prog 12 #[V,.agg #[.int .i64 nk,.slice nA nm nc,.string nf,.string ns,.int .i64 nv,.string ord,.bool down,.int .i64 limit0,.bool count],.int .i64 lim] w fun e w'=>e= .returned (.bool true)∧Ext w w':=by
 obtain⟨A,c,rfl⟩:=hs.form
 have hx0:Ext w (w.alloc (.cells #[.int .i64 nk,.slice nA nm nc,.string nf,.string ns,.int .i64 nv,.string ord,.bool down,.int .i64 limit0,.bool count] 69)):=Ext.alloc _ _
 have cFil:=Z6t _ ops _ (hs.ext hx0) hin
 have hq0:Row1 (w.alloc (.cells #[.int .i64 nk,.slice nA nm nc,.string nf,.string ns,.int .i64 nv,.string ord,.bool down,.int .i64 limit0,.bool count] 69)) w.heap.size 69 [.int .i64 nk,.slice nA nm nc,.string nf,.string ns,.int .i64 nv,.string ord,.bool down,.int .i64 limit0,.bool count]:=Row1.made w _ [.int .i64 nk,.slice nA nm nc,.string nf,.string ns,.int .i64 nv,.string ord,.bool down,.int .i64 limit0,.bool count]
 have HX0:=hD hx0
 have HQ0:=hD hq0
 have HRN:=hD hn
 have HD:=hD hd
 have HLIM:=hD hlim
 have HAW:Hid (∀W:World,Calls Tryz.prog 37 #[] W fun e w'=>e= .returned (.bool true)∧Ext W w'):=hAw
 have hz0:(w.alloc (.cells #[.int .i64 nk,.slice nA nm nc,.string nf,.string ns,.int .i64 nv,.string ord,.bool down,.int .i64 limit0,.bool count] 69)).heap.size=w.heap.size+1:=by simp
 have HZ0:=hD hz0
 clear hx0 hq0 hn hd hlim hAw hs hin hz0
 go_enter Tryz.func12,Tryz.ntmps12
 go_upto_region 2 with (go_at_call 35;(with_reducible refine cFil.mono ?_);clear cFil;rintro e w1 ⟨tb,p,ts,v,F,rfl,hf⟩;obtain⟨vA,vc,rfl⟩:=hf.own.form;have HF:=hD hf;clear hf)
 obtain⟨m,hm⟩:∃m,(filL (ops.take 24)).length=m:=⟨_,rfl⟩
 have HM:=hD hm
 rw[hm]at HF
 simp only[hm]
 clear hm
 have HQ1:Hid (Row1 w1 w.heap.size 69 [.int .i64 nk,.slice nA nm nc,.string nf,.string ns,.int .i64 nv,.string ord,.bool down,.int .i64 limit0,.bool count]):=HQ0.out.ext HF.out.ext HQ0.out.lt
 have HX1:Hid (Ext w w1):=HX0.out.trans HF.out.ext
 generalize hW0:World.alloc _ _=W0 at HF HX0 HQ0 HZ0
 obtain⟨q0,q1,q2,q3,q4,q5,q6,q7,q8⟩:=c9 HQ1.out
 have cS:=Y2g d nk nA nm nc nf ns nv ord down limit0 count w1 ((HD.out.ext HX1.out).ok)
 clear hW0
 go_upto_if 32 with (go_at_call 36;(with_reducible refine cS.mono ?_);clear cS;rintro e w2 ⟨⟨b,rfl⟩,hx2⟩;have HX2:=hD hx2;clear hx2)
 have HX3:Hid (Ext w w2):=HX1.out.trans HX2.out
 have HF2:Hid (FilR W0 tb p ts 796 (filL (ops.take 24)) 24 (.slice vA m vc) F w2):=HF.out.to HX2.out
 have HQ2:Hid (Row1 w2 w.heap.size 69 [.int .i64 nk,.slice nA nm nc,.string nf,.string ns,.int .i64 nv,.string ord,.bool down,.int .i64 limit0,.bool count]):=HQ1.out.ext HX2.out HQ1.out.lt
 clear q0 q1 q2 q3 q4 q5 q6 q7 q8
 obtain⟨q0,q1,q2,q3,q4,q5,q6,q7,q8⟩:=c9 HQ2.out
 cases b with
 | false=>
   go_wp2_with (go_at_call 37;(with_reducible refine(HAW.out _).mono ?_);clear HAW;rintro e w9 ⟨rfl,hx9⟩;have HX9:=hD hx9;clear hx9)
   go_ret
   exact⟨rfl,HX3.out.trans HX9.out⟩
 | true=>
   obtain⟨S,Ts,hI,hP⟩:=HF2.out.ex
   obtain⟨ls,hls⟩:∃ls,filL (ops.take 24)=ls:=⟨_,rfl⟩
   rw[hls]at hI HM HF2
   have hlen:ls.length≤100000:=by
    have h1:=Y1r (ops.take 24) (ops.take 24).length (Nat.le_refl _)
    rw[List.take_length,hls,List.length_take]at h1
    omega
   have HI:=hD hI
   have HLEN:=hD hlen
   have HR2:Hid (RunI tb p ts S F w2):=⟨HF2.out.at_,hP,fun i q=>(HF2.out.new i q).2⟩
   have HQB:Hid (∀i,F i→w.heap.size<i):=fun i q=>by have:=(HF2.out.new i q).1;have:=HZ0.out;omega
   have HTT:Hid (w.heap.size<tb∧∀j,j<5→w.heap.size<ts j):=⟨by have:=HF2.out.ntb;have:=HZ0.out;omega,fun j hj=>by have:=HF2.out.nts j hj;have:=HZ0.out;omega⟩
   have HBT:Hid (∀i,i<w.heap.size→i≠tb∧∀j,j<5→i≠ts j):=fun i q=>⟨fun e=>by have:=HTT.out.1;omega,fun j hj e=>by have:=HTT.out.2 j hj;omega⟩
   have HN2:Hid (NdB (fun i=>i<w.heap.size) w2 d t ⟨nk,.slice nA nm nc,nf,ns,nv⟩):=(NdB.of d t _ HD.out).ext HX3.out
   have HB2:Hid (BF (fun i=>i<w.heap.size) F w2):=fun i q=>⟨by have:=HX3.out.size;omega,fun r=>by have:=HQB.out i r;omega⟩
   clear hI hP hlen hls
   obtain⟨f7,f8⟩:w2.frozen? ⟨w.heap.size,7,none⟩=false∧w2.frozen? ⟨w.heap.size,8,none⟩=false:=⟨HQ2.out.soft 7,HQ2.out.soft 8⟩
   go_upto_region 5 with fail
   generalize hW3:World.setCell _ _ _=w3
   have HQ3:Hid (Row1 w3 w.heap.size 69 [.int .i64 nk,.slice nA nm nc,.string nf,.string ns,.int .i64 nv,.string ord,.bool down,.int .i64 (-1),.bool false]):=by unfold Hid;rw[←hW3];exact(HQ2.out.set 8 (.bool false)).set 7 (.int .i64 (-1))
   have HO3:Hid (Only (fun i=>i=w.heap.size) w2 w3):=by unfold Hid;rw[←hW3];exact set1 (set1 Only.refl 8 _) 7 _
   clear hW3 f7 f8
   clear q0 q1 q2 q3 q4 q5 q6 q7 q8
   have HSET:Hid (∀(F':Nat→Prop) (W W':World),(∀i,F' i→i≠w.heap.size)→RunI tb p ts S F' W→NdB (fun i=>i<w.heap.size) W d t ⟨nk,.slice nA nm nc,nf,ns,nv⟩→BF (fun i=>i<w.heap.size) F' W→Only (fun i=>i=w.heap.size) W W'→RunI tb p ts S F' W'∧NdB (fun i=>i<w.heap.size) W' d t ⟨nk,.slice nA nm nc,nf,ns,nv⟩∧BF (fun i=>i<w.heap.size) F' W'):=fun F' W W' h0 h1 h2 h3 ho=>
    ⟨h1.only ho (fun i q=>⟨fun r=>h0 i r q,fun e=>by have:=HTT.out.1;omega,fun j hj e=>by have:=HTT.out.2 j hj;omega⟩),NdB.only ho (fun i q e=>by omega) d t _ h2,fun i q=>⟨Nat.lt_of_lt_of_le (h3 i q).1 ho.size,(h3 i q).2⟩⟩
   obtain⟨r3,n3,b3⟩:=HSET.out F w2 w3 (fun i q e=>by have:=HQB.out i q;omega) HR2.out HN2.out HB2.out HO3.out
   have HB3:=hD b3
   have HRN3:=hD n3
   have HNX:Hid (∀(F1 F':Nat→Prop) (W W':World) (l:Int) (c:Bool),Keeps F1 F' W W'→(∀i,F1 i→i≠w.heap.size)→Row1 W w.heap.size 69 [.int .i64 nk,.slice nA nm nc,.string nf,.string ns,.int .i64 nv,.string ord,.bool down,.int .i64 l,.bool c]→NdB (fun i=>i<w.heap.size) W d t ⟨nk,.slice nA nm nc,nf,ns,nv⟩→BF (fun i=>i<w.heap.size) F1 W→Row1 W' w.heap.size 69 [.int .i64 nk,.slice nA nm nc,.string nf,.string ns,.int .i64 nv,.string ord,.bool down,.int .i64 l,.bool c]∧NdB (fun i=>i<w.heap.size) W' d t ⟨nk,.slice nA nm nc,nf,ns,nv⟩∧BF (fun i=>i<w.heap.size) F' W'∧∀i,F' i→i≠w.heap.size):=fun F1 F' W W' l c hk h0 h1 h2 h3=>
    ⟨hk.only.row h1 (fun r=>h0 _ r rfl),NdB.only hk.only (fun i q=>(h3 i q).2) d t _ h2,h3.keeps hk,fun i q e=>by subst e;exact hk.out h1.lt (fun r=>h0 _ r rfl) q⟩
   obtain⟨all,hall⟩:∃all,runL ord down ls t ls=all:=⟨_,rfl⟩
   have hids:all.Pairwise (fun a b=>a.id≠b.id):=by rw[←hall];exact V4f ord down ls t (HI.out.tab.ids 0 (by omega))
   have hsrt:all.Pairwise (fun a b=>Z0z ord down b a=false):=by rw[←hall];exact(Z8o ord down ls t ls).2
   have hln:all.length≤ls.length:=by rw[←hall,(Z8o ord down ls t ls).1.length_eq];exact List.length_filter_le _ _
   have HADJ:Hid (∀(i:Nat) (h:i+1<all.length),(Z0u ord all[i+1]=Z0u ord all[i]→all[i].id<all[i+1].id)∧(Z0u ord all[i+1]≠Z0u ord all[i]→(decide (Z0u ord all[i]<Z0u ord all[i+1])==down)=false)):=U0y ord down all hids hsrt
   obtain⟨few,hfew⟩:∃few,cutL lim all=few:=⟨_,rfl⟩
   have HGET:Hid (∀(i:Nat) (h:i<few.length),∃h':i<all.length,few[i]=all[i]):=fun i h=>by subst hfew;exact V7f lim all i h
   obtain⟨n,hnn⟩:∃n,all.length=n:=⟨_,rfl⟩
   obtain⟨k,hkk⟩:∃k,few.length=k:=⟨_,rfl⟩
   have HWK:Hid (k=X7m lim n):=by unfold Hid;rw[←hkk,←hnn,←hfew];exact V7e lim all
   have HNN:=hD hnn
   have HKK:=hD hkk
   have HNL:Hid (n≤100000):=by unfold Hid;rw[←hnn];exact Nat.le_trans hln HLEN.out
   have c1:=V4e (B:=fun i=>i<w.heap.size) HI.out (by omega) HLEN.out d t nk nA nm nc nf ns nv ord down (-1) false w3 r3 HRN.out n3 b3 HBT.out (by exact⟨by decide,by decide⟩)
   rw[V9z,hall,hnn]at c1
   have cN:Hid (∀(c:Bool) (W:World) (F':Nat→Prop),RunI tb p ts S F' W→NdB (fun i=>i<w.heap.size) W d t ⟨nk,.slice nA nm nc,nf,ns,nv⟩→BF (fun i=>i<w.heap.size) F' W→Calls Tryz.prog 38 #[tp tb,.agg #[.int .i64 nk,.slice nA nm nc,.string nf,.string ns,.int .i64 nv,.string ord,.bool down,.int .i64 lim,.bool c]] W fun e w'=>∃v,e= .returned (.tuple #[v,.int .i64 k])∧RunR tb p ts S F' c few W v w'):=fun c W F' z1 z2 z3=>by
    have h1:=V4e (B:=fun i=>i<w.heap.size) HI.out (by omega) HLEN.out d t nk nA nm nc nf ns nv ord down lim c W z1 HRN.out z2 z3 HBT.out HLIM.out
    rw[hall,hfew,hkk]at h1
    exact h1
   clear hall hfew hnn hkk hids hsrt hln r3 n3 b3
   obtain⟨q0,q1,q2,q3,q4,q5,q6,q7,q8⟩:=c9 HQ3.out
   go_upto_region 6 with (go_at_call 38;(with_reducible refine c1.mono ?_);clear c1;rintro e w4 ⟨v4,rfl,hr4⟩;have hv4:Sl w4 11 ROp v4 all:=hr4.val;obtain⟨v4A,v4c,rfl⟩:=hv4.form;rw[HNN.out]at hv4 hr4 ⊢;have HR4:=hD hr4;have HV4:=hD hv4;clear hr4 hv4)
   clear q0 q1 q2 q3 q4 q5 q6 q7 q8
   obtain⟨F4,ri4,hk4,hz4⟩:=HR4.out.next
   obtain⟨qq4,nn4,bb4,ff4⟩:=HNX.out F F4 w3 w4 (-1) false hk4 (fun i q e=>by have:=HQB.out i q;omega) HQ3.out HRN3.out HB3.out
   have HQ4:=hD qq4
   have HI4:=hD ri4
   have HN4:=hD nn4
   have HB4:=hD bb4
   have HK4:=hD hk4
   have HF4:=hD ff4
   have HZ4:=hD hz4
   clear ri4 hk4 hz4 qq4 nn4 bb4 ff4
   obtain⟨q0,q1,q2,q3,q4,q5,q6,q7,q8⟩:=c9 HQ4.out
   obtain⟨f7,f8⟩:w4.frozen? ⟨w.heap.size,7,none⟩=false∧w4.frozen? ⟨w.heap.size,8,none⟩=false:=⟨HQ4.out.soft 7,HQ4.out.soft 8⟩
   go_upto_region 7 with fail
   generalize hW5:World.setCell _ _ _=w5
   have HQ5:Hid (Row1 w5 w.heap.size 69 [.int .i64 nk,.slice nA nm nc,.string nf,.string ns,.int .i64 nv,.string ord,.bool down,.int .i64 lim,.bool false]):=by unfold Hid;rw[←hW5];exact HQ4.out.set 7 (.int .i64 lim)
   have HO5:Hid (Only (fun i=>i=w.heap.size) w4 w5):=by unfold Hid;rw[←hW5];exact set1 Only.refl 7 _
   clear hW5 f7 f8
   clear q0 q1 q2 q3 q4 q5 q6 q7 q8
   obtain⟨r5,n5,b5⟩:=HSET.out F4 w4 w5 HF4.out HI4.out HN4.out HB4.out HO5.out
   have c2:=cN.out false w5 F4 r5 n5 b5
   have HN5:=hD n5
   have HB5:=hD b5
   clear r5 n5 b5
   obtain⟨q0,q1,q2,q3,q4,q5,q6,q7,q8⟩:=c9 HQ5.out
   go_upto_region 8 with (go_at_call 38;(with_reducible refine c2.mono ?_);clear c2;rintro e w6 ⟨v6,rfl,hr6⟩;have hv6:Sl w6 11 ROp v6 few:=hr6.val;obtain⟨v6A,v6c,rfl⟩:=hv6.form;rw[HKK.out]at hv6 hr6 ⊢;have HR6:=hD hr6;have HV6:=hD hv6;clear hr6 hv6)
   clear q0 q1 q2 q3 q4 q5 q6 q7 q8
   obtain⟨F6,ri6,hk6,hz6⟩:=HR6.out.next
   obtain⟨qq6,nn6,bb6,ff6⟩:=HNX.out F4 F6 w5 w6 lim false hk6 HF4.out HQ5.out HN5.out HB5.out
   have HQ6:=hD qq6
   have HI6:=hD ri6
   have HN6:=hD nn6
   have HB6:=hD bb6
   have HK6:=hD hk6
   have HF6:=hD ff6
   have HZ6:=hD hz6
   clear ri6 hk6 hz6 qq6 nn6 bb6 ff6
   obtain⟨q0,q1,q2,q3,q4,q5,q6,q7,q8⟩:=c9 HQ6.out
   obtain⟨f7,f8⟩:w6.frozen? ⟨w.heap.size,7,none⟩=false∧w6.frozen? ⟨w.heap.size,8,none⟩=false:=⟨HQ6.out.soft 7,HQ6.out.soft 8⟩
   go_upto_region 9 with fail
   generalize hW7:World.setCell _ _ _=w7
   have HQ7:Hid (Row1 w7 w.heap.size 69 [.int .i64 nk,.slice nA nm nc,.string nf,.string ns,.int .i64 nv,.string ord,.bool down,.int .i64 lim,.bool true]):=by unfold Hid;rw[←hW7];exact HQ6.out.set 8 (.bool true)
   have HO7:Hid (Only (fun i=>i=w.heap.size) w6 w7):=by unfold Hid;rw[←hW7];exact set1 Only.refl 8 _
   clear hW7 f7 f8
   clear q0 q1 q2 q3 q4 q5 q6 q7 q8
   obtain⟨r7,n7,b7⟩:=HSET.out F6 w6 w7 HF6.out HI6.out HN6.out HB6.out HO7.out
   have c3:=cN.out true w7 F6 r7 n7 b7
   have HN7:=hD n7
   have HB7:=hD b7
   clear r7 n7 b7
   obtain⟨q0,q1,q2,q3,q4,q5,q6,q7,q8⟩:=c9 HQ7.out
   go_upto_region 10 with (go_at_call 38;(with_reducible refine c3.mono ?_);clear c3;rintro e w8 ⟨v8,rfl,hr8⟩;have hv8:v8= .slice none 0 0:=hr8.val;subst hv8;have HR8:=hD hr8;clear hr8)
   clear q0 q1 q2 q3 q4 q5 q6 q7 q8
   obtain⟨F8,ri8,hk8,hz8⟩:=HR8.out.next
   obtain⟨qq8,nn8,bb8,ff8⟩:=HNX.out F6 F8 w7 w8 lim true hk8 HF6.out HQ7.out HN7.out HB7.out
   have HQ8:=hD qq8
   have hq3:=HQ3.out.lt
   have hq5:=HQ5.out.lt
   have HA8:Hid (Sl w8 11 ROp (.slice v4A n v4c) all):=by
    have a5:=HV4.out.only HO5.out (fun b _ hb e=>by have:=HR4.out.own b hb;omega)
    obtain⟨a6,z6⟩:=Y6l a5 (fun b _ hb=>HZ4.out b hb) HK6.out
    have a7:=a6.only HO7.out (fun b _ hb e=>by have:=HR4.out.own b hb;omega)
    exact(Y6l a7 z6 hk8).1
   have HB8:Hid (Sl w8 11 ROp (.slice v6A k v6c) few):=by
    have a7:=HV6.out.only HO7.out (fun b _ hb e=>by have:=HR6.out.own b hb;omega)
    exact(Y6l a7 (fun b _ hb=>HZ6.out b hb) hk8).1
   have HX8:Hid (Ext w w8):=by
    have e3:Only (fun i=>w.heap.size≤i) w w3:=(Only.of HX3.out).trans HO3.out (fun i e=> .inl (by omega))
    have e4:=e3.trans HK4.out.only (fun i e=> .inl (by have:=HQB.out i e;omega))
    have e5:=e4.trans HO5.out (fun i e=> .inl (by omega))
    have hz:=HX3.out.size;have hz3:=HO3.out.size;have hz4:=HK4.out.only.size;have hz5:=HO5.out.size
    have e6:=e5.trans HK6.out.only (fun i e=> .inl (by rcases HK4.out.new i e with r | r;have:=HQB.out i r;omega;omega))
    have e7:=e6.trans HO7.out (fun i e=> .inl (by omega))
    have e8:=e7.trans hk8.only (fun i e=> .inl (by rcases HK6.out.new i e with r | r;(rcases HK4.out.new i r with s | s;have:=HQB.out i s;omega;omega);omega))
    exact e8.toExt (fun i q=>q)
   clear ri8 hk8 hz8 qq8 nn8 bb8 ff8
   have HBOX:Hid (∀W,Ext w8 W→W.cell? ⟨w.heap.size,5,none⟩=some (.string ord)∧W.cell? ⟨w.heap.size,6,none⟩=some (.bool down)):=fun W h=>by
    have r:=HQ8.out.ext h HQ8.out.lt
    exact⟨r.cell 5,r.cell 6⟩
   obtain⟨hA0,hca1,hca2,hA⟩:=HA8.out.at
   obtain⟨hB0,hcb1,hcb2,hB⟩:=HB8.out.at
   clear hA0 hB0
   rw[HNN.out]at hca1
   rw[HKK.out]at hcb1
   have HEA:Hid (0<n→∃b off,v4A=some ⟨b,off,none⟩∧b<w8.heap.size∧∀(i:Nat) (hi:i<all.length) (W:World),Ext w8 W→(W.cell? ⟨b,off+i*11,none⟩=some (.int .i64 all[i].id)∧W.cell? ⟨b,off+i*11+1,none⟩=some (.int .i64 all[i].proc)∧W.cell? ⟨b,off+i*11+2,none⟩=some (.int .i64 all[i].object)∧W.cell? ⟨b,off+i*11+3,none⟩=some (.int .i64 all[i].kind)∧W.cell? ⟨b,off+i*11+4,none⟩=some (.int .i64 all[i].method)∧W.cell? ⟨b,off+i*11+5,none⟩=some (.int .i64 all[i].arg)∧W.cell? ⟨b,off+i*11+6,none⟩=some (.int .i64 all[i].second)∧W.cell? ⟨b,off+i*11+7,none⟩=some (.bool all[i].done)∧W.cell? ⟨b,off+i*11+8,none⟩=some (.int .i64 all[i].result)∧W.cell? ⟨b,off+i*11+9,none⟩=some (.int .i64 all[i].invoke)∧W.cell? ⟨b,off+i*11+10,none⟩=some (.int .i64 all[i].ret))):=fun h0=>by
    obtain⟨b,off,q1,q2,q3⟩:=hA (by have:=HNN.out;omega)
    refine⟨b,off,q1,q2,fun i hi W h=> ?_⟩
    obtain⟨cs,rfl,_,hcs⟩:=q3 i hi
    have hw:=fun j u hu=>(h.cell (p:=⟨b,off+i*11+j,none⟩) q2).trans (hcs j u hu)
    exact⟨hw 0 _ rfl,hw 1 _ rfl,hw 2 _ rfl,hw 3 _ rfl,hw 4 _ rfl,hw 5 _ rfl,hw 6 _ rfl,hw 7 _ rfl,hw 8 _ rfl,hw 9 _ rfl,hw 10 _ rfl⟩
   have HEB:Hid (0<k→∃b off,v6A=some ⟨b,off,none⟩∧b<w8.heap.size∧∀(i:Nat) (hi:i<few.length) (W:World),Ext w8 W→(W.cell? ⟨b,off+i*11,none⟩=some (.int .i64 few[i].id)∧W.cell? ⟨b,off+i*11+1,none⟩=some (.int .i64 few[i].proc)∧W.cell? ⟨b,off+i*11+2,none⟩=some (.int .i64 few[i].object)∧W.cell? ⟨b,off+i*11+3,none⟩=some (.int .i64 few[i].kind)∧W.cell? ⟨b,off+i*11+4,none⟩=some (.int .i64 few[i].method)∧W.cell? ⟨b,off+i*11+5,none⟩=some (.int .i64 few[i].arg)∧W.cell? ⟨b,off+i*11+6,none⟩=some (.int .i64 few[i].second)∧W.cell? ⟨b,off+i*11+7,none⟩=some (.bool few[i].done)∧W.cell? ⟨b,off+i*11+8,none⟩=some (.int .i64 few[i].result)∧W.cell? ⟨b,off+i*11+9,none⟩=some (.int .i64 few[i].invoke)∧W.cell? ⟨b,off+i*11+10,none⟩=some (.int .i64 few[i].ret))):=fun h0=>by
    obtain⟨b,off,q1,q2,q3⟩:=hB (by have:=HKK.out;omega)
    refine⟨b,off,q1,q2,fun i hi W h=> ?_⟩
    obtain⟨cs,rfl,_,hcs⟩:=q3 i hi
    have hw:=fun j u hu=>(h.cell (p:=⟨b,off+i*11+j,none⟩) q2).trans (hcs j u hu)
    exact⟨hw 0 _ rfl,hw 1 _ rfl,hw 2 _ rfl,hw 3 _ rfl,hw 4 _ rfl,hw 5 _ rfl,hw 6 _ rfl,hw 7 _ rfl,hw 8 _ rfl,hw 9 _ rfl,hw 10 _ rfl⟩
   have hnl:n≤100000:=HNL.out
   have HKN:Hid (k≤n):=by
    unfold Hid;rw[HWK.out];unfold X7m;split<;>omega
   have hkn:k≤n:=HKN.out
   have HW1:Hid ((0≤lim∧lim<(n:Int)→lim=(k:Int))∧(¬(0≤lim∧lim<(n:Int))→n=k)):=by
    have h:=HWK.out
    unfold X7m at h
    refine⟨fun q=> ?_,fun q=> ?_⟩
    ·rw[if_pos q]at h;omega
    ·rw[if_neg q]at h;omega
   clear HWK hA hB HQ2 HQ3 HQ4 HQ5 HQ6 HQ7 HR4 HR6 HR8 HV4 HV6 HK4 HK6 HO3 HO5 HO7 HI4 HI6 HN4 HN5 HN6 HN7 HB4 HB5 HB6 HB7 HF4 HF6 HZ4 HZ6 hq3 hq5 cN HSET HNX HB2 HB3 HN2 HRN3 HA8 HB8 HR2 HF2 HI HTT HBT HQB HM
   go_upto_region 11 with fail
   go_cut [69] (fun s wx=>∃bb:Bool,s= .bool bb∧Hid ((bb=true→lim=(k:Int))∧(bb=false→n=k))∧w8=wx)
   case first=>
    by_cases h1:0≤lim
    ·have d1:decide (0≤lim)=true:=decide_eq_true h1
     by_cases h2:lim<(n:Int)
     ·have d2:decide (lim<(n:Int))=true:=decide_eq_true h2
      go_wp2_with fail
      go_meet
      exact⟨true,rfl,⟨fun _=>HW1.out.1 ⟨h1,h2⟩,fun e=>by cases e⟩,rfl⟩
     ·have d2:decide (lim<(n:Int))=false:=decide_eq_false h2
      go_wp2_with fail
      go_meet
      exact⟨false,rfl,⟨fun e=>by(cases e),fun _=>HW1.out.2 (fun q=>by omega)⟩,rfl⟩
    ·have d1:decide (0≤lim)=false:=decide_eq_false h1
     go_wp2_with fail
     go_meet
     exact⟨false,rfl,⟨fun e=>by(cases e),fun _=>HW1.out.2 (fun q=>by omega)⟩,rfl⟩
   case rest=>
   obtain⟨bb,rfl,hbb,rfl⟩:=hcut
   have HBB:=hD hbb
   clear hbb
   go_upto_if 69 with fail
   go_cut [15] (fun s wx=>s= .int .i64 k∧w8=wx)
   case first=>
    cases bb with
    | true=>
      have HLK:=HBB.out.out.1 rfl
      clear HBB
      go_wp2_with fail
      go_meet
      exact⟨by rw[HLK],rfl⟩
    | false=>
      have HLK:=hD (HBB.out.out.2 rfl)
      clear HBB
      go_wp2_with fail
      go_meet
      exact⟨by rw[HLK.out],rfl⟩
   case rest=>
   obtain⟨rfl,rfl⟩:=hcut
   clear HBB
   have e1:((n:Int)!=(n:Int))=false:=bne_self_eq_false _
   have e2:((k:Int)!=(k:Int))=false:=bne_self_eq_false _
   have e3:((0:Int)!=(0:Int))=false:=rfl
   go_wp2_with fail
   clear e1 e2 e3
   go_loopw [16] (fun i wr=>∃j:Nat,j≤n∧i= .int .i64 j∧Ext w8 wr) (fun i _=>n-(intOf i).toNat)
   case atStart=>exact⟨0,by omega,rfl,Ext.refl _⟩
   case round=>
    obtain⟨j,hj,rfl,hb⟩:=hrel
    have KB:=hD hb
    clear hb
    by_cases hlt:j<n
    ·have hd:decide ((j:Int)<(n:Int))=true:=by simp;omega
     obtain⟨b,off,rfl,hbl,hea⟩:=HEA.out (by omega)
     have hjl:j<all.length:=by have:=HNN.out;omega
     obtain⟨x,hx⟩:∃x,all[j]=x:=⟨_,rfl⟩
     have HE:Hid (∀W:World,Ext w8 W→(W.cell? ⟨b,off+j*11,none⟩=some (.int .i64 x.id)∧W.cell? ⟨b,off+j*11+1,none⟩=some (.int .i64 x.proc)∧W.cell? ⟨b,off+j*11+2,none⟩=some (.int .i64 x.object)∧W.cell? ⟨b,off+j*11+3,none⟩=some (.int .i64 x.kind)∧W.cell? ⟨b,off+j*11+4,none⟩=some (.int .i64 x.method)∧W.cell? ⟨b,off+j*11+5,none⟩=some (.int .i64 x.arg)∧W.cell? ⟨b,off+j*11+6,none⟩=some (.int .i64 x.second)∧W.cell? ⟨b,off+j*11+7,none⟩=some (.bool x.done)∧W.cell? ⟨b,off+j*11+8,none⟩=some (.int .i64 x.result)∧W.cell? ⟨b,off+j*11+9,none⟩=some (.int .i64 x.invoke)∧W.cell? ⟨b,off+j*11+10,none⟩=some (.int .i64 x.ret))):=fun W h=>by rw[←hx];exact hea j hjl W h
     obtain⟨fx,hfx⟩:∃fx,Z0u ord x=fx:=⟨_,rfl⟩
     obtain⟨gx,hgx⟩:∃gx,(Z1f x ord).isSome=gx:=⟨_,rfl⟩
     have cX:Hid (∀W,Calls Tryz.prog 41 #[.agg #[.int .i64 x.id,.int .i64 x.proc,.int .i64 x.object,.int .i64 x.kind,.int .i64 x.method,.int .i64 x.arg,.int .i64 x.second,.bool x.done,.int .i64 x.result,.int .i64 x.invoke,.int .i64 x.ret],.string ord] W fun e w'=>e= .returned (.tuple #[.int .i64 fx,.bool gx])∧Ext W w'):=fun W=>by
      have h1:=Z2n x ord W
      rw[hgx,show(Z1f x ord).getD 0=fx from hfx]at h1;exact h1
     have HPR:Hid (∀m,j=m+1→∃y:OpD,(∀W:World,Ext w8 W→(W.cell? ⟨b,off+m*11,none⟩=some (.int .i64 y.id)∧W.cell? ⟨b,off+m*11+1,none⟩=some (.int .i64 y.proc)∧W.cell? ⟨b,off+m*11+2,none⟩=some (.int .i64 y.object)∧W.cell? ⟨b,off+m*11+3,none⟩=some (.int .i64 y.kind)∧W.cell? ⟨b,off+m*11+4,none⟩=some (.int .i64 y.method)∧W.cell? ⟨b,off+m*11+5,none⟩=some (.int .i64 y.arg)∧W.cell? ⟨b,off+m*11+6,none⟩=some (.int .i64 y.second)∧W.cell? ⟨b,off+m*11+7,none⟩=some (.bool y.done)∧W.cell? ⟨b,off+m*11+8,none⟩=some (.int .i64 y.result)∧W.cell? ⟨b,off+m*11+9,none⟩=some (.int .i64 y.invoke)∧W.cell? ⟨b,off+m*11+10,none⟩=some (.int .i64 y.ret)))∧(fx=Z0u ord y→y.id<x.id)∧(fx≠Z0u ord y→(decide (Z0u ord y<fx)==down)=false)):=fun m hm=>by
      subst hm
      refine⟨all[m],fun W h=>hea m (by omega) W h,?_⟩
      rw[←hfx,←hx]
      exact HADJ.out m hjl
     have HEF:Hid (j<k→∃b2 off2,v6A=some ⟨b2,off2,none⟩∧b2<w8.heap.size∧∀W:World,Ext w8 W→(W.cell? ⟨b2,off2+j*11,none⟩=some (.int .i64 x.id)∧W.cell? ⟨b2,off2+j*11+1,none⟩=some (.int .i64 x.proc)∧W.cell? ⟨b2,off2+j*11+2,none⟩=some (.int .i64 x.object)∧W.cell? ⟨b2,off2+j*11+3,none⟩=some (.int .i64 x.kind)∧W.cell? ⟨b2,off2+j*11+4,none⟩=some (.int .i64 x.method)∧W.cell? ⟨b2,off2+j*11+5,none⟩=some (.int .i64 x.arg)∧W.cell? ⟨b2,off2+j*11+6,none⟩=some (.int .i64 x.second)∧W.cell? ⟨b2,off2+j*11+7,none⟩=some (.bool x.done)∧W.cell? ⟨b2,off2+j*11+8,none⟩=some (.int .i64 x.result)∧W.cell? ⟨b2,off2+j*11+9,none⟩=some (.int .i64 x.invoke)∧W.cell? ⟨b2,off2+j*11+10,none⟩=some (.int .i64 x.ret))):=fun h=>by
      obtain⟨b2,off2,q1,q2,q3⟩:=HEB.out (by omega)
      have hjf:j<few.length:=by have:=HKK.out;omega
      obtain⟨_,hg⟩:=HGET.out j hjf
      exact⟨b2,off2,q1,q2,fun W h=>by rw[←hx,←hg];exact q3 j hjf W h⟩
     have HJL:=hD hjl
     clear hx hfx hgx hea hjl
     go_upto_region 18 with fail
     refine wp_region_held_drew (S:=fun W=>(W.cell? ⟨b,off+j*11,none⟩=some (.int .i64 x.id)∧W.cell? ⟨b,off+j*11+1,none⟩=some (.int .i64 x.proc)∧W.cell? ⟨b,off+j*11+2,none⟩=some (.int .i64 x.object)∧W.cell? ⟨b,off+j*11+3,none⟩=some (.int .i64 x.kind)∧W.cell? ⟨b,off+j*11+4,none⟩=some (.int .i64 x.method)∧W.cell? ⟨b,off+j*11+5,none⟩=some (.int .i64 x.arg)∧W.cell? ⟨b,off+j*11+6,none⟩=some (.int .i64 x.second)∧W.cell? ⟨b,off+j*11+7,none⟩=some (.bool x.done)∧W.cell? ⟨b,off+j*11+8,none⟩=some (.int .i64 x.result)∧W.cell? ⟨b,off+j*11+9,none⟩=some (.int .i64 x.invoke)∧W.cell? ⟨b,off+j*11+10,none⟩=some (.int .i64 x.ret))∧W.cell? ⟨w.heap.size,5,none⟩=some (.string ord)) (by kernel_rfl) (⟨HE.out _ (KB.out.trans (by exact Xt)),(HBOX.out _ (KB.out.trans (by exact Xt))).1⟩) (fun hHeld=> ?_)
     refine' tk 0 ?_
     refine' tk 1 ?_
     refine' tk 2 ?_
     refine' tk 3 ?_
     refine' tk 4 ?_
     refine' tk 5 ?_
     refine stp 6 (fun K hK=> ?_);go_simp
     (with_reducible refine(cX.out _).mono ?_)
     rintro e w9 ⟨rfl,hb9⟩
     have K1:Hid (Ext w8 w9):=Ext.trans (KB.out.trans (by exact Xt)) hb9
     clear hb9
     (try dsimp only)
     (try go_simp)
     refine hK.out _ _ (⟨HE.out _ K1.out,(HBOX.out _ K1.out).1⟩) (fun hHeld=> ?_)
     clear hK K
     refine pt ?_
     refine' tk 7 ?_
     refine' tk 8 ?_
     refine' tk 9 ?_
     refine' tk 10 ?_
     refine' tk 11 ?_
     refine wpAnyH_done (by kernel_rfl) ?_ _
     go_upto_if 113 with fail
     go_cut [16] (fun s wx=>s= .int .i64 j∧Ext w8 wx)
     case first=>
      cases j with
      | zero=>
        have s0:decide ((0:Int)<0)=false:=by decide
        go_wp2_with fail
        go_meet
        exact⟨rfl,by exact Xx (K1.out)⟩
      | succ m=>
        obtain⟨y,hp1,hp2,hp3⟩:=HPR.out m rfl
        have HY:=hD hp1
        obtain⟨fy,hfy⟩:∃fy,Z0u ord y=fy:=⟨_,rfl⟩
        obtain⟨gy,hgy⟩:∃gy,(Z1f y ord).isSome=gy:=⟨_,rfl⟩
        have cY:Hid (∀W,Calls Tryz.prog 41 #[.agg #[.int .i64 y.id,.int .i64 y.proc,.int .i64 y.object,.int .i64 y.kind,.int .i64 y.method,.int .i64 y.arg,.int .i64 y.second,.bool y.done,.int .i64 y.result,.int .i64 y.invoke,.int .i64 y.ret],.string ord] W fun e w'=>e= .returned (.tuple #[.int .i64 fy,.bool gy])∧Ext W w'):=fun W=>by
         have h1:=Z2n y ord W
         rw[hgy,show(Z1f y ord).getD 0=fy from hfy]at h1;exact h1
        rw[hfy]at hp2 hp3
        have HP2:=hD hp2
        have HP3:=hD hp3
        clear hp1 hp2 hp3 hfy hgy HPR HEF
        have s1:IntKind.i64.wrap (m:Int)=(m:Int):=IntWalk.i64_in _ (by omega)
        have s2:(0:Int)≤(m:Int):=by omega
        have s3:(m:Int)<(n:Int):=by omega
        have s5:(m:Int)+1<(n:Int):=by omega
        have s6:(0:Int)≤(m:Int)+1:=by omega
        have s4:decide ((0:Int)<((m+1:Nat):Int))=true:=(by first | (simp;done) | (simp;omega) | omega)
        go_upto_region 20 with fail
        refine wp_region_held_drew (S:=fun W=>(W.cell? ⟨b,off+m*11,none⟩=some (.int .i64 y.id)∧W.cell? ⟨b,off+m*11+1,none⟩=some (.int .i64 y.proc)∧W.cell? ⟨b,off+m*11+2,none⟩=some (.int .i64 y.object)∧W.cell? ⟨b,off+m*11+3,none⟩=some (.int .i64 y.kind)∧W.cell? ⟨b,off+m*11+4,none⟩=some (.int .i64 y.method)∧W.cell? ⟨b,off+m*11+5,none⟩=some (.int .i64 y.arg)∧W.cell? ⟨b,off+m*11+6,none⟩=some (.int .i64 y.second)∧W.cell? ⟨b,off+m*11+7,none⟩=some (.bool y.done)∧W.cell? ⟨b,off+m*11+8,none⟩=some (.int .i64 y.result)∧W.cell? ⟨b,off+m*11+9,none⟩=some (.int .i64 y.invoke)∧W.cell? ⟨b,off+m*11+10,none⟩=some (.int .i64 y.ret))∧W.cell? ⟨w.heap.size,5,none⟩=some (.string ord)) (by kernel_rfl) (⟨HY.out _ (K1.out.trans (by exact Xt)),(HBOX.out _ (K1.out.trans (by exact Xt))).1⟩) (fun hHeld=> ?_)
        refine' tk 0 ?_
        refine' tk 1 ?_
        refine' tk 2 ?_
        refine' tk 3 ?_
        refine' tk 4 ?_
        refine' tk 5 ?_
        refine' tk 6 ?_
        refine stp 7 (fun K hK=> ?_);go_simp
        (with_reducible refine(cY.out _).mono ?_)
        rintro e wa ⟨rfl,hba⟩
        have K2:Hid (Ext w8 wa):=Ext.trans (K1.out.trans (by exact Xt)) hba
        clear hba
        (try dsimp only)
        (try go_simp)
        refine hK.out _ _ (⟨HY.out _ K2.out,(HBOX.out _ K2.out).1⟩) (fun hHeld=> ?_)
        clear hK K
        refine pt ?_
        refine' tk 8 ?_
        refine' tk 9 ?_
        refine' tk 10 ?_
        refine' tk 11 ?_
        refine' tk 12 ?_
        refine wpAnyH_done (by kernel_rfl) ?_ _
        go_upto_region 21 with fail
        by_cases hxy:fx=fy
        ·have HID:=hD (HP2.out hxy)
         subst hxy
         have d1:(fx==fx)=true:=beq_self_eq_true _
         have d2:(fx !=fx)=false:=bne_self_eq_false _
         have d3:decide (x.id≤y.id)=false:=decide_eq_false (by have:=HID.out;omega)
         refine wp_region_held_drew (S:=fun W=>(W.cell? ⟨b,off+m*11,none⟩=some (.int .i64 y.id)∧W.cell? ⟨b,off+m*11+1,none⟩=some (.int .i64 y.proc)∧W.cell? ⟨b,off+m*11+2,none⟩=some (.int .i64 y.object)∧W.cell? ⟨b,off+m*11+3,none⟩=some (.int .i64 y.kind)∧W.cell? ⟨b,off+m*11+4,none⟩=some (.int .i64 y.method)∧W.cell? ⟨b,off+m*11+5,none⟩=some (.int .i64 y.arg)∧W.cell? ⟨b,off+m*11+6,none⟩=some (.int .i64 y.second)∧W.cell? ⟨b,off+m*11+7,none⟩=some (.bool y.done)∧W.cell? ⟨b,off+m*11+8,none⟩=some (.int .i64 y.result)∧W.cell? ⟨b,off+m*11+9,none⟩=some (.int .i64 y.invoke)∧W.cell? ⟨b,off+m*11+10,none⟩=some (.int .i64 y.ret))∧(W.cell? ⟨b,off+(m+1)*11,none⟩=some (.int .i64 x.id)∧W.cell? ⟨b,off+(m+1)*11+1,none⟩=some (.int .i64 x.proc)∧W.cell? ⟨b,off+(m+1)*11+2,none⟩=some (.int .i64 x.object)∧W.cell? ⟨b,off+(m+1)*11+3,none⟩=some (.int .i64 x.kind)∧W.cell? ⟨b,off+(m+1)*11+4,none⟩=some (.int .i64 x.method)∧W.cell? ⟨b,off+(m+1)*11+5,none⟩=some (.int .i64 x.arg)∧W.cell? ⟨b,off+(m+1)*11+6,none⟩=some (.int .i64 x.second)∧W.cell? ⟨b,off+(m+1)*11+7,none⟩=some (.bool x.done)∧W.cell? ⟨b,off+(m+1)*11+8,none⟩=some (.int .i64 x.result)∧W.cell? ⟨b,off+(m+1)*11+9,none⟩=some (.int .i64 x.invoke)∧W.cell? ⟨b,off+(m+1)*11+10,none⟩=some (.int .i64 x.ret))) (by kernel_rfl) (⟨HY.out _ (K2.out.trans (by exact Xt)),HE.out _ (K2.out.trans (by exact Xt))⟩) (fun hHeld=> ?_)
         refine' tk 0 ?_
         refine' tk 1 ?_
         refine' tk 2 ?_
         refine' tk 3 ?_
         refine' tk 4 ?_
         refine' tk 5 ?_
         refine' tk 6 ?_
         refine' tk 7 ?_
         refine' tk 8 ?_
         refine' tk 9 ?_
         refine' tk 10 ?_
         refine' tk 11 ?_
         refine' tk 12 ?_
         refine' tk 13 ?_
         refine' tk 14 ?_
         refine' tk 15 ?_
         refine' tk 16 ?_
         refine' tk 17 ?_
         refine' tk 18 ?_
         refine' tk 19 ?_
         refine' tk 20 ?_
         refine' tk 21 ?_
         refine' tkn 22 ?_
         refine' tkn 23 ?_
         refine' tkn 24 ?_
         refine' tkn 25 ?_
         refine' tkn 26 ?_
         refine' tkn 27 ?_
         refine' tk 28 ?_
         refine' tk 29 ?_
         refine wpAnyH_done (by kernel_rfl) ?_ _
         go_wp2_with fail
         go_meet
         exact⟨rfl,by exact Xx (K2.out)⟩
        ·have d1:(fx==fy)=false:=by rw[beq_eq_false_iff_ne];exact hxy
         have d2:(fx !=fy)=true:=by rw[bne,d1];rfl
         obtain⟨dl,hdl⟩:∃dl,decide (fy<fx)=dl:=⟨_,rfl⟩
         have d3:(dl==down)=false:=by rw[←hdl];exact HP3.out hxy
         refine wp_region_held_drew (S:=fun W=>W.cell? ⟨w.heap.size,6,none⟩=some (.bool down)) (by kernel_rfl) ((HBOX.out _ (K2.out.trans (by exact Xt))).2) (fun hHeld=> ?_)
         refine' tk 0 ?_
         refine' tk 1 ?_
         refine' tk 2 ?_
         refine' tk 3 ?_
         refine' tkn 4 ?_
         refine' tkn 5 ?_
         refine' tkn 6 ?_
         refine' tkn 7 ?_
         refine' tkn 8 ?_
         refine' tkn 9 ?_
         refine' tkn 10 ?_
         refine' tkn 11 ?_
         refine' tkn 12 ?_
         refine' tkn 13 ?_
         refine' tkn 14 ?_
         refine' tkn 15 ?_
         refine' tk 16 ?_
         refine' tk 17 ?_
         refine' tk 18 ?_
         refine' tk 19 ?_
         refine' tk 20 ?_
         refine' tk 21 ?_
         refine' tk 22 ?_
         refine' tk 23 ?_
         refine' tk 24 ?_
         refine' tk 25 ?_
         refine' tk 26 ?_
         refine' tk 27 ?_
         refine' tk 28 ?_
         refine' tk 29 ?_
         refine wpAnyH_done (by kernel_rfl) ?_ _
         go_wp2_with fail
         go_meet
         exact⟨rfl,by exact Xx (K2.out)⟩
     case rest=>
     obtain⟨rfl,hbc⟩:=hcut
     have KC:=hD hbc
     clear hbc
     by_cases hjk:j<k
     ·have hd2:decide ((j:Int)<(k:Int))=true:=by simp;omega
      obtain⟨b2,off2,rfl,hbl2,hef⟩:=HEF.out hjk
      have HEF2:=hD hef
      clear hef HEF
      go_upto_region 23 with fail
      refine wp_region_held_drew (S:=fun W=>(W.cell? ⟨b2,off2+j*11,none⟩=some (.int .i64 x.id)∧W.cell? ⟨b2,off2+j*11+1,none⟩=some (.int .i64 x.proc)∧W.cell? ⟨b2,off2+j*11+2,none⟩=some (.int .i64 x.object)∧W.cell? ⟨b2,off2+j*11+3,none⟩=some (.int .i64 x.kind)∧W.cell? ⟨b2,off2+j*11+4,none⟩=some (.int .i64 x.method)∧W.cell? ⟨b2,off2+j*11+5,none⟩=some (.int .i64 x.arg)∧W.cell? ⟨b2,off2+j*11+6,none⟩=some (.int .i64 x.second)∧W.cell? ⟨b2,off2+j*11+7,none⟩=some (.bool x.done)∧W.cell? ⟨b2,off2+j*11+8,none⟩=some (.int .i64 x.result)∧W.cell? ⟨b2,off2+j*11+9,none⟩=some (.int .i64 x.invoke)∧W.cell? ⟨b2,off2+j*11+10,none⟩=some (.int .i64 x.ret))∧(W.cell? ⟨b,off+j*11,none⟩=some (.int .i64 x.id)∧W.cell? ⟨b,off+j*11+1,none⟩=some (.int .i64 x.proc)∧W.cell? ⟨b,off+j*11+2,none⟩=some (.int .i64 x.object)∧W.cell? ⟨b,off+j*11+3,none⟩=some (.int .i64 x.kind)∧W.cell? ⟨b,off+j*11+4,none⟩=some (.int .i64 x.method)∧W.cell? ⟨b,off+j*11+5,none⟩=some (.int .i64 x.arg)∧W.cell? ⟨b,off+j*11+6,none⟩=some (.int .i64 x.second)∧W.cell? ⟨b,off+j*11+7,none⟩=some (.bool x.done)∧W.cell? ⟨b,off+j*11+8,none⟩=some (.int .i64 x.result)∧W.cell? ⟨b,off+j*11+9,none⟩=some (.int .i64 x.invoke)∧W.cell? ⟨b,off+j*11+10,none⟩=some (.int .i64 x.ret))) (by kernel_rfl) (⟨HEF2.out _ (KC.out.trans (by exact Xt)),HE.out _ (KC.out.trans (by exact Xt))⟩) (fun hHeld=> ?_)
      refine' tk 0 ?_
      refine' tk 1 ?_
      refine' tk 2 ?_
      refine' tk 3 ?_
      refine' tk 4 ?_
      refine' tk 5 ?_
      refine' tk 6 ?_
      refine' tk 7 ?_
      refine' tk 8 ?_
      refine' tk 9 ?_
      refine' tk 10 ?_
      refine' tk 11 ?_
      refine' tk 12 ?_
      refine' tk 13 ?_
      refine wpAnyH_done (by kernel_rfl) ?_ _
      go_wp2_with fail
      go_roundw
      case measure=>simp[intOf];omega
      case rel=>exact⟨j+1,by omega,by go_num,by exact Xx (KC.out)⟩
     ·have hd2:decide ((j:Int)<(k:Int))=false:=by simp;omega
      clear HEF
      go_upto_region 23 with fail
      refine wp_region_held_drew (S:=fun W=>0≤W.heap.size) (by kernel_rfl) (Nat.zero_le _) (fun hHeld=> ?_)
      refine' tk 0 ?_
      refine' tk 1 ?_
      refine' tk 2 ?_
      refine' tk 3 ?_
      refine' tkn 4 ?_
      refine' tkn 5 ?_
      refine' tkn 6 ?_
      refine' tkn 7 ?_
      refine' tkn 8 ?_
      refine' tkn 9 ?_
      refine' tkn 10 ?_
      refine' tkn 11 ?_
      refine' tkn 12 ?_
      refine' tk 13 ?_
      refine wpAnyH_done (by kernel_rfl) ?_ _
      go_wp2_with fail
      go_roundw
      case measure=>simp[intOf];omega
      case rel=>exact⟨j+1,by omega,by go_num,by exact Xx (KC.out)⟩
    ·obtain rfl:j=n:=by omega
     have hd:decide ((j:Int)<(j:Int))=false:=by simp
     go_wp2_with (go_at_call 37;(with_reducible refine(HAW.out _).mono ?_);clear HAW;rintro e w9 ⟨rfl,hx9⟩;have HX9:=hD hx9;clear hx9)
     go_ret
     exact⟨rfl,HX8.out.trans (KB.out.trans HX9.out)⟩
end
end Go.Proofs.YtmiolpfanlpfnaaGreat
