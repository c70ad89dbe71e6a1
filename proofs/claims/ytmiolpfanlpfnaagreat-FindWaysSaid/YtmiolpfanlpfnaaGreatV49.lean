/- What lies before, after or beside an operation (layer 20's near): plain law, and the statement's closure. Conditions: a table's trees. -/
import Derived.Test.YtmiolpfanlpfnaaGreatV48
set_option maxRecDepth 100000
set_option maxHeartbeats 4000000
set_option linter.unusedSimpArgs false
set_option linter.unusedVariables false
namespace Go.Proofs.YtmiolpfanlpfnaaGreat
open Go.RowKit
theorem U1b(l:List OpD):cutL (-1) l=l:=by unfold cutL;rw[if_neg (by omega)]
def notT(t:ND):ND:= .mk 3 [t] ⟨#[]⟩ ⟨#[]⟩ 0
theorem X9z(l:List OpD)(o:OpD)(t:ND):Z0n l o (notT t)= !Z0n l o t:=Y2a l o (notT t) rfl t rfl
theorem X5d(ord:ByteArray)(down:Bool)(l0:List OpD)(t u:ND)(h:∀o,Z0n l0 o t=Z0n l0 o u)(l:List OpD):runL ord down l0 t l=runL ord down l0 u l:=by
 unfold runL
 have e:Z2q ord down l0 t=Z2q ord down l0 u:=by funext out o;unfold Z2q;rw[h o]
 rw[e]
theorem V9d{B:Nat→Prop}{w:World}{d:Nat}{t:ND}{n:NCell}{k:Nat}{ty:TypeId}(hd:NdB B w d t n)(hn:RN n n.cells)(hk:Row1 w k ty n.cells)(hB:B k):NdB B w (d+1) (notT t) ⟨3,.slice (some ⟨k,0,none⟩) 1 1,⟨#[]⟩,⟨#[]⟩,0⟩:=by
 refine⟨rfl,rfl,rfl,rfl,[n],Sl.laid hk rfl (Nat.le_refl _) (by decide) (fun i x hx=> ?_),fun b _ e=>by cases e;exact hB,rfl,fun i x y hx hy=> ?_⟩
 ·match i,hx with
  | 0,hx=>
    obtain rfl:n=x:=by simpa using hx
    exact⟨n.cells,hn,rfl,fun j u hu=>by rw[Nat.zero_mul,Nat.zero_add];exact hu⟩
  | i+1,hx=>simp at hx
 ·match i,hx,hy with
  | 0,hx,hy=>
    obtain rfl:t=x:=by simpa [notT,ND.kids]using hx
    obtain rfl:n=y:=by simpa using hy
    exact hd
  | i+1,hx,hy=>simp at hy
def sObj:ByteArray:=⟨#[111,98,106,101,99,116]⟩
def sEq:ByteArray:=⟨#[61]⟩
def sNe:ByteArray:=⟨#[33,61]⟩
def cmpT(f s:ByteArray)(v:Int):ND:= .mk 4 [] f s v
def andT(a b:ND):ND:= .mk 2 [a,b] ⟨#[]⟩ ⟨#[]⟩ 0
theorem X0i(l:List OpD)(o:OpD)(a b:ND):Z0n l o (andT a b)=(Z0n l o a&&Z0n l o b):=by
 rw[Z6d l o (andT a b) rfl]
 show [a,b].all (Z0n l o)=_
 simp
theorem X0b(l:List OpD)(o:OpD)(f s:ByteArray)(v:Int):Z0n l o (cmpT f s v)=cmpF o f s.toList v:=Z8j l o (cmpT f s v) rfl
theorem V5j(o:OpD):∃x,Z1f o sObj=some x:=by
 unfold Z1f
 have h:∀(ns:List ByteArray) (vs:List Int),ns.length=vs.length→(∃n∈ns,n.toList=sObj.toList)→∃x,Y4h sObj ns vs=some x:=fun ns=>by
  induction ns with
  | nil=>intro vs _ ⟨n,hn,_⟩;cases hn
  | cons a r ih=>
    intro vs hl hx
    match vs,hl with
    | v::vs,hl=>
      simp only[Y4h]
      by_cases e:a.toList=sObj.toList
      ·rw[if_pos e];exact⟨_,rfl⟩
      ·rw[if_neg e]
       obtain⟨n,hn,hn2⟩:=hx
       rcases List.mem_cons.1 hn with rfl | hn
       ·exact absurd hn2 e
       ·exact ih vs (by simpa using hl) ⟨n,hn,hn2⟩
 exact h _ _ rfl (by decide +kernel)
theorem X1p(l:List OpD)(o:OpD)(v:Int):Z0n l o (notT (cmpT sObj sNe v))=Z0n l o (cmpT sObj sEq v):=by
 rw[X9z,X0b,X0b]
 obtain⟨x,hx⟩:=V5j o
 unfold cmpF
 rw[hx]
 have e1:sNe.toList= [33,61]:=by decide +kernel
 have e2:sEq.toList= [61]:=by decide +kernel
 dsimp only
 rw[e1,e2]
 unfold soL
 rw[if_neg (by decide),if_pos rfl,if_pos rfl]
 simp[bne]
theorem X7l(ord:ByteArray)(down:Bool)(ls:List OpD)(t:ND)(v:Int):runL ord down ls (andT (notT (cmpT sObj sNe v)) t) ls=runL ord down ls (andT t (cmpT sObj sEq v)) ls:=
 X5d _ _ _ _ _ (fun o=>by rw[X0i,X0i,X1p,Bool.and_comm]) _
theorem V2v{B:Nat→Prop}{w:World}(d:Nat)(f s:ByteArray)(v:Int):NdB B w (d+1) (cmpT f s v) ⟨4,.slice none 0 0,f,s,v⟩:=
 ⟨rfl,rfl,rfl,rfl,[],Sl.nil _ _ _,fun b h=>absurd h (by simp),rfl,fun i x y hx _=>by simp[cmpT,ND.kids]at hx⟩
theorem V3e{B:Nat→Prop}{w:World}{d:Nat}{t u:ND}{n m:NCell}{k:Nat}{ty:TypeId}(hd:NdB B w d t n)(he:NdB B w d u m)(hn:RN n n.cells)(hm:RN m m.cells)(hk:Row1 w k ty (n.cells++m.cells))(hB:B k):NdB B w (d+1) (andT t u) ⟨2,.slice (some ⟨k,0,none⟩) 2 2,⟨#[]⟩,⟨#[]⟩,0⟩:=by
 refine⟨rfl,rfl,rfl,rfl,[n,m],Sl.laid hk rfl (Nat.le_refl _) (by decide) (fun i x hx=> ?_),fun b _ e=>by cases e;exact hB,rfl,fun i x y hx hy=> ?_⟩
 ·match i,hx with
  | 0,hx=>
    obtain rfl:n=x:=by simpa using hx
    exact⟨n.cells,hn,rfl,fun j v hv=>by
     have hj:j<n.cells.length:=by have:=List.getElem?_eq_some_iff.1 hv;exact this.1
     rw[Nat.zero_mul,Nat.zero_add,List.getElem?_append_left hj];exact hv⟩
  | 1,hx=>
    obtain rfl:m=x:=by simpa using hx
    exact⟨m.cells,hm,rfl,fun j v hv=>by
     rw[List.getElem?_append_right (by show n.cells.length≤_;simp[NCell.cells])]
     rw[←hv];congr 1;simp[NCell.cells]⟩
  | i+2,hx=>simp at hx
 ·match i,hx,hy with
  | 0,hx,hy=>
    obtain rfl:t=x:=by simpa [andT,ND.kids]using hx
    obtain rfl:n=y:=by simpa using hy
    exact hd
  | 1,hx,hy=>
    obtain rfl:u=x:=by simpa [andT,ND.kids]using hx
    obtain rfl:m=y:=by simpa using hy
    exact he
  | i+2,hx,hy=>simp at hy
theorem Y3n(hAw:AwOk)(V:Value)(ops:List OpD)(d:Nat)(t:ND)(nk:Int)(nA:Option Addr)(nm nc:Nat)(nf ns:ByteArray)(nv:Int)(ord:ByteArray)(down:Bool)(limit:Int)(count:Bool)(obj:Int)(w:World)
 (hs:Sl w 11 ROp V ops)(hin:∀o∈ops,In64 o.result)(hn:RN ⟨nk,.slice nA nm nc,nf,ns,nv⟩ (NCell.cells ⟨nk,.slice nA nm nc,nf,ns,nv⟩))(hd:Nd w d t ⟨nk,.slice nA nm nc,nf,ns,nv⟩)(hlim:In64 limit)(hobj:In64 obj):
  Calls Tryz.prog 9 #[V,.agg #[.int .i64 nk,.slice nA nm nc,.string nf,.string ns,.int .i64 nv,.string ord,.bool down,.int .i64 limit,.bool count],.int .i64 obj] w fun e w'=>e= .returned (.bool true)∧Ext w w':=by
 obtain⟨A,c,rfl⟩:=hs.form
 have hx0:Ext w (w.alloc (.cells #[.int .i64 nk,.slice nA nm nc,.string nf,.string ns,.int .i64 nv,.string ord,.bool down,.int .i64 limit,.bool count] 69)):=Ext.alloc _ _
 have cFil:=Z6t _ ops _ (hs.ext hx0) hin
 have hq0:Row1 (w.alloc (.cells #[.int .i64 nk,.slice nA nm nc,.string nf,.string ns,.int .i64 nv,.string ord,.bool down,.int .i64 limit,.bool count] 69)) w.heap.size 69 [.int .i64 nk,.slice nA nm nc,.string nf,.string ns,.int .i64 nv,.string ord,.bool down,.int .i64 limit,.bool count]:=Row1.made w _ [.int .i64 nk,.slice nA nm nc,.string nf,.string ns,.int .i64 nv,.string ord,.bool down,.int .i64 limit,.bool count]
 have HX0:=hD hx0
 have HQ0:=hD hq0
 have HRN:=hD hn
 have HD:=hD hd
 have HLIM:=hD hlim
 have HOB:=hD hobj
 have HAW:Hid (∀W:World,Calls Tryz.prog 37 #[] W fun e w'=>e= .returned (.bool true)∧Ext W w'):=hAw
 have hz0:(w.alloc (.cells #[.int .i64 nk,.slice nA nm nc,.string nf,.string ns,.int .i64 nv,.string ord,.bool down,.int .i64 limit,.bool count] 69)).heap.size=w.heap.size+1:=by simp
 have HZ0:=hD hz0
 clear hx0 hq0 hn hd hlim hobj hAw hs hin hz0
 go_enter Tryz.func9,Tryz.ntmps9
 go_upto_region 2 with (go_at_call 35;(with_reducible refine cFil.mono ?_);clear cFil;rintro e w1 ⟨tb,p,ts,v,F,rfl,hf⟩;obtain⟨vA,vc,rfl⟩:=hf.own.form;have HF:=hD hf;clear hf)
 obtain⟨m,hm⟩:∃m,(filL (ops.take 24)).length=m:=⟨_,rfl⟩
 have HM:=hD hm
 rw[hm]at HF
 simp only[hm]
 clear hm
 have HQ1:Hid (Row1 w1 w.heap.size 69 [.int .i64 nk,.slice nA nm nc,.string nf,.string ns,.int .i64 nv,.string ord,.bool down,.int .i64 limit,.bool count]):=HQ0.out.ext HF.out.ext HQ0.out.lt
 have HX1:Hid (Ext w w1):=HX0.out.trans HF.out.ext
 generalize hW0:World.alloc _ _=W0 at HF HX0 HQ0 HZ0
 obtain⟨q0,q1,q2,q3,q4,q5,q6,q7,q8⟩:=c9 HQ1.out
 have cS:=Y2g d nk nA nm nc nf ns nv ord down limit count w1 ((HD.out.ext HX1.out).ok)
 clear hW0
 go_upto_if 29 with (go_at_call 36;(with_reducible refine cS.mono ?_);clear cS;rintro e w2 ⟨⟨b,rfl⟩,hx2⟩;have HX2:=hD hx2;clear hx2)
 have HX3:Hid (Ext w w2):=HX1.out.trans HX2.out
 have HF2:Hid (FilR W0 tb p ts 796 (filL (ops.take 24)) 24 (.slice vA m vc) F w2):=HF.out.to HX2.out
 have HQ2:Hid (Row1 w2 w.heap.size 69 [.int .i64 nk,.slice nA nm nc,.string nf,.string ns,.int .i64 nv,.string ord,.bool down,.int .i64 limit,.bool count]):=HQ1.out.ext HX2.out HQ1.out.lt
 clear q0 q1 q2 q3 q4 q5 q6 q7 q8
 obtain⟨q0,q1,q2,q3,q4,q5,q6,q7,q8⟩:=c9 HQ2.out
 cases b with
 | false=>
   go_wp2_with (go_at_call 37;(with_reducible refine(HAW.out _).mono ?_);clear HAW;rintro e w9 ⟨rfl,hx9⟩;have HX9:=hD hx9;clear hx9)
   go_ret
   exact⟨rfl,HX3.out.trans HX9.out⟩
 | true=>
   obtain⟨S,Ts,hI,hP⟩:=HF2.out.ex
   obtain⟨ls,hls⟩:∃ls,filL (ops.take 24)=ls:=⟨_,rfl⟩
   rw[hls]at hI HM HF2
   have hlen:ls.length≤100000:=by
    have h1:=Y1r (ops.take 24) (ops.take 24).length (Nat.le_refl _)
    rw[List.take_length,hls,List.length_take]at h1
    omega
   have HI:=hD hI
   have HLEN:=hD hlen
   have HP:=hD hP
   clear hI hP hlen hls
   have HOBC:Hid (RN ⟨4,.slice none 0 0,sObj,sEq,obj⟩ (NCell.cells ⟨4,.slice none 0 0,sObj,sEq,obj⟩)∧RN ⟨4,.slice none 0 0,sObj,sNe,obj⟩ (NCell.cells ⟨4,.slice none 0 0,sObj,sNe,obj⟩)):=⟨⟨rfl,HOB.out.1,HOB.out.2,_,_,_,rfl⟩,⟨rfl,HOB.out.1,HOB.out.2,_,_,_,rfl⟩⟩
   go_upto_region 6 with fail
   generalize hW3:World.alloc _ _=w3
   have HX23:Hid (Ext w2 w3):=by unfold Hid;rw[←hW3];exact((Ext.alloc _ _).trans (Ext.alloc _ _)).trans (Ext.alloc _ _)
   have HMI:Hid (Row1 w3 w2.heap.size 50 [.int .i64 4,.slice none 0 0,.string ⟨#[111,98,106,101,99,116]⟩,.string ⟨#[61]⟩,.int .i64 obj]):=by unfold Hid;rw[←hW3];exact((Row1.made w2 _ [.int .i64 4,.slice none 0 0,.string ⟨#[111,98,106,101,99,116]⟩,.string ⟨#[61]⟩,.int .i64 obj]).alloc _).alloc _
   have HKI:Hid (Row1 w3 (w2.heap.size+1) 50 [.int .i64 4,.slice none 0 0,.string ⟨#[111,98,106,101,99,116]⟩,.string ⟨#[33,61]⟩,.int .i64 obj]):=by unfold Hid;rw[←hW3];exact(Row1.made' (by simp) _ [.int .i64 4,.slice none 0 0,.string ⟨#[111,98,106,101,99,116]⟩,.string ⟨#[33,61]⟩,.int .i64 obj]).alloc _
   have HHI:Hid (Row1 w3 (w2.heap.size+2) 50 [.int .i64 3,.slice (some ⟨w2.heap.size+1,0,none⟩) 1 1,.string ⟨#[]⟩,.string ⟨#[]⟩,.int .i64 0]):=by unfold Hid;rw[←hW3];exact Row1.made' (by simp) _ [.int .i64 3,.slice (some ⟨w2.heap.size+1,0,none⟩) 1 1,.string ⟨#[]⟩,.string ⟨#[]⟩,.int .i64 0]
   have HZ3:Hid (w3.heap.size=w2.heap.size+3):=by unfold Hid;rw[←hW3];simp
   have HQ3:=hD (HQ2.out.ext HX23.out HQ2.out.lt)
   clear hW3 q0 q1 q2 q3 q4 q5 q6 q7 q8
   obtain⟨q0,q1,q2,q3,q4,q5,q6,q7,q8⟩:=c9 HQ3.out
   go_upto_region 7 with fail
   generalize hW4:World.alloc _ _=w4
   have HX34:Hid (Ext w3 w4):=by unfold Hid;rw[←hW4];exact Ext.alloc _ _
   have HP4:Hid (Row1 w4 w3.heap.size 69 [.int .i64 nk,.slice nA nm nc,.string nf,.string ns,.int .i64 nv,.string ord,.bool down,.int .i64 limit,.bool count]):=by unfold Hid;rw[←hW4];exact Row1.made w3 _ [.int .i64 nk,.slice nA nm nc,.string nf,.string ns,.int .i64 nv,.string ord,.bool down,.int .i64 limit,.bool count]
   have HZ4:Hid (w4.heap.size=w3.heap.size+1):=by unfold Hid;rw[←hW4];simp
   have HQ4:=hD (HQ3.out.ext HX34.out HQ3.out.lt)
   have HMI4:=hD (HMI.out.ext HX34.out HMI.out.lt)
   clear hW4 q0 q1 q2 q3 q4 q5 q6 q7 q8
   obtain⟨q0,q1,q2,q3,q4⟩:=c5 HQ4.out
   obtain⟨m0,m1,m2,m3,m4⟩:=c5 HMI4.out
   have hlt4:w3.heap.size<w4.heap.size:=HP4.out.lt
   obtain⟨f0,f1,f2,f3,f4⟩:w4.frozen? ⟨w3.heap.size,0,none⟩=false∧w4.frozen? ⟨w3.heap.size,1,none⟩=false∧w4.frozen? ⟨w3.heap.size,2,none⟩=false∧w4.frozen? ⟨w3.heap.size,3,none⟩=false∧w4.frozen? ⟨w3.heap.size,4,none⟩=false:=⟨HP4.out.soft 0,HP4.out.soft 1,HP4.out.soft 2,HP4.out.soft 3,HP4.out.soft 4⟩
   obtain⟨p0,p1,p2,p3,p4⟩:=c5 HP4.out
   go_upto_region 8 with fail
   generalize hW5:World.alloc _ _=w5
   have HO45:Hid (Only (fun i=>i=w3.heap.size) w4 w5):=by unfold Hid;rw[←hW5];exact(U0p Only.refl _ _ _ _ _).alloc _
   have HP5:Hid (Row1 w5 w3.heap.size 69 [.int .i64 2,.slice (some ⟨w4.heap.size,0,none⟩) 2 2,.string ⟨#[]⟩,.string ⟨#[]⟩,.int .i64 0,.string ord,.bool down,.int .i64 limit,.bool count]):=by unfold Hid;rw[←hW5];exact(set5 HP4.out _ _ _ _ _).alloc _
   have HS5:Hid (Row1 w5 w4.heap.size 50 [.int .i64 nk,.slice nA nm nc,.string nf,.string ns,.int .i64 nv,.int .i64 4,.slice none 0 0,.string ⟨#[111,98,106,101,99,116]⟩,.string ⟨#[61]⟩,.int .i64 obj]):=by
    unfold Hid;rw[←hW5]
    exact Row1.made' (by simp) _ [.int .i64 nk,.slice nA nm nc,.string nf,.string ns,.int .i64 nv,.int .i64 4,.slice none 0 0,.string ⟨#[111,98,106,101,99,116]⟩,.string ⟨#[61]⟩,.int .i64 obj]
   have HZ5:Hid (w5.heap.size=w4.heap.size+1):=by unfold Hid;rw[←hW5];simp
   have HQ5:=hD (HO45.out.row HQ4.out (fun e=>by have:=HQ3.out.lt;omega))
   have HH5:=hD (HO45.out.row (HHI.out.ext HX34.out HHI.out.lt) (fun e=>by have:=HHI.out.lt;omega))
   clear hW5 q0 q1 q2 q3 q4 m0 m1 m2 m3 m4 f0 f1 f2 f3 f4 p0 p1 p2 p3 p4 hlt4
   obtain⟨q0,q1,q2,q3,q4⟩:=c5 HQ5.out
   obtain⟨m0,m1,m2,m3,m4⟩:=c5 HH5.out
   have hlt5:w.heap.size<w5.heap.size:=HQ5.out.lt
   obtain⟨f0,f1,f2,f3,f4⟩:w5.frozen? ⟨w.heap.size,0,none⟩=false∧w5.frozen? ⟨w.heap.size,1,none⟩=false∧w5.frozen? ⟨w.heap.size,2,none⟩=false∧w5.frozen? ⟨w.heap.size,3,none⟩=false∧w5.frozen? ⟨w.heap.size,4,none⟩=false:=⟨HQ5.out.soft 0,HQ5.out.soft 1,HQ5.out.soft 2,HQ5.out.soft 3,HQ5.out.soft 4⟩
   go_upto_region 9 with fail
   generalize hW6:World.alloc _ _=w6
   have HO56:Hid (Only (fun i=>i=w.heap.size) w5 w6):=by unfold Hid;rw[←hW6];exact(U0p Only.refl _ _ _ _ _).alloc _
   have HQ6:Hid (Row1 w6 w.heap.size 69 [.int .i64 2,.slice (some ⟨w5.heap.size,0,none⟩) 2 2,.string ⟨#[]⟩,.string ⟨#[]⟩,.int .i64 0,.string ord,.bool down,.int .i64 limit,.bool count]):=by unfold Hid;rw[←hW6];exact(set5 HQ5.out _ _ _ _ _).alloc _
   have HT6:Hid (Row1 w6 w5.heap.size 50 [.int .i64 3,.slice (some ⟨w2.heap.size+1,0,none⟩) 1 1,.string ⟨#[]⟩,.string ⟨#[]⟩,.int .i64 0,.int .i64 nk,.slice nA nm nc,.string nf,.string ns,.int .i64 nv]):=by
    unfold Hid;rw[←hW6]
    exact Row1.made' (by simp) _ [.int .i64 3,.slice (some ⟨w2.heap.size+1,0,none⟩) 1 1,.string ⟨#[]⟩,.string ⟨#[]⟩,.int .i64 0,.int .i64 nk,.slice nA nm nc,.string nf,.string ns,.int .i64 nv]
   have HZ6:Hid (w6.heap.size=w5.heap.size+1):=by unfold Hid;rw[←hW6];simp
   clear hW6 q0 q1 q2 q3 q4 m0 m1 m2 m3 m4 f0 f1 f2 f3 f4 hlt5
   have HLTS:Hid (w.heap.size<w2.heap.size∧w3.heap.size=w2.heap.size+3∧w4.heap.size=w3.heap.size+1∧w5.heap.size=w4.heap.size+1∧w6.heap.size=w5.heap.size+1):=⟨HQ2.out.lt,HZ3.out,HZ4.out,HZ5.out,HZ6.out⟩
   have HP6:=hD (HO56.out.row HP5.out (fun e=>by have:=HLTS.out;omega))
   have HS6:=hD (HO56.out.row HS5.out (fun e=>by have:=HLTS.out;omega))
   have HK6:=hD (HO56.out.row (HO45.out.row (HKI.out.ext HX34.out HKI.out.lt) (fun e=>by have:=HLTS.out;omega)) (fun e=>by have:=HLTS.out;omega))
   have HO26:Hid (Only (fun i=>i=w.heap.size) w2 w6):=((Only.of (HX23.out.trans HX34.out)).trans HO45.out (fun i e=> .inr (by have:=HLTS.out;omega))).trans HO56.out (fun i e=> .inl e)
   have HFW:Hid (∀i,F i→w.heap.size<i∧i<w2.heap.size):=fun i q=>⟨by have:=(HF2.out.new i q).1;have:=HZ0.out;omega,(HF2.out.new i q).2⟩
   have HTT:Hid ((w.heap.size<tb∧tb<w2.heap.size)∧∀j,j<5→w.heap.size<ts j∧ts j<w2.heap.size):=⟨⟨by have:=HF2.out.ntb;have:=HZ0.out;omega,HF2.out.at_.row.lt⟩,fun j hj=>⟨by have:=HF2.out.nts j hj;have:=HZ0.out;omega,(HF2.out.at_.tree j hj).lt⟩⟩
   have HX6:Hid (Ext w w6):=(Only.trans (F:=fun i=>i=w.heap.size) (Only.of HX3.out) HO26.out (fun i e=> .inl e)).toExt (fun i e=>by omega)
   have hR6:RunI tb p ts S F w6:=RunI.only (G:=fun i=>i=w.heap.size) ⟨HF2.out.at_,HP.out,fun i q=>(HF2.out.new i q).2⟩ HO26.out (fun i e=>⟨fun q=>by have:=HFW.out i q;omega,fun q=>by have:=HTT.out;omega,fun j hj q=>by have:=HTT.out.2 j hj;omega⟩)
   obtain⟨B,hBd⟩:∃B:Nat→Prop,B=fun i=>i<w.heap.size∨i=w4.heap.size∨i=w5.heap.size∨i=w2.heap.size+1:=⟨_,rfl⟩
   have hB6:BF B F w6:=fun i q=>by
    rw[hBd]at q
    have h1:=HLTS.out
    exact⟨by omega,fun r=>by have:=HFW.out i r;omega⟩
   have hBT:∀i,B i→i≠tb∧∀j,j<5→i≠ts j:=fun i q=>by
    rw[hBd]at q
    have h1:=HLTS.out;have h2:=HTT.out
    exact⟨by omega,fun j hj e=>by have:=h2.2 j hj;omega⟩
   have nq:NdB B w6 (d+2) t ⟨nk,.slice nA nm nc,nf,ns,nv⟩:=(((NdB.of d t _ HD.out).ext HX6.out).mono (fun i q=>by rw[hBd];exact .inl q)).more.more
   have nmine:NdB B w6 (d+2) (cmpT sObj sEq obj) ⟨4,.slice none 0 0,sObj,sEq,obj⟩:=V2v (d+1) sObj sEq obj
   have hRNh:RN ⟨3,.slice (some ⟨w2.heap.size+1,0,none⟩) 1 1,⟨#[]⟩,⟨#[]⟩,0⟩ (NCell.cells ⟨3,.slice (some ⟨w2.heap.size+1,0,none⟩) 1 1,⟨#[]⟩,⟨#[]⟩,0⟩):=⟨rfl,by show(-9223372036854775808:Int)≤0;decide,by show(0:Int)≤9223372036854775807;decide,_,_,_,rfl⟩
   have nhid:NdB B w6 (d+2) (notT (cmpT sObj sNe obj)) ⟨3,.slice (some ⟨w2.heap.size+1,0,none⟩) 1 1,⟨#[]⟩,⟨#[]⟩,0⟩:=V9d (V2v d sObj sNe obj) HOBC.out.2 HK6.out (by rw[hBd];exact .inr (.inr (.inr rfl)))
   have np:NdB B w6 (d+3) (andT t (cmpT sObj sEq obj)) ⟨2,.slice (some ⟨w4.heap.size,0,none⟩) 2 2,⟨#[]⟩,⟨#[]⟩,0⟩:=V3e nq nmine HRN.out HOBC.out.1 HS6.out (by rw[hBd];exact .inr (.inl rfl))
   have nr:NdB B w6 (d+3) (andT (notT (cmpT sObj sNe obj)) t) ⟨2,.slice (some ⟨w5.heap.size,0,none⟩) 2 2,⟨#[]⟩,⟨#[]⟩,0⟩:=V3e nhid nq hRNh HRN.out HT6.out (by rw[hBd];exact .inr (.inr (.inl rfl)))
   have HRA:Hid (∀k:Nat,RN ⟨2,.slice (some ⟨k,0,none⟩) 2 2,⟨#[]⟩,⟨#[]⟩,0⟩ (NCell.cells ⟨2,.slice (some ⟨k,0,none⟩) 2 2,⟨#[]⟩,⟨#[]⟩,0⟩)):=fun k=>⟨rfl,by show(-9223372036854775808:Int)≤0;decide,by show(0:Int)≤9223372036854775807;decide,_,_,_,rfl⟩
   obtain⟨tq,htq⟩:∃tq,andT t (cmpT sObj sEq obj)=tq:=⟨_,rfl⟩
   obtain⟨out,hout⟩:∃out,cutL limit (runL ord down ls tq ls)=out:=⟨_,rfl⟩
   have hsame:runL ord down ls (andT (notT (cmpT sObj sNe obj)) t) ls=runL ord down ls tq ls:=by rw[←htq];exact X7l ord down ls t obj
   obtain⟨k,hk⟩:∃k,out.length=k:=⟨_,rfl⟩
   rw[htq]at np
   have c1:=V4e (B:=B) HI.out (by omega) HLEN.out (d+3) tq 2 (some ⟨w4.heap.size,0,none⟩) 2 2 ⟨#[]⟩ ⟨#[]⟩ 0 ord down limit count w6 hR6 (HRA.out _) np hB6 hBT HLIM.out
   rw[hout,hk]at c1
   have c2:Hid (∀(F':Nat→Prop) (W:World),RunI tb p ts S F' W→NdB B W (d+3) (andT (notT (cmpT sObj sNe obj)) t) ⟨2,.slice (some ⟨w5.heap.size,0,none⟩) 2 2,⟨#[]⟩,⟨#[]⟩,0⟩→BF B F' W→Calls Tryz.prog 38 #[tp tb,.agg #[.int .i64 2,.slice (some ⟨w5.heap.size,0,none⟩) 2 2,.string ⟨#[]⟩,.string ⟨#[]⟩,.int .i64 0,.string ord,.bool down,.int .i64 limit,.bool count]] W fun e w'=>∃v,e= .returned (.tuple #[v,.int .i64 k])∧RunR tb p ts S F' count out W v w'):=fun F' W z1 z2 z3=>by
    have h1:=V4e (B:=B) HI.out (by omega) HLEN.out (d+3) _ 2 (some ⟨w5.heap.size,0,none⟩) 2 2 ⟨#[]⟩ ⟨#[]⟩ 0 ord down limit count W z1 (HRA.out _) z2 z3 hBT HLIM.out
    rw[hsame,hout,hk]at h1
    exact h1
   have cN:Hid (∀W,Sl W 11 ROp (.slice vA m vc) ls→Nd W (d+3) tq ⟨2,.slice (some ⟨w4.heap.size,0,none⟩) 2 2,⟨#[]⟩,⟨#[]⟩,0⟩→Calls Tryz.prog 39 #[.slice vA m vc,.agg #[.int .i64 2,.slice (some ⟨w4.heap.size,0,none⟩) 2 2,.string ⟨#[]⟩,.string ⟨#[]⟩,.int .i64 0,.string ord,.bool down,.int .i64 limit,.bool count]] W fun e w'=>(∃v,e= .returned (.tuple #[v,.int .i64 k])∧if count then v= .slice none 0 0 else Sl w' 11 ROp v out)∧Ext W w'):=fun W z1 z2=>by
    have h1:=X5i (.slice vA m vc) ls (d+3) tq ⟨2,.slice (some ⟨w4.heap.size,0,none⟩) 2 2,⟨#[]⟩,⟨#[]⟩,0⟩ ord down limit count W z1 (HRA.out _) z2 (by have:=HLEN.out;omega) HLIM.out
    rw[hout,hk]at h1
    exact h1
   have HKL:Hid (out.length=k):=hk
   have HNP:=hD np
   have HNR:=hD nr
   have HB6:=hD hB6
   have HOWN:Hid (∀(F':Nat→Prop) (W:World),Keeps F F' w6 W→Sl W 11 ROp (.slice vA m vc) ls):=fun F' W h=>
    ((HF2.out.own.only HO26.out (fun b q e=>by have:=(HF2.out.own.lt b q).1;have:=HZ0.out;omega)).only h.only (fun b q=>HF2.out.apart b q)).sl Z2t (fun _=>rfl)
   have HNQ:Hid (¬F w.heap.size∧¬F w3.heap.size):=⟨fun q=>by have:=HFW.out _ q;omega,fun q=>by have:=HFW.out _ q;have:=HLTS.out;omega⟩
   have cO:Hid (∀(V U:Value) (l:List OpD) (W:World),Sl W 11 ROp V l→Sl W 11 ROp U l→Calls Tryz.prog 19 #[V,U] W fun e w'=>e= .returned (.bool true)∧Ext W w'):=fun V U l W h1 h2=>V5g V U l W h1 h2
   have cO2:=cO
   clear hBd htq hout hsame hk nq nmine hRNh nhid np nr hR6 hB6 HP HO45 HP5 HS5 HZ5 HQ5 HH5 HO56 HZ6 HK6 HT6 HS6 HX23 HMI HKI HHI HZ3 HQ3 HX34 HP4 HZ4 HQ4 HMI4 HRN HD HOB HOBC HRA HI
   obtain⟨p0,p1,p2,p3,p4,p5,p6,p7,p8⟩:=c9 HP6.out
   go_upto_region 10 with (go_at_call 38;(with_reducible refine c1.mono ?_);clear c1;rintro e w7 ⟨v7,rfl,hr7⟩;have HR7:=hD hr7;clear hr7)
   clear p0 p1 p2 p3 p4 p5 p6 p7 p8
   obtain⟨F7,ri7,hk7,hz7⟩:=HR7.out.next
   have HQ7:=hD (hk7.only.row HQ6.out HNQ.out.1)
   have c2':=c2.out F7 w7 ri7 (NdB.only hk7.only (fun i q=>(HB6.out i q).2) _ _ _ HNR.out) (HB6.out.keeps hk7)
   obtain⟨hx7,hf7⟩:=hk7.fresh HX6.out (fun i q=>by have:=HFW.out i q;omega)
   have HX7:=hD hx7
   have HF7:=hD hf7
   have HK7:=hD hk7
   have HZ7:=hD hz7
   clear ri7 hk7 hz7 hx7 hf7 c2 HQ6
   cases count with
   | true=>
     have hv7:v7= .slice none 0 0:=HR7.out.val
     subst hv7
     obtain⟨q0,q1,q2,q3,q4,q5,q6,q7,q8⟩:=c9 HQ7.out
     go_upto_region 11 with (go_at_call 38;(with_reducible refine c2'.mono ?_);clear c2';rintro e w8 ⟨v8,rfl,hr8⟩;have HR8:=hD hr8;clear hr8)
     have hv8:v8= .slice none 0 0:=HR8.out.val
     subst hv8
     clear q0 q1 q2 q3 q4 q5 q6 q7 q8
     obtain⟨F8,ri8,hk8,hz8⟩:=HR8.out.next
     have hk68:=HK7.out.trans hk8
     have hp8:=hk68.only.row HP6.out HNQ.out.2
     have cN':=cN.out w8 (HOWN.out F8 w8 hk68) (NdB.nd _ _ _ (NdB.only hk68.only (fun i q=>(HB6.out i q).2) _ _ _ HNP.out))
     have HX8:=hD (hk8.fresh HX7.out HF7.out).1
     obtain⟨p0,p1,p2,p3,p4,p5,p6,p7,p8⟩:=c9 hp8
     clear ri8 hk8 hz8 hk68 hp8 cN
     go_upto_region 12 with (go_at_call 39;(with_reducible refine cN'.mono ?_);clear cN';rintro e w9 ⟨⟨v9,rfl,hv9⟩,hx9⟩;have hv9':v9= .slice none 0 0:=hv9;subst hv9';have HX9:=hD (HX8.out.trans hx9);clear hx9 hv9)
     clear p0 p1 p2 p3 p4 p5 p6 p7 p8
     have e1:((k:Int)==(k:Int))=true:=beq_self_eq_true _
     go_wp2_with (first
      | (go_at_call 19;(with_reducible refine(cO.out _ _ [] _ (Sl.nil _ _ _) (Sl.nil _ _ _)).mono ?_);clear cO;rintro e wa ⟨rfl,hxa⟩;have HXA:=hD (HX9.out.trans hxa);clear hxa)
      | (go_at_call 19;(with_reducible refine(cO2.out _ _ [] _ (Sl.nil _ _ _) (Sl.nil _ _ _)).mono ?_);clear cO2;rintro e wb ⟨rfl,hxb⟩;have HXB:=hD (HXA.out.trans hxb);clear hxb)
      | (go_at_call 37;(with_reducible refine(HAW.out _).mono ?_);clear HAW;rintro e wd ⟨rfl,hxd⟩;have HXD:=hD (HXB.out.trans hxd);clear hxd))
     go_ret
     exact⟨rfl,HXD.out⟩
   | false=>
     have hv7:Sl w7 11 ROp v7 out:=HR7.out.val
     obtain⟨v7A,v7c,rfl⟩:=hv7.form
     rw[HKL.out]at hv7 ⊢
     have HV7:=hD hv7
     rw[HKL.out]at HR7 HZ7
     clear hv7
     obtain⟨q0,q1,q2,q3,q4,q5,q6,q7,q8⟩:=c9 HQ7.out
     go_upto_region 11 with (go_at_call 38;(with_reducible refine c2'.mono ?_);clear c2';rintro e w8 ⟨v8,rfl,hr8⟩;have hv8:Sl w8 11 ROp v8 out:=hr8.val;obtain⟨v8A,v8c,rfl⟩:=hv8.form;rw[HKL.out]at hv8 hr8 ⊢;have HR8:=hD hr8;have HV8:=hD hv8;clear hr8 hv8)
     clear q0 q1 q2 q3 q4 q5 q6 q7 q8
     obtain⟨F8,ri8,hk8,hz8⟩:=HR8.out.next
     have HV78:=hD (Y6l HV7.out (fun b _ e=>HZ7.out b e) hk8).1
     have hk68:=HK7.out.trans hk8
     have hp8:=hk68.only.row HP6.out HNQ.out.2
     have cN':=cN.out w8 (HOWN.out F8 w8 hk68) (NdB.nd _ _ _ (NdB.only hk68.only (fun i q=>(HB6.out i q).2) _ _ _ HNP.out))
     have HX8:=hD (hk8.fresh HX7.out HF7.out).1
     obtain⟨p0,p1,p2,p3,p4,p5,p6,p7,p8⟩:=c9 hp8
     clear ri8 hk8 hz8 hk68 hp8 cN
     go_upto_region 12 with (go_at_call 39;(with_reducible refine cN'.mono ?_);clear cN';rintro e w9 ⟨⟨v9,rfl,hv9⟩,hx9⟩;have hv9':Sl w9 11 ROp v9 out:=hv9;obtain⟨v9A,v9c,rfl⟩:=hv9'.form;rw[HKL.out]at hv9' ⊢;have HV9:=hD hv9';have HA9:=hD (HV78.out.ext hx9);have HB9:=hD (HV8.out.ext hx9);have HX9:=hD (HX8.out.trans hx9);clear hx9 hv9 hv9')
     clear p0 p1 p2 p3 p4 p5 p6 p7 p8
     have e1:((k:Int)==(k:Int))=true:=beq_self_eq_true _
     go_wp2_with (first
      | (go_at_call 19;(with_reducible refine(cO.out _ _ out _ HA9.out HB9.out).mono ?_);clear cO;rintro e wa ⟨rfl,hxa⟩;have HXA:=hD (HX9.out.trans hxa);have HAA:=hD (HA9.out.ext hxa);have HVA:=hD (HV9.out.ext hxa);clear hxa)
      | (go_at_call 19;(with_reducible refine(cO2.out _ _ out _ HAA.out HVA.out).mono ?_);clear cO2;rintro e wb ⟨rfl,hxb⟩;have HXB:=hD (HXA.out.trans hxb);clear hxb)
      | (go_at_call 37;(with_reducible refine(HAW.out _).mono ?_);clear HAW;rintro e wd ⟨rfl,hxd⟩;have HXD:=hD (HXB.out.trans hxd);clear hxd))
     go_ret
     exact⟨rfl,HXD.out⟩
end Go.Proofs.YtmiolpfanlpfnaaGreat
