/- The order of texts; slices.BinarySearch in rising texts. Conditions: texts that rise. -/
import Derived.Test.YtohaldfnmgcofaaGreatT11
import Derived.Test.YtohaldfnmgcofaaGreatT12
import Derived.Test.YtohaldfnmgcofaaGreatT13
import Derived.Sort.Walk0
set_option maxRecDepth 100000
set_option maxHeartbeats 1000000
set_option linter.unusedSimpArgs false
set_option linter.unusedVariables false
namespace Go.Proofs.YtohaldfnmgcofaaGreat
open Go.RowKit
def ltB(a b:ByteArray):Bool:=Op.bytesLess a.toList b.toList
theorem Z6i(a b:ByteArray):ltB a b=true↔a.data.toList<b.data.toList:=by unfold ltB;rw[bytesLess_eq,decide_eq_true_iff,ByteArray.toList_eq,ByteArray.toList_eq]
theorem Z1h(a:ByteArray):ltB a a=false:=by
 cases h:ltB a a with
 | false=>rfl
 | true=>exact absurd ((Z6i a a).1 h) (List.lt_irrefl _)
theorem Z1q{a b c:ByteArray}(h:ltB a b=true)(k:ltB b c=true):ltB a c=true:=(Z6i a c).2 (List.lt_trans ((Z6i a b).1 h) ((Z6i b c).1 k))
theorem Y5d{a b:ByteArray}(h:a.data.toList=b.data.toList):a=b:=by rw[<-X5y a,h,X5y]
theorem Y8h{a b:ByteArray}(h:ltB a b=false)(k:ltB b a=false):a=b:=by
 apply Y5d;have h1:¬a.data.toList<b.data.toList:=fun q=>by rw[(Z6i a b).2 q]at h;cases h
 have h2:¬b.data.toList<a.data.toList:=fun q=>by rw[(Z6i b a).2 q]at k;cases k
 exact List.le_antisymm (List.not_lt.1 h2) (List.not_lt.1 h1)
theorem Z3f{a b:ByteArray}(h:ltB a b=true):ltB b a=false:=by
 cases k:ltB b a with
 | false=>rfl
 | true=>have:=Z1q h k;rw[Z1h]at this;cases this
def eqB(a b:ByteArray):Bool:=a.toList==b.toList
theorem Z7u(a b:ByteArray):eqB a b=true↔a=b:=by unfold eqB;rw[beq_iff_eq,ByteArray.toList_eq,ByteArray.toList_eq];exact⟨Y5d,fun h=>by rw[h]⟩
def Z3l(l:List ByteArray):Prop:=l.Pairwise (fun a b=>ltB a b=true)
def posB(l:List ByteArray)(k:ByteArray):Nat:=l.countP (fun a=>ltB a k)
def hasB(l:List ByteArray)(k:ByteArray):Bool:=l.any (fun a=>eqB a k)
theorem Z6k(l:List ByteArray)(k:ByteArray):hasB l k=true↔k∈l:=by unfold hasB;rw[List.any_eq_true];exact⟨fun ⟨a,h1,h2⟩=>(Z7u a k).1 h2▸h1,fun h=>⟨k,h,(Z7u k k).2 rfl⟩⟩
theorem Y1i(l:List ByteArray)(k:ByteArray):posB l k<=l.length:=List.countP_le_length
theorem X2f{l:List ByteArray}{k:ByteArray}{p:Nat}(hp:p<=l.length)(h1:∀j (hj:j<l.length),j<p->ltB l[j] k=true)(h2:∀j (hj:j<l.length),p<=j->ltB l[j] k=false):posB l k=p:=by
 unfold posB;rw[<-List.take_append_drop p l,List.countP_append];have e1:(l.take p).countP (fun a=>ltB a k)=(l.take p).length:=by rw[List.countP_eq_length];intro a ha;obtain⟨j,hj,rfl⟩:=List.mem_iff_getElem.1 ha;rw[List.getElem_take];exact h1 j _ (by rw[aD]at hj;omega)
 have e2:(l.drop p).countP (fun a=>ltB a k)=0:=by rw[List.countP_eq_zero];intro a ha;obtain⟨j,hj,rfl⟩:=List.mem_iff_getElem.1 ha;rw[List.getElem_drop,h2 _ _ (by omega)];simp
 rw[e1,e2,aD];omega
theorem Z1u{l:List ByteArray}(h:Z3l l){i j:Nat}(hj:j<l.length)(hij:i<j):ltB l[i] l[j]=true:=List.pairwise_iff_getElem.1 h i j (by omega) hj hij
theorem V8c{l:List ByteArray}{k:ByteArray}(h1:∀j (hj:j<l.length),ltB l[j] k=true):hasB l k=false:=by
 cases h:hasB l k with
 | false=>rfl
 | true=>
   obtain⟨j,hj,e⟩:=List.mem_iff_getElem.1 ((Z6k l k).1 h);have:=h1 j hj;rw[e,Z1h]at this;cases this
theorem U1h{l:List ByteArray}(hr:Z3l l){k:ByteArray}{p:Nat}(hp:p<l.length)(h1:∀j (hj:j<l.length),j<p->ltB l[j] k=true)(h2:∀j (hj:j<l.length),p<=j->ltB l[j] k=false):hasB l k=eqB l[p] k:=by
 rw[Bool.eq_iff_iff,Z6k,Z7u];constructor
 ·intro h;obtain⟨j,hj,e⟩:=List.mem_iff_getElem.1 h;rcases Nat.lt_trichotomy j p with q | q | q
  ·have:=h1 j hj q;rw[e,Z1h]at this;cases this
  ·subst q;exact e
  ·have h3:=Z1u hr hj q;rw[e,h2 p hp (aF _)]at h3;cases h3
 ·intro e;exact e▸List.getElem_mem hp
theorem X7x(s:ByteArray)(w:World):cQ 213 #[.string s] w fun e w'=>e= .returned (.bool false)/\w=w':=by have h:(s.toList==s.toList)=true:=beq_self_eq_true _;go_enter Tryz.func213,Tryz.ntmps213;go_wp2_with fail;go_ret;exact⟨by simp,rfl⟩
theorem X7w(s:ByteArray)(w:World):cQ 182 #[.string s] w fun e w'=>e= .returned (.bool false)/\w=w':=by have h:(s.toList==s.toList)=true:=beq_self_eq_true _;go_enter Tryz.func182,Tryz.ntmps182;go_wp2_with fail;go_ret;exact⟨by simp,rfl⟩
theorem V7k(a b:ByteArray)(w:World):cQ 181 #[.string a,.string b] w fun e w'=>e= .returned (.bool (ltB a b))/\w=w':=by have cN:Hid (∀s W,cQ 213 #[.string s] W fun e w'=>e= .returned (.bool false)/\W=w'):=X7x;go_enter Tryz.func181,Tryz.ntmps181;go_wp2_with (go_at_call 213;refine(cN.out _ _).mono ?_;rintro e w1 ⟨rfl,rfl⟩);go_ret;exact⟨rfl,rfl⟩
theorem Z4s{base:Nat}{v:Value}{l:List ByteArray}(k:ByteArray)(w:World)(h:OwnL w base 9 1 encS v l)(hr:Z3l l)(hn:l.length<=1000000000):
  cQ 138 #[v,.string k] w fun e w'=>e= .returned (.tuple #[.int .i64 (posB l k),.bool (hasB l k)])/\w=w':=by
 obtain⟨A,c,rfl,hc1,hc2,hx⟩:=Z7i h;have HR:=hD hr;have HX:=hD hx;obtain⟨n,hnn⟩:∃n,l.length=n:=⟨_,rfl⟩;have HN:=hD hnn;rw[hnn]at hc1 hn ⊢;have cL:Hid (∀a W,cQ 181 #[.string a,.string k] W fun e w'=>e= .returned (.bool (ltB a k))/\W=w'):=fun a W=>V7k a k W;have cN:Hid (∀s W,cQ 182 #[.string s] W fun e w'=>e= .returned (.bool false)/\W=w'):=X7w;clear h hr hx hnn;go_enter Tryz.func138,Tryz.ntmps138;go_wp2_with fail
 go_loop [7,8] (fun i j=>∃lo hi:Nat,lo<=hi/\hi<=n/\i= .int .i64 lo/\j= .int .i64 hi/\
   (∀q (hq:q<l.length),q<lo->ltB l[q] k=true)/\(∀q (hq:q<l.length),hi<=q->ltB l[q] k=false)) (fun i j=>(intOf j).toNat-(intOf i).toNat)
 case atStart=>exact⟨0,n,by omega,by omega,rfl,rfl,fun q _ h=>absurd h (by omega),fun q hq h=>absurd hq (by have:=HN.out;omega)⟩
 case round=>
  obtain⟨lo,hi,h1,h2,rfl,rfl,hlow,hhigh⟩:=hrel;have HLO:=hD hlow;have HHI:=hD hhigh;clear hlow hhigh;by_cases hlt:lo<hi
  ·have q1:decide ((lo:Int)<hi)=true:=aN;have q1':decide (lo<hi)=true:=decide_eq_true hlt;obtain⟨m,hm⟩:∃m,(lo+hi)/2=m:=⟨_,rfl⟩;have hm1:lo<=m:=by omega
   have hm2:m<hi:=by omega
   have u0:IntKind.u64.wrap ((lo:Int)+hi)=lo+hi:=by rw[IntKind.wrap_u64];omega
   have u1:((lo:Int)+hi)/2=m:=by omega
   clear hm;obtain⟨b,rfl,_,_,_,hcell⟩:=HX.out (by have:=HN.out;omega);have hml:m<l.length:=by have:=HN.out;omega
   have c0:=hcell m hml;obtain⟨x,hx⟩:∃x,l[m]=x:=⟨_,rfl⟩;have HXM:=hD hx;have cM:=cL.out x w;rw[hx]at c0;have HX2:Hid (∀q (hq:q<l.length),m<q->ltB x l[q]=true):=fun q hq hmq=>by rw[<-hx];exact Z1u HR.out hq hmq
   have HX3:Hid (∀q (hq:q<l.length),q<m->ltB l[q] x=true):=fun q hq hmq=>by rw[<-hx];exact Z1u HR.out hml hmq
   obtain⟨bx,hbx⟩:∃bx,ltB x k=bx:=⟨_,rfl⟩;have HBX:=hD hbx;rw[hbx]at cM;clear hx hbx hcell;cases bx
   ·go_wp2_with (go_at_call 181;refine cM.mono ?_;clear cM;rintro e w1 ⟨rfl,rfl⟩)
    go_round
    case rel=>exact⟨lo,m,hm1,by omega,rfl,rfl,HLO.out,fun q hq hmq=>by
     rcases Nat.lt_or_eq_of_le hmq with r | r
     ·cases hb:ltB l[q] k with
      | false=>rfl
      | true=>have:=Z1q (HX2.out q hq r) hb;rw[HBX.out]at this;cases this
     ·subst r;have:=HXM.out;rw[this];exact HBX.out⟩
    case measure=>simp[intOf];omega
   ·go_wp2_with (go_at_call 181;refine cM.mono ?_;clear cM;rintro e w1 ⟨rfl,rfl⟩)
    go_round
    case rel=>exact⟨m+1,hi,by omega,h2,by go_num,rfl,fun q hq hmq=>by
     rcases Nat.lt_or_eq_of_le (Nat.lt_succ_iff.1 hmq)with r | r
     ·exact Z1q (HX3.out q hq r) HBX.out
     ·subst r;have:=HXM.out;rw[this];exact HBX.out,HHI.out⟩
    case measure=>simp[intOf];omega
  ·obtain rfl:lo=hi:=by omega
   have q1:decide ((lo:Int)<lo)=false:=aM;have HP:Hid (posB l k=lo):=X2f (by have:=HN.out;omega) HLO.out HHI.out;by_cases hlo:lo<n
   ·have hml:lo<l.length:=by have:=HN.out;omega
    have HH:Hid (hasB l k=eqB l[lo] k):=U1h HR.out hml HLO.out HHI.out;obtain⟨b,rfl,_,_,_,hcell⟩:=HX.out (by omega);have c0:=hcell lo hml;obtain⟨x,hx⟩:∃x,l[lo]=x:=⟨_,rfl⟩;rw[hx]at c0 HH;have q2:decide ((lo:Int)<n)=true:=aN;have q2':decide (lo<n)=true:=decide_eq_true hlo;obtain⟨bx,hbx⟩:∃bx,(x.toList==k.toList)=bx:=⟨_,rfl⟩;have HF:Hid (hasB l k=bx):=HH.out.trans hbx;clear hx hcell HH;cases bx
    ·go_wp2_with (go_at_call 182;refine(cN.out _ _).mono ?_;rintro e w1 ⟨rfl,rfl⟩)
     go_ret2
     exact⟨by rw[HP.out,HF.out];rfl,rfl⟩
    ·go_wp2_with (go_at_call 182;refine(cN.out _ _).mono ?_;rintro e w1 ⟨rfl,rfl⟩)
     go_ret2
     exact⟨by rw[HP.out,HF.out];rfl,rfl⟩
   ·obtain rfl:lo=n:=by omega
    have HH:Hid (hasB l k=false):=V8c (fun j hj=>HLO.out j hj (by have:=HN.out;omega));go_wp2_with fail
    go_ret2
    exact⟨by rw[HP.out,HH.out];rfl,rfl⟩
end Go.Proofs.YtohaldfnmgcofaaGreat
