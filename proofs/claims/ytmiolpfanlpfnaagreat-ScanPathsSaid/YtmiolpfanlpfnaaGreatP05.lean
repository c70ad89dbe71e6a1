/- Which operation was answered ahead of which (op.Before, ref10.Before, op.Overlap). No conditions. -/
import Derived.Shelf.Abstract
import Derived.Test.YtmiolpfanlpfnaaGreatP04
set_option maxRecDepth 100000
set_option maxHeartbeats 2000000
set_option linter.unusedSimpArgs false
set_option linter.unusedVariables false
namespace Go.Proofs.YtmiolpfanlpfnaaGreat
section
open Go.RowKit
def Z2d(a b:OpD):Bool:=a.done&&decide (a.ret<b.invoke)
theorem Y1k(a b:OpD)(w:World):
  Calls Tryz.prog 151 #[a.val,b.val] w fun e w'=>e= .returned (.bool (Z2d a b))∧Ext w w':=by
 cases hd:a.done with
 | true=>
   go_enter Tryz.func151,Tryz.ntmps151
   go_wp2
   go_ret
   exact⟨by simp[Z2d,hd],by exact Xt⟩
 | false=>
   go_enter Tryz.func151,Tryz.ntmps151
   go_wp2
   go_ret
   exact⟨by simp[Z2d,hd],by exact Xt⟩
theorem Z3z(a b:OpD)(w:World):
  Calls Tryz.prog 86 #[a.val,b.val] w fun e w'=>e= .returned (.bool (Z2d a b))∧Ext w w':=by
 cases hd:a.done with
 | true=>
   go_enter Tryz.func86,Tryz.ntmps86
   go_wp2
   go_ret
   exact⟨by simp[Z2d,hd],by exact Xt⟩
 | false=>
   go_enter Tryz.func86,Tryz.ntmps86
   go_wp2
   go_ret
   exact⟨by simp[Z2d,hd],by exact Xt⟩
theorem V5w(a b:OpD)(w:World):
  Calls Tryz.prog 150 #[a.val,b.val] w fun e w'=>e= .returned (.bool (!Z2d a b&& !Z2d b a))∧Ext w w':=by
 have HA:=hD (At11.row ((Row1.made w 32 a.cells).alloc (.cells b.cells.toArray 32)))
 have HB:=hD (At11.row (Row1.made' (w:=w.alloc (.cells a.cells.toArray 32)) (n:=w.heap.size+1) (by simp) 32 b.cells))
 have HKS:Hid (∀W:World,Ext ((w.alloc (.cells a.cells.toArray 32)).alloc (.cells b.cells.toArray 32)) W→At11 W w.heap.size a∧At11 W (w.heap.size+1) b):=fun W hb=>⟨HA.out.ext hb (by simp;omega),HB.out.ext hb (by simp)⟩
 have HQ:Hid (Ext w ((w.alloc (.cells a.cells.toArray 32)).alloc (.cells b.cells.toArray 32))):=by unfold Hid;exact Xt
 simp only[OpD.cells]at HKS HQ
 clear HA HB
 go_enter Tryz.func150,Tryz.ntmps150
 go_wp2_with fail
 refine(Y1k a b _).mono ?_
 rintro e w1 ⟨rfl,hb1⟩
 have K1:=hD hb1
 obtain⟨⟨a0,a1,a2,a3,a4,a5,a6,a7,a8,a9,a10⟩,⟨b0,b1,b2,b3,b4,b5,b6,b7,b8,b9,b10⟩⟩:=HKS.out _ hb1
 clear hb1
 have hz1:=K1.out.size
 cases hq:Z2d a b with
 | true=>
   go_wp2_with fail
   go_ret
   exact⟨by simp[hq],HQ.out.trans K1.out⟩
 | false=>
   go_wp2_with fail
   refine(Y1k b a _).mono ?_
   rintro e w2 ⟨rfl,hb2⟩
   have K2:=hD (Ext.trans K1.out hb2)
   clear hb2
   go_wp2_with fail
   go_ret
   exact⟨by simp[hq],HQ.out.trans K2.out⟩
section
variable (fid:FuncId) (pr:OpD→Bool) (pa po:Value) (A:Option Addr) (c:Nat) (l:List OpD)
end
section
variable (g:FuncId) (f:OpD→Bool) (o:OpD) (bo:Nat)
end
open Go.RowKit
open Go.RowKit
theorem Z2q(o:OpD)(f:ByteArray):Z2r o f=if f.toList= [105,100]then some o.id else if f.toList= [112,114,111,99]then some o.proc else if f.toList= [111,98,106,101,99,116]then some o.object else
  if f.toList= [107,105,110,100]then some o.kind else if f.toList= [109,101,116,104,111,100]then some o.method else if f.toList= [97,114,103]then some o.arg else if f.toList= [115,101,99,111,110,100]then some o.second else
  if f.toList= [100,111,110,101]then some (V3e o)else if f.toList= [114,101,115,117,108,116]then some o.result else if f.toList= [105,110,118,111,107,101]then some o.invoke else if f.toList= [114,101,116,117,114,110]then some o.ret else none:=by
 have e:∀l:List UInt8,(l=f.toList)=(f.toList=l):=fun l=>propext eq_comm
 simp only[Z2r,namesB,Y6p,X0o]
 rw[show (⟨#[105,100]⟩:ByteArray).toList= [105,100]by decide +kernel]
 rw[show (⟨#[112,114,111,99]⟩:ByteArray).toList= [112,114,111,99]by decide +kernel]
 rw[show (⟨#[111,98,106,101,99,116]⟩:ByteArray).toList= [111,98,106,101,99,116]by decide +kernel]
 rw[show (⟨#[107,105,110,100]⟩:ByteArray).toList= [107,105,110,100]by decide +kernel]
 rw[show (⟨#[109,101,116,104,111,100]⟩:ByteArray).toList= [109,101,116,104,111,100]by decide +kernel]
 rw[show (⟨#[97,114,103]⟩:ByteArray).toList= [97,114,103]by decide +kernel]
 rw[show (⟨#[115,101,99,111,110,100]⟩:ByteArray).toList= [115,101,99,111,110,100]by decide +kernel]
 rw[show (⟨#[100,111,110,101]⟩:ByteArray).toList= [100,111,110,101]by decide +kernel]
 rw[show (⟨#[114,101,115,117,108,116]⟩:ByteArray).toList= [114,101,115,117,108,116]by decide +kernel]
 rw[show (⟨#[105,110,118,111,107,101]⟩:ByteArray).toList= [105,110,118,111,107,101]by decide +kernel]
 rw[show (⟨#[114,101,116,117,114,110]⟩:ByteArray).toList= [114,101,116,117,114,110]by decide +kernel]
 simp only[e]
def soL(a:Int)(s:List UInt8)(b:Int):Bool:=
 if s= [61]then a==b else if s= [33,61]then a !=b else if s= [60]then decide (a<b)else if s= [60,61]then decide (a≤b)else
 if s= [62]then decide (b<a)else if s= [62,61]then decide (b≤a)else false
theorem X9z(a b:Int)(s:ByteArray)(w:World):
  Calls Tryz.prog 85 #[.int .i64 a,.string s,.int .i64 b] w fun e w'=>e= .returned (.bool (soL a s.toList b))∧Ext w w':=by
 go_enter Tryz.func85,Tryz.ntmps85
 go_wp2
 all_goals (go_ret)
 all_goals (refine ⟨?_,by exact Xt⟩)
 all_goals go_light
 all_goals (simp_all [soL])
 all_goals (first | (cases h:(a==b)<;>simp_all;done) | (rw [←Bool.not_eq_not];simp;omega) | (by_cases h:a<b<;>simp[h]<;>omega) | (by_cases h:b<a<;>simp[h]<;>omega))
inductive ND where
 | mk (kind:Int) (kids:List ND) (field sign:ByteArray) (value:Int)
def ND.kind:ND→Int | .mk k _ _ _ _=>k
def ND.kids:ND→List ND | .mk _ ks _ _ _=>ks
def ND.field:ND→ByteArray | .mk _ _ f _ _=>f
def ND.sign:ND→ByteArray | .mk _ _ _ s _=>s
def ND.value:ND→Int | .mk _ _ _ _ v=>v
def Nd(w:World):Nat→ND→NCell→Prop
 | 0,_,_=>False
 | d+1,t,n=>n.kind=t.kind∧n.field=t.field∧n.sign=t.sign∧n.value=t.value∧∃ks:List NCell,Sl w 5 RN n.kids ks∧ks.length=t.kids.length∧∀(i:Nat) (x:ND) (y:NCell),t.kids[i]? =some x→ks[i]? =some y→Nd w d x y
theorem Nd.ext{w w':World}(hb:Ext w w'):∀(d:Nat) (t:ND) (n:NCell),Nd w d t n→Nd w' d t n
 | 0,_,_,h=>h
 | d+1,_,_,⟨h1,h2,h3,h4,ks,h5,h6,h7⟩=>⟨h1,h2,h3,h4,ks,h5.ext hb,h6,fun i x y hx hy=>Nd.ext hb d x y (h7 i x y hx hy)⟩
theorem Y3w{α β:Type}{P:α→β→Prop}:∀(l:List α),(∀x∈l,∃y,P x y)→∃m:List β,m.length=l.length∧∀(i:Nat) (x:α) (y:β),l[i]? =some x→m[i]? =some y→P x y
 | [],_=>⟨[],rfl,fun i x y hx=>by simp at hx⟩
 | a::r,h=>by
   obtain⟨b,hb⟩:=h a (by simp)
   obtain⟨m,hm,hp⟩:=Y3w r (fun x hx=>h x (by simp[hx]))
   refine⟨b::m,by simp[hm],fun i x y hx hy=> ?_⟩
   cases i with
   | zero=>simp at hx hy;subst hx hy;exact hb
   | succ i=>exact hp i x y (by simpa using hx) (by simpa using hy)
theorem NOk.tree{w:World}:∀(d:Nat) (n:NCell),NOk w d n→∃t,Nd w d t n
 | 0,_,h=>h.elim
 | d+1,n,⟨ks,h1,h2⟩=>by
   obtain⟨m,hm,hp⟩:=Y3w (P:=fun k t=>Nd w d t k) ks (fun k hk=>NOk.tree d k (h2 k hk))
   exact⟨.mk n.kind m n.field n.sign n.value,rfl,rfl,rfl,rfl,ks,h1,hm.symm,fun i x y hx hy=>hp i y x hy hx⟩
theorem Nd.ok{w:World}:∀(d:Nat) (t:ND) (n:NCell),Nd w d t n→NOk w d n
 | 0,_,_,h=>h
 | d+1,t,n,⟨_,_,_,_,ks,h5,h6,h7⟩=>⟨ks,h5,fun k hk=>by
   obtain⟨i,hi,rfl⟩:=List.mem_iff_getElem.1 hk
   exact Nd.ok d _ _ (h7 i _ _ (List.getElem?_eq_getElem (by omega)) (List.getElem?_eq_getElem hi))⟩
def Y3s(o p:OpD)(f:List UInt8):Bool:=
 if f= [98,101,102,111,114,101]then Z2d o p else if f= [97,102,116,101,114]then Z2d p o else if f= [111,118,101,114,108,97,112,115]then !Z2d o p&& !Z2d p o else false
def V9z(l:List OpD)(o:OpD)(f:List UInt8)(v:Int):Bool:=
 match getL l v with
 | some p=>Y3s o p f
 | none=>false
def cmpF(o:OpD)(f:ByteArray)(s:List UInt8)(v:Int):Bool:=
 match Z2r o f with
 | some x=>soL x s v
 | none=>false
mutual
def Z1o(l:List OpD)(o:OpD):ND→Bool
 | .mk k kids f s v=>if k=1 then anyT l o kids else if k=2 then V3w l o kids else if k=3 then oneT l o kids else if k=4 then cmpF o f s.toList v else if k=5 then V9z l o f.toList v else decide (k=6)
def anyT(l:List OpD)(o:OpD):List ND→Bool
 | []=>false
 | t::r=>Z1o l o t || anyT l o r
def V3w(l:List OpD)(o:OpD):List ND→Bool
 | []=>true
 | t::r=>Z1o l o t&&V3w l o r
def oneT(l:List OpD)(o:OpD):List ND→Bool
 | []=>false
 | t::r=>r.isEmpty&& !Z1o l o t
end
theorem V3u(l:List OpD)(o:OpD):∀ks:List ND,anyT l o ks=ks.any (Z1o l o)
 | []=>by rw[anyT];rfl
 | t::r=>by rw[anyT,V3u l o r];rfl
theorem X5f(l:List OpD)(o:OpD):∀ks:List ND,V3w l o ks=ks.all (Z1o l o)
 | []=>by rw[V3w];rfl
 | t::r=>by rw[V3w,X5f l o r];rfl
theorem X3e(l:List OpD)(o:OpD)(t:ND)(h:t.kind=1):Z1o l o t=t.kids.any (Z1o l o):=by
 obtain⟨k,ks,f,s,v⟩:=t
 simp only[ND.kind]at h
 subst h
 rw[Z1o,if_pos rfl,V3u];rfl
theorem Y2r(l:List OpD)(o:OpD)(t:ND)(h:t.kind=2):Z1o l o t=t.kids.all (Z1o l o):=by
 obtain⟨k,ks,f,s,v⟩:=t
 simp only[ND.kind]at h
 subst h
 rw[Z1o,if_neg (by decide),if_pos rfl,X5f];rfl
theorem X5t(l:List OpD)(o:OpD)(t:ND)(h:t.kind=3)(hl:t.kids.length≠1):Z1o l o t=false:=by
 obtain⟨k,ks,f,s,v⟩:=t
 simp only[ND.kind]at h
 subst h
 rw[Z1o,if_neg (by decide),if_neg (by decide),if_pos rfl]
 match ks,hl with
 | [],_=>rw[oneT]
 | [_],hl=>exact absurd rfl hl
 | _::_::_,_=>rw[oneT];rfl
theorem X8w(l:List OpD)(o:OpD)(t:ND)(h:t.kind=3)(x:ND)(hx:t.kids= [x]):Z1o l o t= !Z1o l o x:=by
 obtain⟨k,ks,f,s,v⟩:=t
 simp only[ND.kind,ND.kids]at h hx
 subst h hx
 rw[Z1o,if_neg (by decide),if_neg (by decide),if_pos rfl,oneT];rfl
theorem Y2q(l:List OpD)(o:OpD)(t:ND)(h:t.kind=4):Z1o l o t=cmpF o t.field t.sign.toList t.value:=by
 obtain⟨k,ks,f,s,v⟩:=t
 simp only[ND.kind]at h
 subst h
 rw[Z1o,if_neg (by decide),if_neg (by decide),if_neg (by decide),if_pos rfl];rfl
theorem X5u(l:List OpD)(o:OpD)(t:ND)(h:t.kind=5):Z1o l o t=V9z l o t.field.toList t.value:=by
 obtain⟨k,ks,f,s,v⟩:=t
 simp only[ND.kind]at h
 subst h
 rw[Z1o,if_neg (by decide),if_neg (by decide),if_neg (by decide),if_neg (by decide),if_pos rfl];rfl
theorem X5v(l:List OpD)(o:OpD)(t:ND)(h1:t.kind≠1)(h2:t.kind≠2)(h3:t.kind≠3)(h4:t.kind≠4)(h5:t.kind≠5):Z1o l o t=decide (t.kind=6):=by
 obtain⟨k,ks,f,s,v⟩:=t
 simp only[ND.kind]at *
 rw[Z1o,if_neg h1,if_neg h2,if_neg h3,if_neg h4,if_neg h5];rfl
theorem X4e(l:List OpD)(o:OpD)(t:ND)(q:Bool)(hq:(t.kind=1∧q=false)∨(t.kind=2∧q=true))(k:Nat)(x:ND)(hx:t.kids[k]? =some x)(h:Z1o l o x= !q):Z1o l o t= !q:=by
 rcases hq with ⟨hk,rfl⟩ | ⟨hk,rfl⟩
 ·rw[X3e l o t hk]
  simp only[Bool.not_false]at *
  exact List.any_eq_true.2 ⟨x,List.mem_of_getElem? hx,h⟩
 ·rw[Y2r l o t hk]
  simp only[Bool.not_true]at *
  exact List.all_eq_false.2 ⟨x,List.mem_of_getElem? hx,by simp[h]⟩
theorem X4f(l:List OpD)(o:OpD)(t:ND)(q:Bool)(hq:(t.kind=1∧q=false)∨(t.kind=2∧q=true))(h:∀(k:Nat) (x:ND),t.kids[k]? =some x→Z1o l o x=q):Z1o l o t=q:=by
 have h':∀x∈t.kids,Z1o l o x=q:=fun x hx=>by
  obtain⟨i,hi,rfl⟩:=List.mem_iff_getElem.1 hx
  exact h i _ (List.getElem?_eq_getElem hi)
 rcases hq with ⟨hk,rfl⟩ | ⟨hk,rfl⟩
 ·rw[X3e l o t hk]
  exact List.any_eq_false.2 (fun x hx=>by simp[h' x hx])
 ·rw[Y2r l o t hk]
  exact List.all_eq_true.2 (fun x hx=>by simp[h' x hx])
def X5g(V:Value)(l:List OpD)(o:OpD)(d:Nat):Prop:=∀(t:ND) (n:NCell) (w:World),RN n n.cells→Nd w d t n→Sl w 11 ROp V l→
 Calls Tryz.prog 34 #[V,.agg #[.int .i64 n.kind,n.kids,.string n.field,.string n.sign,.int .i64 n.value],o.val] w fun e w'=>e= .returned (.bool (Z1o l o t))∧Ext w w'
section
variable (A:Option Addr) (c:Nat) (l:List OpD) (o:OpD) (t:ND) (kids:Value) (field sign:ByteArray) (value:Int) (w:World)
theorem V4k(hs:Sl w 11 ROp (.slice A l.length c) l)(ht:t.kind=4)(hf:t.field=field)(hg:t.sign=sign)(hv:t.value=value):
  Calls Tryz.prog 34 #[.slice A l.length c,.agg #[.int .i64 4,kids,.string field,.string sign,.int .i64 value],o.val] w fun e w'=>e= .returned (.bool (Z1o l o t))∧Ext w w':=by
 have HT:=hD (Y2q l o t ht)
 rw[hf,hg,hv]at HT
 have HC:Hid (cmpF o field sign.toList value=(match Z2r o field with | some x=>soL x sign.toList value | none=>false)):=rfl
 clear hs ht hf hg hv
 cases hvl:Z2r o field with
 | none=>
   have HV:=hD hvl
   go_enter Tryz.func34,Tryz.ntmps34
   go_wp2_with fail
   refine(Y1g o field _).mono ?_
   rintro e w1 ⟨rfl,hb1⟩
   rw[HV.out]
   have hb:=hD (Ext.trans (by exact Xt:Ext w _) hb1)
   clear hb1
   go_wp2_with fail
   go_ret
   exact⟨by rw[HT.out,HC.out];simp[HV.out],hb.out⟩
 | some x=>
   have HV:=hD hvl
   go_enter Tryz.func34,Tryz.ntmps34
   go_wp2_with fail
   refine(Y1g o field _).mono ?_
   rintro e w1 ⟨rfl,hb1⟩
   rw[HV.out]
   have c3:w1.cell? ⟨w.heap.size,3,none⟩=some (.string sign):=by rw[hb1.cell (by simp;omega)];go_simp
   have c4:w1.cell? ⟨w.heap.size,4,none⟩=some (.int .i64 value):=by rw[hb1.cell (by simp;omega)];go_simp
   have hb:=hD (Ext.trans (by exact Xt:Ext w _) hb1)
   clear hb1
   go_wp2_with fail
   refine(X9z x value sign _).mono ?_
   rintro e w2 ⟨rfl,hb2⟩
   have hb':=hD (Ext.trans hb.out hb2)
   clear hb2
   go_wp2_with fail
   go_ret
   exact⟨by rw[HT.out,HC.out];simp[HV.out],hb'.out⟩
theorem X8v(k:Int)(h1:k≠1)(h2:k≠2)(h3:k≠3)(h4:k≠4)(h5:k≠5)(ht:t.kind=k):
  Calls Tryz.prog 34 #[.slice A l.length c,.agg #[.int .i64 k,kids,.string field,.string sign,.int .i64 value],o.val] w fun e w'=>e= .returned (.bool (Z1o l o t))∧Ext w w':=by
 have HT:=hD (X5v l o t (by rw[ht];exact h1) (by rw[ht];exact h2) (by rw[ht];exact h3) (by rw[ht];exact h4) (by rw[ht];exact h5))
 rw[ht]at HT
 have q1:(k==1)=false:=by simpa using h1
 have q2:(k==2)=false:=by simpa using h2
 have q3:(k==3)=false:=by simpa using h3
 have q4:(k==4)=false:=by simpa using h4
 have q5:(k==5)=false:=by simpa using h5
 have q5':(k !=5)=true:=by simpa using h5
 clear ht h1 h2 h3 h4 h5
 cases hq6:decide (k=6)with
 | true=>
   have q6:(k==6)=true:=by simpa using hq6
   rw[hq6]at HT
   clear hq6
   go_enter Tryz.func34,Tryz.ntmps34
   go_wp2_with fail
   go_ret
   exact⟨by rw[HT.out];rfl,by exact Xt⟩
 | false=>
   have q6:(k==6)=false:=by simpa using hq6
   rw[hq6]at HT
   clear hq6
   go_enter Tryz.func34,Tryz.ntmps34
   go_wp2_with fail
   go_ret
   exact⟨by rw[HT.out];rfl,by exact Xt⟩
theorem X8u(hs:Sl w 11 ROp (.slice A l.length c) l)(ht:t.kind=5)(hf:t.field=field)(hv:t.value=value):
  Calls Tryz.prog 34 #[.slice A l.length c,.agg #[.int .i64 5,kids,.string field,.string sign,.int .i64 value],o.val] w fun e w'=>e= .returned (.bool (Z1o l o t))∧Ext w w':=by
 have HT:=hD (X5u l o t ht)
 rw[hf,hv]at HT
 have HC:Hid (V9z l o field.toList value=(match getL l value with | some p=>Y3s o p field.toList | none=>false)):=rfl
 have HS:=hD hs
 clear hs ht hf hv
 have HA:=hD (At11.row (Row1.made' (w:=w.alloc (.cells #[.int .i64 5,kids,.string field,.string sign,.int .i64 value] 50)) (n:=w.heap.size+1) (by simp) 32 o.cells))
 have HKS:Hid (∀W:World,Ext ((w.alloc (.cells #[.int .i64 5,kids,.string field,.string sign,.int .i64 value] 50)).alloc (.cells #[.int .i64 o.id,.int .i64 o.proc,.int .i64 o.object,.int .i64 o.kind,.int .i64 o.method,.int .i64 o.arg,.int .i64 o.second,.bool o.done,.int .i64 o.result,.int .i64 o.invoke,.int .i64 o.ret] 32)) W→At11 W (w.heap.size+1) o∧W.cell? ⟨w.heap.size,2,none⟩=some (.string field)):=
  fun W hb=>⟨HA.out.ext hb (by simp),by rw[hb.cell (by simp;omega)];go_simp⟩
 clear HA
 cases hg:getL l value with
 | none=>
   have HV:=hD hg
   go_enter Tryz.func34,Tryz.ntmps34
   go_wp2_with fail
   refine(Y0d _ l value _ (HS.out.ext (by exact Xt))).mono ?_
   rintro e w1 ⟨rfl,hb1⟩
   rw[HV.out]
   have hb:=hD (Ext.trans (by exact Xt:Ext w _) hb1)
   have hz1:=hb1.size
   simp at hz1
   clear hb1
   simp only[Option.getD_none,Option.isSome_none]
   unfold opZero
   dsimp only[OpD.val]
   go_wp2_with fail
   go_ret
   exact⟨by rw[HT.out,HC.out];simp[HV.out],by exact Xx (hb.out)⟩
 | some p=>
   have HV:=hD hg
   have HN:Hid (Z1o l o t=Y3s o p field.toList):=by unfold Hid;rw[HT.out,HC.out];simp[HV.out]
   go_enter Tryz.func34,Tryz.ntmps34
   go_wp2_with fail
   refine(Y0d _ l value _ (HS.out.ext (by exact Xt))).mono ?_
   rintro e w1 ⟨rfl,hb1⟩
   rw[HV.out]
   simp only[Option.getD_some,Option.isSome_some]
   obtain⟨⟨a0,a1,a2,a3,a4,a5,a6,a7,a8,a9,a10⟩,b2⟩:=HKS.out _ hb1
   have hz1:=hb1.size
   simp at hz1
   have hlt0:w.heap.size<w1.heap.size:=by omega
   have hlt1:w.heap.size+1<w1.heap.size:=by omega
   have HKS1:Hid (∀W:World,Ext w1 W→At11 W (w.heap.size+1) o):=fun W hb=>(HKS.out W (Ext.trans hb1 hb)).1
   have hb:=hD (Ext.trans (by exact Xt:Ext w _) hb1)
   clear hb1 hg HS HC HT HV HKS
   have HP:Hid (∀W:World,Ext (w1.alloc (.cells #[.int .i64 p.id,.int .i64 p.proc,.int .i64 p.object,.int .i64 p.kind,.int .i64 p.method,.int .i64 p.arg,.int .i64 p.second,.bool p.done,.int .i64 p.result,.int .i64 p.invoke,.int .i64 p.ret] 32)) W→At11 W w1.heap.size p):=fun W hb=>(At11.row (Row1.made w1 32 p.cells)).ext hb (by simp)
   by_cases f1:field.toList= [98,101,102,111,114,101]
   ·have HF:Hid (Y3s o p field.toList=Z2d o p):=by unfold Hid Y3s;rw[if_pos f1]
    go_wp2_with fail
    refine(Z3z o p _).mono ?_
    rintro e w2 ⟨rfl,hb2⟩
    have hb2':=hD (Ext.trans (by exact Xx (hb.out):Ext w _) hb2)
    clear hb2
    go_wp2_with fail
    go_ret
    exact⟨by rw[HN.out,HF.out];rfl,hb2'.out⟩
   ·by_cases f2:field.toList= [97,102,116,101,114]
    ·have HF:Hid (Y3s o p field.toList=Z2d p o):=by unfold Hid Y3s;rw[if_neg f1,if_pos f2]
     go_wp2_with fail
     refine(Z3z p o _).mono ?_
     rintro e w2 ⟨rfl,hb2⟩
     have hb2':=hD (Ext.trans (by exact Xx (hb.out):Ext w _) hb2)
     clear hb2
     go_wp2_with fail
     go_ret
     exact⟨by rw[HN.out,HF.out];rfl,hb2'.out⟩
    ·by_cases f3:field.toList= [111,118,101,114,108,97,112,115]
     ·have HF:Hid (Y3s o p field.toList=(!Z2d o p&& !Z2d p o)):=by unfold Hid Y3s;rw[if_neg f1,if_neg f2,if_pos f3]
      go_wp2_with fail
      refine(Z3z o p _).mono ?_
      rintro e w2 ⟨rfl,hb2⟩
      have hb2':=hD (Ext.trans (by exact Xx (hb.out):Ext w _) hb2)
      obtain⟨p0,p1,p2,p3,p4,p5,p6,p7,p8,p9,p10⟩:=HP.out _ hb2
      clear a0 a1 a2 a3 a4 a5 a6 a7 a8 a9 a10
      obtain⟨a0,a1,a2,a3,a4,a5,a6,a7,a8,a9,a10⟩:=HKS1.out _ (Ext.trans (Ext.alloc _ _) hb2)
      clear hb2
      cases hq:Z2d o p with
      | true=>
        rw[hq]at HF
        go_wp2_with fail
        go_ret
        exact⟨by rw[HN.out,HF.out];rfl,hb2'.out⟩
      | false=>
        rw[hq]at HF
        go_wp2_with fail
        refine(Z3z p o _).mono ?_
        rintro e w3 ⟨rfl,hb3⟩
        have hb3':=hD (Ext.trans hb2'.out hb3)
        clear hb3
        go_wp2_with fail
        go_ret
        exact⟨by rw[HN.out,HF.out];rfl,hb3'.out⟩
     ·have HF:Hid (Y3s o p field.toList=false):=by unfold Hid Y3s;rw[if_neg f1,if_neg f2,if_neg f3]
      have g1:(field.toList== [98,101,102,111,114,101])=false:=by simpa using f1
      have g2:(field.toList== [97,102,116,101,114])=false:=by simpa using f2
      have g3:(field.toList== [111,118,101,114,108,97,112,115])=false:=by simpa using f3
      clear f1 f2 f3
      go_wp2_with fail
      go_ret
      exact⟨by rw[HN.out,HF.out];rfl,by exact Xx (hb.out)⟩
end
section
variable (A:Option Addr) (c:Nat) (l:List OpD) (o:OpD) (t:ND) (field sign:ByteArray) (value:Int) (w:World)
theorem true_or(d:Nat)(ih:X5g (.slice A l.length c) l o d)(hs:Sl w 11 ROp (.slice A l.length c) l)(ht:t.kind=1)(KA:Option Addr)(Kc:Nat)(ks:List NCell)(hks:Sl w 5 RN (.slice KA ks.length Kc) ks)(hlen:ks.length=t.kids.length)
 (hnd:∀(i:Nat) (x:ND) (y:NCell),t.kids[i]? =some x→ks[i]? =some y→Nd w d x y):
  Calls Tryz.prog 34 #[.slice A l.length c,.agg #[.int .i64 1,.slice KA ks.length Kc,.string field,.string sign,.int .i64 value],o.val] w fun e w'=>e= .returned (.bool (Z1o l o t))∧Ext w w':=by
 have HIT:=hD (fun k x hx h=>X4e l o t false (by simp[ht]) k x hx h)
 have HALL:=hD (X4f l o t false (by simp[ht]))
 have IH:=hD ih
 have HS:=hD hs
 have HND:=hD hnd
 have HLEN:=hD hlen
 obtain⟨_,hc1,hc2,hA⟩:=hks.at
 have HA:=hD hA
 have HB0:=hD (At11.row (Row1.made' (w:=w.alloc (.cells #[.int .i64 1,.slice KA ks.length Kc,.string field,.string sign,.int .i64 value] 50)) (n:=w.heap.size+1) (by simp) 32 o.cells))
 have HKS:Hid (∀W:World,Ext ((w.alloc (.cells #[.int .i64 1,.slice KA ks.length Kc,.string field,.string sign,.int .i64 value] 50)).alloc (.cells #[.int .i64 o.id,.int .i64 o.proc,.int .i64 o.object,.int .i64 o.kind,.int .i64 o.method,.int .i64 o.arg,.int .i64 o.second,.bool o.done,.int .i64 o.result,.int .i64 o.invoke,.int .i64 o.ret] 32)) W→W.cell? ⟨w.heap.size,1,none⟩=some (.slice KA ks.length Kc)∧At11 W (w.heap.size+1) o):=
  fun W hb=>⟨by rw[hb.cell (by simp;omega)];go_simp,HB0.out.ext hb (by simp)⟩
 have HQ:Hid (Ext w ((w.alloc (.cells #[.int .i64 1,.slice KA ks.length Kc,.string field,.string sign,.int .i64 value] 50)).alloc (.cells #[.int .i64 o.id,.int .i64 o.proc,.int .i64 o.object,.int .i64 o.kind,.int .i64 o.method,.int .i64 o.arg,.int .i64 o.second,.bool o.done,.int .i64 o.result,.int .i64 o.invoke,.int .i64 o.ret] 32))):=by unfold Hid;exact Xt
 clear ih hs hnd hlen hks hA HB0 ht
 go_enter Tryz.func34,Tryz.ntmps34
 go_wp2_with fail
 go_loopw [8] (fun i wr=>∃j:Nat,j≤ks.length∧i= .int .i64 j∧Ext ((w.alloc (.cells #[.int .i64 1,.slice KA ks.length Kc,.string field,.string sign,.int .i64 value] 50)).alloc (.cells #[.int .i64 o.id,.int .i64 o.proc,.int .i64 o.object,.int .i64 o.kind,.int .i64 o.method,.int .i64 o.arg,.int .i64 o.second,.bool o.done,.int .i64 o.result,.int .i64 o.invoke,.int .i64 o.ret] 32)) wr∧∀(m:Nat) (x:ND),m<j→t.kids[m]? =some x→Z1o l o x=false)
  (fun i _=>ks.length-(intOf i).toNat)
 case atStart=>exact⟨0,by omega,rfl,Ext.refl _,fun m x h=>absurd h (by omega)⟩
 case round=>
  obtain⟨j,hj,rfl,hb,hall⟩:=hrel
  have HB:=hD hb
  have HF:=hD hall
  have hzr:=hb.size
  simp at hzr
  clear hb hall
  by_cases hlt:j<ks.length
  ·have hd:decide ((j:Int)<(ks.length:Int))=true:=by simp;omega
   obtain⟨x,hx⟩:∃x,t.kids[j]? =some x:=⟨_,List.getElem?_eq_getElem (by have:=HLEN.out;omega)⟩
   have HX:=hD hx
   have HY:=hD (HND.out j x ks[j] hx (List.getElem?_eq_getElem hlt))
   clear hx
   obtain⟨b,off,rfl,hbl,hcell⟩:=HA.out (by omega)
   obtain⟨cs,⟨rfl,hrn⟩,_,hcs⟩:=hcell j hlt
   have HRN:=hD (show RN ks[j] ks[j].cells from⟨rfl,hrn⟩)
   have HKID:Hid (∀W:World,Ext w W→W.cell? ⟨b,off+j*5,none⟩=some (.int .i64 ks[j].kind)∧W.cell? ⟨b,off+j*5+1,none⟩=some ks[j].kids∧W.cell? ⟨b,off+j*5+2,none⟩=some (.string ks[j].field)∧W.cell? ⟨b,off+j*5+3,none⟩=some (.string ks[j].sign)∧W.cell? ⟨b,off+j*5+4,none⟩=some (.int .i64 ks[j].value)):=
    fun W hb=>⟨(hb.cell (p:=⟨b,off+j*5,none⟩) hbl).trans (hcs 0 _ rfl),(hb.cell (p:=⟨b,off+j*5+1,none⟩) hbl).trans (hcs 1 _ rfl),(hb.cell (p:=⟨b,off+j*5+2,none⟩) hbl).trans (hcs 2 _ rfl),(hb.cell (p:=⟨b,off+j*5+3,none⟩) hbl).trans (hcs 3 _ rfl),(hb.cell (p:=⟨b,off+j*5+4,none⟩) hbl).trans (hcs 4 _ rfl)⟩
   clear hcell hcs hrn
   obtain⟨kA,kn,kc,hkk⟩:=HRN.out.2.2.2
   generalize ks[j]=n at *
   obtain⟨nk,nkids,nf,ns,nv⟩:=n
   dsimp only at *
   subst hkk
   obtain⟨k0,k1,k2,k3,k4⟩:=HKID.out wr (Ext.trans HQ.out HB.out)
   obtain⟨b1,a0,a1,a2,a3,a4,a5,a6,a7,a8,a9,a10⟩:=HKS.out wr HB.out
   have HKK:Hid (∀W:World,Ext wr W→(W.cell? ⟨w.heap.size,1,none⟩=some (.slice (some ⟨b,off,none⟩) ks.length Kc)∧W.cell? ⟨b,off+j*5,none⟩=some (.int .i64 nk)∧W.cell? ⟨b,off+j*5+1,none⟩=some (.slice kA kn kc)∧W.cell? ⟨b,off+j*5+2,none⟩=some (.string nf)∧W.cell? ⟨b,off+j*5+3,none⟩=some (.string ns)∧W.cell? ⟨b,off+j*5+4,none⟩=some (.int .i64 nv)∧(W.cell? ⟨(w.heap.size+1),0,none⟩=some (.int .i64 o.id)∧W.cell? ⟨(w.heap.size+1),1,none⟩=some (.int .i64 o.proc)∧W.cell? ⟨(w.heap.size+1),2,none⟩=some (.int .i64 o.object)∧W.cell? ⟨(w.heap.size+1),3,none⟩=some (.int .i64 o.kind)∧W.cell? ⟨(w.heap.size+1),4,none⟩=some (.int .i64 o.method)∧W.cell? ⟨(w.heap.size+1),5,none⟩=some (.int .i64 o.arg)∧W.cell? ⟨(w.heap.size+1),6,none⟩=some (.int .i64 o.second)∧W.cell? ⟨(w.heap.size+1),7,none⟩=some (.bool o.done)∧W.cell? ⟨(w.heap.size+1),8,none⟩=some (.int .i64 o.result)∧W.cell? ⟨(w.heap.size+1),9,none⟩=some (.int .i64 o.invoke)∧W.cell? ⟨(w.heap.size+1),10,none⟩=some (.int .i64 o.ret)))):=
    fun W hb=>by
     obtain⟨x0,x1,x2,x3,x4⟩:=HKID.out W (Ext.trans (Ext.trans HQ.out HB.out) hb)
     obtain⟨y0,y1⟩:=HKS.out W (Ext.trans HB.out hb)
     exact⟨y0,x0,x1,x2,x3,x4,y1⟩
   go_wp2_with fail
   go_region_held3 (fun w'=>(w'.cell? ⟨w.heap.size,1,none⟩=some (.slice (some ⟨b,off,none⟩) ks.length Kc)∧w'.cell? ⟨b,off+j*5,none⟩=some (.int .i64 nk)∧w'.cell? ⟨b,off+j*5+1,none⟩=some (.slice kA kn kc)∧w'.cell? ⟨b,off+j*5+2,none⟩=some (.string nf)∧w'.cell? ⟨b,off+j*5+3,none⟩=some (.string ns)∧w'.cell? ⟨b,off+j*5+4,none⟩=some (.int .i64 nv)∧(w'.cell? ⟨(w.heap.size+1),0,none⟩=some (.int .i64 o.id)∧w'.cell? ⟨(w.heap.size+1),1,none⟩=some (.int .i64 o.proc)∧w'.cell? ⟨(w.heap.size+1),2,none⟩=some (.int .i64 o.object)∧w'.cell? ⟨(w.heap.size+1),3,none⟩=some (.int .i64 o.kind)∧w'.cell? ⟨(w.heap.size+1),4,none⟩=some (.int .i64 o.method)∧w'.cell? ⟨(w.heap.size+1),5,none⟩=some (.int .i64 o.arg)∧w'.cell? ⟨(w.heap.size+1),6,none⟩=some (.int .i64 o.second)∧w'.cell? ⟨(w.heap.size+1),7,none⟩=some (.bool o.done)∧w'.cell? ⟨(w.heap.size+1),8,none⟩=some (.int .i64 o.result)∧w'.cell? ⟨(w.heap.size+1),9,none⟩=some (.int .i64 o.invoke)∧w'.cell? ⟨(w.heap.size+1),10,none⟩=some (.int .i64 o.ret))))
    (first | (refine HKK.out _ ?_;(exact Xx (K1.out));done) | (refine HKK.out _ ?_;(exact Xx (Ext.refl _));done))
    ((go_at_call 34;refine(IH.out x ⟨nk,.slice kA kn kc,nf,ns,nv⟩ _ HRN.out (HY.out.ext (Ext.trans (Ext.trans HQ.out HB.out) (by exact Xx (Ext.refl _)))) (HS.out.ext (Ext.trans (Ext.trans HQ.out HB.out) (by exact Xx (Ext.refl _))))).mono ?_;rintro e w1 ⟨rfl,hb1⟩;have K1:=hD (Ext.trans (by exact Xx (Ext.refl _):Ext wr _) hb1);clear hb1))
   all_goals
    clear k0 k1 k2 k3 k4 b1 a0 a1 a2 a3 a4 a5 a6 a7 a8 a9 a10
    cases hv:Z1o l o x with
    | true=>
      have HV:=hD (HIT.out j x HX.out hv)
      clear hv
      go_wp2_with fail
      go_ret
      exact⟨by rw[HV.out];rfl,Ext.trans HQ.out (Ext.trans HB.out (by exact Xx (K1.out)))⟩
    | false=>
      have HV:=hD hv
      clear hv
      go_wp2_with fail
      go_roundw
      case rel=>
       refine⟨j+1,by omega,by go_num,Ext.trans HB.out (by exact Xx (K1.out)),fun m y hm hy=> ?_⟩
       by_cases e:m=j
       ·subst e
        have e2:=hy.symm.trans HX.out
        injection e2 with e2
        subst e2
        exact HV.out
       ·exact HF.out m y (by omega) hy
      case measure=>simp[intOf];omega
  ·have hd:decide ((j:Int)<(ks.length:Int))=false:=by simp;omega
   have HV:=hD (HALL.out (fun m x hx=>HF.out m x (by have:=(List.getElem?_eq_some_iff.1 hx).1;have:=HLEN.out;omega) hx))
   obtain⟨b1,_⟩:=HKS.out wr HB.out
   go_wp2_with fail
   go_ret
   exact⟨by rw[HV.out];rfl,Ext.trans HQ.out HB.out⟩
theorem true_and(d:Nat)(ih:X5g (.slice A l.length c) l o d)(hs:Sl w 11 ROp (.slice A l.length c) l)(ht:t.kind=2)(KA:Option Addr)(Kc:Nat)(ks:List NCell)(hks:Sl w 5 RN (.slice KA ks.length Kc) ks)(hlen:ks.length=t.kids.length)
 (hnd:∀(i:Nat) (x:ND) (y:NCell),t.kids[i]? =some x→ks[i]? =some y→Nd w d x y):
  Calls Tryz.prog 34 #[.slice A l.length c,.agg #[.int .i64 2,.slice KA ks.length Kc,.string field,.string sign,.int .i64 value],o.val] w fun e w'=>e= .returned (.bool (Z1o l o t))∧Ext w w':=by
 have HIT:=hD (fun k x hx h=>X4e l o t true (by simp[ht]) k x hx h)
 have HALL:=hD (X4f l o t true (by simp[ht]))
 have IH:=hD ih
 have HS:=hD hs
 have HND:=hD hnd
 have HLEN:=hD hlen
 obtain⟨_,hc1,hc2,hA⟩:=hks.at
 have HA:=hD hA
 have HB0:=hD (At11.row (Row1.made' (w:=w.alloc (.cells #[.int .i64 2,.slice KA ks.length Kc,.string field,.string sign,.int .i64 value] 50)) (n:=w.heap.size+1) (by simp) 32 o.cells))
 have HKS:Hid (∀W:World,Ext ((w.alloc (.cells #[.int .i64 2,.slice KA ks.length Kc,.string field,.string sign,.int .i64 value] 50)).alloc (.cells #[.int .i64 o.id,.int .i64 o.proc,.int .i64 o.object,.int .i64 o.kind,.int .i64 o.method,.int .i64 o.arg,.int .i64 o.second,.bool o.done,.int .i64 o.result,.int .i64 o.invoke,.int .i64 o.ret] 32)) W→W.cell? ⟨w.heap.size,1,none⟩=some (.slice KA ks.length Kc)∧At11 W (w.heap.size+1) o):=
  fun W hb=>⟨by rw[hb.cell (by simp;omega)];go_simp,HB0.out.ext hb (by simp)⟩
 have HQ:Hid (Ext w ((w.alloc (.cells #[.int .i64 2,.slice KA ks.length Kc,.string field,.string sign,.int .i64 value] 50)).alloc (.cells #[.int .i64 o.id,.int .i64 o.proc,.int .i64 o.object,.int .i64 o.kind,.int .i64 o.method,.int .i64 o.arg,.int .i64 o.second,.bool o.done,.int .i64 o.result,.int .i64 o.invoke,.int .i64 o.ret] 32))):=by unfold Hid;exact Xt
 clear ih hs hnd hlen hks hA HB0 ht
 go_enter Tryz.func34,Tryz.ntmps34
 go_wp2_with fail
 go_loopw [8] (fun i wr=>∃j:Nat,j≤ks.length∧i= .int .i64 j∧Ext ((w.alloc (.cells #[.int .i64 2,.slice KA ks.length Kc,.string field,.string sign,.int .i64 value] 50)).alloc (.cells #[.int .i64 o.id,.int .i64 o.proc,.int .i64 o.object,.int .i64 o.kind,.int .i64 o.method,.int .i64 o.arg,.int .i64 o.second,.bool o.done,.int .i64 o.result,.int .i64 o.invoke,.int .i64 o.ret] 32)) wr∧∀(m:Nat) (x:ND),m<j→t.kids[m]? =some x→Z1o l o x=true)
  (fun i _=>ks.length-(intOf i).toNat)
 case atStart=>exact⟨0,by omega,rfl,Ext.refl _,fun m x h=>absurd h (by omega)⟩
 case round=>
  obtain⟨j,hj,rfl,hb,hall⟩:=hrel
  have HB:=hD hb
  have HF:=hD hall
  have hzr:=hb.size
  simp at hzr
  clear hb hall
  by_cases hlt:j<ks.length
  ·have hd:decide ((j:Int)<(ks.length:Int))=true:=by simp;omega
   obtain⟨x,hx⟩:∃x,t.kids[j]? =some x:=⟨_,List.getElem?_eq_getElem (by have:=HLEN.out;omega)⟩
   have HX:=hD hx
   have HY:=hD (HND.out j x ks[j] hx (List.getElem?_eq_getElem hlt))
   clear hx
   obtain⟨b,off,rfl,hbl,hcell⟩:=HA.out (by omega)
   obtain⟨cs,⟨rfl,hrn⟩,_,hcs⟩:=hcell j hlt
   have HRN:=hD (show RN ks[j] ks[j].cells from⟨rfl,hrn⟩)
   have HKID:Hid (∀W:World,Ext w W→W.cell? ⟨b,off+j*5,none⟩=some (.int .i64 ks[j].kind)∧W.cell? ⟨b,off+j*5+1,none⟩=some ks[j].kids∧W.cell? ⟨b,off+j*5+2,none⟩=some (.string ks[j].field)∧W.cell? ⟨b,off+j*5+3,none⟩=some (.string ks[j].sign)∧W.cell? ⟨b,off+j*5+4,none⟩=some (.int .i64 ks[j].value)):=
    fun W hb=>⟨(hb.cell (p:=⟨b,off+j*5,none⟩) hbl).trans (hcs 0 _ rfl),(hb.cell (p:=⟨b,off+j*5+1,none⟩) hbl).trans (hcs 1 _ rfl),(hb.cell (p:=⟨b,off+j*5+2,none⟩) hbl).trans (hcs 2 _ rfl),(hb.cell (p:=⟨b,off+j*5+3,none⟩) hbl).trans (hcs 3 _ rfl),(hb.cell (p:=⟨b,off+j*5+4,none⟩) hbl).trans (hcs 4 _ rfl)⟩
   clear hcell hcs hrn
   obtain⟨kA,kn,kc,hkk⟩:=HRN.out.2.2.2
   generalize ks[j]=n at *
   obtain⟨nk,nkids,nf,ns,nv⟩:=n
   dsimp only at *
   subst hkk
   obtain⟨k0,k1,k2,k3,k4⟩:=HKID.out wr (Ext.trans HQ.out HB.out)
   obtain⟨b1,a0,a1,a2,a3,a4,a5,a6,a7,a8,a9,a10⟩:=HKS.out wr HB.out
   have HKK:Hid (∀W:World,Ext wr W→(W.cell? ⟨w.heap.size,1,none⟩=some (.slice (some ⟨b,off,none⟩) ks.length Kc)∧W.cell? ⟨b,off+j*5,none⟩=some (.int .i64 nk)∧W.cell? ⟨b,off+j*5+1,none⟩=some (.slice kA kn kc)∧W.cell? ⟨b,off+j*5+2,none⟩=some (.string nf)∧W.cell? ⟨b,off+j*5+3,none⟩=some (.string ns)∧W.cell? ⟨b,off+j*5+4,none⟩=some (.int .i64 nv)∧(W.cell? ⟨(w.heap.size+1),0,none⟩=some (.int .i64 o.id)∧W.cell? ⟨(w.heap.size+1),1,none⟩=some (.int .i64 o.proc)∧W.cell? ⟨(w.heap.size+1),2,none⟩=some (.int .i64 o.object)∧W.cell? ⟨(w.heap.size+1),3,none⟩=some (.int .i64 o.kind)∧W.cell? ⟨(w.heap.size+1),4,none⟩=some (.int .i64 o.method)∧W.cell? ⟨(w.heap.size+1),5,none⟩=some (.int .i64 o.arg)∧W.cell? ⟨(w.heap.size+1),6,none⟩=some (.int .i64 o.second)∧W.cell? ⟨(w.heap.size+1),7,none⟩=some (.bool o.done)∧W.cell? ⟨(w.heap.size+1),8,none⟩=some (.int .i64 o.result)∧W.cell? ⟨(w.heap.size+1),9,none⟩=some (.int .i64 o.invoke)∧W.cell? ⟨(w.heap.size+1),10,none⟩=some (.int .i64 o.ret)))):=
    fun W hb=>by
     obtain⟨x0,x1,x2,x3,x4⟩:=HKID.out W (Ext.trans (Ext.trans HQ.out HB.out) hb)
     obtain⟨y0,y1⟩:=HKS.out W (Ext.trans HB.out hb)
     exact⟨y0,x0,x1,x2,x3,x4,y1⟩
   go_wp2_with fail
   go_region_held3 (fun w'=>(w'.cell? ⟨w.heap.size,1,none⟩=some (.slice (some ⟨b,off,none⟩) ks.length Kc)∧w'.cell? ⟨b,off+j*5,none⟩=some (.int .i64 nk)∧w'.cell? ⟨b,off+j*5+1,none⟩=some (.slice kA kn kc)∧w'.cell? ⟨b,off+j*5+2,none⟩=some (.string nf)∧w'.cell? ⟨b,off+j*5+3,none⟩=some (.string ns)∧w'.cell? ⟨b,off+j*5+4,none⟩=some (.int .i64 nv)∧(w'.cell? ⟨(w.heap.size+1),0,none⟩=some (.int .i64 o.id)∧w'.cell? ⟨(w.heap.size+1),1,none⟩=some (.int .i64 o.proc)∧w'.cell? ⟨(w.heap.size+1),2,none⟩=some (.int .i64 o.object)∧w'.cell? ⟨(w.heap.size+1),3,none⟩=some (.int .i64 o.kind)∧w'.cell? ⟨(w.heap.size+1),4,none⟩=some (.int .i64 o.method)∧w'.cell? ⟨(w.heap.size+1),5,none⟩=some (.int .i64 o.arg)∧w'.cell? ⟨(w.heap.size+1),6,none⟩=some (.int .i64 o.second)∧w'.cell? ⟨(w.heap.size+1),7,none⟩=some (.bool o.done)∧w'.cell? ⟨(w.heap.size+1),8,none⟩=some (.int .i64 o.result)∧w'.cell? ⟨(w.heap.size+1),9,none⟩=some (.int .i64 o.invoke)∧w'.cell? ⟨(w.heap.size+1),10,none⟩=some (.int .i64 o.ret))))
    (first | (refine HKK.out _ ?_;(exact Xx (K1.out));done) | (refine HKK.out _ ?_;(exact Xx (Ext.refl _));done))
    ((go_at_call 34;refine(IH.out x ⟨nk,.slice kA kn kc,nf,ns,nv⟩ _ HRN.out (HY.out.ext (Ext.trans (Ext.trans HQ.out HB.out) (by exact Xx (Ext.refl _)))) (HS.out.ext (Ext.trans (Ext.trans HQ.out HB.out) (by exact Xx (Ext.refl _))))).mono ?_;rintro e w1 ⟨rfl,hb1⟩;have K1:=hD (Ext.trans (by exact Xx (Ext.refl _):Ext wr _) hb1);clear hb1))
   all_goals
    clear k0 k1 k2 k3 k4 b1 a0 a1 a2 a3 a4 a5 a6 a7 a8 a9 a10
    cases hv:Z1o l o x with
    | false=>
      have HV:=hD (HIT.out j x HX.out hv)
      clear hv
      go_wp2_with fail
      go_ret
      exact⟨by rw[HV.out];rfl,Ext.trans HQ.out (Ext.trans HB.out (by exact Xx (K1.out)))⟩
    | true=>
      have HV:=hD hv
      clear hv
      go_wp2_with fail
      go_roundw
      case rel=>
       refine⟨j+1,by omega,by go_num,Ext.trans HB.out (by exact Xx (K1.out)),fun m y hm hy=> ?_⟩
       by_cases e:m=j
       ·subst e
        have e2:=hy.symm.trans HX.out
        injection e2 with e2
        subst e2
        exact HV.out
       ·exact HF.out m y (by omega) hy
      case measure=>simp[intOf];omega
  ·have hd:decide ((j:Int)<(ks.length:Int))=false:=by simp;omega
   have HV:=hD (HALL.out (fun m x hx=>HF.out m x (by have:=(List.getElem?_eq_some_iff.1 hx).1;have:=HLEN.out;omega) hx))
   obtain⟨b1,_⟩:=HKS.out wr HB.out
   go_wp2_with fail
   go_ret
   exact⟨by rw[HV.out];rfl,Ext.trans HQ.out HB.out⟩
end
section
variable (A:Option Addr) (c:Nat) (l:List OpD) (o:OpD) (t:ND) (field sign:ByteArray) (value:Int) (w:World)
theorem V4j(d:Nat)(ih:X5g (.slice A l.length c) l o d)(hs:Sl w 11 ROp (.slice A l.length c) l)(ht:t.kind=3)(KA:Option Addr)(Kc:Nat)(ks:List NCell)(hks:Sl w 5 RN (.slice KA ks.length Kc) ks)(hlen:ks.length=t.kids.length)
 (hnd:∀(i:Nat) (x:ND) (y:NCell),t.kids[i]? =some x→ks[i]? =some y→Nd w d x y):
  Calls Tryz.prog 34 #[.slice A l.length c,.agg #[.int .i64 3,.slice KA ks.length Kc,.string field,.string sign,.int .i64 value],o.val] w fun e w'=>e= .returned (.bool (Z1o l o t))∧Ext w w':=by
 have HQ:Hid (Ext w ((w.alloc (.cells #[.int .i64 3,.slice KA ks.length Kc,.string field,.string sign,.int .i64 value] 50)).alloc (.cells #[.int .i64 o.id,.int .i64 o.proc,.int .i64 o.object,.int .i64 o.kind,.int .i64 o.method,.int .i64 o.arg,.int .i64 o.second,.bool o.done,.int .i64 o.result,.int .i64 o.invoke,.int .i64 o.ret] 32))):=by unfold Hid;exact Xt
 by_cases h1:ks.length=1
 ·obtain⟨x,hx⟩:∃x,t.kids= [x]:=by
   have h2:t.kids.length=1:=by omega
   match hk:t.kids,h2 with
   | [x],_=>exact⟨x,rfl⟩
  have HT:=hD (X8w l o t ht x hx)
  have IH:=hD ih
  have HS:=hD hs
  obtain⟨_,hc1,hc2,hA⟩:=hks.at
  obtain⟨b,off,rfl,hbl,hcell⟩:=hA (by omega)
  obtain⟨cs,⟨rfl,hrn⟩,_,hcs⟩:=hcell 0 (by omega)
  have HY:=hD (hnd 0 x ks[0] (by rw[hx];rfl) (List.getElem?_eq_getElem (by omega)))
  have HRN:=hD (show RN ks[0] ks[0].cells from⟨rfl,hrn⟩)
  have HKID:Hid (∀W:World,Ext w W→W.cell? ⟨b,off,none⟩=some (.int .i64 ks[0].kind)∧W.cell? ⟨b,off+1,none⟩=some ks[0].kids∧W.cell? ⟨b,off+2,none⟩=some (.string ks[0].field)∧W.cell? ⟨b,off+3,none⟩=some (.string ks[0].sign)∧W.cell? ⟨b,off+4,none⟩=some (.int .i64 ks[0].value)):=by
   intro W hb
   have g:=fun j u hu=>(hb.cell (p:=⟨b,off+0*5+j,none⟩) hbl).trans (hcs j u hu)
   have g0:=g 0 _ rfl
   have g1:=g 1 _ rfl
   have g2:=g 2 _ rfl
   have g3:=g 3 _ rfl
   have g4:=g 4 _ rfl
   simp only[Nat.zero_mul,Nat.add_zero]at g0 g1 g2 g3 g4
   exact⟨g0,g1,g2,g3,g4⟩
  obtain⟨kA,kn,kc,hkk⟩:=HRN.out.2.2.2
  clear hcell hcs hrn hA hks hnd hs ih ht hx
  generalize ks[0]=n at *
  obtain⟨nk,nkids,nf,ns,nv⟩:=n
  dsimp only at *
  subst hkk
  rw[h1]
  rw[h1]at HQ
  clear h1 hlen
  have HB0:=hD (At11.row (Row1.made' (w:=w.alloc (.cells #[.int .i64 3,.slice (some ⟨b,off,none⟩) 1 Kc,.string field,.string sign,.int .i64 value] 50)) (n:=w.heap.size+1) (by simp) 32 o.cells))
  have HKK:Hid (∀W:World,Ext ((w.alloc (.cells #[.int .i64 3,.slice (some ⟨b,off,none⟩) 1 Kc,.string field,.string sign,.int .i64 value] 50)).alloc (.cells #[.int .i64 o.id,.int .i64 o.proc,.int .i64 o.object,.int .i64 o.kind,.int .i64 o.method,.int .i64 o.arg,.int .i64 o.second,.bool o.done,.int .i64 o.result,.int .i64 o.invoke,.int .i64 o.ret] 32)) W→(W.cell? ⟨w.heap.size,1,none⟩=some (.slice (some ⟨b,off,none⟩) 1 Kc)∧W.cell? ⟨b,off,none⟩=some (.int .i64 nk)∧W.cell? ⟨b,off+1,none⟩=some (.slice kA kn kc)∧W.cell? ⟨b,off+2,none⟩=some (.string nf)∧W.cell? ⟨b,off+3,none⟩=some (.string ns)∧W.cell? ⟨b,off+4,none⟩=some (.int .i64 nv)∧(W.cell? ⟨(w.heap.size+1),0,none⟩=some (.int .i64 o.id)∧W.cell? ⟨(w.heap.size+1),1,none⟩=some (.int .i64 o.proc)∧W.cell? ⟨(w.heap.size+1),2,none⟩=some (.int .i64 o.object)∧W.cell? ⟨(w.heap.size+1),3,none⟩=some (.int .i64 o.kind)∧W.cell? ⟨(w.heap.size+1),4,none⟩=some (.int .i64 o.method)∧W.cell? ⟨(w.heap.size+1),5,none⟩=some (.int .i64 o.arg)∧W.cell? ⟨(w.heap.size+1),6,none⟩=some (.int .i64 o.second)∧W.cell? ⟨(w.heap.size+1),7,none⟩=some (.bool o.done)∧W.cell? ⟨(w.heap.size+1),8,none⟩=some (.int .i64 o.result)∧W.cell? ⟨(w.heap.size+1),9,none⟩=some (.int .i64 o.invoke)∧W.cell? ⟨(w.heap.size+1),10,none⟩=some (.int .i64 o.ret)))):=
   fun W hb=>by
    obtain⟨x0,x1,x2,x3,x4⟩:=HKID.out W (Ext.trans HQ.out hb)
    exact⟨by rw[hb.cell (by simp;omega)];go_simp,x0,x1,x2,x3,x4,HB0.out.ext hb (by simp)⟩
  clear HB0
  have hbw:b<w.heap.size+1:=by omega
  obtain⟨k0,k1,k2,k3,k4⟩:=HKID.out w (Ext.refl _)
  go_enter Tryz.func34,Tryz.ntmps34
  go_wp2_with fail
  go_region_held3 (fun w'=>(w'.cell? ⟨w.heap.size,1,none⟩=some (.slice (some ⟨b,off,none⟩) 1 Kc)∧w'.cell? ⟨b,off,none⟩=some (.int .i64 nk)∧w'.cell? ⟨b,off+1,none⟩=some (.slice kA kn kc)∧w'.cell? ⟨b,off+2,none⟩=some (.string nf)∧w'.cell? ⟨b,off+3,none⟩=some (.string ns)∧w'.cell? ⟨b,off+4,none⟩=some (.int .i64 nv)∧(w'.cell? ⟨(w.heap.size+1),0,none⟩=some (.int .i64 o.id)∧w'.cell? ⟨(w.heap.size+1),1,none⟩=some (.int .i64 o.proc)∧w'.cell? ⟨(w.heap.size+1),2,none⟩=some (.int .i64 o.object)∧w'.cell? ⟨(w.heap.size+1),3,none⟩=some (.int .i64 o.kind)∧w'.cell? ⟨(w.heap.size+1),4,none⟩=some (.int .i64 o.method)∧w'.cell? ⟨(w.heap.size+1),5,none⟩=some (.int .i64 o.arg)∧w'.cell? ⟨(w.heap.size+1),6,none⟩=some (.int .i64 o.second)∧w'.cell? ⟨(w.heap.size+1),7,none⟩=some (.bool o.done)∧w'.cell? ⟨(w.heap.size+1),8,none⟩=some (.int .i64 o.result)∧w'.cell? ⟨(w.heap.size+1),9,none⟩=some (.int .i64 o.invoke)∧w'.cell? ⟨(w.heap.size+1),10,none⟩=some (.int .i64 o.ret))))
   (first | (refine HKK.out _ ?_;(exact Xx (K1.out));done) | (refine HKK.out _ ?_;(exact Xx (Ext.refl _));done))
   ((go_at_call 34;refine(IH.out x ⟨nk,.slice kA kn kc,nf,ns,nv⟩ _ HRN.out (HY.out.ext (Ext.trans HQ.out (by exact Xx (Ext.refl _)))) (HS.out.ext (Ext.trans HQ.out (by exact Xx (Ext.refl _))))).mono ?_;rintro e w1 ⟨rfl,hb1⟩;have K1:=hD (Ext.trans (by exact Xx (Ext.refl _):Ext ((w.alloc (.cells #[.int .i64 3,.slice (some ⟨b,off,none⟩) 1 Kc,.string field,.string sign,.int .i64 value] 50)).alloc (.cells #[.int .i64 o.id,.int .i64 o.proc,.int .i64 o.object,.int .i64 o.kind,.int .i64 o.method,.int .i64 o.arg,.int .i64 o.second,.bool o.done,.int .i64 o.result,.int .i64 o.invoke,.int .i64 o.ret] 32)) _) hb1);clear hb1))
  all_goals
   go_wp2_with fail
   go_ret
   exact⟨by rw[HT.out];rfl,Ext.trans HQ.out (by exact Xx (K1.out))⟩
 ·have HT:=hD (X5t l o t ht (by omega))
  have q1:((ks.length:Int)==1)=false:=by simp;omega
  clear ih hs hks hnd hlen h1
  go_enter Tryz.func34,Tryz.ntmps34
  go_wp2_with fail
  all_goals (try go_quiet (fail))
  all_goals (try go_wp2_with fail)
  go_ret
  exact⟨by rw[HT.out];rfl,by exact Xx (HQ.out)⟩
end
theorem X1o(A:Option Addr)(c:Nat)(l:List OpD)(o:OpD)(d:Nat):X5g (.slice A l.length c) l o d:=by
 induction d with
 | zero=>intro _ _ _ _ h;exact h.elim
 | succ d ih=>
   intro t n w hn hd hs
   obtain⟨h1,h2,h3,h4,ks,h5,h6,h7⟩:=hd
   obtain⟨nk,nkids,nf,ns,nv⟩:=n
   dsimp only at *
   obtain⟨kA,kc,rfl⟩:=h5.form
   by_cases e1:nk=1
   ·subst e1;exact true_or A c l o t nf ns nv w d ih hs h1.symm kA kc ks h5 h6 h7
   by_cases e2:nk=2
   ·subst e2;exact true_and A c l o t nf ns nv w d ih hs h1.symm kA kc ks h5 h6 h7
   by_cases e3:nk=3
   ·subst e3;exact V4j A c l o t nf ns nv w d ih hs h1.symm kA kc ks h5 h6 h7
   by_cases e4:nk=4
   ·subst e4;exact V4k A c l o t _ nf ns nv w hs h1.symm h2.symm h3.symm h4.symm
   by_cases e5:nk=5
   ·subst e5;exact X8u A c l o t _ nf ns nv w hs h1.symm h2.symm h4.symm
   exact X8v A c l o t _ nf ns nv w nk e1 e2 e3 e4 e5 h1.symm
end
end Go.Proofs.YtmiolpfanlpfnaaGreat
