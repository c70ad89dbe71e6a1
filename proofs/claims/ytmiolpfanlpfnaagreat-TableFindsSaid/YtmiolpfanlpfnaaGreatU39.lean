/- Delete in any tree: the key there, or not. Conditions: a tree that is not too deep. -/
import Derived.Test.YtmiolpfanlpfnaaGreatU38
set_option maxRecDepth 100000
set_option maxHeartbeats 4000000
set_option linter.unusedSimpArgs false
set_option linter.unusedVariables false
namespace Go.Proofs.YtmiolpfanlpfnaaGreat
open Go.RowKit
theorem V4g{tr p i:Nat}{F:Nat→Prop}{S:StoreD}(T:TrD)(k:ByteArray)(w:World)(ht:Z0b w tr p i)(hnt:¬F tr)(h:PagerAt w p F S)(hf:Fm S)(hi:i<16)(hT:TrS S i T)(hd:T.fine)(hk:∃x∈T.list,x.1=k):
  Calls Tryz.prog 124 #[.pointer (some ⟨tr,0,none⟩),.string k] w fun e w'=>e= .returned (.int .i64 0)∧∃(S':StoreD) (T':TrD) (F':Nat→Prop),Z9w S i k S' T' T∧PagerAt w' p F' S'∧Keeps F F' w w':=by
 cases T with
 | no=>obtain⟨x,hx,_⟩:=hk;cases hx
 | yes d t=>exact V7i t k w ht hnt h hf hi hT hk hd (fun S1 t1 W F1 _ _ y1 y2 y3 y4 y5=>V7h (.yes d t1) W y3 y4 y5 hi y2 y1 hd)
theorem V2c{l:List OpD}(h:l.Pairwise (fun a b=>a.id≠b.id)){o:OpD}(ho:o∈l):getL l o.id=some o:=by
 cases hg:getL l o.id with
 | none=>
   unfold getL at hg
   have:=List.find?_eq_none.1 hg o ho
   simp at this
 | some x=>
   unfold getL at hg
   have h1:x.id=o.id:=by have:=List.find?_some hg;simpa using this
   rw[Y7u h (List.mem_of_find?_eq_some hg) ho h1]
def Z3x(Ts:Nat→TrD):Nat→Nat
 | 0=>0
 | k+1=>Z3x Ts k+(Ts k).pages.length
theorem Y9n{Ts Ts':Nat→TrD}{k:Nat}(h:∀i,i<k→Ts' i=Ts i):Z3x Ts' k=Z3x Ts k:=by
 induction k with
 | zero=>rfl
 | succ k ih=>rw[Z3x,Z3x,ih (fun i hi=>h i (by omega)),h k (by omega)]
structure DelK (tb p:Nat) (ts:Nat→Nat) (Ts0:Nat→TrD) (L:Nat→List OpD) (o:OpD) (R:Nat) (F0:Nat→Prop) (w:World) (k:Nat) (wr:World) (S:StoreD) (Ts:Nat→TrD) (F:Nat→Prop):Prop where
 at_:TblAt wr tb p ts F
 pag:PagerAt wr p F S
 keep:Keeps F0 F w wr
 tab:Tab S Ts (fun i=>if i<k then delO (L i) o.id else L i)
 done:∀i,i<k→∃Sa Sb,Fm Sa∧TrS Sa i (Ts0 i)∧(∃x∈(Ts0 i).list,x.1=wayK i o)∧Z9w Sa i (wayK i o) Sb (Ts i) (Ts0 i)
 same:∀i,k≤i→Ts i=Ts0 i
 dep:∀i,depT (Ts i)≤depT (Ts0 i)
 less:∀i,(Ts i).pages.length≤(Ts0 i).pages.length
 room:R+Z3x Ts0 k=Z0z S+Z3x Ts k
theorem DelK.step{tb p:Nat}{ts:Nat→Nat}{Ts0:Nat→TrD}{L:Nat→List OpD}{o:OpD}{R:Nat}{F0 F F':Nat→Prop}{w wr w':World}{k:Nat}{S S':StoreD}{Ts:Nat→TrD}{T':TrD}(h:DelK tb p ts Ts0 L o R F0 w k wr S Ts F)(hk:k<5)(ho:o∈L k)
 (hp:Z9w S k (wayK k o) S' T' (Ts k))(hp':PagerAt w' p F' S')(hkp:Keeps F F' wr w'):DelK tb p ts Ts0 L o R F0 w (k+1) w' S' (updF Ts k T') F':=by
 obtain⟨h1,h2,h3,h4⟩:=h.tab.delR hk (by rw[if_neg (Nat.lt_irrefl _)];exact ho) hp
 have hs:=h.same k (Nat.le_refl _)
 refine⟨h.at_.keep hkp,hp',h.keep.trans hkp,h1.congr (fun i _=>rfl) (fun i _=> ?_),fun i hi=> ?_,fun i hi=> ?_,fun i=> ?_,fun i=> ?_,?_⟩
 ·by_cases e:i=k
  ·subst e;rw[Z0w,if_pos (by omega),if_neg (by omega)]
  ·rw[Z0p _ _ e]
   by_cases hl:i<k
   ·rw[if_pos hl,if_pos (by omega)]
   ·rw[if_neg hl,if_neg (by omega)]
 ·by_cases e:i=k
  ·subst e
   rw[Z0w]
   exact⟨S,S',h.tab.fm,hs▸h.tab.tr i hk,hs▸⟨_,(h.tab.mem i hk _).2 ⟨o,by rw[if_neg (Nat.lt_irrefl _)];exact ho,rfl⟩,rfl⟩,hs▸hp⟩
  ·rw[Z0p _ _ e];exact h.done i (by omega)
 ·rw[Z0p _ _ (by omega)];exact h.same i (by omega)
 ·by_cases e:i=k
  ·subst e;rw[Z0w,←hs];exact h3
  ·rw[Z0p _ _ e];exact h.dep i
 ·by_cases e:i=k
  ·subst e;rw[Z0w,←hs];exact h4
  ·rw[Z0p _ _ e];exact h.less i
 ·have:=h.room
  have e1:Z3x (updF Ts k T') k=Z3x Ts k:=Y9n (fun i hi=>Z0p _ _ (by omega))
  show R+(Z3x Ts0 k+(Ts0 k).pages.length)=Z0z S'+(Z3x (updF Ts k T') k+(updF Ts k T' k).pages.length)
  rw[Z0w,e1]
  rw[hs]at h2
  omega
theorem Y3f{Ts Ts':Nat→TrD}(h:∀i,(Ts' i).pages.length≤(Ts i).pages.length):∀k,Z3x Ts' k≤Z3x Ts k
 | 0=>Nat.le_refl _
 | k+1=>by
   have h1:=Y3f h k
   have h2:=h k
   show Z3x Ts' k+(Ts' k).pages.length≤Z3x Ts k+(Ts k).pages.length
   omega
theorem Y5q{Ts Ts':Nat→TrD}(h:∀i,depT (Ts' i)≤depT (Ts i)):∀k,Z4p Ts' k≤Z4p Ts k
 | 0=>Nat.le_refl _
 | k+1=>by
   have h1:=Y5q h k
   have h2:=h k
   show Z4p Ts' k+(Ts' k).need≤Z4p Ts k+(Ts k).need
   rw[Y2e,Y2e]
   omega
structure DelB (S0:StoreD) (Ts0:Nat→TrD) (l:List OpD) (id:Int) (S:StoreD) (Ts:Nat→TrD):Prop where
 tab:Tab S Ts (fun _=>delO l id)
 dep:∀i,depT (Ts i)≤depT (Ts0 i)
 less:∀i,(Ts i).pages.length≤(Ts0 i).pages.length
 room:Z0z S0+Z3x Ts0 5=Z0z S+Z3x Ts 5
 done:(Ts=Ts0∧getL l id=none)∨∃o,getL l id=some o∧∀i,i<5→∃Sa Sb,Fm Sa∧TrS Sa i (Ts0 i)∧(∃x∈(Ts0 i).list,x.1=wayK i o)∧Z9w Sa i (wayK i o) Sb (Ts i) (Ts0 i)
theorem DelB.more{S0 S:StoreD}{Ts0 Ts:Nat→TrD}{l:List OpD}{id:Int}(h:DelB S0 Ts0 l id S Ts):Z0z S0≤Z0z S∧Z4p Ts 5≤Z4p Ts0 5:=by
 have h1:=h.room
 have h2:=Y3f h.less 5
 exact⟨by omega,Y5q h.dep 5⟩
theorem V3c{l:List OpD}{id:Int}(h:getL l id=none):delO l id=l:=by
 unfold getL at h
 rw[List.find?_eq_none]at h
 unfold delO
 rw[List.filter_eq_self]
 intro x hx
 have:=h x hx
 simpa using this
def delE(l:List OpD)(id:Int):Int:=if(getL l id).isSome then 0 else 6
structure PutB (S0:StoreD) (Ts0:Nat→TrD) (l:List OpD) (o:OpD) (S:StoreD) (Ts:Nat→TrD):Prop where
 tab:Tab S Ts (fun _=>o::delO l o.id)
 via:∃S1 Ts1,DelB S0 Ts0 l o.id S1 Ts1∧(∀i,i<5→U0t i o (Ts1 i) (Ts i))∧Z0z S1≤Z0z S+Z4p Ts1 5
theorem Ris.ids{l:List OpD}(h:Ris l):l.Pairwise (fun a b=>a.id≠b.id):=h.imp (fun q e=>by omega)
theorem V8r{l:List OpD}(h:Ris l)(o x:OpD):x∈wiO l o↔x=o∨(x∈l∧x.id≠o.id):=by
 rw[X8d]
 have ht:∀x∈l.takeWhile (fun x=>decide (x.id<o.id)),x.id<o.id:=fun x hx=>by
  have:=List.all_takeWhile (p:=fun x:OpD=>decide (x.id<o.id)) (l:=l)
  rw[List.all_eq_true]at this
  exact of_decide_eq_true (this x hx)
 have hl:x∈l↔x∈l.takeWhile (fun x=>decide (x.id<o.id))∨x∈l.dropWhile (fun x=>decide (x.id<o.id)):=by
  rw[←List.mem_append,List.takeWhile_append_dropWhile]
 rw[List.mem_append,List.mem_append,List.mem_singleton,List.mem_filter,hl]
 constructor
 ·rintro((h1 | h1) | ⟨h1,h2⟩)
  ·exact .inr ⟨.inl h1,by have:=ht x h1;omega⟩
  ·exact .inl h1
  ·exact .inr ⟨.inr h1,by simpa using h2⟩
 ·rintro(h1 | ⟨h1 | h1,h2⟩)
  ·exact .inl (.inr h1)
  ·exact .inl (.inl h1)
  ·exact .inr ⟨h1,by simpa using h2⟩
theorem V7k{l:List OpD}(h:Ris l)(id:Int):Ris (delO l id):=List.Pairwise.filter _ h
theorem Tab.list{S:StoreD}{Ts:Nat→TrD}{l r:List OpD}(h:Tab S Ts (fun _=>l))(hr:Ris r)(hm:∀x,x∈r↔x∈l):Tab S Ts (fun _=>r):=
 ⟨h.fm,h.tr,h.disj,fun i hi o ho=>h.ok i hi o ((hm o).1 ho),fun _ _=>hr.ids,fun i hi x=>(h.mem i hi x).trans ⟨fun ⟨o,q1,q2⟩=>⟨o,(hm o).2 q1,q2⟩,fun⟨o,q1,q2⟩=>⟨o,(hm o).1 q1,q2⟩⟩⟩
theorem PutB.list{S0 S:StoreD}{Ts0 Ts:Nat→TrD}{l:List OpD}{o:OpD}(h:PutB S0 Ts0 l o S Ts)(hr:Ris l):Tab S Ts (fun _=>wiO l o):=
 h.tab.list (X8c l o hr) (fun x=>by rw[V8r hr,List.mem_cons,Z9s])
def allD:TrD→List ByteArray
 | .no=> []
 | .yes d t=>allT d t
def Slim(T:TrD):Prop:=∀x∈allD T,x.size≤24
def potT:TrD→Nat
 | .no=>0
 | .yes 0 _=>1
 | .yes (d+1) t=>1+9*d+min (InT.keys t).length 9
theorem X3z(T:TrD):9*T.need≤potT T+26:=by
 cases T with
 | no=>show 9*1≤0+26;omega
 | yes d t=>
   cases d with
   | zero=>show 9*2≤1+26;omega
   | succ d=>show 9*(d+1+2)≤1+9*d+min _ 9+26;omega
theorem Y3a{d:Nat}{S S':StoreD}{t t':TT (d+1)}{k v:ByteArray}{o:Option (ByteArray×TT (d+1))}(h:PutR (d+1) S t k v S' t' o)(hf:Fm S)(hon:onT S (d+1) t)(hok:okT (d+1) t)(hk:Z3g k)(hv:v.size≤80)(hnd:(Z0a (d+1) t).Nodup)(hk24:k.size≤24)(hs:∀x∈allT (d+1) t,x.size≤24):
  (o=none→(InT.keys t').length≤(InT.keys t).length+1)∧(o≠none→9≤(InT.keys t).length):=by
 obtain⟨c,hc,S1,c',o1,h1,h2⟩:=h
 have hcm:c∈InT.kids t:=List.mem_of_getElem? hc
 obtain⟨F1,q⟩:=Z4z d h1 hf (hon.2 c hcm) (hok.2.2.2.1 c hcm) hk hv ((Z1c hnd).1 c hcm).2
 have hsk:∀x∈InT.keys t,x.size≤24:=fun x hx=>hs x (List.mem_append_left _ hx)
 have hsc:∀x∈allT d c,x.size≤24:=fun x hx=>hs x (List.mem_append_right _ (List.mem_flatMap.2 ⟨c,hcm,hx⟩))
 have hkl:=hok.2.1
 cases o1 with
 | none=>
   obtain⟨_,rfl,rfl⟩:=h2
   exact⟨fun _=>Nat.le_succ _,fun q=>absurd rfl q⟩
 | some x=>
   have hx24:x.1.size≤24:=by
    rcases(q.right x.1 x.2 rfl).key with e | e
    ·rw[e];exact hk24
    ·exact hsc _ e
   obtain⟨y,hcd,hy⟩:=h2
   have hlen:(insL (InT.keys t) (Z0g (InT.keys t) k) x.1).length=(InT.keys t).length+1:=Z1b _ _ _
   cases y with
   | none=>
     obtain⟨rfl,rfl⟩:=hy
     exact⟨fun _=>Nat.le_of_eq hlen,fun q=>absurd rfl q⟩
   | some y=>
     obtain⟨m,r⟩:=y
     obtain⟨mid,_,rfl,rfl⟩:=hy
     refine⟨(fun q=>by cases q),fun _=> ?_⟩
     have hbig:256<Z0m (Z0c (d+1) (InT.mk (InT.at_ t) (insL (InT.keys t) (Z0g (InT.keys t) k) x.1) (insL ((InT.kids t).set (Z0g (InT.keys t) k) c') (Z0g (InT.keys t) k+1) x.2))):=hcd.1
     have hsz:Z0m (Z0c (d+1) (InT.mk (InT.at_ t) (insL (InT.keys t) (Z0g (InT.keys t) k) x.1) (insL ((InT.kids t).set (Z0g (InT.keys t) k) c') (Z0g (InT.keys t) k+1) x.2)))=2+2*((insL ((InT.kids t).set (Z0g (InT.keys t) k) c') (Z0g (InT.keys t) k+1) x.2).map (fun c=>(atT d c:Int))).length+Z0n (insL (InT.keys t) (Z0g (InT.keys t) k) x.1)+Z0n []:=rfl
     rw[hsz,List.length_map,Z1b,List.length_set,hkl]at hbig
     have hm:=Z3n (l:=insL (InT.keys t) (Z0g (InT.keys t) k) x.1) (q:=24) (fun y hy=>by
      rcases Z7t hy with e | e
      ·rw[e];exact hx24
      ·exact hsk y e)
     rw[hlen]at hm
     have:Z0n []=0:=rfl
     omega
theorem V9i{S S':StoreD}{i:Nat}{k v:ByteArray}{T T':TrD}(h:Y1u S i k v S' T' T)(hf:Fm S)(ht:TrS S i T)(hk:Z3g k)(hv:v.size≤80)(hk24:k.size≤24)(hs:Slim T):potT T'≤potT T+1∧Slim T':=by
 cases T with
 | no=>
   obtain⟨a,_,_,rfl⟩:=h
   refine⟨Nat.le_refl _,fun x hx=> ?_⟩
   have:x∈ [k]:=hx
   rw[List.mem_singleton]at this
   rw[this];exact hk24
 | yes d t=>
   obtain⟨_,hon,hok,hnd⟩:=ht
   obtain⟨S1,t',o,h1,h2⟩:=h
   obtain⟨F,q⟩:=Z4z d h1 hf hon hok hk hv hnd
   have hA:∀x,(x=k∨x∈allT d t)→x.size≤24:=fun x hx=>by
    rcases hx with e | e
    ·rw[e];exact hk24
    ·exact hs x e
   cases o with
   | none=>
     obtain⟨_,rfl⟩:=h2
     refine⟨?_,fun x hx=>hA x (q.all x hx)⟩
     cases d with
     | zero=>show 1≤1+1;omega
     | succ d=>
       have:=(Y3a h1 hf hon hok hk hv hnd hk24 hs).1 rfl
       show 1+9*d+min (InT.keys t').length 9≤1+9*d+min (InT.keys t).length 9+1
       omega
   | some x=>
     obtain⟨mid,r⟩:=x
     obtain⟨top,_,_,rfl⟩:=h2
     have hR:=q.right mid r rfl
     refine⟨?_,fun y hy=> ?_⟩
     ·show 1+9*d+min 1 9≤_
      cases d with
      | zero=>show 1+9*0+min 1 9≤1+1;omega
      | succ d=>
        have:=(Y3a h1 hf hon hok hk hv hnd hk24 hs).2 (by intro e;cases e)
        show 1+9*(d+1)+min 1 9≤1+9*d+min (InT.keys t).length 9+1
        omega
     ·have hy':y∈ [mid]++ [t',r].flatMap (allT d):=hy
      rw[List.mem_append,List.mem_singleton,List.mem_flatMap]at hy'
      rcases hy' with e | ⟨z,hz,e⟩
      ·rw[e];exact hA _ hR.key
      ·rcases List.mem_cons.1 hz with rfl | hz
       ·exact hA _ (q.all y e)
       ·rw[List.mem_singleton]at hz
        subst hz
        exact hA _ (hR.all y e)
theorem X9d(i:Nat):∀(d:Nat) {S S':StoreD} {t:TT d} {T':TrD},ShrR i d S t S' T'→potT T'≤potT (.yes d t)∧∀x∈allD T',x∈allT d t
 | 0,_,_,_,_,h=>by
   obtain⟨_,rfl⟩:=h
   exact⟨Nat.le_refl _,fun x hx=>hx⟩
 | d+1,_,_,t,_,h=>by
   rcases h with ⟨_,_,rfl⟩ | ⟨c,hc,h⟩
   ·exact⟨Nat.le_refl _,fun x hx=>hx⟩
   ·obtain⟨h1,h2⟩:=X9d i d h
    refine⟨Nat.le_trans h1 ?_,fun x hx=> ?_⟩
    ·cases d with
     | zero=>show 1≤1+9*0+_;omega
     | succ d=>show 1+9*d+min _ 9≤1+9*(d+1)+min _ 9;omega
    ·show x∈InT.keys t++(InT.kids t).flatMap (allT d)
     rw[hc]
     exact List.mem_append_right _ (List.mem_flatMap.2 ⟨c,List.mem_singleton.2 rfl,h2 x hx⟩)
theorem X8v{d:Nat}{S S':StoreD}{t t':TT (d+1)}{k:ByteArray}(h:Y1t (d+1) S t k S' t'):(InT.keys t').length≤(InT.keys t).length:=by
 obtain⟨c,_,S1,c',_,h⟩:=h
 rcases h with ⟨_,_,rfl⟩ | ⟨_,a,b,s,_,_,_,⟨_,_,rfl⟩ | ⟨_,_,rfl⟩⟩
 ·exact Nat.le_refl _
 ·exact Nat.le_refl _
 ·exact List.length_eraseIdx_le _ _
theorem V9j{S S':StoreD}{i:Nat}{k:ByteArray}{T T':TrD}(h:Z9w S i k S' T' T)(hf:Fm S)(ht:TrS S i T)(hk:∃x∈T.list,x.1=k)(hs:Slim T):potT T'≤potT T∧Slim T':=by
 cases T with
 | no=>exact h.elim
 | yes d t=>
   obtain⟨_,hon,hok,hnd⟩:=ht
   obtain⟨S1,t1,htk,h⟩:=h
   obtain⟨G1,hl⟩:=Z6p d htk hf hon hok ((Z9n d t hok k).2 hk) hnd
   rcases h with ⟨_,_,rfl⟩ | ⟨_,h⟩
   ·exact⟨Nat.zero_le _,fun x hx=>by cases hx⟩
   ·obtain⟨h1,h2⟩:=X9d i d h
    refine⟨Nat.le_trans h1 ?_,fun x hx=>hs x (hl.all x (h2 x hx))⟩
    cases d with
    | zero=>exact Nat.le_refl _
    | succ d=>
      have:=X8v htk
      show 1+9*d+min (InT.keys t1).length 9≤1+9*d+min (InT.keys t).length 9
      omega
def Y1r:Nat→Nat
 | 0=>0
 | t+1=>Y1r t+5*((t+26)/9)
theorem Y0d:∀ {a b:Nat},a≤b→Y1r a≤Y1r b
 | a,0,h=>by rw[Nat.le_zero.1 h];exact Nat.le_refl _
 | a,b+1,h=>by
   by_cases e:a=b+1
   ·rw[e];exact Nat.le_refl _
   ·have:=Y0d (show a≤b by omega)
    show Y1r a≤Y1r b+_
    omega
structure TabI (c:Nat) (S:StoreD) (Ts:Nat→TrD) (l:List OpD) (t:Nat):Prop where
 tab:Tab S Ts (fun _=>l)
 ris:Ris l
 pot:∀i,i<5→potT (Ts i)≤t
 slim:∀i,i<5→Slim (Ts i)
 room:c≤Z0z S+Y1r t
theorem Y3p{Ts:Nat→TrD}{t:Nat}(h:∀i,i<5→potT (Ts i)≤t):∀k,k≤5→Z4p Ts k≤k*((t+26)/9)
 | 0,_=>Nat.zero_le _
 | k+1,hk=>by
   have h1:=Y3p h k (by omega)
   have h2:=X3z (Ts k)
   have h3:=h k (by omega)
   have h4:(Ts k).need≤(t+26)/9:=by omega
   show Z4p Ts k+(Ts k).need≤_
   rw[Nat.succ_mul]
   omega
theorem TabI.dep{c:Nat}{S:StoreD}{Ts:Nat→TrD}{l:List OpD}{t:Nat}(h:TabI c S Ts l t)(ht:t≤40)(i:Nat)(hi:i<5):depT (Ts i)≤31:=by
 have h1:=X3z (Ts i)
 have h2:=h.pot i hi
 rw[Y2e]at h1
 omega
theorem TabI.enough{c:Nat}{S:StoreD}{Ts:Nat→TrD}{l:List OpD}{t:Nat}(h:TabI c S Ts l t)(ht:Y1r (t+1)≤c):Z4p Ts 5≤Z0z S:=by
 have h1:=Y3p h.pot 5 (Nat.le_refl _)
 have h4:Y1r (t+1)=Y1r t+5*((t+26)/9):=rfl
 have h5:=h.room
 omega
theorem TabI.more{c:Nat}{S:StoreD}{Ts:Nat→TrD}{l:List OpD}{t u:Nat}(h:TabI c S Ts l t)(hu:t≤u):TabI c S Ts l u:=
 ⟨h.tab,h.ris,fun i hi=>Nat.le_trans (h.pot i hi) hu,h.slim,by have:=Y0d hu;have:=h.room;omega⟩
theorem DelB.pot{S0 S:StoreD}{Ts0 Ts:Nat→TrD}{l:List OpD}{id:Int}{i:Nat}(h:DelB S0 Ts0 l id S Ts)(hi:i<5)(hs:Slim (Ts0 i)):potT (Ts i)≤potT (Ts0 i)∧Slim (Ts i):=by
 rcases h.done with ⟨rfl,_⟩ | ⟨o,_,hd⟩
 ·exact⟨Nat.le_refl _,hs⟩
 ·obtain⟨Sa,Sb,q1,q2,q3,q4⟩:=hd i hi
  exact V9j q4 q1 q2 q3 hs
theorem TabI.del{c:Nat}{S0 S:StoreD}{Ts0 Ts:Nat→TrD}{l:List OpD}{id:Int}{t:Nat}(h:TabI c S0 Ts0 l t)(hb:DelB S0 Ts0 l id S Ts):TabI c S Ts (delO l id) t:=
 ⟨hb.tab,V7k h.ris id,fun i hi=>Nat.le_trans (hb.pot hi (h.slim i hi)).1 (h.pot i hi),fun i hi=>(hb.pot hi (h.slim i hi)).2,by have:=hb.more.1;have:=h.room;omega⟩
theorem X8e(i:Nat)(o:OpD):(wayK i o).size≤24:=by
 unfold wayK
 rw[Z0h,Z1t]
 have:=Z3q i o
 omega
theorem TabI.put{c:Nat}{S0 S:StoreD}{Ts0 Ts:Nat→TrD}{l:List OpD}{o:OpD}{t:Nat}(h:TabI c S0 Ts0 l t)(ho:Z2e o=0)(hb:PutB S0 Ts0 l o S Ts):TabI c S Ts (wiO l o) (t+1):=by
 obtain⟨S1,Ts1,hd,hp,hr⟩:=hb.via
 have h1:=h.del hd
 have hpt:∀i,i<5→potT (Ts i)≤potT (Ts1 i)+1∧Slim (Ts i):=fun i hi=>by
  obtain⟨Sa,Sb,q1,q2,q3⟩:=hp i hi
  exact V9i q3 q1 q2 (Y2m i o) (Z9e i (OpIn.of ho)) (X8e i o) (h1.slim i hi)
 refine⟨hb.list h.ris,X8c l o h.ris,fun i hi=> ?_,fun i hi=>(hpt i hi).2,?_⟩
 ·have:=(hpt i hi).1
  have:=h1.pot i hi
  omega
 ·have h2:=Y3p h1.pot 5 (Nat.le_refl _)
  have h3:=h1.room
  show c≤Z0z S+(Y1r t+5*((t+26)/9))
  omega
structure Soil (n:Nat) (C S:StoreD):Prop where
 same:S= { C with dirty:=S.dirty}
 list:∃L:List Nat,L.length≤n∧∀b:Nat,2≤b→(S.dirty (b:Int)≠none∨Z0y S b=true)→b∈L
theorem Soil.big{n m i:Nat}{P:Nat→Prop}{F G:List Nat}{C S S':StoreD}(h:Soil n C S)(hb:Big i P F G S S')(hP:∀b,P b→Z0y S b=true)(hF:F.length≤m):Soil (n+m) C S':=by
 obtain⟨L,hL,h1⟩:=h.list
 refine⟨by rw[hb.same,h.same],L++F,by rw[List.length_append];omega,fun b h2 hq=> ?_⟩
 rw[List.mem_append]
 rcases hq with q | q
 ·rcases hb.dirt b h2 q with q | q | q
  ·exact .inl (h1 b h2 (.inl q))
  ·exact .inl (h1 b h2 (.inr (hP b q)))
  ·exact .inr q
 ·rcases((hb.used b).1 q).1 with q | q
  ·exact .inl (h1 b h2 (.inr q))
  ·exact .inr q
theorem Soil.more{n m:Nat}{C S:StoreD}(h:Soil n C S)(hm:n≤m):Soil m C S:=
 ⟨h.same,let ⟨L,h1,h2⟩:=h.list;⟨L,Nat.le_trans h1 hm,h2⟩⟩
theorem Soil.del{n i:Nat}{k:ByteArray}{C S S':StoreD}{T T':TrD}(h:Soil n C S)(hi:i<16)(hp:Z9w S i k S' T' T)(hf:Fm S)(ht:TrS S i T)(hk:∃x∈T.list,x.1=k):Soil n C S':=by
 obtain⟨G,hl⟩:=X0l hi hp hf ht hk
 exact h.big hl.big (fun b q=>(ht.given b q).2.2) (Nat.le_refl 0)
theorem V7d{α β:Type}(f:α→List β)(l:List α)(i:Nat)(x:α):((insL l i x).flatMap f).length=(l.flatMap f).length+(f x).length:=by
 unfold insL
 conv=>rhs;rw[←List.take_append_drop i l]
 simp only[List.flatMap_append,List.flatMap_cons,List.length_append]
 omega
theorem V7c{α β:Type}(f:α→List β)(l:List α){j:Nat}{c c':α}(hc:l[j]? =some c):((l.set j c').flatMap f).length+(f c).length=(l.flatMap f).length+(f c').length:=by
 obtain⟨hj,rfl⟩:=List.getElem?_eq_some_iff.1 hc
 rw[Z7e f l hj,Z6a f l hj]
 simp only[List.length_append]
 omega
theorem X6h:∀(d:Nat) {S S':StoreD} {t t':TT d} {k v:ByteArray} {o:Option (ByteArray×TT d)},PutR d S t k v S' t' o→Fm S→onT S d t→okT d t→Z3g k→v.size≤80→(Z0a d t).Nodup→o=none→(Z0a d t').length≤(Z0a d t).length+d
 | 0,_,_,_,_,_,_,_,_,_,_,_,_,_,_,_=>Nat.le_refl 1
 | d+1,S,S',t,t',k,v,o,h,hf,hon,hok,hk,hv,hnd,ho=>by
   obtain⟨c,hc,S1,c',o1,h1,h2⟩:=h
   have hcm:c∈InT.kids t:=List.mem_of_getElem? hc
   obtain⟨F1,q⟩:=Z4z d h1 hf (hon.2 c hcm) (hok.2.2.2.1 c hcm) hk hv ((Z1c hnd).1 c hcm).2
   have hl:=q.pages.length_eq
   have hq:F1.length≤d+1:=q.len
   rw[List.length_append,List.length_append]at hl
   have hp:∀x:TT (d+1),(Z0a (d+1) x).length=((InT.kids x).flatMap (Z0a d)).length+1:=fun x=>rfl
   have hs:=V7c (Z0a d) (InT.kids t) (c':=c') hc
   rw[hp,hp]
   cases o1 with
   | none=>
     obtain⟨_,rfl,_⟩:=h2
     have e:(Z8e d none).length=0:=rfl
     show((InT.kids t).set _ c' |>.flatMap (Z0a d)).length+1≤_
     omega
   | some x=>
     obtain⟨y,_,hy⟩:=h2
     cases y with
     | some y=>
       obtain⟨mid,_,_,e⟩:=hy
       rw[ho]at e
       cases e
     | none=>
       obtain⟨rfl,_⟩:=hy
       have e:(Z8e d (some x)).length=(Z0a d x.2).length:=rfl
       have hi:=V7d (Z0a d) ((InT.kids t).set (Z0g (InT.keys t) k) c') (Z0g (InT.keys t) k+1) x.2
       show((insL ((InT.kids t).set _ c') _ x.2).flatMap (Z0a d)).length+1≤_
       omega
def Y3y(T:TrD):Nat:=(potT T+17)/9
theorem X5y{S S':StoreD}{i:Nat}{k v:ByteArray}{T T':TrD}(hi:i<16)(h:Y1u S i k v S' T' T)(hf:Fm S)(ht:TrS S i T)(hk:Z3g k)(hv:v.size≤80)(hk24:k.size≤24)(hs:Slim T):∃F,PutTL S i T k v S' T' F∧F.length≤Y3y T:=by
 obtain⟨F,hl⟩:=Y9k hi h hf ht hk hv
 refine⟨F,hl,?_⟩
 have hp:=hl.pages.length_eq
 rw[List.length_append]at hp
 unfold Y3y
 cases T with
 | no=>
   obtain⟨a,_,_,rfl⟩:=h
   have e1:(TrD.pages (.yes 0 (LeafT.mk a [k] [v]))).length=1:=rfl
   have e2:(TrD.pages .no).length=0:=rfl
   have e3:potT .no=0:=rfl
   omega
 | yes d t=>
   obtain⟨_,hon,hok,hnd⟩:=ht
   obtain⟨S1,t',o,h1,h2⟩:=h
   obtain⟨F1,q⟩:=Z4z d h1 hf hon hok hk hv hnd
   have hl1:=q.pages.length_eq
   have hq:F1.length≤d+1:=q.len
   rw[List.length_append,List.length_append]at hl1
   have e0:(TrD.pages (.yes d t)).length=(Z0a d t).length:=rfl
   cases o with
   | none=>
     obtain⟨_,rfl⟩:=h2
     have h3:=X6h d h1 hf hon hok hk hv hnd rfl
     have e1:(TrD.pages (.yes d t')).length=(Z0a d t').length:=rfl
     cases d with
     | zero=>have e2:potT (.yes 0 t)=1:=rfl;omega
     | succ d=>have e2:potT (.yes (d+1) t)=1+9*d+min (InT.keys t).length 9:=rfl;omega
   | some x=>
     obtain⟨top,_,_,rfl⟩:=h2
     have e1:(TrD.pages (.yes (d+1) (InT.mk top [x.1] [t',x.2]))).length=(Z0a d t').length+(Z0a d x.2).length+1:=by
      show(top:: [t',x.2].flatMap (Z0a d)).length=_
      simp
     have e3:(Z8e d (some x)).length=(Z0a d x.2).length:=rfl
     cases d with
     | zero=>have e2:potT (.yes 0 t)=1:=rfl;omega
     | succ d=>
       have h4:=(Y3a h1 hf hon hok hk hv hnd hk24 hs).2 (by intro e;cases e)
       have e2:potT (.yes (d+1) t)=1+9*d+min (InT.keys t).length 9:=rfl
       omega
theorem Soil.put{n i:Nat}{k v:ByteArray}{C S S':StoreD}{T T':TrD}(h:Soil n C S)(hi:i<16)(hp:Y1u S i k v S' T' T)(hf:Fm S)(ht:TrS S i T)(hk:Z3g k)(hv:v.size≤80)(hk24:k.size≤24)(hs:Slim T):Soil (n+Y3y T) C S':=by
 obtain⟨F,hl,hn⟩:=X5y hi hp hf ht hk hv hk24 hs
 exact h.big hl.big (fun b q=>(ht.given b q).2.2) hn
def X0g(Ts:Nat→TrD):Nat→Nat
 | 0=>0
 | k+1=>X0g Ts k+Y3y (Ts k)
def Y8y:Nat→Nat
 | 0=>0
 | t+1=>Y8y t+5*((t+17)/9)
theorem Y0f:∀ {a b:Nat},a≤b→Y8y a≤Y8y b
 | a,0,h=>by rw[Nat.le_zero.1 h];exact Nat.le_refl _
 | a,b+1,h=>by
   by_cases e:a=b+1
   ·rw[e];exact Nat.le_refl _
   ·have:=Y0f (show a≤b by omega)
    show Y8y a≤Y8y b+_
    omega
theorem Y5y{Ts:Nat→TrD}{t:Nat}(h:∀i,i<5→potT (Ts i)≤t):∀k,k≤5→X0g Ts k≤k*((t+17)/9)
 | 0,_=>Nat.zero_le _
 | k+1,hk=>by
   have h1:=Y5y h k (by omega)
   have h3:=h k (by omega)
   have h4:Y3y (Ts k)≤(t+17)/9:=by unfold Y3y;omega
   show X0g Ts k+Y3y (Ts k)≤_
   rw[Nat.succ_mul]
   omega
theorem Soil.dirty{n:Nat}{C S:StoreD}(h:Soil n C S)(N:Nat):(Z2i N S.dirty).length≤n+2:=by
 obtain⟨L,hL,h1⟩:=h.list
 have hsub:Z2i N S.dirty ⊆ 0::1::L:=fun b hb=>by
  obtain⟨_,h2⟩:=Z7s.1 hb
  by_cases h0:b<2
  ·rcases(show b=0∨b=1 by omega)with rfl | rfl<;>simp
  ·have:=h1 b (by omega) (.inl (fun e=>by rw[e]at h2;cases h2))
   simp[this]
 have:=(Y1n N S.dirty).length_le_of_subset hsub
 simp only[List.length_cons]at this
 omega
theorem Soil.start(n room:Nat):Soil 0 (Z1j n room) (Z1j n room):=by
 refine⟨rfl,[],Nat.le_refl _,fun b h2 hq=> ?_⟩
 exfalso
 rcases hq with q | q
 ·apply q
  show updI (updI Y9t 0 _) 1 _ (b:Int)=none
  rw[Z3i _ _ (by omega),Z3i _ _ (by omega)]
  rfl
 ·unfold Z1j at q
  rw[Y1x]at q
  have:=of_decide_eq_true q
  omega
theorem V8f(ts:Nat→Nat)(w:World){k:Nat}(hk:k<5):Sem.run Tryz.prog (Instr.index 117 (.agg #[tp (ts 0),tp (ts 1),tp (ts 2),tp (ts 3),tp (ts 4)]) (.int .i64 (k:Nat))) w= .ok (tp (ts k)) w:=by
 rcases(show k=0∨k=1∨k=2∨k=3∨k=4 from by omega)with rfl | rfl | rfl | rfl | rfl
 ·exact X9k ts w
 ·exact X9j ts w
 ·exact X9i ts w
 ·exact X9h ts w
 ·exact X9g ts w
structure DelZ (tb p:Nat) (ts:Nat→Nat) (A:StoreD) (Ts0:Nat→TrD) (L:Nat→List OpD) (o:OpD) (R:Nat) (F0:Nat→Prop) (w:World) (k:Nat) (wr:World) (S:StoreD) (Ts:Nat→TrD) (F:Nat→Prop):Prop extends DelK tb p ts Ts0 L o R F0 w k wr S Ts F where
 soil:∀n C,Soil n C A→Soil n C S
theorem X5t{tb p:Nat}{ts:Nat→Nat}{F:Nat→Prop}{S0:StoreD}{Ts0:Nat→TrD}{L:Nat→List OpD}(o:OpD)(w:World)(ht:TblAt w tb p ts F)(hp:PagerAt w p F S0)
 (hT:Tab S0 Ts0 L)(ho:∀i,i<5→o∈L i)(hd:∀i,i<5→depT (Ts0 i)≤31):
  Calls Tryz.prog 59 #[.pointer (some ⟨tb,0,none⟩),.int .i64 o.id] w fun e w'=>e= .returned (.int .i64 0)∧∃S' Ts' F',DelZ tb p ts S0 Ts0 L o (Z0z S0) F w 5 w' S' Ts' F':=by
 have hck:=hT.ok 0 (by omega) o (ho 0 (by omega))
 have hin:=OpIn.of hck
 have cG:Calls Tryz.prog 60 #[.pointer (some ⟨tb,0,none⟩),.int .i64 o.id] w fun e w'=>e= .returned (.tuple #[.agg #[.int .i64 o.id,.int .i64 o.proc,.int .i64 o.object,.int .i64 o.kind,.int .i64 o.method,.int .i64 o.arg,.int .i64 o.second,.bool o.done,.int .i64 o.result,.int .i64 o.invoke,.int .i64 o.ret],.int .i64 0])∧∃F',TblAt w' tb p ts F'∧PagerAt w' p F' S0∧Keeps F F' w w'∧∀i,F' i→i<w'.heap.size:=by
  have h1:=Y0a o.id w ht hp hT (hd 0 (by omega)) (by have:=hin.id;unfold In64;omega)
  rw[V2c (hT.ids 0 (by omega)) (ho 0 (by omega))]at h1
  refine h1.mono ?_
  rintro e w' ⟨rfl,F',q1,q2,q3⟩
  exact⟨rfl,fun i=>F' i∧i<w'.heap.size,⟨q1.row,q1.tree,fun q=>q1.out q.1,fun j hj q=>q1.outs j hj q.1⟩,q2.shrink,q3.shrink,fun i q=>q.2⟩
 have cW:Hid (∀i W,i<5→Calls Tryz.prog 120 #[.int .i64 (i:Nat),.agg #[.int .i64 o.id,.int .i64 o.proc,.int .i64 o.object,.int .i64 o.kind,.int .i64 o.method,.int .i64 o.arg,.int .i64 o.second,.bool o.done,.int .i64 o.result,.int .i64 o.invoke,.int .i64 o.ret]] W fun e w'=>e= .returned (.string (wayK i o))∧Ext W w'):=fun i W hi=>Z8u i o W hi (hin.way i)
 have HO:=hD ho
 have HD:=hD hd
 have HTAB:=hD hT
 generalize hR:Z0z S0=R at *
 have HRR:Hid (Z0z S0=R):=hR
 clear hd hT hR ht hp hin ho hck
 have cDel:Hid (∀(F0:Nat→Prop) (W0:World) k,k<5→∀(W wr:World) (S1:StoreD) (Ts1:Nat→TrD) (F1:Nat→Prop),DelZ tb p ts S0 Ts0 L o R F0 W0 k wr S1 Ts1 F1→Ext wr W→Calls Tryz.prog 124 #[.pointer (some ⟨ts k,0,none⟩),.string (wayK k o)] W fun e w'=>e= .returned (.int .i64 0)∧∃S' Ts' F',DelZ tb p ts S0 Ts0 L o R F0 W0 (k+1) w' S' Ts' F'):=fun F0 W0 k hk W wr S1 Ts1 F1 h hW=>by
  have hsame:=h.same k (Nat.le_refl _)
  have hdk:=HD.out k hk
  have hin:∃x∈(Ts1 k).list,x.1=wayK k o:=⟨_,(h.tab.mem k hk _).2 ⟨o,by rw[if_neg (Nat.lt_irrefl _)];exact HO.out k hk,rfl⟩,rfl⟩
  refine(V4g (Ts1 k) (wayK k o) W ((h.at_.ext hW).tree k hk) (h.at_.outs k hk) (h.pag.ext hW) h.tab.fm (by omega) (h.tab.tr k hk) (by rw[hsame];exact Z9q hdk) hin).mono ?_
  rintro e w' ⟨rfl,S',T',F',hp,hp',hkp⟩
  exact⟨rfl,S',_,F',⟨h.step hk (HO.out k hk) hp hp' ((Keeps.of hW).trans hkp),fun n C q=>(h.soil n C q).del (by omega) hp h.tab.fm (h.tab.tr k hk) hin⟩⟩
 go_enter Tryz.func59,Tryz.ntmps59
 go_upto_region 4 with (go_at_call 60;(with_reducible refine cG.mono ?_);clear cG;rintro e w1 ⟨rfl,F1,ht1,hp1,hk1,hl1⟩;have HT1:=hD ht1;have HP1:=hD hp1;have HK1:=hD hk1;have HL1:=hD hl1;clear ht1 hp1 hk1 hl1)
 generalize hB:w1.heap.size=B at *
 generalize hW2:World.alloc w1 _=W2
 have HX2:Hid (Ext w1 W2):=by unfold Hid;rw[←hW2];exact Ext.alloc _ _
 have HR0:Hid (Row1 W2 B 32 o.cells):=by unfold Hid;rw[←hW2,←hB];exact Row1.made w1 _ _
 have HLT:Hid (¬F1 B):=fun q=>by have:=HL1.out B q;omega
 have HWID:Hid (∀(F':Nat→Prop) (w':World),Keeps F1 F' W2 w'→Keeps F F' w w'):=fun F' w' h=>(HK1.out.ext HX2.out).trans h
 have HPK:Hid (DelZ tb p ts S0 Ts0 L o R F1 W2 0 W2 S0 Ts0 F1):=⟨⟨HT1.out.ext HX2.out,HP1.out.ext HX2.out,Keeps.refl,HTAB.out.congr (fun i _=>rfl) (fun i _=>rfl),fun i hi=>absurd hi (by omega),fun i _=>rfl,fun i=>Nat.le_refl _,fun i=>Nat.le_refl _,by rw[HRR.out]⟩,fun n C q=>q⟩
 have t0:W2.cell? ⟨tb,0,none⟩=some (tp (ts 0)):=HPK.out.at_.row.cell 0
 have t1:W2.cell? ⟨tb,1,none⟩=some (tp (ts 1)):=HPK.out.at_.row.cell 1
 have t2:W2.cell? ⟨tb,2,none⟩=some (tp (ts 2)):=HPK.out.at_.row.cell 2
 have t3:W2.cell? ⟨tb,3,none⟩=some (tp (ts 3)):=HPK.out.at_.row.cell 3
 have t4:W2.cell? ⟨tb,4,none⟩=some (tp (ts 4)):=HPK.out.at_.row.cell 4
 clear hW2 hB HK1 HL1 HT1 HP1 HX2
 go_wp2_with fail
 clear t0 t1 t2 t3 t4
 go_loopw [23] (fun x wr=>∃(k:Nat) (S1:StoreD) (Ts1:Nat→TrD) (F2:Nat→Prop),k≤5∧x= .int .i64 (k:Nat)∧DelZ tb p ts S0 Ts0 L o R F1 W2 k wr S1 Ts1 F2) (fun x _=>5-(intOf x).toNat)
 case atStart=>exact⟨0,S0,Ts0,F1,by omega,rfl,HPK.out⟩
 case round=>
  obtain⟨k,S1,Ts1,F2,hk,rfl,hpk⟩:=hrel
  have HP:=hD hpk
  clear hpk
  obtain⟨b0,b1,b2,b3,b4,b5,b6,b7,b8,b9,b10⟩:=At11.row (HP.out.keep.only.row HR0.out HLT.out)
  by_cases hk5:k=5
  ·subst hk5
   go_wp2_with fail
   go_ret
   have h1:=HP.out
   exact⟨rfl,S1,Ts1,F2,⟨h1.at_,h1.pag,HWID.out _ _ h1.keep,h1.tab,h1.done,h1.same,h1.dep,h1.less,h1.room⟩,h1.soil⟩
  ·have hk4:k<5:=by omega
   have q1:decide ((k:Int)<5)=true:=decide_eq_true (by omega)
   have q2:(k:Int)<5:=by omega
   have cP:Hid (∀W,Ext wr W→Calls Tryz.prog 124 #[.pointer (some ⟨ts k,0,none⟩),.string (wayK k o)] W fun e w'=>e= .returned (.int .i64 0)∧∃S' Ts' F',DelZ tb p ts S0 Ts0 L o R F1 W2 (k+1) w' S' Ts' F'):=fun W hW=>cDel.out _ _ k hk4 W wr S1 Ts1 F2 HP.out hW
   have cW1:Hid (∀W,Calls Tryz.prog 120 #[.int .i64 (k:Nat),.agg #[.int .i64 o.id,.int .i64 o.proc,.int .i64 o.object,.int .i64 o.kind,.int .i64 o.method,.int .i64 o.arg,.int .i64 o.second,.bool o.done,.int .i64 o.result,.int .i64 o.invoke,.int .i64 o.ret]] W fun e w'=>e= .returned (.string (wayK k o))∧Ext W w'):=fun W=>cW.out k W hk4
   generalize wayK k o=ky at cP cW1
   have hix:=V8f ts wr hk4
   generalize hTK:ts k=tk at cP hix
   clear cW cDel hTK hk5
   go_wp2_with (first
    | (go_at_call 120;(with_reducible refine(cW1.out _).mono ?_);clear cW1;rintro e w2 ⟨rfl,hb2⟩)
    | (go_at_call 124;(with_reducible refine(cP.out _ hb2).mono ?_);clear cP;rintro e w3 ⟨rfl,S3,Ts3,F3,hp3⟩;have HP3:=hD hp3;clear hp3))
   go_roundw
   case rel=>exact⟨k+1,S3,Ts3,F3,by omega,by go_num,HP3.out⟩
   case measure=>simp[intOf];omega
structure PutZ (tb p:Nat) (ts:Nat→Nat) (A:StoreD) (Ts0:Nat→TrD) (L:Nat→List OpD) (o:OpD) (R:Nat) (F0:Nat→Prop) (w:World) (k:Nat) (wr:World) (S:StoreD) (Ts:Nat→TrD) (F:Nat→Prop):Prop extends PutK tb p ts Ts0 L o R F0 w k wr S Ts F where
 soil:(∀i,i<5→Slim (Ts0 i))→∀n C,Soil n C A→Soil (n+X0g Ts0 k) C S
theorem Y8t{tb p:Nat}{ts:Nat→Nat}{F:Nat→Prop}{S0:StoreD}{L:Nat→List OpD}(Q:StoreD→(Nat→TrD)→Prop)(o:OpD)(w:World)(ht:TblAt w tb p ts F)(hp:PagerAt w p F S0)(ho:Z2e o=0)
 (hdel:∀(W:World) (F1:Nat→Prop),TblAt W tb p ts F1→PagerAt W p F1 S0→Calls Tryz.prog 59 #[.pointer (some ⟨tb,0,none⟩),.int .i64 o.id] W fun e w'=>∃ev S Ts0,(ev=0∨ev=6)∧e= .returned (.int .i64 ev)∧Q S Ts0∧∃F',TblAt w' tb p ts F'∧PagerAt w' p F' S∧Keeps F1 F' W w')
 (hQ:∀S Ts0,Q S Ts0→Tab S Ts0 L∧(∀i,i<5→depT (Ts0 i)≤31)∧Z4p Ts0 5≤Z0z S)(hno:∀i,i<5→∀x∈L i,x.id≠o.id):
  Calls Tryz.prog 55 #[.pointer (some ⟨tb,0,none⟩),o.val] w fun e w'=>e= .returned (.int .i64 0)∧∃S Ts0,Q S Ts0∧∃S' Ts' F',PutZ tb p ts S Ts0 L o (Z0z S) F w 5 w' S' Ts' F':=by
 have hin:=OpIn.of ho
 have HOK:=hD ho
 obtain⟨W0,hW0⟩:∃W0,w.alloc (.cells #[.int .i64 o.id,.int .i64 o.proc,.int .i64 o.object,.int .i64 o.kind,.int .i64 o.method,.int .i64 o.arg,.int .i64 o.second,.bool o.done,.int .i64 o.result,.int .i64 o.invoke,.int .i64 o.ret] 32)=W0:=⟨_,rfl⟩
 have HX0:Hid (Ext w W0):=by unfold Hid;rw[←hW0];exact Ext.alloc _ _
 have HR0:Hid (Row1 W0 w.heap.size 32 o.cells):=by unfold Hid;rw[←hW0];exact Row1.made w _ _
 have HT0:Hid (TblAt W0 tb p ts (fun i=>F i∧i<w.heap.size)):=TblAt.ext (F:=fun i=>F i∧i<w.heap.size) ⟨ht.row,ht.tree,fun q=>ht.out q.1,fun j hj q=>ht.outs j hj q.1⟩ HX0.out
 have HP0:Hid (PagerAt W0 p (fun i=>F i∧i<w.heap.size) S0):=PagerAt.ext (F:=fun i=>F i∧i<w.heap.size) hp.shrink HX0.out
 have HWID:Hid (∀(F':Nat→Prop) (w':World),Keeps (fun i=>F i∧i<w.heap.size) F' W0 w'→Keeps F F' w w'):=fun F' w' h=>((Keeps.of HX0.out).trans h).widen (fun i q=>q.1)
 have HLT:Hid (¬(fun i=>F i∧i<w.heap.size) w.heap.size):=fun q=>absurd q.2 (Nat.lt_irrefl _)
 generalize (fun i=>F i∧i<w.heap.size)=F0 at *
 have HRES:=hin.result
 have cE:Hid (∀W,Calls Tryz.prog 118 #[.agg #[.int .i64 o.id,.int .i64 o.proc,.int .i64 o.object,.int .i64 o.kind,.int .i64 o.method,.int .i64 o.arg,.int .i64 o.second,.bool o.done,.int .i64 o.result,.int .i64 o.invoke,.int .i64 o.ret]] W fun e w'=>e= .returned (.tuple #[.string (bts (opL o)),.int .i64 0])∧Ext W w'):=fun W=>by
  have h1:=Z6x o W (by omega)
  rw[ho,if_pos rfl]at h1
  exact h1
 have cM:Hid (∀W,Ext W0 W→Calls Tryz.prog 70 #[.pointer (some ⟨tb,0,none⟩)] W fun e w'=>e= .returned (.bool true)∧W=w'):=fun W hW=>Z3j W (HT0.out.ext hW).row
 have cD:Hid (∀W,Ext W0 W→Calls Tryz.prog 59 #[.pointer (some ⟨tb,0,none⟩),.int .i64 o.id] W fun e w'=>∃ev S Ts0,(ev=0∨ev=6)∧e= .returned (.int .i64 ev)∧Q S Ts0∧∃F',TblAt w' tb p ts F'∧PagerAt w' p F' S∧Keeps F0 F' W w'):=fun W hW=>hdel W F0 (HT0.out.ext hW) (HP0.out.ext hW)
 have cW:Hid (∀i W,i<5→Calls Tryz.prog 120 #[.int .i64 (i:Nat),.agg #[.int .i64 o.id,.int .i64 o.proc,.int .i64 o.object,.int .i64 o.kind,.int .i64 o.method,.int .i64 o.arg,.int .i64 o.second,.bool o.done,.int .i64 o.result,.int .i64 o.invoke,.int .i64 o.ret]] W fun e w'=>e= .returned (.string (wayK i o))∧Ext W w'):=fun i W hi=>Z8u i o W hi (hin.way i)
 have HNO:=hD hno
 have HQ:=hD hQ
 clear hdel hno hQ ht hp hin ho
 have cPut0:Hid (∀S Ts0 R,Q S Ts0→Z0z S=R→∀k,k<5→∀(W wr:World) (S1:StoreD) (Ts1:Nat→TrD) (F1:Nat→Prop),PutZ tb p ts S Ts0 L o R F0 W0 k wr S1 Ts1 F1→Ext wr W→Calls Tryz.prog 119 #[.pointer (some ⟨ts k,0,none⟩),.string (wayK k o),.string (recW k o)] W fun e w'=>e= .returned (.int .i64 0)∧∃S' Ts' F',PutZ tb p ts S Ts0 L o R F0 W0 (k+1) w' S' Ts' F'):=fun S Ts0 R hq hRR k hk W wr S1 Ts1 F1 h hW=>by
  obtain⟨_,jH,hR⟩:=HQ.out S Ts0 hq
  rw[hRR]at hR
  have hsame:=h.same k (Nat.le_refl _)
  have hneed:=Y7k Ts0 k 5 hk
  have hdk:=jH k hk
  have hr:=h.room
  have hrs:=Z9e k (OpIn.of HOK.out)
  refine(X2x (Ts1 k) (wayK k o) (recW k o) W ((h.at_.ext hW).tree k hk) (h.at_.outs k hk) (h.pag.ext hW) (by omega) h.tab.fm (h.tab.tr k hk) (Y2m k o) hrs (by rw[hsame];omega) (by rw[hsame];exact Z9q hdk)).mono ?_
  rintro e w' ⟨rfl,S',T',hp,F',hp',hkp⟩
  refine⟨rfl,S',_,F',⟨h.step hk HOK.out (HNO.out k hk) hp hp' ((Keeps.of hW).trans hkp),fun hs n C q=> ?_⟩⟩
  have hz1:=(h.soil hs n C q).put (by omega) hp h.tab.fm (h.tab.tr k hk) (Y2m k o) hrs (X8e k o) (by rw[hsame];exact hs k hk)
  rw[hsame,Nat.add_assoc]at hz1
  exact hz1
 go_enter Tryz.func55,Tryz.ntmps55
 go_upto_region 1 with fail
 clear hW0
 obtain⟨b0,b1,b2,b3,b4,b5,b6,b7,b8,b9,b10⟩:=At11.row HR0.out
 go_upto_region 7 with (first
  | (go_at_call 118;(with_reducible refine(cE.out _).mono ?_);clear cE;rintro e w1 ⟨rfl,hb1⟩;have b0:=(At11.row (HR0.out.ext hb1 HR0.out.lt)).1;have HB1:=hD hb1;clear hb1)
  | (go_at_call 70;(with_reducible refine(cM.out _ HB1.out).mono ?_);clear cM;rintro e w2 ⟨rfl,rfl⟩)
  | (go_at_call 59;(with_reducible refine(cD.out _ HB1.out).mono ?_);clear cD;rintro e w3 ⟨ev,S,Ts0,hev,rfl,hq3,F3,ht3,hp3,hk3⟩;have HQ3:=hD hq3;clear hq3;have HT3:=hD ht3;have HP3:=hD hp3;have HK3:Hid (Keeps F0 F3 W0 w3):=(Keeps.of HB1.out).trans hk3;clear ht3 hp3 hk3))
 have HTAB:Hid (Tab S Ts0 L):=(HQ.out S Ts0 HQ3.out).1
 obtain⟨R,hR⟩:∃R,Z0z S=R:=⟨_,rfl⟩
 have HRR:Hid (Z0z S=R):=hR
 have cPut:Hid (∀k,k<5→∀(W wr:World) (S1:StoreD) (Ts1:Nat→TrD) (F1:Nat→Prop),PutZ tb p ts S Ts0 L o R F0 W0 k wr S1 Ts1 F1→Ext wr W→Calls Tryz.prog 119 #[.pointer (some ⟨ts k,0,none⟩),.string (wayK k o),.string (recW k o)] W fun e w'=>e= .returned (.int .i64 0)∧∃S' Ts' F',PutZ tb p ts S Ts0 L o R F0 W0 (k+1) w' S' Ts' F'):=cPut0.out S Ts0 R HQ3.out hR
 clear hR cPut0
 have HPK:Hid (PutZ tb p ts S Ts0 L o R F0 W0 0 w3 S Ts0 F3):=⟨⟨HT3.out,HP3.out,HK3.out,HTAB.out.congr (fun i _=>rfl) (fun i _=>rfl),fun i hi=>absurd hi (by omega),fun i _=>rfl,by rw[HRR.out];exact Nat.le_refl _⟩,fun _ n C q=>q⟩
 have t0:w3.cell? ⟨tb,0,none⟩=some (tp (ts 0)):=HT3.out.row.cell 0
 have t1:w3.cell? ⟨tb,1,none⟩=some (tp (ts 1)):=HT3.out.row.cell 1
 have t2:w3.cell? ⟨tb,2,none⟩=some (tp (ts 2)):=HT3.out.row.cell 2
 have t3:w3.cell? ⟨tb,3,none⟩=some (tp (ts 3)):=HT3.out.row.cell 3
 have t4:w3.cell? ⟨tb,4,none⟩=some (tp (ts 4)):=HT3.out.row.cell 4
 clear b0 b1 b2 b3 b4 b5 b6 b7 b8 b9 b10
 go_cut [7,32] (fun _ v wx=>v= .bool false∧wx=w3)
 case first=>
  rcases hev with rfl | rfl
  ·go_wp2_with fail
   go_meet
   exact⟨rfl,rfl⟩
  ·go_wp2_with fail
   go_meet
   exact⟨rfl,rfl⟩
 case rest=>
 obtain⟨rfl,rfl⟩:=hcut
 go_wp2_with fail
 clear t0 t1 t2 t3 t4
 go_loopw [38] (fun x wr=>∃(k:Nat) (S1:StoreD) (Ts1:Nat→TrD) (F1:Nat→Prop),k≤5∧x= .int .i64 (k:Nat)∧PutZ tb p ts S Ts0 L o R F0 W0 k wr S1 Ts1 F1) (fun x _=>5-(intOf x).toNat)
 case atStart=>exact⟨0,S,Ts0,F3,by omega,rfl,HPK.out⟩
 case round=>
  obtain⟨k,S1,Ts1,F1,hk,rfl,hpk⟩:=hrel
  have HP:=hD hpk
  clear hpk
  obtain⟨b0,b1,b2,b3,b4,b5,b6,b7,b8,b9,b10⟩:=At11.row (HP.out.keep.only.row HR0.out HLT.out)
  by_cases hk5:k=5
  ·subst hk5
   go_wp2_with fail
   go_ret
   have h1:=HP.out
   refine⟨rfl,S,Ts0,HQ3.out,S1,Ts1,F1,?_⟩
   rw[HRR.out]
   exact⟨⟨h1.at_,h1.pag,HWID.out _ _ h1.keep,h1.tab,h1.done,h1.same,h1.room⟩,h1.soil⟩
  ·have hk4:k<5:=by omega
   have q1:decide ((k:Int)<5)=true:=decide_eq_true (by omega)
   have q2:(k:Int)<5:=by omega
   have cP:Hid (∀W,Ext wr W→Calls Tryz.prog 119 #[.pointer (some ⟨ts k,0,none⟩),.string (wayK k o),.string (recW k o)] W fun e w'=>e= .returned (.int .i64 0)∧∃S' Ts' F',PutZ tb p ts S Ts0 L o R F0 W0 (k+1) w' S' Ts' F'):=fun W hW=>cPut.out k hk4 W wr S1 Ts1 F1 HP.out hW
   have cW1:Hid (∀W,Calls Tryz.prog 120 #[.int .i64 (k:Nat),.agg #[.int .i64 o.id,.int .i64 o.proc,.int .i64 o.object,.int .i64 o.kind,.int .i64 o.method,.int .i64 o.arg,.int .i64 o.second,.bool o.done,.int .i64 o.result,.int .i64 o.invoke,.int .i64 o.ret]] W fun e w'=>e= .returned (.string (wayK k o))∧Ext W w'):=fun W=>cW.out k W hk4
   generalize wayK k o=ky at cP cW1
   have hix:=V8f ts wr hk4
   generalize hTK:ts k=tk at cP hix
   clear cW cPut hTK hk5
   by_cases hk0:k=0
   ·have q3:((k:Int)==0)=true:=by simp[hk0]
    have q4:decide ((k:Int)=0)=true:=decide_eq_true (by omega)
    rw[show recW k o=bts (opL o)from if_pos hk0]at cP
    clear hk0
    go_wp2_with (first
     | (go_at_call 120;(with_reducible refine(cW1.out _).mono ?_);clear cW1;rintro e w2 ⟨rfl,hb2⟩)
     | (go_at_call 119;(with_reducible refine(cP.out _ hb2).mono ?_);clear cP;rintro e w3 ⟨rfl,S3,Ts3,F3,hp3⟩;have HP3:=hD hp3;clear hp3))
    go_roundw
    case rel=>exact⟨k+1,S3,Ts3,F3,by omega,by go_num,HP3.out⟩
    case measure=>simp[intOf];omega
   ·have q3:((k:Int)==0)=false:=by simp[hk0]
    have q4:decide ((k:Int)=0)=false:=decide_eq_false (by omega)
    have q5:¬(k:Int)=0:=by omega
    rw[show recW k o=⟨#[]⟩from if_neg hk0]at cP
    clear hk0
    go_wp2_with (first
     | (go_at_call 120;(with_reducible refine(cW1.out _).mono ?_);clear cW1;rintro e w2 ⟨rfl,hb2⟩)
     | (go_at_call 119;(with_reducible refine(cP.out _ hb2).mono ?_);clear cP;rintro e w3 ⟨rfl,S3,Ts3,F3,hp3⟩;have HP3:=hD hp3;clear hp3))
    go_roundw
    case rel=>exact⟨k+1,S3,Ts3,F3,by omega,by go_num,HP3.out⟩
    case measure=>simp[intOf];omega
structure DelY (S0:StoreD) (Ts0:Nat→TrD) (l:List OpD) (id:Int) (S:StoreD) (Ts:Nat→TrD):Prop extends DelB S0 Ts0 l id S Ts where
 soil:∀n C,Soil n C S0→Soil n C S
theorem Y2o{tb p:Nat}{ts:Nat→Nat}{F:Nat→Prop}{S0:StoreD}{Ts0:Nat→TrD}{l:List OpD}(id:Int)(w:World)(ht:TblAt w tb p ts F)(hp:PagerAt w p F S0)
 (hT:Tab S0 Ts0 (fun _=>l))(hd:∀i,i<5→depT (Ts0 i)≤31)(hid:In64 id):
  Calls Tryz.prog 59 #[.pointer (some ⟨tb,0,none⟩),.int .i64 id] w fun e w'=>e= .returned (.int .i64 (delE l id))∧∃S Ts,DelY S0 Ts0 l id S Ts∧∃F',TblAt w' tb p ts F'∧PagerAt w' p F' S∧Keeps F F' w w':=by
 cases hg:getL l id with
 | none=>
   refine(Y2n id w ht hp hT (hd 0 (by omega)) hid hg).mono ?_
   rintro e w' ⟨rfl,h⟩
   exact⟨by unfold delE;rw[hg];rfl,S0,Ts0,⟨⟨by rw[V3c hg];exact hT,fun _=>Nat.le_refl _,fun _=>Nat.le_refl _,rfl,.inl ⟨rfl,hg⟩⟩,fun n C h=>h⟩,h⟩
 | some o=>
   have h0:=hg
   unfold getL at h0
   have hm:=List.mem_of_find?_eq_some h0
   have hi:o.id=id:=by have:=List.find?_some h0;simpa using this
   subst hi
   refine(X5t (L:=fun _=>l) o w ht hp hT (fun _ _=>hm) hd).mono ?_
   rintro e w' ⟨rfl,S,Ts,F',h⟩
   refine⟨by unfold delE;rw[hg];rfl,S,Ts,⟨⟨h.tab.congr (fun _ _=>rfl) (fun i hi=> ?_),h.dep,h.less,h.room,.inr ⟨o,hg,h.done⟩⟩,h.soil⟩,F',h.at_,h.pag,h.keep⟩
   rw[if_pos hi]
structure PutY (S0:StoreD) (Ts0:Nat→TrD) (l:List OpD) (o:OpD) (S:StoreD) (Ts:Nat→TrD):Prop where
 tab:Tab S Ts (fun _=>o::delO l o.id)
 via:∃S1 Ts1,DelY S0 Ts0 l o.id S1 Ts1∧(∀i,i<5→U0t i o (Ts1 i) (Ts i))∧Z0z S1≤Z0z S+Z4p Ts1 5∧((∀i,i<5→Slim (Ts1 i))→∀n C,Soil n C S1→Soil (n+X0g Ts1 5) C S)
theorem X1d{tb p:Nat}{ts:Nat→Nat}{F:Nat→Prop}{S0:StoreD}{Ts0:Nat→TrD}{l:List OpD}(o:OpD)(w:World)(ht:TblAt w tb p ts F)(hp:PagerAt w p F S0)(ho:Z2e o=0)
 (hT:Tab S0 Ts0 (fun _=>l))(hd:∀i,i<5→depT (Ts0 i)≤31)(hr:Z4p Ts0 5≤Z0z S0):
  Calls Tryz.prog 55 #[.pointer (some ⟨tb,0,none⟩),o.val] w fun e w'=>e= .returned (.int .i64 0)∧∃S Ts,PutY S0 Ts0 l o S Ts∧∃F',TblAt w' tb p ts F'∧PagerAt w' p F' S∧Keeps F F' w w':=by
 have hid:In64 o.id:=by have:=(OpIn.of ho).id;unfold In64;omega
 refine(Y8t (L:=fun _=>delO l o.id) (DelY S0 Ts0 l o.id) o w ht hp ho (fun W F1 h1 h2=>(Y2o o.id W h1 h2 hT hd hid).mono ?_) (fun S Ts h=>⟨h.tab,fun i hi=>Nat.le_trans (h.dep i) (hd i hi),by have:=h.more;omega⟩) (fun i _ x hx=>(Z9s.1 hx).2)).mono ?_
 ·rintro e w' ⟨rfl,S,Ts,hb,h⟩
  refine⟨_,S,Ts,?_,rfl,hb,h⟩
  unfold delE
  split
  ·exact .inl rfl
  ·exact .inr rfl
 ·rintro e w' ⟨rfl,S1,Ts1,hb,S,Ts,F',h⟩
  exact⟨rfl,S,Ts,⟨h.tab.congr (fun _ _=>rfl) (fun i hi=>by rw[if_pos hi]),S1,Ts1,hb,fun i hi=>h.done i hi,h.room,h.soil⟩,F',h.at_,h.pag,h.keep⟩
end Go.Proofs.YtmiolpfanlpfnaaGreat
