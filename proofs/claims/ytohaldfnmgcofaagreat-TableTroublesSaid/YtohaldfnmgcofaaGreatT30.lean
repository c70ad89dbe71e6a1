/- Delete in any tree: the key there, or not. Conditions: a tree that is not too deep. -/
import Derived.Test.YtohaldfnmgcofaaGreatT29
import Derived.Test.YtohaldfnmgcofaaGreatT27
set_option maxRecDepth 100000
set_option maxHeartbeats 4000000
set_option linter.unusedSimpArgs false
set_option linter.unusedVariables false
namespace Go.Proofs.YtohaldfnmgcofaaGreat
section
open Go.RowKit
theorem X4a{tr p i:Nat}{F:Nat->Prop}{S:StoreD}(T:TrD)(k:ByteArray)(w:World)(ht:Z0b w tr p i)(hnt:¬F tr)(h:PagerAt w p F S)(hf:Fm S)(hi:i<16)(hT:TrS S i T)(hd:T.fine)(hk:∃x∈T.list,x.1=k):
  cQ 31 #[tp tr,.string k] w fun e w'=>e= .returned (.int .i64 0)/\∃(S':StoreD) (T':TrD) (F':Nat->Prop),Z8t S i k S' T' T/\PagerAt w' p F' S'/\Keeps F F' w w':=by
 cases T with
 | no=>obtain⟨x,hx,_⟩:=hk;cases hx
 | yes d t=>exact V8r t k w ht hnt h hf hi hT hk hd (fun S1 t1 W F1 _ _ y1 y2 y3 y4 y5=>V8q (.yes d t1) W y3 y4 y5 hi y2 y1 hd)
theorem V3k{l:List OpD}(h:l.Pairwise (fun a b=>a.id≠b.id)){o:OpD}(ho:o∈l):getL l o.id=some o:=by
 cases hg:getL l o.id with
 | none=>
   unfold getL at hg;have:=List.find?_eq_none.1 hg o ho;simp at this
 | some x=>
   unfold getL at hg;have h1:x.id=o.id:=by have:=List.find?_some hg;simpa using this
   rw[Y4p h (List.mem_of_find?_eq_some hg) ho h1]
def Z4e(Ts:Nat->TrD):Nat->Nat
 | 0=>0
 | k+1=>Z4e Ts k+(Ts k).pages.length
theorem X0g{Ts Ts':Nat->TrD}{k:Nat}(h:∀i,i<k->Ts' i=Ts i):Z4e Ts' k=Z4e Ts k:=by
 induction k with
 | zero=>rfl
 | succ k ih=>rw[Z4e,Z4e,ih (fun i hi=>h i (by omega)),h k (by omega)]
structure DelK (tb p:Nat) (ts:Nat->Nat) (Ts0:Nat->TrD) (L:Nat->List OpD) (o:OpD) (R:Nat) (F0:Nat->Prop) (w:World) (k:Nat) (wr:World) (S:StoreD) (Ts:Nat->TrD) (F:Nat->Prop):Prop where
 at_:TblAt wr tb p ts F
 pag:PagerAt wr p F S
 keep:Keeps F0 F w wr
 tab:Tab S Ts (fun i=>if i<k then delO (L i) o.id else L i)
 done:∀i,i<k->∃Sa Sb,Fm Sa/\TrS Sa i (Ts0 i)/\(∃x∈(Ts0 i).list,x.1=wayK i o)/\Z8t Sa i (wayK i o) Sb (Ts i) (Ts0 i)
 same:∀i,k<=i->Ts i=Ts0 i
 dep:∀i,depT (Ts i)<=depT (Ts0 i)
 less:∀i,(Ts i).pages.length<=(Ts0 i).pages.length
 room:R+Z4e Ts0 k=Z0z S+Z4e Ts k
theorem DelK.step{tb p:Nat}{ts:Nat->Nat}{Ts0:Nat->TrD}{L:Nat->List OpD}{o:OpD}{R:Nat}{F0 F F':Nat->Prop}{w wr w':World}{k:Nat}{S S':StoreD}{Ts:Nat->TrD}{T':TrD}(h:DelK tb p ts Ts0 L o R F0 w k wr S Ts F)(hk:k<5)(ho:o∈L k)
 (hp:Z8t S k (wayK k o) S' T' (Ts k))(hp':PagerAt w' p F' S')(hkp:Keeps F F' wr w'):DelK tb p ts Ts0 L o R F0 w (k+1) w' S' (updF Ts k T') F':=by
 obtain⟨h1,h2,h3,h4⟩:=h.tab.delR hk (by rw[if_neg (Nat.lt_irrefl _)];exact ho) hp;have hs:=h.same k (aF _);refine⟨h.at_.keep hkp,hp',h.keep.trans hkp,h1.congr (fun i _=>rfl) (fun i _=> ?_),fun i hi=> ?_,fun i hi=> ?_,fun i=> ?_,fun i=> ?_,?_⟩
 ·by_cases e:i=k
  ·subst e;rw[Z0p,if_pos (by omega),if_neg (by omega)]
  ·rw[Z0i _ _ e];by_cases hl:i<k
   ·rw[if_pos hl,if_pos (by omega)]
   ·rw[if_neg hl,if_neg (by omega)]
 ·by_cases e:i=k
  ·subst e;rw[Z0p];exact⟨S,S',h.tab.fm,hs▸h.tab.tr i hk,hs▸⟨_,(h.tab.mem i hk _).2 ⟨o,by rw[if_neg (Nat.lt_irrefl _)];exact ho,rfl⟩,rfl⟩,hs▸hp⟩
  ·rw[Z0i _ _ e];exact h.done i (by omega)
 ·rw[Z0i _ _ (by omega)];exact h.same i (by omega)
 ·by_cases e:i=k
  ·subst e;rw[Z0p,<-hs];exact h3
  ·rw[Z0i _ _ e];exact h.dep i
 ·by_cases e:i=k
  ·subst e;rw[Z0p,<-hs];exact h4
  ·rw[Z0i _ _ e];exact h.less i
 ·have:=h.room;have e1:Z4e (updF Ts k T') k=Z4e Ts k:=X0g (fun i hi=>Z0i _ _ (by omega));show R+(Z4e Ts0 k+(Ts0 k).pages.length)=Z0z S'+(Z4e (updF Ts k T') k+(updF Ts k T' k).pages.length);rw[Z0p,e1];rw[hs]at h2;omega
theorem Y4a{Ts Ts':Nat->TrD}(h:∀i,(Ts' i).pages.length<=(Ts i).pages.length):∀k,Z4e Ts' k<=Z4e Ts k
 | 0=>aF _
 | k+1=>by have h1:=Y4a h k;have h2:=h k;show Z4e Ts' k+(Ts' k).pages.length<=Z4e Ts k+(Ts k).pages.length;omega
theorem Y6k{Ts Ts':Nat->TrD}(h:∀i,depT (Ts' i)<=depT (Ts i)):∀k,Z4y Ts' k<=Z4y Ts k
 | 0=>aF _
 | k+1=>by have h1:=Y6k h k;have h2:=h k;show Z4y Ts' k+(Ts' k).need<=Z4y Ts k+(Ts k).need;rw[Y0b,Y0b];omega
structure DelB (S0:StoreD) (Ts0:Nat->TrD) (l:List OpD) (id:Int) (S:StoreD) (Ts:Nat->TrD):Prop where
 tab:Tab S Ts (fun _=>delO l id)
 dep:∀i,depT (Ts i)<=depT (Ts0 i)
 less:∀i,(Ts i).pages.length<=(Ts0 i).pages.length
 room:Z0z S0+Z4e Ts0 5=Z0z S+Z4e Ts 5
 done:(Ts=Ts0/\getL l id=none)\/∃o,getL l id=some o/\∀i,i<5->∃Sa Sb,Fm Sa/\TrS Sa i (Ts0 i)/\(∃x∈(Ts0 i).list,x.1=wayK i o)/\Z8t Sa i (wayK i o) Sb (Ts i) (Ts0 i)
theorem DelB.more{S0 S:StoreD}{Ts0 Ts:Nat->TrD}{l:List OpD}{id:Int}(h:DelB S0 Ts0 l id S Ts):Z0z S0<=Z0z S/\Z4y Ts 5<=Z4y Ts0 5:=by have h1:=h.room;have h2:=Y4a h.less 5;exact⟨by omega,Y6k h.dep 5⟩
theorem V4h{l:List OpD}{id:Int}(h:getL l id=none):delO l id=l:=by unfold getL at h;rw[List.find?_eq_none]at h;unfold delO;rw[List.filter_eq_self];intro x hx;have:=h x hx;simpa using this
def delE(l:List OpD)(id:Int):Int:=if(getL l id).isSome then 0 else 6
structure PutB (S0:StoreD) (Ts0:Nat->TrD) (l:List OpD) (o:OpD) (S:StoreD) (Ts:Nat->TrD):Prop where
 tab:Tab S Ts (fun _=>o::delO l o.id)
 via:∃S1 Ts1,DelB S0 Ts0 l o.id S1 Ts1/\(∀i,i<5->U1y i o (Ts1 i) (Ts i))/\Z0z S1<=Z0z S+Z4y Ts1 5
theorem Ris.ids{l:List OpD}(h:Ris l):l.Pairwise (fun a b=>a.id≠b.id):=h.imp (fun q e=>by omega)
theorem U0a{l:List OpD}(h:Ris l)(o x:OpD):x∈wiO l o↔x=o\/(x∈l/\x.id≠o.id):=by
 rw[X9d];have ht:∀x∈l.takeWhile (fun x=>decide (x.id<o.id)),x.id<o.id:=fun x hx=>by have:=List.all_takeWhile (p:=fun x:OpD=>decide (x.id<o.id)) (l:=l);rw[List.all_eq_true]at this;exact of_decide_eq_true (this x hx)
 have hl:x∈l↔x∈l.takeWhile (fun x=>decide (x.id<o.id))\/x∈l.dropWhile (fun x=>decide (x.id<o.id)):=by rw[<-List.mem_append,List.takeWhile_append_dropWhile]
 rw[List.mem_append,List.mem_append,List.mem_singleton,List.mem_filter,hl];constructor
 ·rintro((h1 | h1) | ⟨h1,h2⟩)
  ·exact .inr ⟨.inl h1,by have:=ht x h1;omega⟩
  ·exact .inl h1
  ·exact .inr ⟨.inr h1,by simpa using h2⟩
 ·rintro(h1 | ⟨h1 | h1,h2⟩)
  ·exact .inl (.inr h1)
  ·exact .inl (.inl h1)
  ·exact .inr ⟨h1,by simpa using h2⟩
theorem V8t{l:List OpD}(h:Ris l)(id:Int):Ris (delO l id):=List.Pairwise.filter _ h
theorem Tab.list{S:StoreD}{Ts:Nat->TrD}{l r:List OpD}(h:Tab S Ts (fun _=>l))(hr:Ris r)(hm:∀x,x∈r↔x∈l):Tab S Ts (fun _=>r):=
 ⟨h.fm,h.tr,h.disj,fun i hi o ho=>h.ok i hi o ((hm o).1 ho),fun _ _=>hr.ids,fun i hi x=>(h.mem i hi x).trans ⟨fun ⟨o,q1,q2⟩=>⟨o,(hm o).2 q1,q2⟩,fun⟨o,q1,q2⟩=>⟨o,(hm o).1 q1,q2⟩⟩⟩
theorem PutB.list{S0 S:StoreD}{Ts0 Ts:Nat->TrD}{l:List OpD}{o:OpD}(h:PutB S0 Ts0 l o S Ts)(hr:Ris l):Tab S Ts (fun _=>wiO l o):=
 h.tab.list (X9c l o hr) (fun x=>by rw[U0a hr,List.mem_cons,Z5k])
def allD:TrD->List ByteArray
 | .no=> []
 | .yes d t=>allT d t
def Slim(T:TrD):Prop:=∀x∈allD T,x.size<=24
def potT:TrD->Nat
 | .no=>0
 | .yes 0 _=>1
 | .yes (d+1) t=>1+9*d+min (InT.keys t).length 9
theorem Y8g(T:TrD):9*T.need<=potT T+26:=by
 cases T with
 | no=>show 9*1<=0+26;omega
 | yes d t=>
   cases d with
   | zero=>show 9*2<=1+26;omega
   | succ d=>show 9*(d+1+2)<=1+9*d+min _ 9+26;omega
theorem Y3v{d:Nat}{S S':StoreD}{t t':TT (d+1)}{k v:ByteArray}{o:Option (ByteArray×TT (d+1))}(h:PutR (d+1) S t k v S' t' o)(hf:Fm S)(hon:onT S (d+1) t)(hok:okT (d+1) t)(hk:Z2o k)(hv:v.size<=80)(hnd:(Z0a (d+1) t).Nodup)(hk24:k.size<=24)(hs:∀x∈allT (d+1) t,x.size<=24):
  (o=none->(InT.keys t').length<=(InT.keys t).length+1)/\(o≠none->9<=(InT.keys t).length):=by
 obtain⟨c,hc,S1,c',o1,h1,h2⟩:=h;have hcm:c∈InT.kids t:=List.mem_of_getElem? hc;obtain⟨F1,q⟩:=Z5i d h1 hf (hon.2 c hcm) (hok.2.2.2.1 c hcm) hk hv ((Z1c hnd).1 c hcm).2;have hsk:∀x∈InT.keys t,x.size<=24:=fun x hx=>hs x (List.mem_append_left _ hx);have hsc:∀x∈allT d c,x.size<=24:=fun x hx=>hs x (List.mem_append_right _ (List.mem_flatMap.2 ⟨c,hcm,hx⟩));have hkl:=hok.2.1;cases o1 with
 | none=>
   obtain⟨_,rfl,rfl⟩:=h2;exact⟨fun _=>Nat.le_succ _,fun q=>absurd rfl q⟩
 | some x=>
   have hx24:x.1.size<=24:=by
    rcases(q.right x.1 x.2 rfl).key with e | e
    ·rw[e];exact hk24
    ·exact hsc _ e
   obtain⟨y,hcd,hy⟩:=h2;have hlen:(insL (InT.keys t) (Z0h (InT.keys t) k) x.1).length=(InT.keys t).length+1:=Z1b _ _ _;cases y with
   | none=>
     obtain⟨rfl,rfl⟩:=hy;exact⟨fun _=>Nat.le_of_eq hlen,fun q=>absurd rfl q⟩
   | some y=>
     obtain⟨m,r⟩:=y;obtain⟨mid,_,rfl,rfl⟩:=hy;refine⟨(fun q=>by cases q),fun _=> ?_⟩;have hbig:256<Z0n (Z0c (d+1) (InT.mk (InT.at_ t) (insL (InT.keys t) (Z0h (InT.keys t) k) x.1) (insL ((InT.kids t).set (Z0h (InT.keys t) k) c') (Z0h (InT.keys t) k+1) x.2))):=hcd.1;have hsz:Z0n (Z0c (d+1) (InT.mk (InT.at_ t) (insL (InT.keys t) (Z0h (InT.keys t) k) x.1) (insL ((InT.kids t).set (Z0h (InT.keys t) k) c') (Z0h (InT.keys t) k+1) x.2)))=2+2*((insL ((InT.kids t).set (Z0h (InT.keys t) k) c') (Z0h (InT.keys t) k+1) x.2).map (fun c=>(atT d c:Int))).length+Z0o (insL (InT.keys t) (Z0h (InT.keys t) k) x.1)+Z0o []:=rfl;rw[hsz,List.length_map,Z1b,List.length_set,hkl]at hbig;have hm:=Z3r (l:=insL (InT.keys t) (Z0h (InT.keys t) k) x.1) (q:=24) (fun y hy=>by
      rcases Z8j hy with e | e
      ·rw[e];exact hx24
      ·exact hsk y e)
     rw[hlen]at hm;have:Z0o []=0:=rfl;omega
theorem U0q{S S':StoreD}{i:Nat}{k v:ByteArray}{T T':TrD}(h:Y0r S i k v S' T' T)(hf:Fm S)(ht:TrS S i T)(hk:Z2o k)(hv:v.size<=80)(hk24:k.size<=24)(hs:Slim T):potT T'<=potT T+1/\Slim T':=by
 cases T with
 | no=>
   obtain⟨a,_,_,rfl⟩:=h;refine⟨aF _,fun x hx=> ?_⟩;have:x∈ [k]:=hx;rw[List.mem_singleton]at this;rw[this];exact hk24
 | yes d t=>
   obtain⟨_,hon,hok,hnd⟩:=ht;obtain⟨S1,t',o,h1,h2⟩:=h;obtain⟨F,q⟩:=Z5i d h1 hf hon hok hk hv hnd;have hA:∀x,(x=k\/x∈allT d t)->x.size<=24:=fun x hx=>by
    rcases hx with e | e
    ·rw[e];exact hk24
    ·exact hs x e
   cases o with
   | none=>
     obtain⟨_,rfl⟩:=h2;refine⟨?_,fun x hx=>hA x (q.all x hx)⟩;cases d with
     | zero=>show 1<=1+1;omega
     | succ d=>
       have:=(Y3v h1 hf hon hok hk hv hnd hk24 hs).1 rfl;show 1+9*d+min (InT.keys t').length 9<=1+9*d+min (InT.keys t).length 9+1;omega
   | some x=>
     obtain⟨mid,r⟩:=x;obtain⟨top,_,_,rfl⟩:=h2;have hR:=q.right mid r rfl;refine⟨?_,fun y hy=> ?_⟩
     ·show 1+9*d+min 1 9<=_;cases d with
      | zero=>show 1+9*0+min 1 9<=1+1;omega
      | succ d=>
        have:=(Y3v h1 hf hon hok hk hv hnd hk24 hs).2 (by intro e;cases e);show 1+9*(d+1)+min 1 9<=1+9*d+min (InT.keys t).length 9+1;omega
     ·have hy':y∈ [mid]++ [t',r].flatMap (allT d):=hy;rw[List.mem_append,List.mem_singleton,List.mem_flatMap]at hy';rcases hy' with e | ⟨z,hz,e⟩
      ·rw[e];exact hA _ hR.key
      ·rcases List.mem_cons.1 hz with rfl | hz
       ·exact hA _ (q.all y e)
       ·rw[List.mem_singleton]at hz;subst hz;exact hA _ (hR.all y e)
theorem V0f(i:Nat):∀(d:Nat) {S S':StoreD} {t:TT d} {T':TrD},ShrR i d S t S' T'->potT T'<=potT (.yes d t)/\∀x∈allD T',x∈allT d t
 | 0,_,_,_,_,h=>by
   obtain⟨_,rfl⟩:=h;exact⟨aF _,fun x hx=>hx⟩
 | d+1,_,_,t,_,h=>by
   rcases h with ⟨_,_,rfl⟩ | ⟨c,hc,h⟩
   ·exact⟨aF _,fun x hx=>hx⟩
   ·obtain⟨h1,h2⟩:=V0f i d h;refine⟨Nat.le_trans h1 ?_,fun x hx=> ?_⟩
    ·cases d with
     | zero=>show 1<=1+9*0+_;omega
     | succ d=>show 1+9*d+min _ 9<=1+9*(d+1)+min _ 9;omega
    ·show x∈InT.keys t++(InT.kids t).flatMap (allT d);rw[hc];exact List.mem_append_right _ (List.mem_flatMap.2 ⟨c,List.mem_singleton.2 rfl,h2 x hx⟩)
theorem X9w{d:Nat}{S S':StoreD}{t t':TT (d+1)}{k:ByteArray}(h:Y2n (d+1) S t k S' t'):(InT.keys t').length<=(InT.keys t).length:=by
 obtain⟨c,_,S1,c',_,h⟩:=h;rcases h with ⟨_,_,rfl⟩ | ⟨_,a,b,s,_,_,_,⟨_,_,rfl⟩ | ⟨_,_,rfl⟩⟩
 ·exact aF _
 ·exact aF _
 ·exact List.length_eraseIdx_le _ _
theorem U0r{S S':StoreD}{i:Nat}{k:ByteArray}{T T':TrD}(h:Z8t S i k S' T' T)(hf:Fm S)(ht:TrS S i T)(hk:∃x∈T.list,x.1=k)(hs:Slim T):potT T'<=potT T/\Slim T':=by
 cases T with
 | no=>exact h.elim
 | yes d t=>
   obtain⟨_,hon,hok,hnd⟩:=ht;obtain⟨S1,t1,htk,h⟩:=h;obtain⟨G1,hl⟩:=Z7a d htk hf hon hok ((Y0h d t hok k).2 hk) hnd;rcases h with ⟨_,_,rfl⟩ | ⟨_,h⟩
   ·exact⟨Nat.zero_le _,fun x hx=>by cases hx⟩
   ·obtain⟨h1,h2⟩:=V0f i d h;refine⟨Nat.le_trans h1 ?_,fun x hx=>hs x (hl.all x (h2 x hx))⟩;cases d with
    | zero=>exact aF _
    | succ d=>
      have:=X9w htk;show 1+9*d+min (InT.keys t1).length 9<=1+9*d+min (InT.keys t).length 9;omega
def Y2l:Nat->Nat
 | 0=>0
 | t+1=>Y2l t+5*((t+26)/9)
theorem Y1a:∀ {a b:Nat},a<=b->Y2l a<=Y2l b
 | a,0,h=>by rw[Nat.le_zero.1 h];exact aF _
 | a,b+1,h=>by
   by_cases e:a=b+1
   ·rw[e];exact aF _
   ·have:=Y1a (show a<=b by omega);show Y2l a<=Y2l b+_;omega
structure TabI (c:Nat) (S:StoreD) (Ts:Nat->TrD) (l:List OpD) (t:Nat):Prop where
 tab:Tab S Ts (fun _=>l)
 ris:Ris l
 pot:∀i,i<5->potT (Ts i)<=t
 slim:∀i,i<5->Slim (Ts i)
 room:c<=Z0z S+Y2l t
theorem Y4k{Ts:Nat->TrD}{t:Nat}(h:∀i,i<5->potT (Ts i)<=t):∀k,k<=5->Z4y Ts k<=k*((t+26)/9)
 | 0,_=>Nat.zero_le _
 | k+1,hk=>by
   have h1:=Y4k h k (by omega);have h2:=Y8g (Ts k);have h3:=h k (by omega);have h4:(Ts k).need<=(t+26)/9:=by omega
   show Z4y Ts k+(Ts k).need<=_;rw[Nat.succ_mul];omega
theorem TabI.dep{c:Nat}{S:StoreD}{Ts:Nat->TrD}{l:List OpD}{t:Nat}(h:TabI c S Ts l t)(ht:t<=40)(i:Nat)(hi:i<5):depT (Ts i)<=31:=by have h1:=Y8g (Ts i);have h2:=h.pot i hi;rw[Y0b]at h1;omega
theorem TabI.enough{c:Nat}{S:StoreD}{Ts:Nat->TrD}{l:List OpD}{t:Nat}(h:TabI c S Ts l t)(ht:Y2l (t+1)<=c):Z4y Ts 5<=Z0z S:=by have h1:=Y4k h.pot 5 (aF _);have h4:Y2l (t+1)=Y2l t+5*((t+26)/9):=rfl;have h5:=h.room;omega
theorem TabI.more{c:Nat}{S:StoreD}{Ts:Nat->TrD}{l:List OpD}{t u:Nat}(h:TabI c S Ts l t)(hu:t<=u):TabI c S Ts l u:=
 ⟨h.tab,h.ris,fun i hi=>Nat.le_trans (h.pot i hi) hu,h.slim,by have:=Y1a hu;have:=h.room;omega⟩
theorem DelB.pot{S0 S:StoreD}{Ts0 Ts:Nat->TrD}{l:List OpD}{id:Int}{i:Nat}(h:DelB S0 Ts0 l id S Ts)(hi:i<5)(hs:Slim (Ts0 i)):potT (Ts i)<=potT (Ts0 i)/\Slim (Ts i):=by
 rcases h.done with ⟨rfl,_⟩ | ⟨o,_,hd⟩
 ·exact⟨aF _,hs⟩
 ·obtain⟨Sa,Sb,q1,q2,q3,q4⟩:=hd i hi;exact U0r q4 q1 q2 q3 hs
theorem TabI.del{c:Nat}{S0 S:StoreD}{Ts0 Ts:Nat->TrD}{l:List OpD}{id:Int}{t:Nat}(h:TabI c S0 Ts0 l t)(hb:DelB S0 Ts0 l id S Ts):TabI c S Ts (delO l id) t:=
 ⟨hb.tab,V8t h.ris id,fun i hi=>Nat.le_trans (hb.pot hi (h.slim i hi)).1 (h.pot i hi),fun i hi=>(hb.pot hi (h.slim i hi)).2,by have:=hb.more.1;have:=h.room;omega⟩
theorem X9e(i:Nat)(o:OpD):(wayK i o).size<=24:=by unfold wayK;rw[Z0e,Z2r];have:=Z3w i o;omega
theorem TabI.put{c:Nat}{S0 S:StoreD}{Ts0 Ts:Nat->TrD}{l:List OpD}{o:OpD}{t:Nat}(h:TabI c S0 Ts0 l t)(ho:Z1p o=0)(hb:PutB S0 Ts0 l o S Ts):TabI c S Ts (wiO l o) (t+1):=by
 obtain⟨S1,Ts1,hd,hp,hr⟩:=hb.via;have h1:=h.del hd;have hpt:∀i,i<5->potT (Ts i)<=potT (Ts1 i)+1/\Slim (Ts i):=fun i hi=>by obtain⟨Sa,Sb,q1,q2,q3⟩:=hp i hi;exact U0q q3 q1 q2 (Z6y i o) (Z9w i (OpIn.of ho)) (X9e i o) (h1.slim i hi)
 refine⟨hb.list h.ris,X9c l o h.ris,fun i hi=> ?_,fun i hi=>(hpt i hi).2,?_⟩
 ·have:=(hpt i hi).1;have:=h1.pot i hi;omega
 ·have h2:=Y4k h1.pot 5 (aF _);have h3:=h1.room;show c<=Z0z S+(Y2l t+5*((t+26)/9));omega
structure Soil (n:Nat) (C S:StoreD):Prop where
 same:S= { C with dirty:=S.dirty}
 list:∃L:List Nat,L.length<=n/\∀b:Nat,2<=b->(S.dirty (b:Int)≠none\/Z0y S b=true)->b∈L
theorem Soil.big{n m i:Nat}{P:Nat->Prop}{F G:List Nat}{C S S':StoreD}(h:Soil n C S)(hb:Big i P F G S S')(hP:∀b,P b->Z0y S b=true)(hF:F.length<=m):Soil (n+m) C S':=by
 obtain⟨L,hL,h1⟩:=h.list;refine⟨by rw[hb.same,h.same],L++F,by rw[aA];omega,fun b h2 hq=> ?_⟩;rw[List.mem_append];rcases hq with q | q
 ·rcases hb.dirt b h2 q with q | q | q
  ·exact .inl (h1 b h2 (.inl q))
  ·exact .inl (h1 b h2 (.inr (hP b q)))
  ·exact .inr q
 ·rcases((hb.used b).1 q).1 with q | q
  ·exact .inl (h1 b h2 (.inr q))
  ·exact .inr q
theorem Soil.more{n m:Nat}{C S:StoreD}(h:Soil n C S)(hm:n<=m):Soil m C S:=
 ⟨h.same,let ⟨L,h1,h2⟩:=h.list;⟨L,Nat.le_trans h1 hm,h2⟩⟩
theorem Soil.del{n i:Nat}{k:ByteArray}{C S S':StoreD}{T T':TrD}(h:Soil n C S)(hi:i<16)(hp:Z8t S i k S' T' T)(hf:Fm S)(ht:TrS S i T)(hk:∃x∈T.list,x.1=k):Soil n C S':=by obtain⟨G,hl⟩:=Y0n hi hp hf ht hk;exact h.big hl.big (fun b q=>(ht.given b q).2.2) (aF 0)
theorem V8l{α β:Type}(f:α->List β)(l:List α)(i:Nat)(x:α):((insL l i x).flatMap f).length=(l.flatMap f).length+(f x).length:=by
 unfold insL
 conv=>rhs;rw[<-List.take_append_drop i l]
 simp only[aH,aI,aA];omega
theorem V8k{α β:Type}(f:α->List β)(l:List α){j:Nat}{c c':α}(hc:l[j]? =some c):((l.set j c').flatMap f).length+(f c).length=(l.flatMap f).length+(f c').length:=by obtain⟨hj,rfl⟩:=aC.1 hc;rw[Z7s f l hj,Z6l f l hj];simp only[aA];omega
theorem X7g:∀(d:Nat) {S S':StoreD} {t t':TT d} {k v:ByteArray} {o:Option (ByteArray×TT d)},PutR d S t k v S' t' o->Fm S->onT S d t->okT d t->Z2o k->v.size<=80->(Z0a d t).Nodup->o=none->(Z0a d t').length<=(Z0a d t).length+d
 | 0,_,_,_,_,_,_,_,_,_,_,_,_,_,_,_=>aF 1
 | d+1,S,S',t,t',k,v,o,h,hf,hon,hok,hk,hv,hnd,ho=>by
   obtain⟨c,hc,S1,c',o1,h1,h2⟩:=h;have hcm:c∈InT.kids t:=List.mem_of_getElem? hc;obtain⟨F1,q⟩:=Z5i d h1 hf (hon.2 c hcm) (hok.2.2.2.1 c hcm) hk hv ((Z1c hnd).1 c hcm).2;have hl:=q.pages.length_eq;have hq:F1.length<=d+1:=q.len;rw[aA,aA]at hl;have hp:∀x:TT (d+1),(Z0a (d+1) x).length=((InT.kids x).flatMap (Z0a d)).length+1:=fun x=>rfl;have hs:=V8k (Z0a d) (InT.kids t) (c':=c') hc;rw[hp,hp];cases o1 with
   | none=>
     obtain⟨_,rfl,_⟩:=h2;have e:(Z8v d none).length=0:=rfl;show((InT.kids t).set _ c' |>.flatMap (Z0a d)).length+1<=_;omega
   | some x=>
     obtain⟨y,_,hy⟩:=h2;cases y with
     | some y=>
       obtain⟨mid,_,_,e⟩:=hy;rw[ho]at e;cases e
     | none=>
       obtain⟨rfl,_⟩:=hy;have e:(Z8v d (some x)).length=(Z0a d x.2).length:=rfl;have hi:=V8l (Z0a d) ((InT.kids t).set (Z0h (InT.keys t) k) c') (Z0h (InT.keys t) k+1) x.2;show((insL ((InT.kids t).set _ c') _ x.2).flatMap (Z0a d)).length+1<=_;omega
def Y4s(T:TrD):Nat:=(potT T+17)/9
theorem X6w{S S':StoreD}{i:Nat}{k v:ByteArray}{T T':TrD}(hi:i<16)(h:Y0r S i k v S' T' T)(hf:Fm S)(ht:TrS S i T)(hk:Z2o k)(hv:v.size<=80)(hk24:k.size<=24)(hs:Slim T):∃F,PutTL S i T k v S' T' F/\F.length<=Y4s T:=by
 obtain⟨F,hl⟩:=Z9x hi h hf ht hk hv;refine⟨F,hl,?_⟩;have hp:=hl.pages.length_eq;rw[aA]at hp;unfold Y4s;cases T with
 | no=>
   obtain⟨a,_,_,rfl⟩:=h;have e1:(TrD.pages (.yes 0 (LeafT.mk a [k] [v]))).length=1:=rfl;have e2:(TrD.pages .no).length=0:=rfl;have e3:potT .no=0:=rfl;omega
 | yes d t=>
   obtain⟨_,hon,hok,hnd⟩:=ht;obtain⟨S1,t',o,h1,h2⟩:=h;obtain⟨F1,q⟩:=Z5i d h1 hf hon hok hk hv hnd;have hl1:=q.pages.length_eq;have hq:F1.length<=d+1:=q.len;rw[aA,aA]at hl1;have e0:(TrD.pages (.yes d t)).length=(Z0a d t).length:=rfl;cases o with
   | none=>
     obtain⟨_,rfl⟩:=h2;have h3:=X7g d h1 hf hon hok hk hv hnd rfl;have e1:(TrD.pages (.yes d t')).length=(Z0a d t').length:=rfl;cases d with
     | zero=>have e2:potT (.yes 0 t)=1:=rfl;omega
     | succ d=>have e2:potT (.yes (d+1) t)=1+9*d+min (InT.keys t).length 9:=rfl;omega
   | some x=>
     obtain⟨top,_,_,rfl⟩:=h2;have e1:(TrD.pages (.yes (d+1) (InT.mk top [x.1] [t',x.2]))).length=(Z0a d t').length+(Z0a d x.2).length+1:=by show(top:: [t',x.2].flatMap (Z0a d)).length=_;simp
     have e3:(Z8v d (some x)).length=(Z0a d x.2).length:=rfl;cases d with
     | zero=>have e2:potT (.yes 0 t)=1:=rfl;omega
     | succ d=>
       have h4:=(Y3v h1 hf hon hok hk hv hnd hk24 hs).2 (by intro e;cases e);have e2:potT (.yes (d+1) t)=1+9*d+min (InT.keys t).length 9:=rfl;omega
theorem Soil.put{n i:Nat}{k v:ByteArray}{C S S':StoreD}{T T':TrD}(h:Soil n C S)(hi:i<16)(hp:Y0r S i k v S' T' T)(hf:Fm S)(ht:TrS S i T)(hk:Z2o k)(hv:v.size<=80)(hk24:k.size<=24)(hs:Slim T):Soil (n+Y4s T) C S':=by obtain⟨F,hl,hn⟩:=X6w hi hp hf ht hk hv hk24 hs;exact h.big hl.big (fun b q=>(ht.given b q).2.2) hn
def X1a(Ts:Nat->TrD):Nat->Nat
 | 0=>0
 | k+1=>X1a Ts k+Y4s (Ts k)
def Y9s:Nat->Nat
 | 0=>0
 | t+1=>Y9s t+5*((t+17)/9)
theorem Y1c:∀ {a b:Nat},a<=b->Y9s a<=Y9s b
 | a,0,h=>by rw[Nat.le_zero.1 h];exact aF _
 | a,b+1,h=>by
   by_cases e:a=b+1
   ·rw[e];exact aF _
   ·have:=Y1c (show a<=b by omega);show Y9s a<=Y9s b+_;omega
theorem Y6r{Ts:Nat->TrD}{t:Nat}(h:∀i,i<5->potT (Ts i)<=t):∀k,k<=5->X1a Ts k<=k*((t+17)/9)
 | 0,_=>Nat.zero_le _
 | k+1,hk=>by
   have h1:=Y6r h k (by omega);have h3:=h k (by omega);have h4:Y4s (Ts k)<=(t+17)/9:=by unfold Y4s;omega
   show X1a Ts k+Y4s (Ts k)<=_;rw[Nat.succ_mul];omega
theorem Soil.dirty{n:Nat}{C S:StoreD}(h:Soil n C S)(N:Nat):(Z2h N S.dirty).length<=n+2:=by
 obtain⟨L,hL,h1⟩:=h.list;have hsub:Z2h N S.dirty ⊆ 0::1::L:=fun b hb=>by
  obtain⟨_,h2⟩:=Z8i.1 hb;by_cases h0:b<2
  ·rcases(show b=0\/b=1 by omega)with rfl | rfl<;>simp
  ·have:=h1 b (by omega) (.inl (fun e=>by rw[e]at h2;cases h2));simp[this]
 have:=(Y2i N S.dirty).length_le_of_subset hsub;simp only[List.length_cons]at this;omega
theorem Soil.start(n room:Nat):Soil 0 (Z1j n room) (Z1j n room):=by
 refine⟨rfl,[],aF _,fun b h2 hq=> ?_⟩;exfalso;rcases hq with q | q
 ·apply q;show updI (updI X0m 0 _) 1 _ (b:Int)=none;rw[Z3n _ _ (by omega),Z3n _ _ (by omega)];rfl
 ·unfold Z1j at q;rw[Z9o]at q;have:=of_decide_eq_true q;omega
theorem V0o(ts:Nat->Nat)(w:World){k:Nat}(hk:k<5):Sem.run Tryz.prog (Instr.index 172 (.agg #[tp (ts 0),tp (ts 1),tp (ts 2),tp (ts 3),tp (ts 4)]) (.int .i64 (k:Nat))) w= .ok (tp (ts k)) w:=by
 rcases(show k=0\/k=1\/k=2\/k=3\/k=4 from by omega)with rfl | rfl | rfl | rfl | rfl
 ·exact V0n ts w
 ·exact V0m ts w
 ·exact V0l ts w
 ·exact V0k ts w
 ·exact V0j ts w
def Acc(S:StoreD)(Ts:Nat->TrD):Prop:=∀b,2<=b->Z0y S b=true->∃i,i<5/\b∈(Ts i).pages
theorem Acc.del{S S':StoreD}{Ts:Nat->TrD}{i:Nat}{k:ByteArray}{T':TrD}(h:Acc S Ts)(hi:i<5)(hp:Z8t S i k S' T' (Ts i))(hf:Fm S)(ht:TrS S i (Ts i))(hk:∃x∈(Ts i).list,x.1=k):Acc S' (updF Ts i T'):=fun b hb hu=>by
 obtain⟨G,hl⟩:=Y0n (by omega) hp hf ht hk;obtain⟨h1,h2⟩:=(hl.big.used b).1 hu;obtain⟨j,hj,hm⟩:=h b hb (h1.resolve_right (by simp));refine⟨j,hj,?_⟩;by_cases e:j=i
 ·subst e;rw[Z0p];exact(List.mem_append.1 (hl.pages.mem_iff.2 hm)).resolve_right h2
 ·rw[Z0i _ _ e];exact hm
theorem Acc.put{S S':StoreD}{Ts:Nat->TrD}{i:Nat}{k v:ByteArray}{T':TrD}(h:Acc S Ts)(hi:i<5)(hp:Y0r S i k v S' T' (Ts i))(hf:Fm S)(ht:TrS S i (Ts i))(hk:Z2o k)(hv:v.size<=80):Acc S' (updF Ts i T'):=fun b hb hu=>by
 obtain⟨F,hl⟩:=Z9x (by omega) hp hf ht hk hv;rcases((hl.big.used b).1 hu).1 with q | q
 ·obtain⟨j,hj,hm⟩:=h b hb q;refine⟨j,hj,?_⟩;by_cases e:j=i
  ·subst e;rw[Z0p];exact hl.pages.mem_iff.2 (List.mem_append_left _ hm)
  ·rw[Z0i _ _ e];exact hm
 ·exact⟨i,hi,by rw[Z0p];exact hl.pages.mem_iff.2 (List.mem_append_right _ q)⟩
structure DelZ (tb p:Nat) (ts:Nat->Nat) (A:StoreD) (Ts0:Nat->TrD) (L:Nat->List OpD) (o:OpD) (R:Nat) (F0:Nat->Prop) (w:World) (k:Nat) (wr:World) (S:StoreD) (Ts:Nat->TrD) (F:Nat->Prop):Prop extends DelK tb p ts Ts0 L o R F0 w k wr S Ts F where
 soil:∀n C,Soil n C A->Soil n C S
 acc:Acc A Ts0->Acc S Ts
theorem X6r{tb p:Nat}{ts:Nat->Nat}{F:Nat->Prop}{S0:StoreD}{Ts0:Nat->TrD}{L:Nat->List OpD}(o:OpD)(w:World)(ht:TblAt w tb p ts F)(hp:PagerAt w p F S0)
 (hT:Tab S0 Ts0 L)(ho:∀i,i<5->o∈L i)(hd:∀i,i<5->depT (Ts0 i)<=31):
  cQ 71 #[tp tb,.int .i64 o.id] w fun e w'=>e= .returned (.int .i64 0)/\∃S' Ts' F',DelZ tb p ts S0 Ts0 L o (Z0z S0) F w 5 w' S' Ts' F':=by
 have hck:=hT.ok 0 (by omega) o (ho 0 (by omega));have hin:=OpIn.of hck;have cG:cQ 72 #[tp tb,.int .i64 o.id] w fun e w'=>e= .returned (.tuple #[.agg #[.int .i64 o.id,.int .i64 o.proc,.int .i64 o.object,.int .i64 o.kind,.int .i64 o.method,.int .i64 o.arg,.int .i64 o.second,.bool o.done,.int .i64 o.result,.int .i64 o.invoke,.int .i64 o.ret],.int .i64 0])/\∃F',TblAt w' tb p ts F'/\PagerAt w' p F' S0/\Keeps F F' w w'/\∀i,F' i->i<w'.heap.size:=by have h1:=Y0x o.id w ht hp hT (hd 0 (by omega)) (by have:=hin.id;unfold In64;omega);rw[V3k (hT.ids 0 (by omega)) (ho 0 (by omega))]at h1;refine h1.mono ?_;rintro e w' ⟨rfl,F',q1,q2,q3⟩;exact⟨rfl,fun i=>F' i/\i<w'.heap.size,⟨q1.row,q1.tree,fun q=>q1.out q.1,fun j hj q=>q1.outs j hj q.1⟩,q2.shrink,q3.shrink,fun i q=>q.2⟩
 have cW:Hid (∀i W,i<5->cQ 89 #[.int .i64 (i:Nat),.agg #[.int .i64 o.id,.int .i64 o.proc,.int .i64 o.object,.int .i64 o.kind,.int .i64 o.method,.int .i64 o.arg,.int .i64 o.second,.bool o.done,.int .i64 o.result,.int .i64 o.invoke,.int .i64 o.ret]] W fun e w'=>e= .returned (.string (wayK i o))/\Ext W w'):=fun i W hi=>Z5q i o W hi (hin.way i);have HO:=hD ho;have HD:=hD hd;have HTAB:=hD hT;generalize hR:Z0z S0=R at *;have HRR:Hid (Z0z S0=R):=hR;clear hd hT hR ht hp hin ho hck;have cDel:Hid (∀(F0:Nat->Prop) (W0:World) k,k<5->∀(W wr:World) (S1:StoreD) (Ts1:Nat->TrD) (F1:Nat->Prop),DelZ tb p ts S0 Ts0 L o R F0 W0 k wr S1 Ts1 F1->Ext wr W->cQ 31 #[.pointer (some ⟨ts k,0,none⟩),.string (wayK k o)] W fun e w'=>e= .returned (.int .i64 0)/\∃S' Ts' F',DelZ tb p ts S0 Ts0 L o R F0 W0 (k+1) w' S' Ts' F'):=fun F0 W0 k hk W wr S1 Ts1 F1 h hW=>by have hsame:=h.same k (aF _);have hdk:=HD.out k hk;have hin:∃x∈(Ts1 k).list,x.1=wayK k o:=⟨_,(h.tab.mem k hk _).2 ⟨o,by rw[if_neg (Nat.lt_irrefl _)];exact HO.out k hk,rfl⟩,rfl⟩;refine(X4a (Ts1 k) (wayK k o) W ((h.at_.ext hW).tree k hk) (h.at_.outs k hk) (h.pag.ext hW) h.tab.fm (by omega) (h.tab.tr k hk) (by rw[hsame];exact Z4a hdk) hin).mono ?_;rintro e w' ⟨rfl,S',T',F',hp,hp',hkp⟩;exact⟨rfl,S',_,F',⟨h.step hk (HO.out k hk) hp hp' ((Keeps.of hW).trans hkp),fun n C q=>(h.soil n C q).del (by omega) hp h.tab.fm (h.tab.tr k hk) hin,fun q=>(h.acc q).del hk hp h.tab.fm (h.tab.tr k hk) hin⟩⟩
 go_enter Tryz.func71,Tryz.ntmps71;go_upto_region 4 with (go_at_call 72;(with_reducible refine cG.mono ?_);clear cG;rintro e w1 ⟨rfl,F1,ht1,hp1,hk1,hl1⟩;have HT1:=hD ht1;have HP1:=hD hp1;have HK1:=hD hk1;have HL1:=hD hl1;clear ht1 hp1 hk1 hl1);generalize hB:w1.heap.size=B at *;generalize hW2:World.alloc w1 _=W2;have HX2:Hid (Ext w1 W2):=by unfold Hid;rw[<-hW2];exact Ext.alloc _ _
 have HR0:Hid (Row1 W2 B 73 o.cells):=by unfold Hid;rw[<-hW2,<-hB];exact Row1.made w1 _ _
 have HLT:Hid (¬F1 B):=fun q=>by have:=HL1.out B q;omega
 have HWID:Hid (∀(F':Nat->Prop) (w':World),Keeps F1 F' W2 w'->Keeps F F' w w'):=fun F' w' h=>(HK1.out.ext HX2.out).trans h;have HPK:Hid (DelZ tb p ts S0 Ts0 L o R F1 W2 0 W2 S0 Ts0 F1):=⟨⟨HT1.out.ext HX2.out,HP1.out.ext HX2.out,Keeps.refl,HTAB.out.congr (fun i _=>rfl) (fun i _=>rfl),fun i hi=>absurd hi (by omega),fun i _=>rfl,fun i=>aF _,fun i=>aF _,by rw[HRR.out]⟩,fun n C q=>q,fun q=>q⟩;have t0:W2.cell? ⟨tb,0,none⟩=some (tp (ts 0)):=HPK.out.at_.row.cell 0;have t1:W2.cell? ⟨tb,1,none⟩=some (tp (ts 1)):=HPK.out.at_.row.cell 1;have t2:W2.cell? ⟨tb,2,none⟩=some (tp (ts 2)):=HPK.out.at_.row.cell 2;have t3:W2.cell? ⟨tb,3,none⟩=some (tp (ts 3)):=HPK.out.at_.row.cell 3;have t4:W2.cell? ⟨tb,4,none⟩=some (tp (ts 4)):=HPK.out.at_.row.cell 4;clear hW2 hB HK1 HL1 HT1 HP1 HX2;go_wp2_with fail;clear t0 t1 t2 t3 t4
 go_loopw [23] (fun x wr=>∃(k:Nat) (S1:StoreD) (Ts1:Nat->TrD) (F2:Nat->Prop),k<=5/\x= .int .i64 (k:Nat)/\DelZ tb p ts S0 Ts0 L o R F1 W2 k wr S1 Ts1 F2) (fun x _=>5-(intOf x).toNat)
 case atStart=>exact⟨0,S0,Ts0,F1,by omega,rfl,HPK.out⟩
 case round=>
  obtain⟨k,S1,Ts1,F2,hk,rfl,hpk⟩:=hrel;have HP:=hD hpk;clear hpk;obtain⟨b0,b1,b2,b3,b4,b5,b6,b7,b8,b9,b10⟩:=At11.row (HP.out.keep.only.row HR0.out HLT.out);by_cases hk5:k=5
  ·subst hk5;go_wp2_with fail;go_ret;have h1:=HP.out;exact⟨rfl,S1,Ts1,F2,⟨h1.at_,h1.pag,HWID.out _ _ h1.keep,h1.tab,h1.done,h1.same,h1.dep,h1.less,h1.room⟩,h1.soil,h1.acc⟩
  ·have hk4:k<5:=by omega
   have q1:decide ((k:Int)<5)=true:=aN;have q2:(k:Int)<5:=by omega
   have cP:Hid (∀W,Ext wr W->cQ 31 #[.pointer (some ⟨ts k,0,none⟩),.string (wayK k o)] W fun e w'=>e= .returned (.int .i64 0)/\∃S' Ts' F',DelZ tb p ts S0 Ts0 L o R F1 W2 (k+1) w' S' Ts' F'):=fun W hW=>cDel.out _ _ k hk4 W wr S1 Ts1 F2 HP.out hW;have cW1:Hid (∀W,cQ 89 #[.int .i64 (k:Nat),.agg #[.int .i64 o.id,.int .i64 o.proc,.int .i64 o.object,.int .i64 o.kind,.int .i64 o.method,.int .i64 o.arg,.int .i64 o.second,.bool o.done,.int .i64 o.result,.int .i64 o.invoke,.int .i64 o.ret]] W fun e w'=>e= .returned (.string (wayK k o))/\Ext W w'):=fun W=>cW.out k W hk4;generalize wayK k o=ky at cP cW1;have hix:=V0o ts wr hk4;generalize hTK:ts k=tk at cP hix;clear cW cDel hTK hk5;go_wp2_with (first
    | (go_at_call 89;(with_reducible refine(cW1.out _).mono ?_);clear cW1;rintro e w2 ⟨rfl,hb2⟩)
    | (go_at_call 31;(with_reducible refine(cP.out _ hb2).mono ?_);clear cP;rintro e w3 ⟨rfl,S3,Ts3,F3,hp3⟩;have HP3:=hD hp3;clear hp3))
   go_roundw
   case rel=>exact⟨k+1,S3,Ts3,F3,by omega,by go_num,HP3.out⟩
   case measure=>simp[intOf];omega
structure PutZ (tb p:Nat) (ts:Nat->Nat) (A:StoreD) (Ts0:Nat->TrD) (L:Nat->List OpD) (o:OpD) (R:Nat) (F0:Nat->Prop) (w:World) (k:Nat) (wr:World) (S:StoreD) (Ts:Nat->TrD) (F:Nat->Prop):Prop extends PutK tb p ts Ts0 L o R F0 w k wr S Ts F where
 soil:(∀i,i<5->Slim (Ts0 i))->∀n C,Soil n C A->Soil (n+X1a Ts0 k) C S
 acc:Acc A Ts0->Acc S Ts
theorem Y9n{tb p:Nat}{ts:Nat->Nat}{F:Nat->Prop}{S0:StoreD}{L:Nat->List OpD}(Q:StoreD->(Nat->TrD)->Prop)(o:OpD)(w:World)(ht:TblAt w tb p ts F)(hp:PagerAt w p F S0)(ho:Z1p o=0)
 (hdel:∀(W:World) (F1:Nat->Prop),TblAt W tb p ts F1->PagerAt W p F1 S0->cQ 71 #[tp tb,.int .i64 o.id] W fun e w'=>∃ev S Ts0,(ev=0\/ev=6)/\e= .returned (.int .i64 ev)/\Q S Ts0/\∃F',TblAt w' tb p ts F'/\PagerAt w' p F' S/\Keeps F1 F' W w')
 (hQ:∀S Ts0,Q S Ts0->Tab S Ts0 L/\(∀i,i<5->depT (Ts0 i)<=31)/\Z4y Ts0 5<=Z0z S)(hno:∀i,i<5->∀x∈L i,x.id≠o.id):
  cQ 69 #[tp tb,o.val] w fun e w'=>e= .returned (.int .i64 0)/\∃S Ts0,Q S Ts0/\∃S' Ts' F',PutZ tb p ts S Ts0 L o (Z0z S) F w 5 w' S' Ts' F':=by
 have hin:=OpIn.of ho;have HOK:=hD ho;obtain⟨W0,hW0⟩:∃W0,w.alloc (.cells #[.int .i64 o.id,.int .i64 o.proc,.int .i64 o.object,.int .i64 o.kind,.int .i64 o.method,.int .i64 o.arg,.int .i64 o.second,.bool o.done,.int .i64 o.result,.int .i64 o.invoke,.int .i64 o.ret] 73)=W0:=⟨_,rfl⟩;have HX0:Hid (Ext w W0):=by unfold Hid;rw[<-hW0];exact Ext.alloc _ _
 have HR0:Hid (Row1 W0 w.heap.size 73 o.cells):=by unfold Hid;rw[<-hW0];exact Row1.made w _ _
 have HT0:Hid (TblAt W0 tb p ts (fun i=>F i/\i<w.heap.size)):=TblAt.ext (F:=fun i=>F i/\i<w.heap.size) ⟨ht.row,ht.tree,fun q=>ht.out q.1,fun j hj q=>ht.outs j hj q.1⟩ HX0.out;have HP0:Hid (PagerAt W0 p (fun i=>F i/\i<w.heap.size) S0):=PagerAt.ext (F:=fun i=>F i/\i<w.heap.size) hp.shrink HX0.out;have HWID:Hid (∀(F':Nat->Prop) (w':World),Keeps (fun i=>F i/\i<w.heap.size) F' W0 w'->Keeps F F' w w'):=fun F' w' h=>((Keeps.of HX0.out).trans h).widen (fun i q=>q.1);have HLT:Hid (¬(fun i=>F i/\i<w.heap.size) w.heap.size):=fun q=>absurd q.2 (Nat.lt_irrefl _);generalize (fun i=>F i/\i<w.heap.size)=F0 at *;have HRES:=hin.result;have cE:Hid (∀W,cQ 131 #[.agg #[.int .i64 o.id,.int .i64 o.proc,.int .i64 o.object,.int .i64 o.kind,.int .i64 o.method,.int .i64 o.arg,.int .i64 o.second,.bool o.done,.int .i64 o.result,.int .i64 o.invoke,.int .i64 o.ret]] W fun e w'=>e= .returned (.tuple #[.string (bts (opL o)),.int .i64 0])/\Ext W w'):=fun W=>by have h1:=Z7j o W (by omega);rw[ho,if_pos rfl]at h1;exact h1
 have cM:Hid (∀W,Ext W0 W->cQ 85 #[tp tb] W fun e w'=>e= .returned (.bool true)/\W=w'):=fun W hW=>Z2v W (HT0.out.ext hW).row;have cD:Hid (∀W,Ext W0 W->cQ 71 #[tp tb,.int .i64 o.id] W fun e w'=>∃ev S Ts0,(ev=0\/ev=6)/\e= .returned (.int .i64 ev)/\Q S Ts0/\∃F',TblAt w' tb p ts F'/\PagerAt w' p F' S/\Keeps F0 F' W w'):=fun W hW=>hdel W F0 (HT0.out.ext hW) (HP0.out.ext hW);have cW:Hid (∀i W,i<5->cQ 89 #[.int .i64 (i:Nat),.agg #[.int .i64 o.id,.int .i64 o.proc,.int .i64 o.object,.int .i64 o.kind,.int .i64 o.method,.int .i64 o.arg,.int .i64 o.second,.bool o.done,.int .i64 o.result,.int .i64 o.invoke,.int .i64 o.ret]] W fun e w'=>e= .returned (.string (wayK i o))/\Ext W w'):=fun i W hi=>Z5q i o W hi (hin.way i);have HNO:=hD hno;have HQ:=hD hQ;clear hdel hno hQ ht hp hin ho;have cPut0:Hid (∀S Ts0 R,Q S Ts0->Z0z S=R->∀k,k<5->∀(W wr:World) (S1:StoreD) (Ts1:Nat->TrD) (F1:Nat->Prop),PutZ tb p ts S Ts0 L o R F0 W0 k wr S1 Ts1 F1->Ext wr W->cQ 34 #[.pointer (some ⟨ts k,0,none⟩),.string (wayK k o),.string (recW k o)] W fun e w'=>e= .returned (.int .i64 0)/\∃S' Ts' F',PutZ tb p ts S Ts0 L o R F0 W0 (k+1) w' S' Ts' F'):=fun S Ts0 R hq hRR k hk W wr S1 Ts1 F1 h hW=>by obtain⟨_,jH,hR⟩:=HQ.out S Ts0 hq;rw[hRR]at hR;have hsame:=h.same k (aF _);have hneed:=Y2v Ts0 k 5 hk;have hdk:=jH k hk;have hr:=h.room;have hrs:=Z9w k (OpIn.of HOK.out);refine(Y7o (Ts1 k) (wayK k o) (recW k o) W ((h.at_.ext hW).tree k hk) (h.at_.outs k hk) (h.pag.ext hW) (by omega) h.tab.fm (h.tab.tr k hk) (Z6y k o) hrs (by rw[hsame];omega) (by rw[hsame];exact Z4a hdk)).mono ?_;rintro e w' ⟨rfl,S',T',hp,F',hp',hkp⟩;refine⟨rfl,S',_,F',⟨h.step hk HOK.out (HNO.out k hk) hp hp' ((Keeps.of hW).trans hkp),fun hs n C q=> ?_,fun q=>(h.acc q).put hk hp h.tab.fm (h.tab.tr k hk) (Z6y k o) hrs⟩⟩;have hz1:=(h.soil hs n C q).put (by omega) hp h.tab.fm (h.tab.tr k hk) (Z6y k o) hrs (X9e k o) (by rw[hsame];exact hs k hk);rw[hsame,Nat.add_assoc]at hz1;exact hz1
 go_enter Tryz.func69,Tryz.ntmps69;go_upto_region 1 with fail;clear hW0;obtain⟨b0,b1,b2,b3,b4,b5,b6,b7,b8,b9,b10⟩:=At11.row HR0.out;go_upto_region 7 with (first
  | (go_at_call 131;(with_reducible refine(cE.out _).mono ?_);clear cE;rintro e w1 ⟨rfl,hb1⟩;have b0:=(At11.row (HR0.out.ext hb1 HR0.out.lt)).1;have HB1:=hD hb1;clear hb1)
  | (go_at_call 85;(with_reducible refine(cM.out _ HB1.out).mono ?_);clear cM;rintro e w2 ⟨rfl,rfl⟩)
  | (go_at_call 71;(with_reducible refine(cD.out _ HB1.out).mono ?_);clear cD;rintro e w3 ⟨ev,S,Ts0,hev,rfl,hq3,F3,ht3,hp3,hk3⟩;have HQ3:=hD hq3;clear hq3;have HT3:=hD ht3;have HP3:=hD hp3;have HK3:Hid (Keeps F0 F3 W0 w3):=(Keeps.of HB1.out).trans hk3;clear ht3 hp3 hk3))
 have HTAB:Hid (Tab S Ts0 L):=(HQ.out S Ts0 HQ3.out).1;obtain⟨R,hR⟩:∃R,Z0z S=R:=⟨_,rfl⟩;have HRR:Hid (Z0z S=R):=hR;have cPut:Hid (∀k,k<5->∀(W wr:World) (S1:StoreD) (Ts1:Nat->TrD) (F1:Nat->Prop),PutZ tb p ts S Ts0 L o R F0 W0 k wr S1 Ts1 F1->Ext wr W->cQ 34 #[.pointer (some ⟨ts k,0,none⟩),.string (wayK k o),.string (recW k o)] W fun e w'=>e= .returned (.int .i64 0)/\∃S' Ts' F',PutZ tb p ts S Ts0 L o R F0 W0 (k+1) w' S' Ts' F'):=cPut0.out S Ts0 R HQ3.out hR;clear hR cPut0;have HPK:Hid (PutZ tb p ts S Ts0 L o R F0 W0 0 w3 S Ts0 F3):=⟨⟨HT3.out,HP3.out,HK3.out,HTAB.out.congr (fun i _=>rfl) (fun i _=>rfl),fun i hi=>absurd hi (by omega),fun i _=>rfl,by rw[HRR.out];exact aF _⟩,fun _ n C q=>q,fun q=>q⟩;have t0:w3.cell? ⟨tb,0,none⟩=some (tp (ts 0)):=HT3.out.row.cell 0;have t1:w3.cell? ⟨tb,1,none⟩=some (tp (ts 1)):=HT3.out.row.cell 1;have t2:w3.cell? ⟨tb,2,none⟩=some (tp (ts 2)):=HT3.out.row.cell 2;have t3:w3.cell? ⟨tb,3,none⟩=some (tp (ts 3)):=HT3.out.row.cell 3;have t4:w3.cell? ⟨tb,4,none⟩=some (tp (ts 4)):=HT3.out.row.cell 4;clear b0 b1 b2 b3 b4 b5 b6 b7 b8 b9 b10
 go_cut [7,32] (fun _ v wx=>v= .bool false/\wx=w3)
 case first=>
  rcases hev with rfl | rfl
  ·go_wp2_with fail
   go_meet
   exact⟨rfl,rfl⟩
  ·go_wp2_with fail
   go_meet
   exact⟨rfl,rfl⟩
 case rest=>
 obtain⟨rfl,rfl⟩:=hcut;go_wp2_with fail;clear t0 t1 t2 t3 t4
 go_loopw [38] (fun x wr=>∃(k:Nat) (S1:StoreD) (Ts1:Nat->TrD) (F1:Nat->Prop),k<=5/\x= .int .i64 (k:Nat)/\PutZ tb p ts S Ts0 L o R F0 W0 k wr S1 Ts1 F1) (fun x _=>5-(intOf x).toNat)
 case atStart=>exact⟨0,S,Ts0,F3,by omega,rfl,HPK.out⟩
 case round=>
  obtain⟨k,S1,Ts1,F1,hk,rfl,hpk⟩:=hrel;have HP:=hD hpk;clear hpk;obtain⟨b0,b1,b2,b3,b4,b5,b6,b7,b8,b9,b10⟩:=At11.row (HP.out.keep.only.row HR0.out HLT.out);by_cases hk5:k=5
  ·subst hk5;go_wp2_with fail;go_ret;have h1:=HP.out;refine⟨rfl,S,Ts0,HQ3.out,S1,Ts1,F1,?_⟩;rw[HRR.out];exact⟨⟨h1.at_,h1.pag,HWID.out _ _ h1.keep,h1.tab,h1.done,h1.same,h1.room⟩,h1.soil,h1.acc⟩
  ·have hk4:k<5:=by omega
   have q1:decide ((k:Int)<5)=true:=aN;have q2:(k:Int)<5:=by omega
   have cP:Hid (∀W,Ext wr W->cQ 34 #[.pointer (some ⟨ts k,0,none⟩),.string (wayK k o),.string (recW k o)] W fun e w'=>e= .returned (.int .i64 0)/\∃S' Ts' F',PutZ tb p ts S Ts0 L o R F0 W0 (k+1) w' S' Ts' F'):=fun W hW=>cPut.out k hk4 W wr S1 Ts1 F1 HP.out hW;have cW1:Hid (∀W,cQ 89 #[.int .i64 (k:Nat),.agg #[.int .i64 o.id,.int .i64 o.proc,.int .i64 o.object,.int .i64 o.kind,.int .i64 o.method,.int .i64 o.arg,.int .i64 o.second,.bool o.done,.int .i64 o.result,.int .i64 o.invoke,.int .i64 o.ret]] W fun e w'=>e= .returned (.string (wayK k o))/\Ext W w'):=fun W=>cW.out k W hk4;generalize wayK k o=ky at cP cW1;have hix:=V0o ts wr hk4;generalize hTK:ts k=tk at cP hix;clear cW cPut hTK hk5;by_cases hk0:k=0
   ·have q3:((k:Int)==0)=true:=by simp[hk0]
    have q4:decide ((k:Int)=0)=true:=aN;rw[show recW k o=bts (opL o)from if_pos hk0]at cP;clear hk0;go_wp2_with (first
     | (go_at_call 89;(with_reducible refine(cW1.out _).mono ?_);clear cW1;rintro e w2 ⟨rfl,hb2⟩)
     | (go_at_call 34;(with_reducible refine(cP.out _ hb2).mono ?_);clear cP;rintro e w3 ⟨rfl,S3,Ts3,F3,hp3⟩;have HP3:=hD hp3;clear hp3))
    go_roundw
    case rel=>exact⟨k+1,S3,Ts3,F3,by omega,by go_num,HP3.out⟩
    case measure=>simp[intOf];omega
   ·have q3:((k:Int)==0)=false:=by simp[hk0]
    have q4:decide ((k:Int)=0)=false:=aM;have q5:¬(k:Int)=0:=by omega
    rw[show recW k o=⟨#[]⟩from if_neg hk0]at cP;clear hk0;go_wp2_with (first
     | (go_at_call 89;(with_reducible refine(cW1.out _).mono ?_);clear cW1;rintro e w2 ⟨rfl,hb2⟩)
     | (go_at_call 34;(with_reducible refine(cP.out _ hb2).mono ?_);clear cP;rintro e w3 ⟨rfl,S3,Ts3,F3,hp3⟩;have HP3:=hD hp3;clear hp3))
    go_roundw
    case rel=>exact⟨k+1,S3,Ts3,F3,by omega,by go_num,HP3.out⟩
    case measure=>simp[intOf];omega
structure DelY (S0:StoreD) (Ts0:Nat->TrD) (l:List OpD) (id:Int) (S:StoreD) (Ts:Nat->TrD):Prop extends DelB S0 Ts0 l id S Ts where
 soil:∀n C,Soil n C S0->Soil n C S
 acc:Acc S0 Ts0->Acc S Ts
theorem Y3i{tb p:Nat}{ts:Nat->Nat}{F:Nat->Prop}{S0:StoreD}{Ts0:Nat->TrD}{l:List OpD}(id:Int)(w:World)(ht:TblAt w tb p ts F)(hp:PagerAt w p F S0)
 (hT:Tab S0 Ts0 (fun _=>l))(hd:∀i,i<5->depT (Ts0 i)<=31)(hid:In64 id):
  cQ 71 #[tp tb,.int .i64 id] w fun e w'=>e= .returned (.int .i64 (delE l id))/\∃S Ts,DelY S0 Ts0 l id S Ts/\∃F',TblAt w' tb p ts F'/\PagerAt w' p F' S/\Keeps F F' w w':=by
 cases hg:getL l id with
 | none=>
   refine(Y3h id w ht hp hT (hd 0 (by omega)) hid hg).mono ?_;rintro e w' ⟨rfl,h⟩;exact⟨by unfold delE;rw[hg];rfl,S0,Ts0,⟨⟨by rw[V4h hg];exact hT,fun _=>aF _,fun _=>aF _,rfl,.inl ⟨rfl,hg⟩⟩,fun n C h=>h,fun h=>h⟩,h⟩
 | some o=>
   have h0:=hg;unfold getL at h0;have hm:=List.mem_of_find?_eq_some h0;have hi:o.id=id:=by have:=List.find?_some h0;simpa using this
   subst hi;refine(X6r (L:=fun _=>l) o w ht hp hT (fun _ _=>hm) hd).mono ?_;rintro e w' ⟨rfl,S,Ts,F',h⟩;refine⟨by unfold delE;rw[hg];rfl,S,Ts,⟨⟨h.tab.congr (fun _ _=>rfl) (fun i hi=> ?_),h.dep,h.less,h.room,.inr ⟨o,hg,h.done⟩⟩,h.soil,h.acc⟩,F',h.at_,h.pag,h.keep⟩;rw[if_pos hi]
structure PutY (S0:StoreD) (Ts0:Nat->TrD) (l:List OpD) (o:OpD) (S:StoreD) (Ts:Nat->TrD):Prop where
 tab:Tab S Ts (fun _=>o::delO l o.id)
 via:∃S1 Ts1,DelY S0 Ts0 l o.id S1 Ts1/\(∀i,i<5->U1y i o (Ts1 i) (Ts i))/\Z0z S1<=Z0z S+Z4y Ts1 5/\((∀i,i<5->Slim (Ts1 i))->∀n C,Soil n C S1->Soil (n+X1a Ts1 5) C S)/\(Acc S1 Ts1->Acc S Ts)
theorem X1x{tb p:Nat}{ts:Nat->Nat}{F:Nat->Prop}{S0:StoreD}{Ts0:Nat->TrD}{l:List OpD}(o:OpD)(w:World)(ht:TblAt w tb p ts F)(hp:PagerAt w p F S0)(ho:Z1p o=0)
 (hT:Tab S0 Ts0 (fun _=>l))(hd:∀i,i<5->depT (Ts0 i)<=31)(hr:Z4y Ts0 5<=Z0z S0):
  cQ 69 #[tp tb,o.val] w fun e w'=>e= .returned (.int .i64 0)/\∃S Ts,PutY S0 Ts0 l o S Ts/\∃F',TblAt w' tb p ts F'/\PagerAt w' p F' S/\Keeps F F' w w':=by
 have hid:In64 o.id:=by have:=(OpIn.of ho).id;unfold In64;omega
 refine(Y9n (L:=fun _=>delO l o.id) (DelY S0 Ts0 l o.id) o w ht hp ho (fun W F1 h1 h2=>(Y3i o.id W h1 h2 hT hd hid).mono ?_) (fun S Ts h=>⟨h.tab,fun i hi=>Nat.le_trans (h.dep i) (hd i hi),by have:=h.more;omega⟩) (fun i _ x hx=>(Z5k.1 hx).2)).mono ?_
 ·rintro e w' ⟨rfl,S,Ts,hb,h⟩;refine⟨_,S,Ts,?_,rfl,hb,h⟩;unfold delE;split
  ·exact .inl rfl
  ·exact .inr rfl
 ·rintro e w' ⟨rfl,S1,Ts1,hb,S,Ts,F',h⟩;exact⟨rfl,S,Ts,⟨h.tab.congr (fun _ _=>rfl) (fun i hi=>by rw[if_pos hi]),S1,Ts1,hb,fun i hi=>h.done i hi,h.room,h.soil,h.acc⟩,F',h.at_,h.pag,h.keep⟩
structure TabZ (c:Nat) (C:StoreD) (S:StoreD) (Ts:Nat->TrD) (l:List OpD) (t:Nat):Prop extends TabI c S Ts l t where
 soil:Soil (Y9s t) C S
 acc:Acc S Ts
theorem PutY.putB{S0 S:StoreD}{Ts0 Ts:Nat->TrD}{l:List OpD}{o:OpD}(h:PutY S0 Ts0 l o S Ts):PutB S0 Ts0 l o S Ts:=
 let ⟨S1,Ts1,h1,h2,h3,_⟩:=h.via;⟨h.tab,S1,Ts1,h1.toDelB,h2,h3⟩
section
variable {c t:Nat} {C S0 S:StoreD} {Ts0 Ts:Nat->TrD} {l:List OpD} {o:OpD} {id:Int}
theorem TabZ.more{u:Nat}(h:TabZ c C S Ts l t)(hu:t<=u):TabZ c C S Ts l u:=⟨h.toTabI.more hu,h.soil.more (Y1c hu),h.acc⟩
theorem TabZ.del(h:TabZ c C S0 Ts0 l t)(hb:DelY S0 Ts0 l id S Ts):TabZ c C S Ts (delO l id) t:=⟨h.toTabI.del hb.toDelB,hb.soil _ _ h.soil,hb.acc h.acc⟩
theorem TabZ.put(h:TabZ c C S0 Ts0 l t)(ho:Z1p o=0)(hb:PutY S0 Ts0 l o S Ts):TabZ c C S Ts (wiO l o) (t+1):=by obtain⟨S1,Ts1,h1,h2,h3,h4,h6⟩:=hb.via;refine⟨h.toTabI.put ho hb.putB,?_,h6 (h1.acc h.acc)⟩;have h5:=h.toTabI.del h1.toDelB;refine(h4 h5.slim _ _ (h1.soil _ _ h.soil)).more ?_;have:=Y6r h5.pot 5 (aF _);show _<=Y9s t+5*((t+17)/9);omega
end
section
variable {S S':StoreD}
theorem Cmtd.used(h:Cmtd S S')(hp:2<S.head.pages)(b:Nat):Z0y S' b=Z0y S b:=by unfold Z0y;rw[h.view 0 (by omega)]
theorem Cmtd.root(h:Cmtd S S')(hp:2<S.head.pages)(i:Nat):Z1w S' i=Z1w S i:=by unfold Z1w;rw[h.view 1 (by omega)]
theorem Cmtd.rm(h:Cmtd S S')(hp:2<S.head.pages):Z0z S'=Z0z S:=by unfold Z0z Z1y;rw[h.pages,show Z0y S'=Z0y S from funext (fun b=>h.used hp b)]
theorem PageN.cmtd{a:Nat}{n:NodeD}(hn:PageN S a n)(h:Cmtd S S')(hp:2<S.head.pages):PageN S' a n:=
 ⟨⟨hn.given.1,by rw[h.pages];exact hn.given.2.1,by rw[h.used hp];exact hn.given.2.2⟩,hn.ok,hn.fits,by rw[h.view a hn.given.2.1];exact hn.view⟩
theorem X4w(h:Cmtd S S')(hp:2<S.head.pages):∀(d:Nat) (t:TT d),onT S d t->onT S' d t
 | 0,_,ho=>PageN.cmtd ho h hp
 | d+1,_,ho=>⟨PageN.cmtd ho.1 h hp,fun c hc=>X4w h hp d c (ho.2 c hc)⟩
theorem TrS.cmtd{i:Nat}(h:Cmtd S S')(hp:2<S.head.pages):∀ {T:TrD},TrS S i T->TrS S' i T
 | .no,ht=>by show Z1w S' i=0;rw[h.root hp];exact ht
 | .yes d t,ht=>⟨by rw[h.root hp];exact ht.1,X4w h hp d t ht.2.1,ht.2.2⟩
theorem Fm.cmtd(hf:Fm S)(h:Cmtd S S')(hp:2<S.head.pages)(hfull:FullV S'):Fm S':=⟨hfull,by rw[h.used hp];exact hf.u0,by rw[h.used hp];exact hf.u1,by rw[h.pages];exact hf.most⟩
theorem Tab.cmtd{Ts:Nat->TrD}{L:Nat->List OpD}(ht:Tab S Ts L)(h:Cmtd S S')(hp:2<S.head.pages)(hfull:FullV S'):Tab S' Ts L:=
 ⟨ht.fm.cmtd h hp hfull,fun i hi=>(ht.tr i hi).cmtd h hp,ht.disj,ht.ok,ht.ids,ht.mem⟩
theorem TabI.cmtd{c t:Nat}{Ts:Nat->TrD}{l:List OpD}(ht:TabI c S Ts l t)(h:Cmtd S S')(hp:2<S.head.pages)(hfull:FullV S'):TabI c S' Ts l t:=
 ⟨ht.tab.cmtd h hp hfull,ht.ris,ht.pot,ht.slim,by rw[h.rm hp];exact ht.room⟩
theorem TabZ.cmtd{c t:Nat}{C:StoreD}{Ts:Nat->TrD}{l:List OpD}(ht:TabZ c C S Ts l t)(h:Cmtd S S')(hp:2<S.head.pages)(hfull:FullV S'):TabZ c S' S' Ts l t:=by
 refine⟨ht.toTabI.cmtd h hp hfull,⟨rfl,?_⟩,fun b hb hu=>ht.acc b hb (by rwa [h.used hp]at hu)⟩;obtain⟨L,h1,h2⟩:=ht.soil.list;refine⟨L,h1,fun b hb q=>h2 b hb ?_⟩;rcases q with q | q
 ·exact absurd (h.clean b) q
 ·rw[h.used hp]at q;exact .inr q
end
theorem V5q{S:StoreD}(h:Fm S)(hr:∀i,i<5->TrS S i .no):Tab S (fun _=> .no) (fun _=> []):=
 ⟨h,hr,fun i j _ _ _ b hb=>(by cases hb),fun i _ o ho=>(by cases ho),fun i _=>List.Pairwise.nil,fun i _ x=>⟨fun q=>(by cases q),fun⟨_,q,_⟩=>(by cases q)⟩⟩
theorem X9y{c n room:Nat}(hf:FullV (Z1j n room))(hc:c<=pgN n room-2):TabI c (Z1j n room) (fun _=> .no) [] 0:=
 ⟨V5q (X4m hf) (fun i _=>X4l n room i),List.Pairwise.nil,fun i _=>Nat.zero_le _,fun i _ x hx=>(by cases hx),by rw[Y1f];show c<=_+0;omega⟩
theorem V0i(f:Nat)(ya yb:Array Value)(W:World):Sem.run Tryz.prog (binOp .eql 154 (.func (.func f) ya yb) .nilFunc) W= .ok (.bool false) W:=by kernel_rfl
def U2b{A:Option Addr}{n c:Nat}(pv:Option Addr)(way:Int)(w:World)(e:Ending)(w':World):Prop:=
 ∃bt bw bf,e= .returned (.func (.func 178) #[] #[tp bf,tp bt,tp bw])/\Ext w w'/\w.heap.size<=bt/\w.heap.size<=bw/\w.heap.size<=bf/\
  Row1 w' bt 66 [.pointer pv]/\Row1 w' bw 3 [.int .i64 way]/\Row1 w' bf 80 [.slice A n c]
theorem V8m{A:Option Addr}{n c:Nat}(pv:Option Addr)(way:Int)(w:World):
  cQ 133 #[.pointer pv,.int .i64 way,.slice A n c] w (U2b (A:=A) (n:=n) (c:=c) pv way w):=by
 have HR:Hid (∀W',W'=((w.alloc (.cells #[.pointer pv] 66)).alloc (.cells #[.int .i64 way] 3)).alloc (.cells #[.slice A n c] 80)->U2b (A:=A) (n:=n) (c:=c) pv way w (.returned (.func (.func 178) #[] #[.pointer (some ⟨w.heap.size+2,0,none⟩),tp w.heap.size,.pointer (some ⟨w.heap.size+1,0,none⟩)])) W'):=by rintro W' rfl;exact⟨w.heap.size,w.heap.size+1,w.heap.size+2,rfl,(Ext.alloc _ _).trans ((Ext.alloc _ _).trans (Ext.alloc _ _)),by omega,by omega,by omega,((Row1.made w _ [.pointer pv]).alloc _).alloc _,(Row1.made' (by simp) _ [.int .i64 way]).alloc _,Row1.made' (by simp) _ [.slice A n c]⟩
 go_enter Tryz.func133,Tryz.ntmps133;go_wp2_with fail;go_ret;exact HR.out _ rfl
attribute [local go_sem] Oper.semAt_some
def AllR(pv:Option Addr)(w:World)(e:Ending)(w':World):Prop:=
 ∃bt,e= .returned (.func (.func 132) #[] #[tp bt])/\Ext w w'/\w.heap.size<=bt/\Row1 w' bt 66 [.pointer pv]
theorem Y6b(pv:Option Addr)(w:World):
  cQ 73 #[.pointer pv] w (AllR pv w):=by
 have HR:Hid (∀W',W'=w.alloc (.cells #[.pointer pv] 66)->AllR pv w (.returned (.func (.func 132) #[] #[tp w.heap.size])) W'):=by rintro W' rfl;exact⟨w.heap.size,rfl,Ext.alloc _ _,aF _,Row1.made w _ [.pointer pv]⟩
 go_enter Tryz.func73,Tryz.ntmps73;go_wp2_with fail;go_ret;exact HR.out _ rfl
end
section
open Go.RowKit
structure FJ (bl bm:Nat) (most:Int) (pre:List OpD) (G:Nat->Prop) (W:World):Prop where
 list:∃A c,OwnL W 0 73 11 OpD.cells (.slice A pre.length c) pre/\Row1 W bl 69 [.slice A pre.length c]/\∀k,(Value.slice A pre.length c).ownBlock=some k->G k
 most:Row1 W bm 3 [.int .i64 most]
 gl:G bl
 gm:G bm
theorem Y6s{bl bm:Nat}{most:Int}{pre:List OpD}{G:Nat->Prop}(x:OpD)(W:World)(h:FJ bl bm most pre G W)(hp:pre.length<=100000):
  cQ 134 #[x.val,tp bl,tp bm] W fun e W'=>e= .returned (.bool (decide ((pre.length:Int)+1<most)))/\∃G2,FJ bl bm most (pre++ [x]) G2 W'/\Keeps G G2 W W':=by
 obtain⟨A,c,ho,hr,hk⟩:=h.list;have hm:=h.most;have hgl:=h.gl;have hgm:=h.gm;have hne:bl≠bm:=hr.apart hm (by decide);have hvl:(Value.slice A pre.length c).ownBlock≠some bl:=ho.apartRow hr (by decide);have hvm:(Value.slice A pre.length c).ownBlock≠some bm:=ho.apartRow hm (by decide);have c0:W.cell? ⟨bl,0,none⟩=some (.slice A pre.length c):=hr.cell 0;have HO:=hD ho;have HR:=hD hr;have HM:=hD hm;have HK:=hD hk;have HGL:=hD hgl;have HGM:=hD hgm;have hbl:=hr.lt;have hbm:=hm.lt;obtain⟨n,hn⟩:∃n,pre.length=n:=⟨_,rfl⟩;have HN:=hD hn;have HLN:Hid ((pre++ [x]).length=n+1):=by unfold Hid;rw[aA,aK,hn]
 rw[hn]at hp ho hr hk hvl hvm c0 HO HR HK ⊢;clear h hn ho hr hm hk hgl hgm;go_enter Tryz.func134,Tryz.ntmps134;go_upto_region 1 with fail;have HX2:Hid (Ext W ((W.alloc (.cells #[.int .i64 x.id,.int .i64 x.proc,.int .i64 x.object,.int .i64 x.kind,.int .i64 x.method,.int .i64 x.arg,.int .i64 x.second,.bool x.done,.int .i64 x.result,.int .i64 x.invoke,.int .i64 x.ret] 73)).alloc (.cells #[.int .i64 x.id,.int .i64 x.proc,.int .i64 x.object,.int .i64 x.kind,.int .i64 x.method,.int .i64 x.arg,.int .i64 x.second,.bool x.done,.int .i64 x.result,.int .i64 x.invoke,.int .i64 x.ret] 73))):=(Ext.alloc _ _).trans (Ext.alloc _ _);have HOX:Hid (OwnL ((W.alloc (.cells #[.int .i64 x.id,.int .i64 x.proc,.int .i64 x.object,.int .i64 x.kind,.int .i64 x.method,.int .i64 x.arg,.int .i64 x.second,.bool x.done,.int .i64 x.result,.int .i64 x.invoke,.int .i64 x.ret] 73)).alloc (.cells #[.int .i64 x.id,.int .i64 x.proc,.int .i64 x.object,.int .i64 x.kind,.int .i64 x.method,.int .i64 x.arg,.int .i64 x.second,.bool x.done,.int .i64 x.result,.int .i64 x.invoke,.int .i64 x.ret] 73)) 0 73 11 OpD.cells (.slice A n c) pre):=HO.out.ext HX2.out;have HRX:Hid (Row1 ((W.alloc (.cells #[.int .i64 x.id,.int .i64 x.proc,.int .i64 x.object,.int .i64 x.kind,.int .i64 x.method,.int .i64 x.arg,.int .i64 x.second,.bool x.done,.int .i64 x.result,.int .i64 x.invoke,.int .i64 x.ret] 73)).alloc (.cells #[.int .i64 x.id,.int .i64 x.proc,.int .i64 x.object,.int .i64 x.kind,.int .i64 x.method,.int .i64 x.arg,.int .i64 x.second,.bool x.done,.int .i64 x.result,.int .i64 x.invoke,.int .i64 x.ret] 73)) bl 69 [.slice A n c]):=HR.out.ext HX2.out hbl;have HMX:Hid (Row1 ((W.alloc (.cells #[.int .i64 x.id,.int .i64 x.proc,.int .i64 x.object,.int .i64 x.kind,.int .i64 x.method,.int .i64 x.arg,.int .i64 x.second,.bool x.done,.int .i64 x.result,.int .i64 x.invoke,.int .i64 x.ret] 73)).alloc (.cells #[.int .i64 x.id,.int .i64 x.proc,.int .i64 x.object,.int .i64 x.kind,.int .i64 x.method,.int .i64 x.arg,.int .i64 x.second,.bool x.done,.int .i64 x.result,.int .i64 x.invoke,.int .i64 x.ret] 73)) bm 3 [.int .i64 most]):=HM.out.ext HX2.out hbm;have HP1:Hid (pre.length+1<=1000000000):=by unfold Hid;rw[HN.out];omega
 have HVL:=hD hvl;have HVM:=hD hvm;go_wp2_with (at_builtin;go_loud (refine Z0u elOp Y0a X0j rfl (.tmp 5) (.tmp 7) rfl (.slice A n c) pre rfl HOX.out (Nat.zero_le _) (W.heap.size+1) 1 x rfl (Row1.made' (by simp) _ x.cells) HP1.out (by decide) ?_;intro A4 c4 w4 hown4 hgr4 hwh4;rw[HLN.out]at hown4 hwh4 ⊢;have HR4:=HRX.out.grown hgr4 (fun e=>HVL.out e.symm);have HM4:=hD (HMX.out.grown hgr4 (fun e=>HVM.out e.symm));have v40:w4.cell? ⟨bl,0,none⟩=some (.slice A n c):=HR4.cell 0;have vf0:w4.frozen? ⟨bl,0,none⟩=false:=HR4.soft 0;have v41:w4.cell? ⟨bm,0,none⟩=some (.int .i64 most):=HM4.out.cell 0;have HR4:=hD HR4;have HO4:=hD hown4;have HG4:=hD hgr4;have HW4:=hD hwh4;clear hown4 hgr4 hwh4));go_ret;refine⟨?_,fun i=>G i\/W.heap.size<=i,?_,?_⟩
 ·try simp only[Int.natCast_add,Int.natCast_one]
  rfl
 ·have hw2:((W.alloc (.cells #[.int .i64 x.id,.int .i64 x.proc,.int .i64 x.object,.int .i64 x.kind,.int .i64 x.method,.int .i64 x.arg,.int .i64 x.second,.bool x.done,.int .i64 x.result,.int .i64 x.invoke,.int .i64 x.ret] 73)).alloc (.cells #[.int .i64 x.id,.int .i64 x.proc,.int .i64 x.object,.int .i64 x.kind,.int .i64 x.method,.int .i64 x.arg,.int .i64 x.second,.bool x.done,.int .i64 x.result,.int .i64 x.invoke,.int .i64 x.ret] 73)).heap.size=W.heap.size+2:=by simp
  have hG:∀k,(Value.slice A4 (n+1) c4).ownBlock=some k->(G k\/W.heap.size<=k)/\k≠bl:=fun k hk=>by
   rcases HW4.out k hk with q | q
   ·exact⟨.inl (HK.out k q),fun e=>HVL.out (e▸q)⟩
   ·rw[hw2]at q;exact⟨.inr (by omega),by omega⟩
  have ho:Only (fun i=>i=bl) w4 (w4.setCell ⟨bl,0,none⟩ (.slice A4 (n+1) c4)):=Only.setCell (F:=fun i=>i=bl) (p:=⟨bl,0,none⟩) Only.refl (.inl rfl) _;refine⟨⟨A4,c4,?_,?_,?_⟩,ho.row HM4.out (Ne.symm hne),.inl HGL.out,.inl HGM.out⟩
  ·rw[HLN.out];exact HO4.out.only ho (fun k hk=>(hG k hk).2)
  ·rw[HLN.out];exact HR4.out.set 0 _
  ·rw[HLN.out];exact fun k hk=>(hG k hk).1
 ·exact⟨(((Only.of HX2.out).trans (Only.grown HG4.out) (fun i q=> .inl (HK.out i q))).setCell (p:=⟨bl,0,none⟩) (.inl HGL.out) _),fun i q=>q⟩
def kvW(way:Nat)(o:OpD):KV:=(wayK way o,recW way o)
theorem V1x{way:Nat}{l:List OpD}:∀(L:List KV),(∀x∈L,∃o∈l,x=kvW way o)->∃os:List OpD,L=os.map (kvW way)/\∀o∈os,o∈l
 | [],_=>⟨[],rfl,fun _ h=>by cases h⟩
 | x::r,h=>by
   obtain⟨o,ho,rfl⟩:=h x List.mem_cons_self;obtain⟨os,h1,h2⟩:=V1x r (fun y hy=>h y (List.mem_cons_of_mem _ hy));exact⟨o::os,by rw[h1];rfl,fun a ha=>by
    rcases List.mem_cons.1 ha with rfl | ha
    ·exact ho
    ·exact h2 a ha⟩
structure Finds (Ts:Nat->TrD) (way:Nat) (front:ByteArray) (l all:List OpD) (k:Nat):Prop where
 outs:Z1e (Ts way).list front=all.map (kvW way)
 mem:∀o∈all,o∈l
 under:∀i (h:i<all.length),i<k->Z3b (wayK way all[i]) front=true
 stop:∀h:k<all.length,Z3b (wayK way all[k]) front=false
 le:k<=all.length
theorem Y3o{α:Type}(p:α->Bool):∀l:List α,∃k,k<=l.length/\(∀i (h:i<l.length),i<k->p l[i]=true)/\∀h:k<l.length,p l[k]=false
 | []=>⟨0,aF _,fun i h=>absurd h (by simp),fun h=>absurd h (by simp)⟩
 | a::r=>by
   cases hp:p a with
   | false=>exact⟨0,by simp,fun i h q=>absurd q (by omega),fun _=>by simpa using hp⟩
   | true=>
     obtain⟨k,h1,h2,h3⟩:=Y3o p r;refine⟨k+1,by simp;omega,fun i h q=> ?_,fun h=> ?_⟩
     ·cases i with
      | zero=>simpa using hp
      | succ i=>simpa using h2 i (by simpa using h) (by omega)
     ·simpa using h3 (by simpa using h)
theorem Tab.finds{S:StoreD}{Ts:Nat->TrD}{l:List OpD}{way:Nat}(h:Tab S Ts (fun _=>l))(hw:way<5)(front:ByteArray):∃all k,Finds Ts way front l all k:=by
 obtain⟨all,h1,h2⟩:=V1x (way:=way) (l:=l) (Z1e (Ts way).list front) (fun x hx=>by
  obtain⟨o,ho,e⟩:=(h.mem way hw x).1 ((List.mem_filter.1 hx).1);exact⟨o,ho,e⟩)
 obtain⟨k,h3,h4,h5⟩:=Y3o (fun o=>Z3b (wayK way o) front) all;exact⟨all,k,h1,h2,h4,h5,h3⟩
attribute [local go_sem] Oper.semAt_some
theorem X1n(p q:Tmp)(u v:Value)(t:Array Value):(#[p,q].zip #[u,v]).foldl (fun t (p,v)=>t.setIfInBounds p v) t=(t.setIfInBounds p u).setIfInBounds q v:=by simp
theorem X5i:∀ {l:List OpD} (_:l.Pairwise (fun a b=>a.id≠b.id)) {o:OpD} (_:o∈l),getL l o.id=some o
 | [],_,_,h=>by cases h
 | a::r,hp,o,h=>by
   unfold getL;rw[List.find?_cons];rcases List.mem_cons.1 h with rfl | h
   ·simp
   ·have:=(List.pairwise_cons.1 hp).1 o h;rw[show (a.id==o.id)=false by simpa using this];exact X5i (List.pairwise_cons.1 hp).2 h
theorem Y4q{motive:Act->Prop}{a:Act}(h:∀a0,a0=a->motive a0):motive a:=h a rfl
theorem X6v{w:World}{base:Nat}{v:Value}{way:Nat}{o:OpD}(h:OwnL w base 3 1 encN v (wayL way o)):∃sb cap q,v= .slice (some ⟨sb,0,none⟩) (q+1) cap/\q<3/\base<=sb/\sb<w.heap.size/\w.cell? ⟨sb,q,none⟩=some (.int .i64 o.id):=by
 have hw:=Z3w way o;obtain⟨g,cap,spare,rfl,hbg,hr,h4⟩:=h.row (by omega);have hlt:=h.lt g rfl;obtain⟨q,hq⟩:∃q,(wayL way o).length=q+1:=⟨(wayL way o).length-1,by omega⟩;refine⟨g,cap,q,by rw[hq],by omega,hlt.1,hlt.2,?_⟩;have hl:(wayL way o)[q]? =some o.id:=by have:=Y3e way o;rw[List.getLast?_eq_getElem?,hq]at this;exact this
 rw[hr.cell q,aL (by rw[Z0t Z0j,hq];omega)];have:=Z3j encN 1 Z0j (wayL way o) q o.id hl 0 (.int .i64 o.id) rfl;rwa [Nat.mul_one,Nat.add_zero]at this
structure FRows (tb p:Nat) (ts:Nat->Nat) (bt bw bs by_ bl bm way:Nat) (begin:ByteArray) (T:Nat->Prop) (W:World):Prop where
 row:X6c W tb ts
 tree:∀j,j<5->Z0b W (ts j) p j
 rt:Row1 W bt 66 [tp tb]
 rw_:Row1 W bw 3 [.int .i64 (way:Nat)]
 rs:Row1 W bs 9 [.string begin]
 ry:Row1 W by_ 227 [.func (.func 134) #[] #[tp bl,tp bm]]
 t1:T tb
 t2:∀j,j<5->T (ts j)
 t3:T bt/\T bw/\T bs/\T by_
theorem FRows.only{tb p:Nat}{ts:Nat->Nat}{bt bw bs by_ bl bm way:Nat}{begin:ByteArray}{T G:Nat->Prop}{W W':World}(h:FRows tb p ts bt bw bs by_ bl bm way begin T W)(ho:Only G W W')(hG:∀i,T i->¬G i):FRows tb p ts bt bw bs by_ bl bm way begin T W':=
 ⟨ho.row h.row (hG _ h.t1),fun j hj=>ho.row (h.tree j hj) (hG _ (h.t2 j hj)),ho.row h.rt (hG _ h.t3.1),ho.row h.rw_ (hG _ h.t3.2.1),ho.row h.rs (hG _ h.t3.2.2.1),ho.row h.ry (hG _ h.t3.2.2.2),h.t1,h.t2,h.t3⟩
theorem FRows.tbl{tb p:Nat}{ts:Nat->Nat}{bt bw bs by_ bl bm way:Nat}{begin:ByteArray}{T F:Nat->Prop}{W:World}(h:FRows tb p ts bt bw bs by_ bl bm way begin T W)(hF:∀i,T i->¬F i):TblAt W tb p ts F:=
 ⟨h.row,h.tree,hF _ h.t1,fun j hj=>hF _ (h.t2 j hj)⟩
theorem FJ.only{bl bm:Nat}{most:Int}{pre:List OpD}{G H:Nat->Prop}{W W':World}(h:FJ bl bm most pre G W)(ho:Only H W W')(hH:∀i,G i->¬H i):FJ bl bm most pre G W':=by obtain⟨A,c,h1,h2,h3⟩:=h.list;exact⟨⟨A,c,h1.only ho (fun k hk=>hH k (h3 k hk)),ho.row h2 (hH _ h.gl),h3⟩,ho.row h.most (hH _ h.gm),h.gl,h.gm⟩
def FI(tb p:Nat)(ts:Nat->Nat)(bt bw bs by_ bl bm way:Nat)(begin:ByteArray)(T:Nat->Prop)(most:Int)(all:List OpD)(k:Nat)(pre:List KV)(G:Nat->Prop)(W:World):Prop:=
 ∃Gc:Nat->Prop,G=(fun i=>Gc i\/T i)/\(∀i,T i->¬Gc i)/\pre=(all.take pre.length).map (kvW way)/\pre.length<=k/\(pre.length<=all.length/\(pre.length:Int)<most)/\
  FRows tb p ts bt bw bs by_ bl bm way begin T W/\FJ bl bm most (all.take pre.length) Gc W
theorem FI.abides{tb p:Nat}{ts:Nat->Nat}{bt bw bs by_ bl bm way:Nat}{begin:ByteArray}{T:Nat->Prop}{most:Int}{all:List OpD}{k:Nat}:Z2y (FI tb p ts bt bw bs by_ bl bm way begin T most all k):=by rintro s G W W' ⟨Gc,rfl,h1,h2,h3,h4,h5,h6⟩ hlt ho;exact⟨Gc,rfl,h1,h2,h3,h4,h5.only ho (fun i q r=>r (.inr q)),h6.only ho (fun i q r=>r (.inl q))⟩
def FX(tb p:Nat)(ts:Nat->Nat)(bt bw bs by_ bl bm way:Nat)(begin:ByteArray)(T:Nat->Prop)(most:Int)(all:List OpD)(k:Nat)(G:Nat->Prop)(W:World):Prop:=
 ∃(Gc:Nat->Prop) (j:Nat),G=(fun i=>Gc i\/T i)/\(∀i,T i->¬Gc i)/\j<=k/\j<=all.length/\((j=k\/most<=(j:Int))/\(j:Int)<=most)/\
  FRows tb p ts bt bw bs by_ bl bm way begin T W/\FJ bl bm most (all.take j) Gc W
theorem FX.abides{tb p:Nat}{ts:Nat->Nat}{bt bw bs by_ bl bm way:Nat}{begin:ByteArray}{T:Nat->Prop}{most:Int}{all:List OpD}{k:Nat}(s:List KV)(G:Nat->Prop)(W W':World)(h:FX tb p ts bt bw bs by_ bl bm way begin T most all k G W)(ho:Only (fun i=>¬G i) W W'):FX tb p ts bt bw bs by_ bl bm way begin T most all k G W':=by obtain⟨Gc,j,rfl,h1,h2,h3,h4,h5,h6⟩:=h;exact⟨Gc,j,rfl,h1,h2,h3,h4,h5.only ho (fun i q r=>r (.inr q)),h6.only ho (fun i q r=>r (.inl q))⟩
theorem FRows.keeps{tb p:Nat}{ts:Nat->Nat}{bt bw bs by_ bl bm way:Nat}{begin:ByteArray}{T F0 F1 Gc Gc1:Nat->Prop}{W0 W:World}(h1:FRows tb p ts bt bw bs by_ bl bm way begin T W0)(h2:FRows tb p ts bt bw bs by_ bl bm way begin T W)
 (hT:∀i,T i->i=tb\/(∃j,j<5/\i=ts j)\/i=bt\/i=bw\/i=bs\/i=by_)(hF:∀i,T i->¬F1 i/\¬Gc1 i)(hk:Keeps (Un F0 (fun i=>Gc i\/T i)) (Un F1 (fun i=>Gc1 i\/T i)) W0 W):Keeps (Un F0 Gc) (Un F1 Gc1) W0 W:=by
 have hb:∀i,T i->W.heap[i]? =W0.heap[i]? :=fun i q=>by
  rcases hT i q with rfl | ⟨j,hj,rfl⟩ | rfl | rfl | rfl | rfl
  ·exact h2.row.trans h1.row.symm
  ·exact(h2.tree j hj).trans (h1.tree j hj).symm
  ·exact h2.rt.trans h1.rt.symm
  ·exact h2.rw_.trans h1.rw_.symm
  ·exact h2.rs.trans h1.rs.symm
  ·exact h2.ry.trans h1.ry.symm
 refine⟨⟨hk.only.os,hk.only.tape,hk.only.output,hk.only.size,fun i hi hn=> ?_⟩,fun i q=> ?_⟩
 ·by_cases ht:T i
  ·exact hb i ht
  ·exact hk.only.block i hi (fun r=>by
    rcases r with r | r | r
    ·exact hn (.inl r)
    ·exact hn (.inr r)
    ·exact ht r)
 ·have hnT:¬T i:=fun r=>by
   rcases q with q | q
   ·exact(hF i r).1 q
   ·exact(hF i r).2 q
  rcases hk.new i (q.elim .inl (fun q=> .inr (.inl q)))with (r | r | r) | r
  ·exact .inl (.inl r)
  ·exact .inl (.inr r)
  ·exact absurd r hnT
  ·exact .inr r
end
end Go.Proofs.YtohaldfnmgcofaaGreat
