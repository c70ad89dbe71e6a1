/- table.Put of an operation that is none: its fault is told, and nothing is turned. Conditions: a table. -/
import Derived.Test.YtohaldfnmgcofaaGreatW27
set_option maxRecDepth 100000
set_option maxHeartbeats 4000000
set_option linter.unusedSimpArgs false
set_option linter.unusedVariables false
namespace Go.Proofs.YtohaldfnmgcofaaGreat
section
open Go.RowKit
theorem X6i{tb p:Nat}{ts:Nat->Nat}{F:Nat->Prop}(o:OpD)(w:World)(ht:TblAt w tb p ts F)(ho:Z1s o≠0)(hr:In64 o.result):
  Calls Tryz.prog 69 #[.pointer (some ⟨tb,0,none⟩),o.val] w fun e w'=>e= .returned (.int .i64 (Z1s o))/\Ext w w':=by
 obtain⟨W0,hW0⟩:∃W0,w.alloc (.cells #[.int .i64 o.id,.int .i64 o.proc,.int .i64 o.object,.int .i64 o.kind,.int .i64 o.method,.int .i64 o.arg,.int .i64 o.second,.bool o.done,.int .i64 o.result,.int .i64 o.invoke,.int .i64 o.ret] 73)=W0:=⟨_,rfl⟩;have HX0:Hid (Ext w W0):=by unfold Hid;rw[<-hW0];exact Ext.alloc _ _
 have HR0:Hid (Row1 W0 w.heap.size 73 o.cells):=by unfold Hid;rw[<-hW0];exact Row1.made w _ _
 have cE:Hid (∀W,Calls Tryz.prog 131 #[.agg #[.int .i64 o.id,.int .i64 o.proc,.int .i64 o.object,.int .i64 o.kind,.int .i64 o.method,.int .i64 o.arg,.int .i64 o.second,.bool o.done,.int .i64 o.result,.int .i64 o.invoke,.int .i64 o.ret]] W fun e w'=>e= .returned (.tuple #[.string ⟨#[]⟩,.int .i64 (Z1s o)])/\Ext W w'):=fun W=>by have h1:=Z7f o W hr;rw[if_neg ho]at h1;exact h1
 have cM:Hid (∀W,Ext w W->Calls Tryz.prog 85 #[.pointer (some ⟨tb,0,none⟩)] W fun e w'=>e= .returned (.bool true)/\W=w'):=fun W hW=>Z2f W (ht.ext hW).row;obtain⟨c,hc⟩:∃c,Z1s o=c:=⟨_,rfl⟩;rw[hc]at cE ho ⊢;have q1:(c==0)=false:=by simpa using ho
 have q2:(c !=0)=true:=by simpa using ho
 clear hc ht hr;go_enter Tryz.func69,Tryz.ntmps69;go_upto_region 1 with fail;clear hW0;obtain⟨b0,b1,b2,b3,b4,b5,b6,b7,b8,b9,b10⟩:=At11.row HR0.out;go_wp2_with (first
  | (go_at_call 131;(with_reducible refine(cE.out _).mono ?_);clear cE;rintro e w1 ⟨rfl,hb1⟩;have b0:=(At11.row (HR0.out.ext hb1 HR0.out.lt)).1;have HB1:Hid (Ext w w1):=HX0.out.trans hb1;clear hb1)
  | (go_at_call 85;(with_reducible refine(cM.out _ HB1.out).mono ?_);clear cM;rintro e w2 ⟨rfl,rfl⟩))
 go_ret;exact⟨rfl,HB1.out⟩
def ltI:List Int->List Int->Bool
 | [],[]=>false
 | [],_::_=>true
 | _::_,[]=>false
 | x::a,y::b=>if x=y then ltI a b else decide (x<y)
theorem V1l:∀(a b:List Int),ltI a b=true↔a<b
 | [],[]=>by simp[ltI]
 | [],y::b=>by simp[ltI]
 | x::a,[]=>by simp[ltI]
 | x::a,y::b=>by
   unfold ltI;rw[List.cons_lt_cons_iff];by_cases e:x=y
   ·rw[if_pos e,V1l a b];subst e;constructor
    ·exact fun h=> .inr ⟨rfl,h⟩
    ·rintro(h | ⟨_,h⟩)
     ·omega
     ·exact h
   ·rw[if_neg e,decide_eq_true_iff];constructor
    ·exact fun h=> .inl h
    ·rintro(h | ⟨h,_⟩)
     ·exact h
     ·exact absurd h e
end
section
open Go.RowKit
def Z1t(i:Nat)(all:List OpD):ByteArray->Option Int:=all.foldl (fun f o=>updS f (wayK i o) (some o.id)) (fun _=>none)
def Z8w(i:Nat)(f:ByteArray->Option Int)(x:KV):Prop:=(f x.1).isSome=true/\(i=0\/x.2=⟨#[]⟩)
open Classical in
noncomputable def trK (i:Nat) (s:List (Int×Int)×(ByteArray->Option Int)) (x:KV):List (Int×Int)×(ByteArray->Option Int):=
 if Z8w i s.2 x then(s.1,updS s.2 x.1 none)else(s.1++ [((i:Int),0)],s.2)
def trO(i:Nat)(f:ByteArray->Option Int)(out:List (Int×Int))(o:OpD):List (Int×Int):=if(f (wayK i o)).isSome=true then out++ [((i:Int),o.id)]else out
noncomputable def trW (i:Nat) (all:List OpD) (kl:List KV) (out:List (Int×Int)):List (Int×Int):=all.foldl (trO i (kl.foldl (trK i) (out,Z1t i all)).2) (kl.foldl (trK i) (out,Z1t i all)).1
noncomputable def trAll (all:List OpD) (Kl:Nat->List KV):Nat->List (Int×Int)
 | 0=> []
 | k+1=>trW k all (Kl k) (trAll all Kl k)
theorem X4o(i:Nat):∀(all:List OpD) (f:ByteArray->Option Int) (k:ByteArray),((all.foldl (fun f o=>updS f (wayK i o) (some o.id)) f) k).isSome=true↔(f k).isSome=true\/∃o∈all,wayK i o=k
 | [],f,k=>by simp
 | o::r,f,k=>by
   rw[List.foldl_cons,X4o i r];unfold updS;by_cases e:k=wayK i o
   ·subst e;simp
   ·rw[if_neg e];constructor
    ·rintro(h | ⟨a,h1,h2⟩)
     ·exact .inl h
     ·exact .inr ⟨a,List.mem_cons_of_mem _ h1,h2⟩
    ·rintro(h | ⟨a,h1,h2⟩)
     ·exact .inl h
     ·rcases List.mem_cons.1 h1 with rfl | h1
      ·exact absurd h2.symm e
      ·exact .inr ⟨a,h1,h2⟩
theorem X0g(i:Nat)(all:List OpD)(k:ByteArray):(Z1t i all k).isSome=true↔∃o∈all,wayK i o=k:=by unfold Z1t;rw[X4o];simp
theorem V6n(i:Nat)(all:List OpD){k:ByteArray}{id:Int}(h:Z1t i all k=some id):∃o∈all,wayK i o=k/\o.id=id:=by
 unfold Z1t at h;have go:∀(all:List OpD) (f:ByteArray->Option Int),(all.foldl (fun f o=>updS f (wayK i o) (some o.id)) f) k=some id->f k=some id\/∃o∈all,wayK i o=k/\o.id=id:=by
  intro all
  induction all with
  | nil=>intro f h;exact .inl h
  | cons o r ih=>
    intro f h;rcases ih _ h with q | ⟨a,h1,h2⟩
    ·dsimp only[updS]at q;by_cases e:k=wayK i o
     ·rw[if_pos e]at q;injection q with q;exact .inr ⟨o,List.mem_cons_self,e.symm,q⟩
     ·rw[if_neg e]at q;exact .inl q
    ·exact .inr ⟨a,List.mem_cons_of_mem _ h1,h2⟩
 rcases go all _ h with q | q
 ·cases q
 ·exact q
theorem V2m{α:Type}{p q:Prop}[Decidable p][Decidable q]{a b:α}(h:p↔q):(if p then a else b)=if q then a else b:=by
 by_cases e:p
 ·rw[if_pos e,if_pos (h.1 e)]
 ·rw[if_neg e,if_neg (fun r=>e (h.2 r))]
open Classical in
theorem X1i(i:Nat):∀(kl:List KV) (out:List (Int×Int)) (f:ByteArray->Option Int),kl.Pairwise (fun a b=>a.1≠b.1)->
  (kl.foldl (trK i) (out,f)).1=out++(kl.filter (fun x=>decide (¬Z8w i f x))).map (fun _=>((i:Int),(0:Int)))/\∀k,(kl.foldl (trK i) (out,f)).2 k=if∃x∈kl,x.1=k/\Z8w i f x then none else f k
 | [],out,f,_=>by simp
 | x::r,out,f,hp=>by
   obtain⟨hx,hr⟩:=List.pairwise_cons.1 hp;rw[List.foldl_cons];by_cases hg:Z8w i f x
   ·have e:trK i (out,f) x=(out,updS f x.1 none):=if_pos hg;rw[e];obtain⟨h1,h2⟩:=X1i i r out (updS f x.1 none) hr;have hs:∀y∈r,(Z8w i (updS f x.1 none) y↔Z8w i f y):=fun y hy=>by unfold Z8w updS;rw[if_neg (fun e=>hx y hy e.symm)]
    refine⟨?_,fun k=> ?_⟩
    ·rw[h1,List.filter_cons_of_neg (by simpa using hg),List.filter_congr (fun y hy=>by rw[hs y hy])]
    ·rw[h2];by_cases hk:x.1=k
     ·rw[if_pos (⟨x,List.mem_cons_self,hk,hg⟩:∃y∈x::r,y.1=k/\Z8w i f y)];split
      ·rfl
      ·unfold updS;rw[if_pos hk.symm]
     ·have hu:updS f x.1 none k=f k:=by unfold updS;rw[if_neg (fun e=>hk e.symm)]
      rw[hu];refine V2m ⟨?_,?_⟩
      ·rintro⟨y,hy,e1,e2⟩;exact⟨y,List.mem_cons_of_mem _ hy,e1,(hs y hy).1 e2⟩
      ·rintro⟨y,hy,e1,e2⟩;rcases List.mem_cons.1 hy with rfl | hy
       ·exact absurd e1 hk
       ·exact⟨y,hy,e1,(hs y hy).2 e2⟩
   ·have e:trK i (out,f) x=(out++ [((i:Int),0)],f):=if_neg hg;rw[e];obtain⟨h1,h2⟩:=X1i i r (out++ [((i:Int),0)]) f hr;refine⟨?_,fun k=> ?_⟩
    ·rw[h1,List.filter_cons_of_pos (by simpa using hg)];simp
    ·rw[h2];refine V2m ⟨?_,?_⟩
     ·rintro⟨y,hy,q⟩;exact⟨y,List.mem_cons_of_mem _ hy,q⟩
     ·rintro⟨y,hy,e1,e2⟩;rcases List.mem_cons.1 hy with rfl | hy
      ·exact absurd e2 hg
      ·exact⟨y,hy,e1,e2⟩
theorem X1h(i:Nat)(f:ByteArray->Option Int):∀(all:List OpD) (out:List (Int×Int)),all.foldl (trO i f) out=out++(all.filter (fun o=>(f (wayK i o)).isSome)).map (fun o=>((i:Int),o.id))
 | [],out=>by simp
 | o::r,out=>by
   rw[List.foldl_cons,X1h i f r];unfold trO;by_cases h:(f (wayK i o)).isSome=true
   ·rw[if_pos h,List.filter_cons_of_pos (p:=fun o=>(f (wayK i o)).isSome) h];simp
   ·rw[if_neg h,List.filter_cons_of_neg (p:=fun o=>(f (wayK i o)).isSome) h]
open Classical in
theorem U1o(i:Nat)(all:List OpD)(kl:List KV)(out:List (Int×Int))(hk:kl.Pairwise (fun a b=>a.1≠b.1)):
  trW i all kl out=(out++(kl.filter (fun x=>decide (¬Z8w i (Z1t i all) x))).map (fun _=>((i:Int),(0:Int))))++(all.filter (fun o=>decide (¬∃x∈kl,x.1=wayK i o/\Z8w i (Z1t i all) x))).map (fun o=>((i:Int),o.id)):=by
 obtain⟨h1,h2⟩:=X1i i kl out (Z1t i all) hk;unfold trW;rw[X1h,h1]
 congr 2
 refine List.filter_congr (fun o ho=> ?_);rw[h2];by_cases q:∃x∈kl,x.1=wayK i o/\Z8w i (Z1t i all) x
 ·rw[if_pos q];simp[q]
 ·rw[if_neg q,(X0g i all _).2 ⟨o,ho,rfl⟩];simp[q]
theorem U1n(i:Nat)(all:List OpD)(kl:List KV)(out:List (Int×Int))(hk:kl.Pairwise (fun a b=>a.1≠b.1))(h:∀x:KV,x∈kl↔∃o∈all,x=(wayK i o,recW i o)):trW i all kl out=out:=by
 have hg:∀x∈kl,Z8w i (Z1t i all) x:=fun x hx=>by
  obtain⟨o,ho,rfl⟩:=(h x).1 hx;refine⟨(X0g _ _ _).2 ⟨o,ho,rfl⟩,?_⟩;unfold recW;by_cases e:i=0
  ·exact .inl e
  ·exact .inr (if_neg e)
 rw[U1o i all kl out hk,List.filter_eq_nil_iff.2 (fun x hx=>by simpa using hg x hx),List.filter_eq_nil_iff.2 (fun o ho=>by
  have hx:=(h _).2 ⟨o,ho,rfl⟩;have:∃x∈kl,x.1=wayK i o/\Z8w i (Z1t i all) x:=⟨_,hx,rfl,hg _ hx⟩;simpa using this)]
 simp
theorem X6h{all:List OpD}{Kl:Nat->List KV}{w:Nat}{r:List (Int×Int)}(h0:∀i,i<5->i≠w->∀out,trW i all (Kl i) out=out)(hw:∀out,trW w all (Kl w) out=out++r)(h5:w<5):trAll all Kl 5=r:=by
 have go:∀k,k<=5->trAll all Kl k=if w<k then r else []:=by
  intro k
  induction k with
  | zero=>intro _;rfl
  | succ k ih=>
    intro hk;show trW k all (Kl k) (trAll all Kl k)=_;rw[ih (by omega)];by_cases e:k=w
    ·subst e;rw[hw,if_neg (by omega),if_pos (by omega)];rfl
    ·rw[h0 k (by omega) e];by_cases q:w<k
     ·rw[if_pos q,if_pos (by omega)]
     ·rw[if_neg q,if_neg (by omega)]
 rw[go 5 (aF _),if_pos h5]
theorem V4v{all:List OpD}{Kl:Nat->List KV}(h0:∀i,i<5->∀out,trW i all (Kl i) out=out):trAll all Kl 5= []:=
 X6h (w:=0) (r:= []) (fun i hi _=>h0 i hi) (fun out=>by rw[h0 0 (by omega)];simp) (by omega)
end
end Go.Proofs.YtohaldfnmgcofaaGreat
