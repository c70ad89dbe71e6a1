/- What is out of order in a table (plain). No program. -/
import Derived.Test.YtohaldfnmgcofaaGreatT24
set_option maxRecDepth 100000
set_option maxHeartbeats 2000000
set_option linter.unusedSimpArgs false
set_option linter.unusedVariables false
namespace Go.Proofs.YtohaldfnmgcofaaGreat
section
open Go.RowKit
def Z1l(i:Nat)(all:List OpD):ByteArray->Option Int:=all.foldl (fun f o=>updS f (wayK i o) (some o.id)) (fun _=>none)
def Z6b(i:Nat)(f:ByteArray->Option Int)(x:KV):Prop:=(f x.1).isSome=true/\(i=0\/x.2=⟨#[]⟩)
open Classical in
noncomputable def trK (i:Nat) (s:List (Int×Int)×(ByteArray->Option Int)) (x:KV):List (Int×Int)×(ByteArray->Option Int):=
 if Z6b i s.2 x then(s.1,updS s.2 x.1 none)else(s.1++ [((i:Int),0)],s.2)
def trO(i:Nat)(f:ByteArray->Option Int)(out:List (Int×Int))(o:OpD):List (Int×Int):=if(f (wayK i o)).isSome=true then out++ [((i:Int),o.id)]else out
noncomputable def trW (i:Nat) (all:List OpD) (kl:List KV) (out:List (Int×Int)):List (Int×Int):=all.foldl (trO i (kl.foldl (trK i) (out,Z1l i all)).2) (kl.foldl (trK i) (out,Z1l i all)).1
noncomputable def trAll (all:List OpD) (Kl:Nat->List KV):Nat->List (Int×Int)
 | 0=> []
 | k+1=>trW k all (Kl k) (trAll all Kl k)
theorem X4x(i:Nat):∀(all:List OpD) (f:ByteArray->Option Int) (k:ByteArray),((all.foldl (fun f o=>updS f (wayK i o) (some o.id)) f) k).isSome=true↔(f k).isSome=true\/∃o∈all,wayK i o=k
 | [],f,k=>by simp
 | o::r,f,k=>by
   rw[List.foldl_cons,X4x i r];unfold updS;by_cases e:k=wayK i o
   ·subst e;simp
   ·rw[if_neg e];constructor
    ·rintro(h | ⟨a,h1,h2⟩)
     ·exact .inl h
     ·exact .inr ⟨a,List.mem_cons_of_mem _ h1,h2⟩
    ·rintro(h | ⟨a,h1,h2⟩)
     ·exact .inl h
     ·rcases List.mem_cons.1 h1 with rfl | h1
      ·exact absurd h2.symm e
      ·exact .inr ⟨a,h1,h2⟩
theorem Z7n(i:Nat)(all:List OpD)(k:ByteArray):(Z1l i all k).isSome=true↔∃o∈all,wayK i o=k:=by unfold Z1l;rw[X4x];simp
theorem V7e(i:Nat)(all:List OpD){k:ByteArray}{id:Int}(h:Z1l i all k=some id):∃o∈all,wayK i o=k/\o.id=id:=by
 unfold Z1l at h;have go:∀(all:List OpD) (f:ByteArray->Option Int),(all.foldl (fun f o=>updS f (wayK i o) (some o.id)) f) k=some id->f k=some id\/∃o∈all,wayK i o=k/\o.id=id:=by
  intro all
  induction all with
  | nil=>intro f h;exact .inl h
  | cons o r ih=>
    intro f h;rcases ih _ h with q | ⟨a,h1,h2⟩
    ·dsimp only[updS]at q;by_cases e:k=wayK i o
     ·rw[if_pos e]at q;injection q with q;exact .inr ⟨o,List.mem_cons_self,e.symm,q⟩
     ·rw[if_neg e]at q;exact .inl q
    ·exact .inr ⟨a,List.mem_cons_of_mem _ h1,h2⟩
 rcases go all _ h with q | q
 ·cases q
 ·exact q
theorem V3b{α:Type}{p q:Prop}[Decidable p][Decidable q]{a b:α}(h:p↔q):(if p then a else b)=if q then a else b:=by
 by_cases e:p
 ·rw[if_pos e,if_pos (h.1 e)]
 ·rw[if_neg e,if_neg (fun r=>e (h.2 r))]
open Classical in
theorem X1u(i:Nat):∀(kl:List KV) (out:List (Int×Int)) (f:ByteArray->Option Int),kl.Pairwise (fun a b=>a.1≠b.1)->
  (kl.foldl (trK i) (out,f)).1=out++(kl.filter (fun x=>decide (¬Z6b i f x))).map (fun _=>((i:Int),(0:Int)))/\∀k,(kl.foldl (trK i) (out,f)).2 k=if∃x∈kl,x.1=k/\Z6b i f x then none else f k
 | [],out,f,_=>by simp
 | x::r,out,f,hp=>by
   obtain⟨hx,hr⟩:=List.pairwise_cons.1 hp;rw[List.foldl_cons];by_cases hg:Z6b i f x
   ·have e:trK i (out,f) x=(out,updS f x.1 none):=if_pos hg;rw[e];obtain⟨h1,h2⟩:=X1u i r out (updS f x.1 none) hr;have hs:∀y∈r,(Z6b i (updS f x.1 none) y↔Z6b i f y):=fun y hy=>by unfold Z6b updS;rw[if_neg (fun e=>hx y hy e.symm)]
    refine⟨?_,fun k=> ?_⟩
    ·rw[h1,List.filter_cons_of_neg (by simpa using hg),List.filter_congr (fun y hy=>by rw[hs y hy])]
    ·rw[h2];by_cases hk:x.1=k
     ·rw[if_pos (⟨x,List.mem_cons_self,hk,hg⟩:∃y∈x::r,y.1=k/\Z6b i f y)];split
      ·rfl
      ·unfold updS;rw[if_pos hk.symm]
     ·have hu:updS f x.1 none k=f k:=by unfold updS;rw[if_neg (fun e=>hk e.symm)]
      rw[hu];refine V3b ⟨?_,?_⟩
      ·rintro⟨y,hy,e1,e2⟩;exact⟨y,List.mem_cons_of_mem _ hy,e1,(hs y hy).1 e2⟩
      ·rintro⟨y,hy,e1,e2⟩;rcases List.mem_cons.1 hy with rfl | hy
       ·exact absurd e1 hk
       ·exact⟨y,hy,e1,(hs y hy).2 e2⟩
   ·have e:trK i (out,f) x=(out++ [((i:Int),0)],f):=if_neg hg;rw[e];obtain⟨h1,h2⟩:=X1u i r (out++ [((i:Int),0)]) f hr;refine⟨?_,fun k=> ?_⟩
    ·rw[h1,List.filter_cons_of_pos (by simpa using hg)];simp
    ·rw[h2];refine V3b ⟨?_,?_⟩
     ·rintro⟨y,hy,q⟩;exact⟨y,List.mem_cons_of_mem _ hy,q⟩
     ·rintro⟨y,hy,e1,e2⟩;rcases List.mem_cons.1 hy with rfl | hy
      ·exact absurd e2 hg
      ·exact⟨y,hy,e1,e2⟩
theorem X1t(i:Nat)(f:ByteArray->Option Int):∀(all:List OpD) (out:List (Int×Int)),all.foldl (trO i f) out=out++(all.filter (fun o=>(f (wayK i o)).isSome)).map (fun o=>((i:Int),o.id))
 | [],out=>by simp
 | o::r,out=>by
   rw[List.foldl_cons,X1t i f r];unfold trO;by_cases h:(f (wayK i o)).isSome=true
   ·rw[if_pos h,List.filter_cons_of_pos (p:=fun o=>(f (wayK i o)).isSome) h];simp
   ·rw[if_neg h,List.filter_cons_of_neg (p:=fun o=>(f (wayK i o)).isSome) h]
open Classical in
theorem X9r(i:Nat)(all:List OpD)(kl:List KV)(out:List (Int×Int))(hk:kl.Pairwise (fun a b=>a.1≠b.1)):
  trW i all kl out=(out++(kl.filter (fun x=>decide (¬Z6b i (Z1l i all) x))).map (fun _=>((i:Int),(0:Int))))++(all.filter (fun o=>decide (¬∃x∈kl,x.1=wayK i o/\Z6b i (Z1l i all) x))).map (fun o=>((i:Int),o.id)):=by
 obtain⟨h1,h2⟩:=X1u i kl out (Z1l i all) hk;unfold trW;rw[X1t,h1]
 congr 2
 refine List.filter_congr (fun o ho=> ?_);rw[h2];by_cases q:∃x∈kl,x.1=wayK i o/\Z6b i (Z1l i all) x
 ·rw[if_pos q];simp[q]
 ·rw[if_neg q,(Z7n i all _).2 ⟨o,ho,rfl⟩];simp[q]
theorem U2e(i:Nat)(all:List OpD)(kl:List KV)(out:List (Int×Int))(hk:kl.Pairwise (fun a b=>a.1≠b.1))(h:∀x:KV,x∈kl↔∃o∈all,x=(wayK i o,recW i o)):trW i all kl out=out:=by
 have hg:∀x∈kl,Z6b i (Z1l i all) x:=fun x hx=>by
  obtain⟨o,ho,rfl⟩:=(h x).1 hx;refine⟨(Z7n _ _ _).2 ⟨o,ho,rfl⟩,?_⟩;unfold recW;by_cases e:i=0
  ·exact .inl e
  ·exact .inr (if_neg e)
 rw[X9r i all kl out hk,List.filter_eq_nil_iff.2 (fun x hx=>by simpa using hg x hx),List.filter_eq_nil_iff.2 (fun o ho=>by
  have hx:=(h _).2 ⟨o,ho,rfl⟩;have:∃x∈kl,x.1=wayK i o/\Z6b i (Z1l i all) x:=⟨_,hx,rfl,hg _ hx⟩;simpa using this)]
 simp
theorem V5m(i:Nat)(all:List OpD)(o:OpD)(kl:List KV)(out:List (Int×Int))(hi:i≠0)(hk:kl.Pairwise (fun a b=>a.1≠b.1))(ho:o∈all)(hnd:all.Nodup)(hinj:∀a∈all,∀b∈all,wayK i a=wayK i b->a=b)
 (h:∀x:KV,x∈kl↔∃a∈all,a≠o/\x=(wayK i a,recW i a)):trW i all kl out=out++ [((i:Int),o.id)]:=by
 have hg:∀x∈kl,Z6b i (Z1l i all) x:=fun x hx=>by obtain⟨a,ha,_,rfl⟩:=(h x).1 hx;exact⟨(Z7n _ _ _).2 ⟨a,ha,rfl⟩,.inr (if_neg hi)⟩
 have hf:∀a∈all,(¬∃x∈kl,x.1=wayK i a/\Z6b i (Z1l i all) x)↔a=o:=fun a ha=>by
  constructor
  ·intro q;by_cases e:a=o
   ·exact e
   ·exact absurd ⟨_,(h _).2 ⟨a,ha,e,rfl⟩,rfl,hg _ ((h _).2 ⟨a,ha,e,rfl⟩)⟩ q
  ·rintro rfl ⟨x,hx,e,_⟩;obtain⟨b,hb,hne,rfl⟩:=(h x).1 hx;exact hne (hinj b hb a ha e)
 have hfl:∀(q:OpD->Bool) (l:List OpD),l.Nodup->o∈l->(∀a∈l,q a=true↔a=o)->l.filter q= [o]:=by
  intro q l hl hol hq
  induction l with
  | nil=>cases hol
  | cons a r ih=>
    obtain⟨h1,h2⟩:=List.nodup_cons.1 hl;by_cases e:a=o
    ·subst e;rw[List.filter_cons_of_pos ((hq a List.mem_cons_self).2 rfl),List.filter_eq_nil_iff.2 (fun b hb r=>h1 ((hq b (List.mem_cons_of_mem _ hb)).1 r▸hb))]
    ·rw[List.filter_cons_of_neg (fun r=>e ((hq a List.mem_cons_self).1 r))];exact ih h2 ((List.mem_cons.1 hol).resolve_left (fun r=>e r.symm)) (fun b hb=>hq b (List.mem_cons_of_mem _ hb))
 rw[X9r i all kl out hk,List.filter_eq_nil_iff.2 (fun x hx=>by simpa using hg x hx),hfl _ all hnd ho (fun a ha=>by simp only[decide_eq_true_eq];exact hf a ha)];simp
theorem V5l(i:Nat)(all:List OpD)(k:ByteArray)(kl:List KV)(out:List (Int×Int))(hk:kl.Pairwise (fun a b=>a.1≠b.1))(hno:∀o∈all,wayK i o≠k)
 (h:∀x:KV,x∈kl↔x=(k,⟨#[]⟩)\/∃a∈all,x=(wayK i a,recW i a)):trW i all kl out=out++ [((i:Int),0)]:=by
 have hnk:¬Z6b i (Z1l i all) (k,⟨#[]⟩):=fun q=>by obtain⟨o,ho,e⟩:=(Z7n _ _ _).1 q.1;exact hno o ho e
 have hg:∀x∈kl,x≠(k,⟨#[]⟩)->Z6b i (Z1l i all) x:=fun x hx hne=>by
  obtain⟨o,ho,rfl⟩:=((h x).1 hx).resolve_left hne;refine⟨(Z7n _ _ _).2 ⟨o,ho,rfl⟩,?_⟩;unfold recW;by_cases e:i=0
  ·exact .inl e
  ·exact .inr (if_neg e)
 have hfl:∀(q:KV->Bool) (l:List KV),l.Pairwise (fun a b=>a.1≠b.1)->(k,(⟨#[]⟩:ByteArray))∈l->(∀a∈l,q a=true↔a=(k,⟨#[]⟩))->(l.filter q).map (fun _=>((i:Int),(0:Int)))= [((i:Int),(0:Int))]:=by
  intro q l hl hol hq
  induction l with
  | nil=>cases hol
  | cons a r ih=>
    obtain⟨h1,h2⟩:=List.pairwise_cons.1 hl;by_cases e:a=(k,⟨#[]⟩)
    ·rw[List.filter_cons_of_pos ((hq a List.mem_cons_self).2 e),List.filter_eq_nil_iff.2 (fun b hb r=>h1 b hb (by rw[e,(hq b (List.mem_cons_of_mem _ hb)).1 r]))];rfl
    ·rw[List.filter_cons_of_neg (fun r=>e ((hq a List.mem_cons_self).1 r))];exact ih h2 ((List.mem_cons.1 hol).resolve_left (fun r=>e r.symm)) (fun b hb=>hq b (List.mem_cons_of_mem _ hb))
 rw[X9r i all kl out hk,hfl _ kl hk ((h _).2 (.inl rfl)) (fun x hx=>by
  simp only[decide_eq_true_eq];exact⟨fun q=>Classical.byContradiction (fun r=>q (hg x hx r)),fun q=>q▸hnk⟩),List.filter_eq_nil_iff.2 (fun o ho=>by
  have hx:(wayK i o,recW i o)∈kl:=(h _).2 (.inr ⟨o,ho,rfl⟩);have hne:(wayK i o,recW i o)≠(k,(⟨#[]⟩:ByteArray)):=fun e=>hno o ho (congrArg Prod.fst e);have:∃x∈kl,x.1=wayK i o/\Z6b i (Z1l i all) x:=⟨_,hx,rfl,hg _ hx hne⟩;simpa using this)]
 simp
theorem Y6a{all:List OpD}{Kl:Nat->List KV}{w:Nat}{r:List (Int×Int)}(h0:∀i,i<5->i≠w->∀out,trW i all (Kl i) out=out)(hw:∀out,trW w all (Kl w) out=out++r)(h5:w<5):trAll all Kl 5=r:=by
 have go:∀k,k<=5->trAll all Kl k=if w<k then r else []:=by
  intro k
  induction k with
  | zero=>intro _;rfl
  | succ k ih=>
    intro hk;show trW k all (Kl k) (trAll all Kl k)=_;rw[ih (by omega)];by_cases e:k=w
    ·subst e;rw[hw,if_neg (by omega),if_pos (by omega)];rfl
    ·rw[h0 k (by omega) e];by_cases q:w<k
     ·rw[if_pos q,if_pos (by omega)]
     ·rw[if_neg q,if_neg (by omega)]
 rw[go 5 (aF _),if_pos h5]
end
section
open Go.RowKit
theorem V1n(n:Int)(k:Nat)(h:k<8):(ordL n).drop (8-(k+1))=UInt8.ofNat (ordU n/2 ^ (8*k)%256)::(ordL n).drop (8-k):=by have hl:=Z1k n;rw[List.drop_eq_getElem_cons (show 8-(k+1)<(ordL n).length by omega),V1o n _ (by omega),show 56-8*(8-(k+1))=8*k by omega,show 8-(k+1)+1=8-k by omega]
theorem Y5m(n:Int)(w:World)(h1: -9223372036854775808<=n)(h2:n<=9223372036854775807):cQ 76 #[.int .i64 n] w fun e w'=>e= .returned (.string (bts (ordL n)))/\Ext w w':=by
 have hU:ordU n<18446744073709551616:=by unfold ordU;omega
 have hx:IntKind.u64.wrap (IntKind.u64.wrap n+9223372036854775808)=(ordU n:Int):=by rw[IntKind.wrap_u64,IntKind.wrap_u64];unfold ordU;omega
 have HD:Hid (∀k,k<8->(ordL n).drop (8-(k+1))=UInt8.ofNat (ordU n/2 ^ (8*k)%256)::(ordL n).drop (8-k)):=V1n n;have HL8:Hid ((ordL n).length=8):=Z1k n;obtain⟨u,hu⟩:∃u,ordU n=u:=⟨_,rfl⟩;rw[hu]at hU hx HD;generalize ordL n=l at *;clear hu;go_enter Tryz.func76,Tryz.ntmps76;go_wp2_with fail
 go_loopw [3,4,5] (fun v s i wr=>∃k x:Nat,k<=8/\i= .int .i64 k/\v= .int .u64 (x:Nat)/\s= .string (bts (l.drop (8-k)))/\Hid (x=u/2 ^ (8*k))/\Ext w wr) (fun _ _ i _=>8-(intOf i).toNat)
 case atStart=>exact⟨0,u,by omega,rfl,rfl,by rw[List.drop_of_length_le (by have:=HL8.out;omega)];rfl,hD (by simp),Ext.refl _⟩
 case round=>
  obtain⟨k,x,hk,rfl,rfl,rfl,hxu,hxr⟩:=hrel;have HXR:=hD hxr;clear hxr;by_cases hq:k<8
  ·have hdd:=HD.out k hq;rw[<-hxu.out]at hdd;have hxlt:x<18446744073709551616:=by rw[hxu.out];exact Nat.lt_of_le_of_lt (Nat.div_le_self _ _) hU
   obtain⟨b,hb⟩:∃b:UInt8,UInt8.ofNat (x%256)=b:=⟨_,rfl⟩;rw[hb]at hdd;have hbn:(x:Int)%256=(b.toNat:Int):=by rw[<-hb,Z2a (Nat.mod_lt _ (by decide))];omega
   have hbl:b.toNat<256:=b.toNat_lt;have hbn2:(x:Int).tmod 256=(b.toNat:Int):=by rw[Int.tmod_eq_emod_of_nonneg (by omega)];exact hbn
   obtain⟨y,hy⟩:∃y,x/256=y:=⟨_,rfl⟩;have hq2:(x:Int).tdiv 256=(y:Int):=by rw[Int.tdiv_eq_ediv_of_nonneg (by omega)];omega
   have hq3:(x:Int)/256=(y:Int):=by omega
   have hw8:IntKind.u8.wrap (b.toNat:Int)=b.toNat:=by rw[IntKind.wrap_u8];omega
   have hm8:(b.toNat:Int)%256=b.toNat:=by omega
   have hwq:IntKind.u64.wrap (y:Int)=(y:Int):=by rw[IntKind.wrap_u64];omega
   have hwb:IntKind.u64.wrap (b.toNat:Int)=b.toNat:=by rw[IntKind.wrap_u64];omega
   have hc:=X3y (w:=wr.alloc (.cells #[.int .u8 (b.toNat:Int)] 5)) (l:= [b]) (Row1.made wr 5 [.int .u8 (b.toNat:Int)]) 1 1 rfl;have HS:Hid (bts [b]++bts (l.drop (8-k))=bts (l.drop (8-(k+1)))):=by unfold Hid;rw[Z7y,hdd];rfl
   have HX2:Hid (y=u/2 ^ (8*(k+1))):=by unfold Hid;rw[<-hy,hxu.out,Nat.div_div_eq_div_mul,show 8*(k+1)=8*k+8 by omega,Nat.pow_add]
   have hsz:(bts [b]).size=1:=by rw[Z0e];rfl
   have hsz2:(bts (l.drop (8-k))).size<=8:=by rw[Z0e,aJ];have:=HL8.out;omega
   generalize bts [b]=sb at *;generalize bts (l.drop (8-k))=s9 at *;have hsum:¬9223372036854775807<sb.size+s9.size:=by omega
   clear hdd hb hsz hsz2 hy;go_wp2_with fail
   go_roundw
   case rel=>exact⟨k+1,y,by omega,by go_num,rfl,by rw[HS.out],hD HX2.out,by exact Xx (HXR.out)⟩
   case measure=>simp[intOf];omega
  ·obtain rfl:k=8:=by omega
   go_wp2_with fail;go_ret;exact⟨rfl,HXR.out⟩
theorem Y3s(V:Value)(l:List Int)(w:World)(hs:Sl w 1 RIn V l)(hl:∀x∈l,In64 x):
  cQ 29 #[V] w fun e w'=>e= .returned (if 4<l.length then .tuple #[.string ⟨#[]⟩,.int .i64 22]else .tuple #[.string (bts (keyL l)),.int .i64 0])/\Ext w w':=by
 obtain⟨A,c,rfl⟩:=hs.form;obtain⟨_,hc1,hc2,hA⟩:=hs.at;have HA:=hD hA;have HL:=hD hl;clear hs hA hl;by_cases h4:4<l.length
 ·have q1:decide ((4:Int)<(l.length:Int))=true:=aN;rw[if_pos h4];go_enter Tryz.func29,Tryz.ntmps29;go_wp2_with fail
  go_ret2
  exact⟨rfl,Ext.refl _⟩
 ·have q1:decide ((4:Int)<(l.length:Int))=false:=aM;rw[if_neg h4];go_enter Tryz.func29,Tryz.ntmps29;go_wp2_with fail
  go_loopw [4,5] (fun s i wr=>∃k:Nat,k<=l.length/\i= .int .i64 k/\s= .string (bts (keyL (l.take k)))/\Ext w wr) (fun _ i _=>l.length-(intOf i).toNat)
  case atStart=>exact⟨0,by omega,rfl,rfl,Ext.refl _⟩
  case round=>
   obtain⟨k,hk,rfl,rfl,hxr⟩:=hrel;have HXR:=hD hxr;clear hxr;by_cases hq:k<l.length
   ·have hd:decide ((k:Int)<(l.length:Int))=true:=aN;obtain⟨b,off,rfl,hb,hx⟩:=HA.out (by omega);obtain⟨cs,hcs0,_,hcs⟩:=hx k hq;have hin:=HL.out _ (List.getElem_mem hq);have cO:Hid (∀W,cQ 76 #[.int .i64 l[k]] W fun e w'=>e= .returned (.string (bts (ordL l[k])))/\Ext W w'):=fun W=>Y5m _ W hin.1 hin.2;have z0:wr.cell? ⟨b,off+k,none⟩=some (.int .i64 l[k]):=(HXR.out.cell (p:=⟨b,off+k,none⟩) hb).trans (by have:=hcs 0 (.int .i64 l[k]) (by rw[hcs0];rfl);simpa using this);have HS:Hid (bts (keyL (l.take k))++bts (ordL l[k])=bts (keyL (l.take (k+1)))):=by unfold Hid;rw[Z7y];unfold keyL;rw[List.take_add_one,aB hq,aH];simp
    have hsz:(bts (ordL l[k])).size=8:=by rw[Z0e,Z1k]
    have hsz2:(bts (keyL (l.take k))).size<=32:=by rw[Z0e,Z2r,aD];omega
    generalize bts (ordL l[k])=sb at *;generalize bts (keyL (l.take k))=s9 at *;generalize l[k]=x at *;have hsum:¬9223372036854775807<s9.size+sb.size:=by omega
    clear hcs hx hin hcs0 hsz hsz2;go_wp2_with (go_at_call 76;(with_reducible refine(cO.out _).mono ?_);clear cO;rintro e w2 ⟨rfl,hb2⟩;have HB2:=hD hb2;clear hb2)
    go_roundw
    case rel=>exact⟨k+1,by omega,by go_num,by rw[HS.out],HXR.out.trans HB2.out⟩
    case measure=>simp[intOf];omega
   ·obtain rfl:k=l.length:=by omega
    have hd:decide ((l.length:Int)<(l.length:Int))=false:=by simp
    go_wp2_with fail
    go_ret2
    exact⟨by rw[List.take_length];rfl,HXR.out⟩
theorem Y7z(V U:Value)(a b:List Int)(w:World)(hs:Sl w 1 RIn V a)(hu:Sl w 1 RIn U b):
  cQ 33 #[V,U] w fun e w'=>e= .returned (.bool (!ltI a b&& !ltI b a))/\Ext w w':=by
 have c1:=Z7e V U a b w hs hu;have c2:Hid (∀W,Ext w W->cQ 90 #[U,V] W fun e w'=>e= .returned (.bool (ltI b a))/\Ext W w'):=fun W hW=>Z7e U V b a W (hu.ext hW) (hs.ext hW);obtain⟨A,c,rfl⟩:=hs.form;obtain⟨B,d,rfl⟩:=hu.form;generalize ltI a b=x at *;generalize ltI b a=y at *;clear hs hu;cases x with
 | true=>
   go_enter Tryz.func33,Tryz.ntmps33;go_wp2_with (go_at_call 90;(with_reducible refine c1.mono ?_);clear c1;rintro e w2 ⟨rfl,hb2⟩;have HB2:=hD hb2;clear hb2);go_ret;exact⟨rfl,HB2.out⟩
 | false=>
   go_enter Tryz.func33,Tryz.ntmps33;go_wp2_with (first
    | (go_at_call 90;(with_reducible refine c1.mono ?_);clear c1;rintro e w2 ⟨rfl,hb2⟩;have HB2:=hD hb2;clear hb2)
    | (go_at_call 90;(with_reducible refine(c2.out _ HB2.out).mono ?_);clear c2;rintro e w3 ⟨rfl,hb3⟩;have HB3:=hD (HB2.out.trans hb3);clear hb3))
   go_ret;exact⟨rfl,HB3.out⟩
end
end Go.Proofs.YtohaldfnmgcofaaGreat
