/- What lies on a path, by the document and by the keys, is the same list (plain law). No program. -/
import Derived.Test.YtmiolpfanlpfnaaGreatP41
import Derived.Test.YtmiolpfanlpfnaaGreatP49
import Derived.Test.YtmiolpfanlpfnaaGreatP47
import Derived.Test.YtmiolpfanlpfnaaGreatP46
import Derived.Test.YtmiolpfanlpfnaaGreatP11
set_option maxHeartbeats 1000000
set_option linter.unusedSimpArgs false
set_option linter.unusedVariables false
namespace Go.Proofs.YtmiolpfanlpfnaaGreat
section
open Go.RowKit
theorem Z6t:∀a b:List Int,ltI a b=true→ltI b a=false
 | [],[],h=>by simp[ltI]at h
 | [],_::_,_=>rfl
 | _::_,[],h=>by simp[ltI]at h
 | x::a,y::b,h=>by
   unfold ltI at h ⊢
   by_cases e:x=y
   ·rw[if_pos e]at h;rw[if_pos e.symm];exact Z6t a b h
   ·rw[if_neg e]at h;rw[if_neg (fun q=>e q.symm)]
    have:=of_decide_eq_true h
    exact decide_eq_false (by omega)
theorem Y5v:∀a b c:List Int,ltI b a=false→ltI c b=false→ltI c a=false
 | [],_,[],_,_=>rfl
 | [],_,_::_,_,_=>rfl
 | x::a,[],_,h,_=>by simp[ltI]at h
 | x::a,y::b,[],_,h=>by simp[ltI]at h
 | x::a,y::b,z::c,h1,h2=>by
   unfold ltI at h1 h2 ⊢
   by_cases e1:y=x
   ·rw[if_pos e1]at h1
    by_cases e2:z=y
    ·rw[if_pos e2]at h2;rw[if_pos (by omega)];exact Y5v a b c h1 h2
    ·rw[if_neg e2]at h2;rw[if_neg (by omega)]
     have:=of_decide_eq_false h2
     exact decide_eq_false (by omega)
   ·rw[if_neg e1]at h1
    have q1:=of_decide_eq_false h1
    by_cases e2:z=y
    ·rw[if_neg (by omega)];exact decide_eq_false (by omega)
    ·rw[if_neg e2]at h2
     have q2:=of_decide_eq_false h2
     rw[if_neg (by omega)];exact decide_eq_false (by omega)
theorem V8j:∀a b:List Int,ltI a b=false→ltI b a=false→a=b
 | [],[],_,_=>rfl
 | [],_::_,h,_=>by simp[ltI]at h
 | _::_,[],_,h=>by simp[ltI]at h
 | x::a,y::b,h1,h2=>by
   unfold ltI at h1 h2
   by_cases e:x=y
   ·rw[if_pos e]at h1;rw[if_pos e.symm]at h2;rw[e,V8j a b h1 h2]
   ·rw[if_neg e]at h1;rw[if_neg (fun q=>e q.symm)]at h2
    have q1:=of_decide_eq_false h1
    have q2:=of_decide_eq_false h2
    omega
theorem Y4c(way:Int)(o:OpD):∀xs:List OpD,(insW (ltW way) o xs).Perm (o::xs)
 | []=>List.Perm.refl _
 | x::r=>by
   unfold insW
   split
   ·exact((Y4c way o r).cons x).trans (List.Perm.swap _ _ _)
   ·exact List.Perm.refl _
theorem Y4b(way:Int)(o:OpD):∀xs:List OpD,xs.Pairwise (fun a b=>ltW way b a=false)→(insW (ltW way) o xs).Pairwise (fun a b=>ltW way b a=false)
 | [],_=>by simp[insW]
 | x::r,h=>by
   obtain⟨h1,h2⟩:=List.pairwise_cons.1 h
   unfold insW
   split
   ·rename_i hx
    refine List.pairwise_cons.2 ⟨fun y hy=> ?_,Y4b way o r h2⟩
    rcases List.mem_cons.1 ((Y4c way o r).mem_iff.1 hy)with rfl | hy
    ·exact Z6t _ _ hx
    ·exact h1 y hy
   ·rename_i hx
    have hx':ltW way x o=false:=by simpa using hx
    refine List.pairwise_cons.2 ⟨fun y hy=> ?_,h⟩
    rcases List.mem_cons.1 hy with rfl | hy
    ·exact hx'
    ·exact Y5v _ _ _ hx' (h1 y hy)
theorem Y0v(way:Int)(fr:List Int)(l:List OpD):(Z5q way fr l).Perm (l.filter (okF way fr))∧(Z5q way fr l).Pairwise (fun a b=>ltW way b a=false):=by
 have h:∀k,k≤l.length→(Z5q way fr (l.take k)).Perm ((l.take k).filter (okF way fr))∧(Z5q way fr (l.take k)).Pairwise (fun a b=>ltW way b a=false):=fun k=>by
  induction k with
  | zero=>intro _;simp[Z5q]
  | succ k ih=>
    intro hk
    obtain⟨p1,p2⟩:=ih (by omega)
    rw[Y0u way fr l k (by omega),Y4i l k (by omega)]
    unfold X6c
    cases hp:okF way fr l[k]with
    | false=>simpa using ⟨p1,p2⟩
    | true=>
      simp only[if_true]
      exact⟨((Y4c way _ _).trans (p1.cons _)).trans (by simpa using (List.perm_append_singleton _ _).symm),Y4b way _ _ p2⟩
 have:=h l.length (Nat.le_refl _)
 rwa [List.take_length]at this
theorem Y3x:∀(fl:List Int) (lo x:Int) (r y:List Int),ltI y (fl++ [lo])=false→ltI (fl++x::r) y=false→∃x' r',y=fl++x'::r'∧lo≤x'∧x'≤x
 | [],lo,x,r,[],h,_=>by simp[ltI]at h
 | [],lo,x,r,x'::r',h1,h2=>by
   rw[List.nil_append]at h1 h2
   unfold ltI at h1 h2
   refine⟨x',r',rfl,?_,?_⟩
   ·by_cases e:x'=lo
    ·omega
    ·rw[if_neg e]at h1;have:=of_decide_eq_false h1;omega
   ·by_cases e:x=x'
    ·omega
    ·rw[if_neg e]at h2;have:=of_decide_eq_false h2;omega
 | a::fl,lo,x,r,[],h,_=>by simp[ltI]at h
 | a::fl,lo,x,r,b::y,h1,h2=>by
   rw[List.cons_append]at h1 h2
   unfold ltI at h1 h2
   have e:b=a:=by
    by_cases e:b=a
    ·exact e
    ·rw[if_neg e]at h1;rw[if_neg (fun q=>e q.symm)]at h2
     have:=of_decide_eq_false h1;have:=of_decide_eq_false h2;omega
   subst e
   rw[if_pos rfl]at h1 h2
   obtain⟨x',r',rfl,h3,h4⟩:=Y3x fl lo x r y h1 h2
   exact⟨x',r',rfl,h3,h4⟩
theorem Y7u:∀(fl:List Int) (lo x:Int) (r:List Int),ltI (fl++x::r) (fl++ [lo])=false↔lo≤x
 | [],lo,x,r=>by
   rw[List.nil_append,List.nil_append]
   unfold ltI
   by_cases e:x=lo
   ·rw[if_pos e]
    have:ltI r []=false:=by cases r<;>rfl
    simp[this,e]
   ·rw[if_neg e];simp
 | a::fl,lo,x,r=>by
   rw[List.cons_append,List.cons_append]
   unfold ltI
   rw[if_pos rfl]
   exact Y7u fl lo x r
theorem V8f{fl w:List Int}{x:Int}(h:fl <+: w)(hx:w[fl.length]? =some x):∃r,w=fl++x::r:=by
 obtain⟨r,rfl⟩:=h
 rw[List.getElem?_append_right (Nat.le_refl _),Nat.sub_self]at hx
 cases r with
 | nil=>simp at hx
 | cons y r=>simp at hx;subst hx;exact⟨r,rfl⟩
theorem X0e{a b:List Int}(ha:∀x∈a,Z0v x)(hb:∀x∈b,Z0v x)(h:keyL a <+: keyL b):a <+: b:=by
 have hl:a.length≤b.length:=by have:=h.length_le;rw[Z1j,Z1j]at this;omega
 have e:keyL b=keyL (b.take a.length)++keyL (b.drop a.length):=by
  unfold keyL;rw[←List.flatMap_append,List.take_append_drop]
 have h2:=List.prefix_iff_eq_take.1 h
 rw[e,List.take_append_of_le_length (by rw[Z1j,Z1j,List.length_take];omega),List.take_of_length_le (by rw[Z1j,Z1j,List.length_take];omega)]at h2
 have h3:=Y2e a _ ha (fun x hx=>hb x (List.mem_of_mem_take hx)) h2
 rw[List.prefix_iff_eq_take]
 exact h3
section
variable {S:StoreD} {Ts:Nat→TrD} {l all:List OpD} {way k:Nat} {fl:List Int} {lo hi:Int}
def onP(way:Nat)(fl:List Int)(lo hi:Int)(o:OpD):Prop:=fl <+: wayL way o∧∃x,(wayL way o)[fl.length]? =some x∧lo≤x∧x≤hi
theorem V2g{o:OpD}(ho:∀x∈wayL way o,Z0v x)(hfl:∀x∈fl,Z0v x):goR way fl hi o=true↔fl <+: wayL way o∧∃x,(wayL way o)[fl.length]? =some x∧x≤hi:=by
 unfold goR
 rw[Bool.and_eq_true,wayK,X8s]
 constructor
 ·rintro⟨h1,h2⟩
  refine⟨X0e hfl ho h1,?_⟩
  cases hx:(wayL way o)[fl.length]? with
  | none=>rw[hx]at h2;cases h2
  | some x=>rw[hx]at h2;exact⟨x,rfl,of_decide_eq_true h2⟩
 ·rintro⟨h1,x,hx,h2⟩
  exact⟨V6h _ _ h1,by rw[hx];exact decide_eq_true h2⟩
theorem Y3u{a b:List Int}(ha:∀x∈a,Z0v x)(hb:∀x∈b,Z0v x):ltB (bts (keyL a)) (bts (keyL b))=ltI a b:=by
 rw[Bool.eq_iff_iff,V1c]
 exact U0c ha hb
theorem Ranges.rise(hT:Tab S Ts (fun _=>l))(hw:way<5)(hf:Ranges Ts way fl lo hi l all k):all.Pairwise (fun a b=>ltB (wayK way a) (wayK way b)=true):=by
 have h:=(TrS.rise (hT.tr way hw)).filter (fun x=> !ltB x.1 (bts (keyL (fl++ [lo]))))
 have e:(Ts way).list.filter (fun x=> !ltB x.1 (bts (keyL (fl++ [lo]))))=all.map (kvW way):=hf.outs
 rw[e,List.pairwise_map]at h
 exact h
theorem Ranges.nodup(hT:Tab S Ts (fun _=>l))(hw:way<5)(hf:Ranges Ts way fl lo hi l all k):all.Nodup:=
 (hf.rise hT hw).imp (fun {a b} h e=>by rw[e,Z1k]at h;cases h)
theorem Ranges.mem_iff(hT:Tab S Ts (fun _=>l))(hw:way<5)(hfl:∀x∈fl,Z0v x)(hlo:Z0v lo)(hf:Ranges Ts way fl lo hi l all k)(o:OpD):o∈all.take k↔o∈l∧onP way fl lo hi o:=by
 have hint:∀o∈l,∀x∈wayL way o,Z0v x:=fun o ho x hx=>(OpIn.of (hT.ok way hw o ho)).way way x hx
 have hfl5:∀x∈fl++ [lo],Z0v x:=fun x hx=>by
  rcases List.mem_append.1 hx with q | q
  ·exact hfl x q
  ·rw[List.mem_singleton.1 q];exact hlo
 have hin:∀a,kvW way a∈Z0z (Ts way).list (bts (keyL (fl++ [lo])))↔kvW way a∈(Ts way).list∧ltB (wayK way a) (bts (keyL (fl++ [lo])))=false:=fun a=>by
  unfold Z0z
  rw[List.mem_filter]
  constructor
  ·rintro⟨q1,q2⟩;exact⟨q1,by rw[Bool.not_eq_true']at q2;exact q2⟩
  ·rintro⟨q1,q2⟩;exact⟨q1,by rw[show ltB (kvW way a).1 (bts (keyL (fl++ [lo])))=false from q2];rfl⟩
 constructor
 ·intro h
  obtain⟨i,hi',rfl⟩:=List.mem_iff_getElem.1 h
  rw[List.length_take]at hi'
  rw[List.getElem_take]
  have hm:=hf.mem _ (List.getElem_mem (show i<all.length by omega))
  obtain⟨g1,x,g2,g3⟩:=(V2g (hint _ hm) hfl).1 (hf.under i (by omega) (by omega))
  refine⟨hm,g1,x,g2,?_,g3⟩
  obtain⟨r,hr⟩:=V8f g1 g2
  have h1:kvW way all[i]∈Z0z (Ts way).list (bts (keyL (fl++ [lo]))):=by rw[hf.outs];exact List.mem_map.2 ⟨_,List.getElem_mem _,rfl⟩
  have h2:=((hin _).1 h1).2
  rw[wayK,Y3u (hint _ hm) hfl5,hr]at h2
  exact(Y7u fl lo x r).1 h2
 ·rintro⟨ho,g1,x,g2,g3,g4⟩
  obtain⟨r,hr⟩:=V8f g1 g2
  have h1:kvW way o∈Z0z (Ts way).list (bts (keyL (fl++ [lo]))):=(hin o).2 ⟨(hT.mem way hw _).2 ⟨o,ho,rfl⟩,by rw[wayK,Y3u (hint o ho) hfl5,hr];exact(Y7u fl lo x r).2 g3⟩
  rw[hf.outs]at h1
  obtain⟨a,ha,e⟩:=List.mem_map.1 h1
  have hao:a=o:=by
   have e1:wayK way a=wayK way o:=congrArg Prod.fst e
   have e2:=Y2e _ _ (hint a (hf.mem a ha)) (hint o ho) (U0n e1)
   have e3:a.id=o.id:=by
    have q1:=Z4m way a
    have q2:=Z4m way o
    rw[e2,q2]at q1
    exact(Option.some.inj q1).symm
   exact Y4d (hT.ids 0 (by omega)) (hf.mem a ha) ho e3
  subst hao
  obtain⟨i,hi',rfl⟩:=List.mem_iff_getElem.1 ha
  rcases Nat.lt_or_ge i k with q | q
  ·exact List.mem_iff_getElem.2 ⟨i,by rw[List.length_take];omega,List.getElem_take⟩
  ·exfalso
   have hk:k<all.length:=by omega
   have hs:=hf.stop hk
   have hmk:=hf.mem _ (List.getElem_mem hk)
   have h2:kvW way all[k]∈Z0z (Ts way).list (bts (keyL (fl++ [lo]))):=by rw[hf.outs];exact List.mem_map.2 ⟨_,List.getElem_mem _,rfl⟩
   have h3:=((hin _).1 h2).2
   rw[wayK,Y3u (hint _ hmk) hfl5]at h3
   have h4:ltI (fl++x::r) (wayL way all[k])=false:=by
    rw[←hr]
    rcases Nat.lt_or_eq_of_le q with q | q
    ·have:=List.pairwise_iff_getElem.1 (hf.rise hT hw) k i hk hi' q
     rw[wayK,wayK,Y3u (hint _ hmk) (hint _ ho)]at this
     exact Z6t _ _ this
    ·subst q
     cases h:ltI (wayL way all[k]) (wayL way all[k])with
     | false=>rfl
     | true=>rw[Z6t _ _ h]at h;cases h
   obtain⟨x',r',e1,e2,e3⟩:=Y3x fl lo x r _ h3 h4
   have:goR way fl hi all[k]=true:=(V2g (hint _ hmk) hfl).2 ⟨⟨_,e1.symm⟩,x',by rw[e1,List.getElem?_append_right (Nat.le_refl _),Nat.sub_self];rfl,by omega⟩
   rw[this]at hs;cases hs
theorem Z7g(hw:way<5)(o:OpD):wayI (way:Nat) o=wayL way o:=by unfold wayI;rw[if_pos ⟨by omega,by omega⟩];rfl
theorem V9w(hw:way<5)(h4:fl.length≤3)(o:OpD):okF (way:Nat) fl o=true↔fl <+: wayL way o:=by
 unfold okF
 rw[Z7g hw]
 have hl:=Z3k way o
 have hne:(wayL way o).isEmpty=false:=by cases h:wayL way o with | nil=>rw[h]at hl;simp at hl | cons _ _=>rfl
 rw[hne,decide_eq_true (show fl.length≤4 by omega)]
 simp[List.isPrefixOf_iff_prefix]
theorem U0e(hw:way<5)(o:OpD):inR (way:Nat) fl lo hi o=true↔∃x,(wayL way o)[fl.length]? =some x∧lo≤x∧x≤hi:=by
 unfold inR
 rw[Z7g hw]
 cases (wayL way o)[fl.length]? with
 | none=>simp
 | some x=>simp
theorem X6m(hw:way<5)(h4:fl.length≤3)(o:OpD):o∈Z3x (way:Nat) fl lo hi l↔o∈l∧onP way fl lo hi o:=by
 unfold Z3x onP
 rw[if_neg (by omega),List.mem_filter,(Y0v _ _ _).1.mem_iff,List.mem_filter,V9w hw h4,U0e hw,and_assoc]
theorem Ranges.same(hT:Tab S Ts (fun _=>l))(hw:way<5)(h4:fl.length≤3)(hfl:∀x∈fl,Z0v x)(hlo:Z0v lo)(hf:Ranges Ts way fl lo hi l all k):all.take k=Z3x (way:Nat) fl lo hi l:=by
 have hint:∀o∈l,∀x∈wayL way o,Z0v x:=fun o ho x hx=>(OpIn.of (hT.ok way hw o ho)).way way x hx
 have hln:l.Nodup:=(hT.ids 0 (by omega)).imp (fun {a b} h e=>h (by rw[e]))
 have hrn:(Z3x (way:Nat) fl lo hi l).Nodup:=by
  unfold Z3x;rw[if_neg (by omega)]
  exact(((Y0v _ _ _).1.nodup_iff).2 (hln.filter _)).filter _
 have hp:(all.take k).Perm (Z3x (way:Nat) fl lo hi l):=(List.perm_ext_iff_of_nodup ((hf.nodup hT hw).sublist (List.take_sublist _ _)) hrn).2 (fun o=>by rw[hf.mem_iff hT hw hfl hlo,X6m hw h4])
 refine Z7x (R:=fun a b=>ltW (way:Nat) b a=false) _ _ hp ?_ ?_ (fun a ha b hb h1 h2=> ?_)
 ·refine(List.Pairwise.sublist (List.take_sublist k all) (hf.rise hT hw)).imp_of_mem (fun {a b} ha hb h=> ?_)
  have hma:=hf.mem a (List.mem_of_mem_take ha)
  have hmb:=hf.mem b (List.mem_of_mem_take hb)
  unfold ltW
  rw[Z7g hw,Z7g hw]
  rw[wayK,wayK,Y3u (hint a hma) (hint b hmb)]at h
  exact Z6t _ _ h
 ·unfold Z3x;rw[if_neg (by omega)]
  exact((Y0v _ _ _).2).filter _
 ·have hma:=hf.mem a (List.mem_of_mem_take ha)
  have hmb:=hf.mem b (List.mem_of_mem_take hb)
  unfold ltW at h1 h2
  rw[Z7g hw,Z7g hw]at h1 h2
  have e2:=V8j _ _ h2 h1
  have q1:=Z4m way a
  have q2:=Z4m way b
  rw[e2,q2]at q1
  exact Y4d (hT.ids 0 (by omega)) hma hmb (Option.some.inj q1).symm
end
def Y8s(parts:List NCell)(o:OpD):Prop:=∀y∈parts,y.kind=4→cmpF o y.field y.sign.toList y.value=true
theorem V0y{s:List UInt8}{x v a b:Int}(hx:Z0v x)(h:Z5v s v=some (a,b))(hs:soL x s v=true):a≤x∧x≤b:=by
 have h1:=hx.1
 have h2:=hx.2
 unfold Z5v at h
 by_cases e1:s= [61]
 ·subst e1
  rw[if_pos rfl]at h
  injection h with h;injection h with q1 q2
  simp[soL]at hs;omega
 rw[if_neg e1]at h
 by_cases e2:s= [60]
 ·subst e2
  rw[if_pos rfl]at h
  simp[soL]at hs
  split at h
  ·omega
  ·injection h with h;injection h with q1 q2;omega
 rw[if_neg e2]at h
 by_cases e3:s= [60,61]
 ·subst e3
  rw[if_pos rfl]at h
  injection h with h;injection h with q1 q2
  simp[soL]at hs;omega
 rw[if_neg e3]at h
 by_cases e4:s= [62]
 ·subst e4
  rw[if_pos rfl]at h
  simp[soL]at hs
  split at h
  ·omega
  ·injection h with h;injection h with q1 q2;omega
 rw[if_neg e4]at h
 by_cases e5:s= [62,61]
 ·subst e5
  rw[if_pos rfl]at h
  injection h with h;injection h with q1 q2
  simp[soL]at hs;omega
 rw[if_neg e5]at h
 cases h
theorem Y2o(o:OpD){f g:ByteArray}(h:f.toList=g.toList):Z2r o f=Z2r o g:=by rw[Z2q,Z2q,h]
theorem Y7q{f:ByteArray}{o:OpD}{v:Int}(hv:Z2r o f=some v)(hi:Z0v v):∀(parts:List NCell),Y8s parts o→∀r:Nar,r.1≤v→v≤r.2.1→(parts.foldl (Z8r f) r).1≤v∧v≤(parts.foldl (Z8r f) r).2.1
 | [],_,r,h1,h2=>⟨h1,h2⟩
 | y::parts,hc,r,h1,h2=>by
   rw[List.foldl_cons]
   have hc2:Y8s parts o:=fun z hz=>hc z (List.mem_cons_of_mem _ hz)
   unfold Z8r
   split
   ·rename_i hk
    have hy:=hc y List.mem_cons_self hk.1
    unfold cmpF at hy
    rw[Y2o o hk.2,hv]at hy
    cases hn:Z5v y.sign.toList y.value with
    | none=>exact Y7q hv hi parts hc2 r h1 h2
    | some p=>
      obtain⟨a,b⟩:=p
      obtain⟨q1,q2⟩:=V0y hi hn hy
      exact Y7q hv hi parts hc2 _ (by show max r.1 a≤v;omega) (by show v≤min r.2.1 b;omega)
   ·exact Y7q hv hi parts hc2 r h1 h2
theorem Y8f(f:ByteArray):∀xs:List Bnd,Z1h f xs=⟨f,-9223372036854775808,9223372036854775807⟩∨(Z1h f xs∈xs∧(Z1h f xs).field.toList=f.toList)
 | []=> .inl rfl
 | b::r=>by
   unfold Z1h
   split
   ·rename_i h;exact .inr ⟨List.mem_cons_self,h⟩
   ·rcases Y8f f r with h | ⟨h1,h2⟩
    ·exact .inl h
    ·exact .inr ⟨List.mem_cons_of_mem _ h1,h2⟩
theorem Z4d{f:ByteArray}{parts:List NCell}{o:OpD}{v:Int}(hc:Y8s parts o)(hv:Z2r o f=some v)(hi:Z0v v):(Z1h f (Z1e parts)).lo≤v∧v≤(Z1h f (Z1e parts)).hi:=by
 obtain⟨b,hb⟩:∃b,Z1h f (Z1e parts)=b:=⟨_,rfl⟩
 have hof:=Y8f f (Z1e parts)
 rw[hb]at hof ⊢
 rcases hof with h | ⟨h1,h2⟩
 ·rw[h];exact hi
 ·obtain⟨g,_,hg⟩:=List.mem_flatMap.1 h1
  unfold Z3v at hg
  split at hg
  ·have e:=List.mem_singleton.1 hg
   rw[e]at h2
   have hvg:Z2r o g=some v:=by rw[Y2o o (show g.toList=f.toList from h2)];exact hv
   rw[e]
   exact Y7q hvg hi parts hc _ hi.1 hi.2
  ·cases hg
theorem Y2d{f:ByteArray}:∀(parts:List NCell),(∀y∈parts,Z0v y.value)→∀r:Nar,Z0v r.1→Z0v r.2.1→Z0v (parts.foldl (Z8r f) r).1∧Z0v (parts.foldl (Z8r f) r).2.1
 | [],_,r,h1,h2=>⟨h1,h2⟩
 | y::parts,hy,r,h1,h2=>by
   rw[List.foldl_cons]
   have hy2:∀z∈parts,Z0v z.value:=fun z hz=>hy z (List.mem_cons_of_mem _ hz)
   have hv:=hy y List.mem_cons_self
   unfold Z8r
   split
   ·cases hn:Z5v y.sign.toList y.value with
    | none=>exact Y2d parts hy2 r h1 h2
    | some p=>
      obtain⟨a,b⟩:=p
      have hab:Z0v a∧Z0v b:=by
       unfold Z0v at hv ⊢
       unfold Z5v at hn
       repeat' split at hn
       all_goals (first | (cases hn;done) | (injection hn with hn;injection hn with q1 q2;omega))
      unfold Z0v at hab h1 h2
      exact Y2d parts hy2 _ (by show Z0v (max r.1 a);unfold Z0v;omega) (by show Z0v (min r.2.1 b);unfold Z0v;omega)
   ·exact Y2d parts hy2 r h1 h2
theorem Z3b{f:ByteArray}{parts:List NCell}(hy:∀y∈parts,Z0v y.value):Z0v (Z1h f (Z1e parts)).lo∧Z0v (Z1h f (Z1e parts)).hi:=by
 have hmm:Z0v (-9223372036854775808)∧Z0v 9223372036854775807:=by unfold Z0v;omega
 obtain⟨b,hb⟩:∃b,Z1h f (Z1e parts)=b:=⟨_,rfl⟩
 have hof:=Y8f f (Z1e parts)
 rw[hb]at hof ⊢
 rcases hof with h | ⟨h1,h2⟩
 ·rw[h];exact hmm
 ·obtain⟨g,_,hg⟩:=List.mem_flatMap.1 h1
  unfold Z3v at hg
  split at hg
  ·have e:=List.mem_singleton.1 hg
   rw[e]
   exact Y2d parts hy _ hmm.1 hmm.2
  ·cases hg
theorem Y2k{α:Type}:∀(l r:List α),l.Nodup→(∀x∈l,x∈r)→l.length≤r.length
 | [],_,_,_=>Nat.zero_le _
 | a::l,r,hn,hs=>by
   haveI:DecidableEq α:=fun a b=>Classical.propDecidable _
   have h1:=List.nodup_cons.1 hn
   have ha:=hs a List.mem_cons_self
   have h2:=Y2k l (r.erase a) h1.2 (fun x hx=>(List.mem_erase_of_ne (fun e=>h1.1 (by rw[←e];exact hx))).2 (hs x (List.mem_cons_of_mem _ hx)))
   rw[List.length_erase_of_mem ha]at h2
   have:=List.length_pos_of_mem ha
   rw[List.length_cons]
   omega
structure GoodP (l:List OpD) (C:OpD→Prop) (P:Pth):Prop where
 ex:∃w:Nat,w<5∧P.way=w∧P.front.length≤1∧(∀x∈P.front,Z0v x)∧Z0v P.lo∧Z0v P.hi∧(∀o∈l,C o→onP w P.front P.lo P.hi o)∧∀m:List OpD,m.Nodup→(∀o∈m,o∈l∧onP w P.front P.lo P.hi o)→(m.length:Int)≤P.cost
theorem GoodP.step{l:List OpD}{C:OpD→Prop}{P:Pth}(h:GoodP l C P)(way:Nat)(hw:way<5)(f next:Bnd)(sel:OpD→Int)(hsel:∀o,(wayL way o)[0]? =some (sel o))(hf:Z0v f.lo)(hn:Z0v next.lo∧Z0v next.hi)
 (hC:∀o∈l,C o→(f.lo≤sel o∧sel o≤f.hi)∧∃x,(wayL way o)[1]? =some x∧next.lo≤x∧x≤next.hi):GoodP l C (tryP (way:Nat) f (Z0s (l.map sel)) next P):=by
 unfold tryP
 split
 ·rename_i hc
  refine⟨way,hw,rfl,by simp,fun x hx=>by rw[List.mem_singleton.1 hx];exact hf,hn.1,hn.2,fun o ho hco=> ?_,fun m hm hmo=> ?_⟩
  ·obtain⟨⟨q1,q2⟩,x,q3,q4⟩:=hC o ho hco
   have e:sel o=f.lo:=by have:=hc.1;omega
   have hs:=hsel o
   rw[e]at hs
   cases hl:wayL way o with
   | nil=>rw[hl]at hs;cases hs
   | cons a r=>
     rw[hl]at hs q3
     simp at hs;subst hs
     refine⟨⟨r,?_⟩,x,?_,q4⟩
     ·show [f.lo]++r=wayL way o
      rw[hl];rfl
     ·show(wayL way o)[1]? =some x
      rw[hl];exact q3
  ·show(m.length:Int)≤cntL f.lo (Z0s (l.map sel))
   rw[Y4q (Z7y (l.map sel)) f.lo]
   have h1:(l.map sel).count f.lo=(l.filter (fun o=>sel o==f.lo)).length:=by
    rw[List.count_eq_countP,List.countP_map,List.countP_eq_length_filter];rfl
   rw[h1]
   have h2:=Y2k m (l.filter (fun o=>sel o==f.lo)) hm (fun o ho=>List.mem_filter.2 ⟨(hmo o ho).1,by
    obtain⟨⟨r,hr⟩,_⟩:=(hmo o ho).2
    have hs:=hsel o
    rw[←hr]at hs
    simp at hs
    simp[hs]⟩)
   omega
 ·exact h
theorem X3m{o:OpD}(h:Z2u o=0)(hd:o.done=false):o.ret=0:=by
 unfold Z2u at h
 split at h
 ·cases h
 split at h
 ·cases h
 split at h
 ·cases h
 ·rename_i h3
  simp[hd]at h3
  exact h3.2
theorem X2q{l:List OpD}{parts:List NCell}(hok:∀o∈l,Z2u o=0)(hid:l.Pairwise (fun a b=>a.id≠b.id))(hy:∀y∈parts,Z0v y.value):
  GoodP l (Y8s parts) (Z1q (Z1e parts) l.length (Z0s (l.map OpD.object)) (Z0s (l.map OpD.proc)) (Z0s (l.map OpD.method))):=by
 have hin:=fun o ho=>OpIn.of (hok o ho)
 have hI:∀o∈l,∀w x,x∈wayL w o→Z0v x:=fun o ho w x hx=>(hin o ho).way w x hx
 have e1:sId.toList= [105,100]:=by decide +kernel
 have e2:sProc.toList= [112,114,111,99]:=by decide +kernel
 have e3:sObject.toList= [111,98,106,101,99,116]:=by decide +kernel
 have e4:sMethod.toList= [109,101,116,104,111,100]:=by decide +kernel
 have e5:sInvoke.toList= [105,110,118,111,107,101]:=by decide +kernel
 have e6:sReturn.toList= [114,101,116,117,114,110]:=by decide +kernel
 have v1:∀o,Z2r o sId=some o.id:=fun o=>by rw[Z2q,e1,if_pos rfl]
 have v2:∀o,Z2r o sProc=some o.proc:=fun o=>by rw[Z2q,e2,if_neg (by decide),if_pos rfl]
 have v3:∀o,Z2r o sObject=some o.object:=fun o=>by rw[Z2q,e3,if_neg (by decide),if_neg (by decide),if_pos rfl]
 have v4:∀o,Z2r o sMethod=some o.method:=fun o=>by rw[Z2q,e4,if_neg (by decide),if_neg (by decide),if_neg (by decide),if_neg (by decide),if_pos rfl]
 have v5:∀o,Z2r o sInvoke=some o.invoke:=fun o=>by rw[Z2q,e5,if_neg (by decide),if_neg (by decide),if_neg (by decide),if_neg (by decide),if_neg (by decide),if_neg (by decide),if_neg (by decide),if_neg (by decide),if_neg (by decide),if_pos rfl]
 have v6:∀o,Z2r o sReturn=some o.ret:=fun o=>by rw[Z2q,e6,if_neg (by decide),if_neg (by decide),if_neg (by decide),if_neg (by decide),if_neg (by decide),if_neg (by decide),if_neg (by decide),if_neg (by decide),if_neg (by decide),if_neg (by decide),if_pos rfl]
 have i0:∀o∈l,Z0v o.id:=fun o ho=>hI o ho 0 _ (by simp[wayL])
 have i1:∀o∈l,Z0v o.object:=fun o ho=>hI o ho 1 _ (by simp[wayL])
 have i2:∀o∈l,Z0v o.invoke:=fun o ho=>hI o ho 1 _ (by simp[wayL])
 have i3:∀o∈l,Z0v o.proc:=fun o ho=>hI o ho 3 _ (by simp[wayL])
 have i4:∀o∈l,Z0v o.method:=fun o ho=>hI o ho 4 _ (by simp[wayL])
 have i5:∀o∈l,Z0v o.ret:=fun o ho=>by
  have h:=hI o ho 2 (endI o) (by simp[wayL])
  cases hd:o.done with
  | true=>unfold endI at h;rw[if_pos hd]at h;exact h
  | false=>rw[X3m (hok o ho) hd];unfold Z0v;omega
 have hln:l.Nodup:=hid.imp (fun {a b} h e=>h (by rw[e]))
 have g0:GoodP l (Y8s parts) (Y1b (Z1e parts) l.length):=by
  obtain⟨q1,q2⟩:=Z3b (f:=sId) hy
  refine⟨0,by omega,rfl,by simp[Y1b],fun x hx=>by simp[Y1b]at hx,q1,q2,fun o ho hc=>⟨List.nil_prefix,o.id,rfl,Z4d hc (v1 o) (i0 o ho)⟩,fun m hm hmo=> ?_⟩
  have hle:=Y2k m l hm (fun o ho=>(hmo o ho).1)
  show(m.length:Int)≤if(Z1h sId (Z1e parts)).lo=(Z1h sId (Z1e parts)).hi then min 1 (l.length:Int)else(l.length:Int)
  split
  ·rename_i he
   have h1:m.length≤1:=by
    match m,hm,hmo with
    | [],_,_=>simp
    | [a],_,_=>simp
    | a::b::r,hm,hmo=>
      exfalso
      obtain⟨ha1,_,x,hx1,hx2,hx3⟩:=hmo a (by simp)
      obtain⟨hb1,_,y,hy1,hy2,hy3⟩:=hmo b (by simp)
      have ex:a.id=x:=by simpa [Y1b,wayL]using hx1
      have ey:b.id=y:=by simpa [Y1b,wayL]using hy1
      have hx2':(Z1h sId (Z1e parts)).lo≤x:=hx2
      have hx3':x≤(Z1h sId (Z1e parts)).hi:=hx3
      have hy2':(Z1h sId (Z1e parts)).lo≤y:=hy2
      have hy3':y≤(Z1h sId (Z1e parts)).hi:=hy3
      have e:=Y4d hid ha1 hb1 (by omega)
      subst e
      simp at hm
   omega
  ·omega
 have g1:GoodP l (Y8s parts) (X2v (Z1e parts) l.length (Z0s (l.map OpD.object))):=by
  unfold X2v
  split
  ·rename_i hr
   exact g0.step 2 (by omega) _ _ OpD.object (fun o=>rfl) (Z3b hy).1 (Z3b hy) (fun o ho hc=>⟨Z4d hc (v3 o) (i1 o ho),endI o,rfl,by
    obtain⟨q1,q2⟩:=Z4d hc (v6 o) (i5 o ho)
    have hd:o.done=true:=by
     cases hd:o.done with
     | true=>rfl
     | false=>
       have hz:=X3m (hok o ho) hd
       rw[hz]at q1 q2
       have:=hr.2.2
       omega
    unfold endI
    rw[if_pos hd]
    exact⟨q1,q2⟩⟩)
  ·exact g0.step 1 (by omega) _ _ OpD.object (fun o=>rfl) (Z3b hy).1 (Z3b hy) (fun o ho hc=>⟨Z4d hc (v3 o) (i1 o ho),o.invoke,rfl,Z4d hc (v5 o) (i2 o ho)⟩)
 have g2:GoodP l (Y8s parts) (X7w (Z1e parts) l.length (Z0s (l.map OpD.object)) (Z0s (l.map OpD.proc))):=
  g1.step 3 (by omega) _ _ OpD.proc (fun o=>rfl) (Z3b hy).1 (Z3b hy) (fun o ho hc=>⟨Z4d hc (v2 o) (i3 o ho),o.invoke,rfl,Z4d hc (v5 o) (i2 o ho)⟩)
 exact g2.step 4 (by omega) _ _ OpD.method (fun o=>rfl) (Z3b hy).1 (Z3b hy) (fun o ho hc=>⟨Z4d hc (v4 o) (i4 o ho),o.id,rfl,Z4d hc (v1 o) (i0 o ho)⟩)
theorem U1i{w:World}{d:Nat}{t:ND}{n:NCell}{ks:List NCell}{l0:List OpD}{o:OpD}(hk:n.kind=t.kind∧n.field=t.field∧n.sign=t.sign∧n.value=t.value)(hl:ks.length=t.kids.length)
 (hn:∀(i:Nat) (x:ND) (y:NCell),t.kids[i]? =some x→ks[i]? =some y→Nd w d x y)(h:Z1o l0 o t=true):Y8s (Z8x n ks) o:=fun y hy h4=>by
 unfold Z8x at hy
 split at hy
 ·rename_i h2
  rw[hk.1]at h2
  rw[Y2r l0 o t h2,List.all_eq_true]at h
  obtain⟨i,hi,rfl⟩:=List.mem_iff_getElem.1 hy
  have hx:=h (t.kids[i]'(by omega)) (List.getElem_mem _)
  have hnd:=hn i _ ks[i] (List.getElem?_eq_getElem (by omega)) (List.getElem?_eq_getElem hi)
  cases d with
  | zero=>exact hnd.elim
  | succ d=>
    obtain⟨q1,q2,q3,q4,_⟩:=hnd
    rw[q2,q3,q4]
    rw[q1]at h4
    rwa [Y2q l0 o _ h4]at hx
 ·obtain rfl:=List.mem_singleton.1 hy
  rw[hk.2.1,hk.2.2.1,hk.2.2.2]
  rw[hk.1]at h4
  rwa [Y2q l0 o t h4]at h
theorem Y9i{P:Program}{w:World}{a:Addr}{m:Mode}(f:Fn)(x y:Array Value):(store a (.func f x y) m).run P w=stored P w a (.func f x y) m:=run_store P w a _ m rfl
attribute [local go_sem] Y9i
end
section
open Go.RowKit
theorem c9{W:World}{g:Nat}{t:TypeId}{a0 a1 a2 a3 a4 a5 a6 a7 a8:Value}(h:Row1 W g t [a0,a1,a2,a3,a4,a5,a6,a7,a8]):W.cell? ⟨g,0,none⟩=some a0∧W.cell? ⟨g,1,none⟩=some a1∧W.cell? ⟨g,2,none⟩=some a2∧W.cell? ⟨g,3,none⟩=some a3∧W.cell? ⟨g,4,none⟩=some a4∧W.cell? ⟨g,5,none⟩=some a5∧W.cell? ⟨g,6,none⟩=some a6∧W.cell? ⟨g,7,none⟩=some a7∧W.cell? ⟨g,8,none⟩=some a8:=
 ⟨h.cell 0,h.cell 1,h.cell 2,h.cell 3,h.cell 4,h.cell 5,h.cell 6,h.cell 7,h.cell 8⟩
theorem c5{W:World}{g:Nat}{t:TypeId}{a0 a1 a2 a3 a4:Value}{r:List Value}(h:Row1 W g t (a0::a1::a2::a3::a4::r)):W.cell? ⟨g,0,none⟩=some a0∧W.cell? ⟨g,1,none⟩=some a1∧W.cell? ⟨g,2,none⟩=some a2∧W.cell? ⟨g,3,none⟩=some a3∧W.cell? ⟨g,4,none⟩=some a4:=
 ⟨h.cell 0,h.cell 1,h.cell 2,h.cell 3,h.cell 4⟩
end
end Go.Proofs.YtmiolpfanlpfnaaGreat
