/- What is found by a way, as a set (plain law). No program. -/
import Derived.Test.YtmiolpfanlpfnaaGreatV37
set_option linter.unusedSimpArgs false
set_option linter.unusedVariables false
namespace Go.Proofs.YtmiolpfanlpfnaaGreat
open Go.RowKit
theorem U1c{x y:UInt8}(h1:¬y<x)(h2:¬x<y):y=x:=by
 have a:=UInt8.not_lt.1 h1
 have b:=UInt8.not_lt.1 h2
 exact UInt8.le_antisymm b a
theorem Y2m:∀(p a b:List UInt8),p <+: b→¬a<p→¬b<a→p <+: a
 | [],a,_,_,_,_=>List.nil_prefix
 | x::p,[],_,_,h,_=>absurd (List.nil_lt_cons x p) h
 | x::p,y::a,[],h,_,_=>absurd h (by simp)
 | x::p,y::a,z::b,h,h1,h2=>by
   obtain⟨rfl,hp⟩:=List.cons_prefix_cons.1 h
   have e1:¬y<x:=fun q=>h1 (List.cons_lt_cons_iff.2 (.inl q))
   have e2:¬x<y:=fun q=>h2 (List.cons_lt_cons_iff.2 (.inl q))
   obtain rfl:=U1c e1 e2
   exact List.cons_prefix_cons.2 ⟨rfl,Y2m p a b hp (fun q=>h1 (List.cons_lt_cons_iff.2 (.inr ⟨rfl,q⟩))) (fun q=>h2 (List.cons_lt_cons_iff.2 (.inr ⟨rfl,q⟩)))⟩
theorem Y5c:∀(p a:List UInt8),p <+: a→¬a<p
 | [],a,_,h=>absurd h (List.not_lt_nil a)
 | x::p,[],h,_=>absurd h (by simp)
 | x::p,y::a,h,q=>by
   obtain⟨rfl,hp⟩:=List.cons_prefix_cons.1 h
   rcases List.cons_lt_cons_iff.1 q with r | ⟨_,r⟩
   ·exact absurd r (UInt8.lt_irrefl x)
   ·exact Y5c p a hp r
theorem Z8i(a b:List UInt8):Z2j (bts a) (bts b)=true↔b <+: a:=by rw[X4v,List.isPrefixOf_iff_prefix]
theorem X1j(a b:List UInt8):ltB (bts a) (bts b)=true↔a<b:=by rw[Z6m,Z1w,Z1w]
theorem Y6g{a b c:List UInt8}(h1:Z2j (bts c) (bts a)=true)(h2:ltB (bts b) (bts a)=false)(h3:ltB (bts c) (bts b)=false):Z2j (bts b) (bts a)=true:=
 (Z8i _ _).2 (Y2m a b c ((Z8i _ _).1 h1) (fun q=>by rw[(X1j b a).2 q]at h2;cases h2) (fun q=>by rw[(X1j c b).2 q]at h3;cases h3))
theorem X4u{a c:List UInt8}(h1:Z2j (bts c) (bts a)=true):ltB (bts c) (bts a)=false:=by
 cases h:ltB (bts c) (bts a)with
 | false=>rfl
 | true=>exact absurd ((X1j c a).1 h) (Y5c a c ((Z8i _ _).1 h1))
section
variable {S:StoreD} {Ts:Nat→TrD} {l all:List OpD} {way k:Nat} {fr:List UInt8}
theorem Finds.rise(hT:Tab S Ts (fun _=>l))(hw:way<5)(hf:Finds Ts way (bts fr) l all k):all.Pairwise (fun a b=>ltB (wayK way a) (wayK way b)=true):=by
 have h:=(TrS.rise (hT.tr way hw)).filter (fun x=> !ltB x.1 (bts fr))
 have e:(Ts way).list.filter (fun x=> !ltB x.1 (bts fr))=all.map (kvW way):=hf.outs
 rw[e,List.pairwise_map]at h
 exact h
theorem Finds.nodup(hT:Tab S Ts (fun _=>l))(hw:way<5)(hf:Finds Ts way (bts fr) l all k):all.Nodup:=
 (hf.rise hT hw).imp (fun {a b} h e=>by rw[e,Z1l]at h;cases h)
theorem Finds.mem_iff(hT:Tab S Ts (fun _=>l))(hw:way<5)(hf:Finds Ts way (bts fr) l all k)(o:OpD):o∈all.take k↔o∈l∧Z2j (wayK way o) (bts fr)=true:=by
 constructor
 ·intro h
  obtain⟨i,hi,rfl⟩:=List.mem_iff_getElem.1 h
  rw[List.length_take]at hi
  rw[List.getElem_take]
  exact⟨hf.mem _ (List.getElem_mem _),hf.under i (by omega) (by omega)⟩
 ·rintro⟨ho,hu⟩
  have h1:kvW way o∈Z1h (Ts way).list (bts fr):=List.mem_filter.2 ⟨(hT.mem way hw _).2 ⟨o,ho,rfl⟩,by
   rw[show ltB (kvW way o).1 (bts fr)=false from X4u hu];rfl⟩
  rw[hf.outs]at h1
  obtain⟨a,ha,e⟩:=List.mem_map.1 h1
  have hoc:=OpIn.of (hT.ok way hw o ho)
  have hac:=OpIn.of (hT.ok way hw a (hf.mem a ha))
  obtain rfl:a=o:=Y7j (hT.ids way hw) (hf.mem a ha) ho (Y1j (hac.way way) (hoc.way way) (congrArg Prod.fst e))
  obtain⟨i,hi,rfl⟩:=List.mem_iff_getElem.1 ha
  rcases Nat.lt_or_ge i k with q | q
  ·exact List.mem_iff_getElem.2 ⟨i,by rw[List.length_take];omega,by rw[List.getElem_take]⟩
  ·exfalso
   have hk:k<all.length:=by omega
   have hs:=hf.stop hk
   have hr:=hf.rise hT hw
   have h2:Z2j (wayK way all[k]) (bts fr)=true:=by
    by_cases e2:k=i
    ·subst e2;exact hu
    ·have h3:=List.pairwise_iff_getElem.1 hr k i hk hi (by omega)
     have h4:kvW way all[k]∈Z1h (Ts way).list (bts fr):=by rw[hf.outs];exact List.mem_map.2 ⟨_,List.getElem_mem _,rfl⟩
     have h5:=(List.mem_filter.1 h4).2
     exact Y6g hu (show ltB (wayK way all[k]) (bts fr)=false by simpa [kvW]using h5) (Z3r h3)
   rw[hs]at h2;cases h2
theorem Finds.perm(hT:Tab S Ts (fun _=>l))(hw:way<5)(hf:Finds Ts way (bts fr) l all k):(all.take k).Perm (l.filter (fun o=>Z2j (wayK way o) (bts fr))):=by
 have hn:l.Nodup:=(hT.ids way hw).imp (fun {a b} h e=>h (by rw[e]))
 rw[List.perm_ext_iff_of_nodup ((hf.nodup hT hw).sublist (List.take_sublist _ _)) (hn.filter _)]
 intro o
 rw[hf.mem_iff hT hw,List.mem_filter]
theorem Finds.some(hT:Tab S Ts (fun _=>l))(hw:way<5)(hf:Finds Ts way (bts fr) l all k)(pr:OpD→Bool)(h:∀o∈l,pr o=true→Z2j (wayK way o) (bts fr)=true):((all.take k).filter pr).Perm (l.filter pr):=by
 refine((hf.perm hT hw).filter pr).trans ?_
 rw[List.filter_filter]
 refine List.Perm.of_eq (List.filter_congr (fun o ho=> ?_))
 cases hp:pr o with
 | false=>rfl
 | true=>rw[h o ho hp];rfl
end
theorem V5u:∀(a b:List Int),a <+: b→keyL a <+: keyL b:=fun a b ⟨r,h⟩=>⟨keyL r,by rw[←h];unfold keyL;rw[List.flatMap_append]⟩
theorem X7x{way:Nat}{o:OpD}{fl:List Int}(h:fl <+: wayL way o):Z2j (wayK way o) (bts (keyL fl))=true:=(Z8i _ _).2 (V5u _ _ h)
end Go.Proofs.YtmiolpfanlpfnaaGreat
