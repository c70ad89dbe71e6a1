/- What lies on a path, by the document and by the keys, is the same list (plain law). No program. -/
import Derived.Test.YtmiolpfanlpfnaaGreatW43
import Derived.Test.YtmiolpfanlpfnaaGreatW40
import Derived.Test.YtmiolpfanlpfnaaGreatW42
import Derived.Test.YtmiolpfanlpfnaaGreatW34
import Derived.Test.YtmiolpfanlpfnaaGreatW28
set_option maxHeartbeats 1000000
set_option linter.unusedSimpArgs false
set_option linter.unusedVariables false
namespace Go.Proofs.YtmiolpfanlpfnaaGreat
open Go.RowKit
theorem Z7f:∀a b:List Int,ltI a b=true->ltI b a=false
 | [],[],h=>by simp[ltI]at h
 | [],_::_,_=>rfl
 | _::_,[],h=>by simp[ltI]at h
 | x::a,y::b,h=>by
   unfold ltI at h ⊢;by_cases e:x=y
   ·rw[if_pos e]at h;rw[if_pos e.symm];exact Z7f a b h
   ·rw[if_neg e]at h;rw[if_neg (fun q=>e q.symm)];have:=of_decide_eq_true h;exact decide_eq_false (by omega)
theorem Y6a:∀a b c:List Int,ltI b a=false->ltI c b=false->ltI c a=false
 | [],_,[],_,_=>rfl
 | [],_,_::_,_,_=>rfl
 | x::a,[],_,h,_=>by simp[ltI]at h
 | x::a,y::b,[],_,h=>by simp[ltI]at h
 | x::a,y::b,z::c,h1,h2=>by
   unfold ltI at h1 h2 ⊢;by_cases e1:y=x
   ·rw[if_pos e1]at h1;by_cases e2:z=y
    ·rw[if_pos e2]at h2;rw[if_pos (by omega)];exact Y6a a b c h1 h2
    ·rw[if_neg e2]at h2;rw[if_neg (by omega)];have:=of_decide_eq_false h2;exact decide_eq_false (by omega)
   ·rw[if_neg e1]at h1;have q1:=of_decide_eq_false h1;by_cases e2:z=y
    ·rw[if_neg (by omega)];exact decide_eq_false (by omega)
    ·rw[if_neg e2]at h2;have q2:=of_decide_eq_false h2;rw[if_neg (by omega)];exact decide_eq_false (by omega)
theorem V8w:∀a b:List Int,ltI a b=false->ltI b a=false->a=b
 | [],[],_,_=>rfl
 | [],_::_,h,_=>by simp[ltI]at h
 | _::_,[],_,h=>by simp[ltI]at h
 | x::a,y::b,h1,h2=>by
   unfold ltI at h1 h2;by_cases e:x=y
   ·rw[if_pos e]at h1;rw[if_pos e.symm]at h2;rw[e,V8w a b h1 h2]
   ·rw[if_neg e]at h1;rw[if_neg (fun q=>e q.symm)]at h2;have q1:=of_decide_eq_false h1;have q2:=of_decide_eq_false h2;omega
theorem Y4f(way:Int)(o:OpD):∀xs:List OpD,(insW (ltW way) o xs).Perm (o::xs)
 | []=>List.Perm.refl _
 | x::r=>by
   unfold insW;split
   ·exact((Y4f way o r).cons x).trans (List.Perm.swap _ _ _)
   ·exact List.Perm.refl _
theorem Y4e(way:Int)(o:OpD):∀xs:List OpD,xs.Pairwise (fun a b=>ltW way b a=false)->(insW (ltW way) o xs).Pairwise (fun a b=>ltW way b a=false)
 | [],_=>by simp[insW]
 | x::r,h=>by
   obtain⟨h1,h2⟩:=List.pairwise_cons.1 h;unfold insW;split
   ·rename_i hx
    refine List.pairwise_cons.2 ⟨fun y hy=> ?_,Y4e way o r h2⟩;rcases List.mem_cons.1 ((Y4f way o r).mem_iff.1 hy)with rfl | hy
    ·exact Z7f _ _ hx
    ·exact h1 y hy
   ·rename_i hx
    have hx':ltW way x o=false:=by simpa using hx
    refine List.pairwise_cons.2 ⟨fun y hy=> ?_,h⟩;rcases List.mem_cons.1 hy with rfl | hy
    ·exact hx'
    ·exact Y6a _ _ _ hx' (h1 y hy)
theorem Y1j(way:Int)(fr:List Int)(l:List OpD):(Z5c way fr l).Perm (l.filter (okF way fr))/\(Z5c way fr l).Pairwise (fun a b=>ltW way b a=false):=by
 have h:∀k,k<=l.length->(Z5c way fr (l.take k)).Perm ((l.take k).filter (okF way fr))/\(Z5c way fr (l.take k)).Pairwise (fun a b=>ltW way b a=false):=fun k=>by
  induction k with
  | zero=>intro _;simp[Z5c]
  | succ k ih=>
    intro hk;obtain⟨p1,p2⟩:=ih (by omega);rw[Y1i way fr l k (by omega),Y4l l k (by omega)];unfold Y9i;cases hp:okF way fr l[k]with
    | false=>simpa using ⟨p1,p2⟩
    | true=>
      simp only[if_true];exact⟨((Y4f way _ _).trans (p1.cons _)).trans (by simpa using (List.perm_append_singleton _ _).symm),Y4e way _ _ p2⟩
 have:=h l.length (aF _);rwa [List.take_length]at this
theorem Y4a:∀(fl:List Int) (lo x:Int) (r y:List Int),ltI y (fl++ [lo])=false->ltI (fl++x::r) y=false->∃x' r',y=fl++x'::r'/\lo<=x'/\x'<=x
 | [],lo,x,r,[],h,_=>by simp[ltI]at h
 | [],lo,x,r,x'::r',h1,h2=>by
   rw[List.nil_append]at h1 h2;unfold ltI at h1 h2;refine⟨x',r',rfl,?_,?_⟩
   ·by_cases e:x'=lo
    ·omega
    ·rw[if_neg e]at h1;have:=of_decide_eq_false h1;omega
   ·by_cases e:x=x'
    ·omega
    ·rw[if_neg e]at h2;have:=of_decide_eq_false h2;omega
 | a::fl,lo,x,r,[],h,_=>by simp[ltI]at h
 | a::fl,lo,x,r,b::y,h1,h2=>by
   rw[List.cons_append]at h1 h2;unfold ltI at h1 h2;have e:b=a:=by
    by_cases e:b=a
    ·exact e
    ·rw[if_neg e]at h1;rw[if_neg (fun q=>e q.symm)]at h2;have:=of_decide_eq_false h1;have:=of_decide_eq_false h2;omega
   subst e;rw[if_pos rfl]at h1 h2;obtain⟨x',r',rfl,h3,h4⟩:=Y4a fl lo x r y h1 h2;exact⟨x',r',rfl,h3,h4⟩
theorem Y7w:∀(fl:List Int) (lo x:Int) (r:List Int),ltI (fl++x::r) (fl++ [lo])=false↔lo<=x
 | [],lo,x,r=>by
   rw[List.nil_append,List.nil_append];unfold ltI;by_cases e:x=lo
   ·rw[if_pos e];have:ltI r []=false:=by cases r<;>rfl
    simp[this,e]
   ·rw[if_neg e];simp
 | a::fl,lo,x,r=>by rw[List.cons_append,List.cons_append];unfold ltI;rw[if_pos rfl];exact Y7w fl lo x r
theorem V8u{fl w:List Int}{x:Int}(h:fl <+: w)(hx:w[fl.length]? =some x):∃r,w=fl++x::r:=by
 obtain⟨r,rfl⟩:=h;rw[List.getElem?_append_right (aF _),Nat.sub_self]at hx;cases r with
 | nil=>simp at hx
 | cons y r=>simp at hx;subst hx;exact⟨r,rfl⟩
theorem X0l{a b:List Int}(ha:∀x∈a,Z4g x)(hb:∀x∈b,Z4g x)(h:keyL a <+: keyL b):a <+: b:=by
 have hl:a.length<=b.length:=by have:=h.length_le;rw[Z1m,Z1m]at this;omega
 have e:keyL b=keyL (b.take a.length)++keyL (b.drop a.length):=by unfold keyL;rw[<-aH,List.take_append_drop]
 have h2:=List.prefix_iff_eq_take.1 h;rw[e,List.take_append_of_le_length (by rw[Z1m,Z1m,aD];omega),List.take_of_length_le (by rw[Z1m,Z1m,aD];omega)]at h2;have h3:=Y2k a _ ha (fun x hx=>hb x (List.mem_of_mem_take hx)) h2;rw[List.prefix_iff_eq_take];exact h3
section
variable {S:StoreD} {Ts:Nat->TrD} {l all:List OpD} {way k:Nat} {fl:List Int} {lo hi:Int}
def onP(way:Nat)(fl:List Int)(lo hi:Int)(o:OpD):Prop:=fl <+: wayL way o/\∃x,(wayL way o)[fl.length]? =some x/\lo<=x/\x<=hi
theorem V2s{o:OpD}(ho:∀x∈wayL way o,Z4g x)(hfl:∀x∈fl,Z4g x):goR way fl hi o=true↔fl <+: wayL way o/\∃x,(wayL way o)[fl.length]? =some x/\x<=hi:=by
 unfold goR;rw[Bool.and_eq_true,wayK,X9h];constructor
 ·rintro⟨h1,h2⟩;refine⟨X0l hfl ho h1,?_⟩;cases hx:(wayL way o)[fl.length]? with
  | none=>rw[hx]at h2;cases h2
  | some x=>rw[hx]at h2;exact⟨x,rfl,of_decide_eq_true h2⟩
 ·rintro⟨h1,x,hx,h2⟩;exact⟨V6u _ _ h1,by rw[hx];exact decide_eq_true h2⟩
theorem Y3z{a b:List Int}(ha:∀x∈a,Z4g x)(hb:∀x∈b,Z4g x):ltB (bts (keyL a)) (bts (keyL b))=ltI a b:=by rw[Bool.eq_iff_iff,V1j];exact U0m ha hb
theorem Ranges.rise(hT:Tab S Ts (fun _=>l))(hw:way<5)(hf:Ranges Ts way fl lo hi l all k):all.Pairwise (fun a b=>ltB (wayK way a) (wayK way b)=true):=by have h:=(TrS.rise (hT.tr way hw)).filter (fun x=> !ltB x.1 (bts (keyL (fl++ [lo]))));have e:(Ts way).list.filter (fun x=> !ltB x.1 (bts (keyL (fl++ [lo]))))=all.map (kvW way):=hf.outs;rw[e,List.pairwise_map]at h;exact h
theorem Ranges.nodup(hT:Tab S Ts (fun _=>l))(hw:way<5)(hf:Ranges Ts way fl lo hi l all k):all.Nodup:=
 (hf.rise hT hw).imp (fun {a b} h e=>by rw[e,Z1h]at h;cases h)
theorem Ranges.mem_iff(hT:Tab S Ts (fun _=>l))(hw:way<5)(hfl:∀x∈fl,Z4g x)(hlo:Z4g lo)(hf:Ranges Ts way fl lo hi l all k)(o:OpD):o∈all.take k↔o∈l/\onP way fl lo hi o:=by
 have hint:∀o∈l,∀x∈wayL way o,Z4g x:=fun o ho x hx=>(OpIn.of (hT.ok way hw o ho)).way way x hx;have hfl5:∀x∈fl++ [lo],Z4g x:=fun x hx=>by
  rcases List.mem_append.1 hx with q | q
  ·exact hfl x q
  ·rw[List.mem_singleton.1 q];exact hlo
 have hin:∀a,kvW way a∈Z1b (Ts way).list (bts (keyL (fl++ [lo])))↔kvW way a∈(Ts way).list/\ltB (wayK way a) (bts (keyL (fl++ [lo])))=false:=fun a=>by
  unfold Z1b;rw[List.mem_filter];constructor
  ·rintro⟨q1,q2⟩;exact⟨q1,by rw[Bool.not_eq_true']at q2;exact q2⟩
  ·rintro⟨q1,q2⟩;exact⟨q1,by rw[show ltB (kvW way a).1 (bts (keyL (fl++ [lo])))=false from q2];rfl⟩
 constructor
 ·intro h;obtain⟨i,hi',rfl⟩:=List.mem_iff_getElem.1 h;rw[aD]at hi';rw[List.getElem_take];have hm:=hf.mem _ (List.getElem_mem (show i<all.length by omega));obtain⟨g1,x,g2,g3⟩:=(V2s (hint _ hm) hfl).1 (hf.under i (by omega) (by omega));refine⟨hm,g1,x,g2,?_,g3⟩;obtain⟨r,hr⟩:=V8u g1 g2;have h1:kvW way all[i]∈Z1b (Ts way).list (bts (keyL (fl++ [lo]))):=by rw[hf.outs];exact List.mem_map.2 ⟨_,List.getElem_mem _,rfl⟩
  have h2:=((hin _).1 h1).2;rw[wayK,Y3z (hint _ hm) hfl5,hr]at h2;exact(Y7w fl lo x r).1 h2
 ·rintro⟨ho,g1,x,g2,g3,g4⟩;obtain⟨r,hr⟩:=V8u g1 g2;have h1:kvW way o∈Z1b (Ts way).list (bts (keyL (fl++ [lo]))):=(hin o).2 ⟨(hT.mem way hw _).2 ⟨o,ho,rfl⟩,by rw[wayK,Y3z (hint o ho) hfl5,hr];exact(Y7w fl lo x r).2 g3⟩;rw[hf.outs]at h1;obtain⟨a,ha,e⟩:=List.mem_map.1 h1;have hao:a=o:=by
   have e1:wayK way a=wayK way o:=congrArg Prod.fst e;have e2:=Y2k _ _ (hint a (hf.mem a ha)) (hint o ho) (U0w e1);have e3:a.id=o.id:=by have q1:=Z4b way a;have q2:=Z4b way o;rw[e2,q2]at q1;exact(Option.some.inj q1).symm
   exact Y8c (hT.ids 0 (by omega)) (hf.mem a ha) ho e3
  subst hao;obtain⟨i,hi',rfl⟩:=List.mem_iff_getElem.1 ha;rcases Nat.lt_or_ge i k with q | q
  ·exact List.mem_iff_getElem.2 ⟨i,by rw[aD];omega,List.getElem_take⟩
  ·exfalso;have hk:k<all.length:=by omega
   have hs:=hf.stop hk;have hmk:=hf.mem _ (List.getElem_mem hk);have h2:kvW way all[k]∈Z1b (Ts way).list (bts (keyL (fl++ [lo]))):=by rw[hf.outs];exact List.mem_map.2 ⟨_,List.getElem_mem _,rfl⟩
   have h3:=((hin _).1 h2).2;rw[wayK,Y3z (hint _ hmk) hfl5]at h3;have h4:ltI (fl++x::r) (wayL way all[k])=false:=by
    rw[<-hr];rcases Nat.lt_or_eq_of_le q with q | q
    ·have:=List.pairwise_iff_getElem.1 (hf.rise hT hw) k i hk hi' q;rw[wayK,wayK,Y3z (hint _ hmk) (hint _ ho)]at this;exact Z7f _ _ this
    ·subst q;cases h:ltI (wayL way all[k]) (wayL way all[k])with
     | false=>rfl
     | true=>rw[Z7f _ _ h]at h;cases h
   obtain⟨x',r',e1,e2,e3⟩:=Y4a fl lo x r _ h3 h4;have:goR way fl hi all[k]=true:=(V2s (hint _ hmk) hfl).2 ⟨⟨_,e1.symm⟩,x',by rw[e1,List.getElem?_append_right (aF _),Nat.sub_self];rfl,by omega⟩;rw[this]at hs;cases hs
theorem Z7t(hw:way<5)(o:OpD):wayI (way:Nat) o=wayL way o:=by unfold wayI;rw[if_pos ⟨by omega,by omega⟩];rfl
theorem U0i(hw:way<5)(h4:fl.length<=3)(o:OpD):okF (way:Nat) fl o=true↔fl <+: wayL way o:=by
 unfold okF;rw[Z7t hw];have hl:=Z2u way o;have hne:(wayL way o).isEmpty=false:=by cases h:wayL way o with | nil=>rw[h]at hl;simp at hl | cons _ _=>rfl
 rw[hne,decide_eq_true (show fl.length<=4 by omega)];simp[List.isPrefixOf_iff_prefix]
theorem U0o(hw:way<5)(o:OpD):inR (way:Nat) fl lo hi o=true↔∃x,(wayL way o)[fl.length]? =some x/\lo<=x/\x<=hi:=by
 unfold inR;rw[Z7t hw];cases (wayL way o)[fl.length]? with
 | none=>simp
 | some x=>simp
theorem X6t(hw:way<5)(h4:fl.length<=3)(o:OpD):o∈Z2r (way:Nat) fl lo hi l↔o∈l/\onP way fl lo hi o:=by unfold Z2r onP;rw[if_neg (by omega),List.mem_filter,(Y1j _ _ _).1.mem_iff,List.mem_filter,U0i hw h4,U0o hw,and_assoc]
theorem Ranges.same(hT:Tab S Ts (fun _=>l))(hw:way<5)(h4:fl.length<=3)(hfl:∀x∈fl,Z4g x)(hlo:Z4g lo)(hf:Ranges Ts way fl lo hi l all k):all.take k=Z2r (way:Nat) fl lo hi l:=by
 have hint:∀o∈l,∀x∈wayL way o,Z4g x:=fun o ho x hx=>(OpIn.of (hT.ok way hw o ho)).way way x hx;have hln:l.Nodup:=(hT.ids 0 (by omega)).imp (fun {a b} h e=>h (by rw[e]));have hrn:(Z2r (way:Nat) fl lo hi l).Nodup:=by unfold Z2r;rw[if_neg (by omega)];exact(((Y1j _ _ _).1.nodup_iff).2 (hln.filter _)).filter _
 have hp:(all.take k).Perm (Z2r (way:Nat) fl lo hi l):=(List.perm_ext_iff_of_nodup ((hf.nodup hT hw).sublist (List.take_sublist _ _)) hrn).2 (fun o=>by rw[hf.mem_iff hT hw hfl hlo,X6t hw h4]);refine Z8n (R:=fun a b=>ltW (way:Nat) b a=false) _ _ hp ?_ ?_ (fun a ha b hb h1 h2=> ?_)
 ·refine(List.Pairwise.sublist (List.take_sublist k all) (hf.rise hT hw)).imp_of_mem (fun {a b} ha hb h=> ?_);have hma:=hf.mem a (List.mem_of_mem_take ha);have hmb:=hf.mem b (List.mem_of_mem_take hb);unfold ltW;rw[Z7t hw,Z7t hw];rw[wayK,wayK,Y3z (hint a hma) (hint b hmb)]at h;exact Z7f _ _ h
 ·unfold Z2r;rw[if_neg (by omega)];exact((Y1j _ _ _).2).filter _
 ·have hma:=hf.mem a (List.mem_of_mem_take ha);have hmb:=hf.mem b (List.mem_of_mem_take hb);unfold ltW at h1 h2;rw[Z7t hw,Z7t hw]at h1 h2;have e2:=V8w _ _ h2 h1;have q1:=Z4b way a;have q2:=Z4b way b;rw[e2,q2]at q1;exact Y8c (hT.ids 0 (by omega)) hma hmb (Option.some.inj q1).symm
end
structure ComOk (t:Nat) (C:StoreD):Prop where
 pow:Pow C.disk
 late:C.disk.late= []
 room:C.head.room=860
 seq:C.head.seq<=10+2*t
structure DoZ (tb p bl:Nat) (ts:Nat->Nat) (l m:List OpD) (t:Nat) (F:Nat->Prop) (w:World):Prop where
 ex:∃C S Ts,TabZ 936 C S Ts l t/\ComOk t C/\PagerAt w p F S
 at_:TblAt w tb p ts F
 list:∃A n c,Row1 w bl 30 [.slice A n c]/\OwnL w 0 32 11 OpD.cells (.slice A n c) m/\∀k,(Value.slice A n c).ownBlock=some k->¬F k
 nl:¬F bl
 lt:∀i,F i->i<w.heap.size
 ap:tb≠bl/\∀j,j<5->ts j≠bl
 len:l.length<=t
section
variable {tb p bl:Nat} {ts:Nat->Nat} {l m r:List OpD} {t:Nat} {F F':Nat->Prop} {w w':World}
theorem DoZ.ext(h:DoZ tb p bl ts l m t F w)(hx:Ext w w'):DoZ tb p bl ts l m t F w':=by obtain⟨C,S,Ts,h1,h0,h2⟩:=h.ex;obtain⟨A,n,c,h3,h4,h5⟩:=h.list;exact⟨⟨C,S,Ts,h1,h0,h2.ext hx⟩,h.at_.ext hx,⟨A,n,c,h3.ext hx h3.lt,h4.ext hx,h5⟩,h.nl,fun i q=>aE (h.lt i q) hx.size,h.ap,h.len⟩
theorem DoZ.set{base n c:Nat}{A:Option Addr}(h:DoZ tb p bl ts l m t F w)(hx:Ext w w')(hb:w.heap.size<=base)(ho:OwnL w' base 32 11 OpD.cells (.slice A n c) r):
  DoZ tb p bl ts l r t F (w'.setCell ⟨bl,0,none⟩ (.slice A n c))/\Only (fun i=>i=bl) w' (w'.setCell ⟨bl,0,none⟩ (.slice A n c)):=by
 have h':=h.ext hx;have hoS:Only (fun i=>i=bl) w' (w'.setCell ⟨bl,0,none⟩ (.slice A n c)):=Only.setCell (F:=fun i=>i=bl) (p:=⟨bl,0,none⟩) Only.refl (.inl rfl) _;obtain⟨C,S,Ts,h1,h0,h2⟩:=h'.ex;obtain⟨A0,n0,c0,h3,h4,h5⟩:=h'.list;refine⟨⟨⟨C,S,Ts,h1,h0,h2.only hoS (fun i q e=>h.nl (e▸q))⟩,⟨hoS.row h'.at_.row h.ap.1,fun j hj=>hoS.row (h'.at_.tree j hj) (h.ap.2 j hj),h'.at_.out,h'.at_.outs⟩,⟨A,n,c,h3.set 0 _,(ho.lower (Nat.zero_le _)).only hoS (fun k q e=>ho.apartRow h3 (by decide) (by rw[q,e])),fun k q r=> ?_⟩,h.nl,fun i q=>by have:=h'.lt i q;have:=hoS.size;omega,h.ap,h.len⟩,hoS⟩;have h6:=(ho.lt k q).1;have h7:=h.lt k r;omega
theorem DoZ.after{C S:StoreD}{Ts:Nat->TrD}{t':Nat}(h:DoZ tb p bl ts l m t F w)(hz:TabZ 936 C S Ts m t')(hc:ComOk t' C)(h1:TblAt w' tb p ts F')(h2:PagerAt w' p F' S)(hk:Keeps F F' w w')(hl:m.length<=t'):
  ∃F',DoZ tb p bl ts m m t' F' w'/\Keeps (Un F (fun i=>i=bl)) (Un F' (fun i=>i=bl)) w w':=by
 obtain⟨A,n,c,r1,r2,r3⟩:=h.list;exact⟨fun i=>F' i/\i<w'.heap.size,⟨⟨C,S,Ts,hz,hc,h2.shrink⟩,⟨h1.row,h1.tree,fun q=>h1.out q.1,fun j hj q=>h1.outs j hj q.1⟩,⟨A,n,c,hk.only.row r1 h.nl,r2.only hk.only r3,fun k q r=>hk.out (r2.lt k q).2 (r3 k q) r.1⟩,fun q=>hk.out r1.lt h.nl q.1,fun i q=>q.2,h.ap,hl⟩,X4o hk.shrink⟩
theorem ComOk.more{t u:Nat}{C:StoreD}(h:ComOk t C)(hu:t<=u):ComOk u C:=⟨h.pow,h.late,h.room,by have:=h.seq;omega⟩
theorem X3o:Y1x 40<=936/\Y9k 40<=750:=by decide
theorem TabZ.com{C S:StoreD}{Ts:Nat->TrD}(h:TabZ 936 C S Ts l t)(hc:ComOk t C)(ht:t<=40):Pow S.disk/\S.disk.late= []/\hdsN (Z2m 1024 S.dirty).length+(Z2m 1024 S.dirty).length<=S.head.room/\S.head.seq+2<18446744073709551616/\∀S',Cmtd S S'->ComOk (t+1) S':=by
 have e:=h.soil.same;have e1:S.disk=C.disk:=by rw[e]
 have e2:S.head=C.head:=by rw[e]
 have h1:=h.soil.dirty 1024;have h2:=Y0n ht;have h3:=X3o.2;have h4:=hc.seq;have h5:=hc.room;refine⟨by rw[e1];exact hc.pow,by rw[e1];exact hc.late,?_,by rw[e2];omega,fun S' q=>⟨q.pow,q.late,by rw[q.room,e2];exact h5,?_⟩⟩
 ·rw[e2,h5];unfold hdsN;omega
 ·have:=q.seq;rw[e2]at this;omega
end
def actL(kind:Int)(o:OpD)(l:List OpD):List OpD:=if kind=0 then(if Z2i o=0 then wiO l o else l)else if kind=1 then delO l o.id else l
def actV(kind:Int)(o:OpD):Value:= .agg #[.int .i64 kind,.int .i64 o.id,.int .i64 o.proc,.int .i64 o.object,.int .i64 o.kind,.int .i64 o.method,.int .i64 o.arg,.int .i64 o.second,.bool o.done,.int .i64 o.result,.int .i64 o.invoke,.int .i64 o.ret]
def Y8p(kind:Int)(o:OpD):List Value:= .int .i64 kind::o.cells
theorem ActAt.row{w:World}{b:Nat}{kind:Int}{o:OpD}(h:Row1 w b 34 (Y8p kind o)):(w.cell? ⟨b,1,none⟩=some (.int .i64 o.id)/\w.cell? ⟨b,2,none⟩=some (.int .i64 o.proc)/\w.cell? ⟨b,3,none⟩=some (.int .i64 o.object)/\w.cell? ⟨b,4,none⟩=some (.int .i64 o.kind)/\w.cell? ⟨b,5,none⟩=some (.int .i64 o.method)/\w.cell? ⟨b,6,none⟩=some (.int .i64 o.arg)/\w.cell? ⟨b,7,none⟩=some (.int .i64 o.second)/\w.cell? ⟨b,8,none⟩=some (.bool o.done)/\w.cell? ⟨b,9,none⟩=some (.int .i64 o.result)/\w.cell? ⟨b,10,none⟩=some (.int .i64 o.invoke)/\w.cell? ⟨b,11,none⟩=some (.int .i64 o.ret)):=⟨h.cell 1,h.cell 2,h.cell 3,h.cell 4,h.cell 5,h.cell 6,h.cell 7,h.cell 8,h.cell 9,h.cell 10,h.cell 11⟩
end Go.Proofs.YtmiolpfanlpfnaaGreat
