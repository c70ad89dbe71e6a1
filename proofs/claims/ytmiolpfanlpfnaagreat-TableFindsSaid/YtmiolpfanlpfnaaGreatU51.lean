/- What lies on a path, by the document and by the keys, is the same list (plain law). No program. -/
import Derived.Test.YtmiolpfanlpfnaaGreatU42
import Derived.Test.YtmiolpfanlpfnaaGreatU48
import Derived.Test.YtmiolpfanlpfnaaGreatU45
import Derived.Test.YtmiolpfanlpfnaaGreatU50
set_option maxRecDepth 100000
set_option maxHeartbeats 8000000
set_option linter.unusedSimpArgs false
set_option linter.unusedVariables false
namespace Go.Proofs.YtmiolpfanlpfnaaGreat
open Go.RowKit
theorem Y3r:∀a b:List Int,ltI a b=true→ltI b a=false
 | [],[],h=>by simp[ltI]at h
 | [],_::_,_=>rfl
 | _::_,[],h=>by simp[ltI]at h
 | x::a,y::b,h=>by
   unfold ltI at h ⊢
   by_cases e:x=y
   ·rw[if_pos e]at h;rw[if_pos e.symm];exact Y3r a b h
   ·rw[if_neg e]at h;rw[if_neg (fun q=>e q.symm)]
    have:=of_decide_eq_true h
    exact decide_eq_false (by omega)
theorem Y5r:∀a b c:List Int,ltI b a=false→ltI c b=false→ltI c a=false
 | [],_,[],_,_=>rfl
 | [],_,_::_,_,_=>rfl
 | x::a,[],_,h,_=>by simp[ltI]at h
 | x::a,y::b,[],_,h=>by simp[ltI]at h
 | x::a,y::b,z::c,h1,h2=>by
   unfold ltI at h1 h2 ⊢
   by_cases e1:y=x
   ·rw[if_pos e1]at h1
    by_cases e2:z=y
    ·rw[if_pos e2]at h2;rw[if_pos (by omega)];exact Y5r a b c h1 h2
    ·rw[if_neg e2]at h2;rw[if_neg (by omega)]
     have:=of_decide_eq_false h2
     exact decide_eq_false (by omega)
   ·rw[if_neg e1]at h1
    have q1:=of_decide_eq_false h1
    by_cases e2:z=y
    ·rw[if_neg (by omega)];exact decide_eq_false (by omega)
    ·rw[if_neg e2]at h2
     have q2:=of_decide_eq_false h2
     rw[if_neg (by omega)];exact decide_eq_false (by omega)
theorem V8h:∀a b:List Int,ltI a b=false→ltI b a=false→a=b
 | [],[],_,_=>rfl
 | [],_::_,h,_=>by simp[ltI]at h
 | _::_,[],_,h=>by simp[ltI]at h
 | x::a,y::b,h1,h2=>by
   unfold ltI at h1 h2
   by_cases e:x=y
   ·rw[if_pos e]at h1;rw[if_pos e.symm]at h2;rw[e,V8h a b h1 h2]
   ·rw[if_neg e]at h1;rw[if_neg (fun q=>e q.symm)]at h2
    have q1:=of_decide_eq_false h1
    have q2:=of_decide_eq_false h2
    omega
theorem Y3w(way:Int)(o:OpD):∀xs:List OpD,(insW (ltW way) o xs).Perm (o::xs)
 | []=>List.Perm.refl _
 | x::r=>by
   unfold insW
   split
   ·exact((Y3w way o r).cons x).trans (List.Perm.swap _ _ _)
   ·exact List.Perm.refl _
theorem Y3v(way:Int)(o:OpD):∀xs:List OpD,xs.Pairwise (fun a b=>ltW way b a=false)→(insW (ltW way) o xs).Pairwise (fun a b=>ltW way b a=false)
 | [],_=>by simp[insW]
 | x::r,h=>by
   obtain⟨h1,h2⟩:=List.pairwise_cons.1 h
   unfold insW
   split
   ·rename_i hx
    refine List.pairwise_cons.2 ⟨fun y hy=> ?_,Y3v way o r h2⟩
    rcases List.mem_cons.1 ((Y3w way o r).mem_iff.1 hy)with rfl | hy
    ·exact Y3r _ _ hx
    ·exact h1 y hy
   ·rename_i hx
    have hx':ltW way x o=false:=by simpa using hx
    refine List.pairwise_cons.2 ⟨fun y hy=> ?_,h⟩
    rcases List.mem_cons.1 hy with rfl | hy
    ·exact hx'
    ·exact Y5r _ _ _ hx' (h1 y hy)
theorem Y1c(way:Int)(fr:List Int)(l:List OpD):(Z4u way fr l).Perm (l.filter (okF way fr))∧(Z4u way fr l).Pairwise (fun a b=>ltW way b a=false):=by
 have h:∀k,k≤l.length→(Z4u way fr (l.take k)).Perm ((l.take k).filter (okF way fr))∧(Z4u way fr (l.take k)).Pairwise (fun a b=>ltW way b a=false):=fun k=>by
  induction k with
  | zero=>intro _;simp[Z4u]
  | succ k ih=>
    intro hk
    obtain⟨p1,p2⟩:=ih (by omega)
    rw[Y1b way fr l k (by omega),X2g l k (by omega)]
    unfold Y8x
    cases hp:okF way fr l[k]with
    | false=>simpa using ⟨p1,p2⟩
    | true=>
      simp only[if_true]
      exact⟨((Y3w way _ _).trans (p1.cons _)).trans (by simpa using (List.perm_append_singleton _ _).symm),Y3v way _ _ p2⟩
 have:=h l.length (Nat.le_refl _)
 rwa [List.take_length]at this
theorem X0a{a b:List Int}(ha:∀x∈a,Z7l x)(hb:∀x∈b,Z7l x)(h:keyL a <+: keyL b):a <+: b:=by
 have hl:a.length≤b.length:=by have:=h.length_le;rw[Z1t,Z1t]at this;omega
 have e:keyL b=keyL (b.take a.length)++keyL (b.drop a.length):=by
  unfold keyL;rw[←List.flatMap_append,List.take_append_drop]
 have h2:=List.prefix_iff_eq_take.1 h
 rw[e,List.take_append_of_le_length (by rw[Z1t,Z1t,List.length_take];omega),List.take_of_length_le (by rw[Z1t,Z1t,List.length_take];omega)]at h2
 have h3:=Y7r a _ ha (fun x hx=>hb x (List.mem_of_mem_take hx)) h2
 rw[List.prefix_iff_eq_take]
 exact h3
section
variable {S:StoreD} {Ts:Nat→TrD} {l all:List OpD} {way k:Nat} {fl:List Int} {lo hi:Int}
theorem V9x{a b:List Int}(ha:∀x∈a,Z7l x)(hb:∀x∈b,Z7l x):ltB (bts (keyL a)) (bts (keyL b))=ltI a b:=by
 rw[Bool.eq_iff_iff,V0s]
 exact V9y ha hb
theorem Z8v(hw:way<5)(o:OpD):wayI (way:Nat) o=wayL way o:=by unfold wayI;rw[if_pos ⟨by omega,by omega⟩];rfl
end
def RAct(a:Int×OpD)(cs:List Value):Prop:=cs=Y8g a.1 a.2
def V4k(l:List OpD)(a:Int×OpD):List OpD:=if a.1<2 then actL a.1 a.2 l else l
def X7w(acts:List (Int×OpD)):List OpD:=acts.foldl V4k []
theorem X7v(acts:List (Int×OpD))(k:Nat)(h:k<acts.length):X7w (acts.take (k+1))=V4k (X7w (acts.take k)) acts[k]:=by
 unfold X7w
 rw[List.take_add_one,List.getElem?_eq_getElem h,List.foldl_append]
 rfl
structure LawI (w0:World) (tb p bl:Nat) (ts:Nat→Nat) (l:List OpD) (t:Nat) (F:Nat→Prop) (w:World):Prop where
 doz:DoZ tb p bl ts l l t F w
 new:∀i,F i→w0.heap.size≤i
 ext:Ext w0 w
 bl:w0.heap.size≤bl
section
variable {w0 w w':World} {tb p bl:Nat} {ts:Nat→Nat} {l:List OpD} {t:Nat} {F:Nat→Prop}
theorem LawI.to(h:LawI w0 tb p bl ts l t F w)(hx:Ext w w'):LawI w0 tb p bl ts l t F w':=⟨h.doz.ext hx,h.new,h.ext.trans hx,h.bl⟩
theorem LawI.skip(h:LawI w0 tb p bl ts l t F w):LawI w0 tb p bl ts l (t+1) F w:=by
 obtain⟨C,S,Ts,h1,h2,h3⟩:=h.doz.ex
 have hd:=h.doz
 exact⟨⟨⟨C,S,Ts,h1.more (Nat.le_succ t),h2.more (Nat.le_succ t),h3⟩,hd.at_,hd.list,hd.nl,hd.lt,hd.ap,Nat.le_succ_of_le hd.len⟩,h.new,h.ext,h.bl⟩
theorem LawI.more{u:Nat}(h:LawI w0 tb p bl ts l t F w)(hu:t≤u):LawI w0 tb p bl ts l u F w:=by
 induction u with
 | zero=>obtain rfl:t=0:=Nat.le_zero.1 hu;exact h
 | succ u ih=>
   by_cases e:t=u+1
   ·subst e;exact h
   ·exact(ih (by omega)).skip
theorem LawI.list(h:LawI w0 tb p bl ts l t F w):∃A c,Row1 w bl 30 [.slice A l.length c]∧Sl w 11 ROp (.slice A l.length c) l:=by
 obtain⟨A,n,c,h1,h2,_⟩:=h.doz.list
 have hf:=h2.form
 obtain⟨A',c',e⟩:=hf
 injection e with e1 e2 e3
 subst e1 e2 e3
 exact⟨_,_,h1,h2.sl (fun _=>rfl) (fun _=>rfl)⟩
theorem LawI.len(h:LawI w0 tb p bl ts l t F w):l.length≤t:=h.doz.len
theorem LawI.act(kind:Int)(o:OpD)(h:LawI w0 tb p bl ts l t F w)(hk:kind≠2)(hid:In64 o.id)(hres:In64 o.result)(ht:t<40):
  Calls Tryz.prog 17 #[.pointer (some ⟨tb,0,none⟩),.pointer (some ⟨p,0,none⟩),.pointer (some ⟨bl,0,none⟩),actV kind o] w fun e w'=>e= .returned (.bool true)∧∃F',LawI w0 tb p bl ts (actL kind o l) (t+1) F' w':=by
 refine(X7j kind o w h.doz hk hid hres ht).mono ?_
 rintro e w' ⟨rfl,F',h1,h2⟩
 have h3:=h2.fresh h.ext (fun i q=>q.elim (h.new i) (fun e=>e▸h.bl))
 exact⟨rfl,F',h1,fun i q=>h3.2 i (.inl q),h3.1,h.bl⟩
theorem LawI.start(ht:TblAt w tb p ts F)(hb:Begun w0 p F 1800 860 w):LawI w0 tb p w.heap.size ts [] 0 (fun i=>F i∧i<w.heap.size) (w.alloc (.cells #[.slice none 0 0] 30)):=by
 have hx:Ext w (w.alloc (.cells #[.slice none 0 0] 30)):=Ext.alloc _ _
 have hp:=hb.pag
 refine⟨⟨⟨Z1j 1800 860,Z1j 1800 860,fun _=> .no,⟨X8x hp.full (by decide),Soil.start _ _⟩,⟨⟨rfl,rfl⟩,rfl,rfl,by decide⟩,hp.shrink.ext hx⟩,?_,⟨none,0,0,Row1.made _ _ _,OwnL.nil _ _ _ _ _,fun k q=>by cases q⟩,fun q=>Nat.lt_irrefl _ q.2,fun i q=> ?_,⟨?_,fun j hj=> ?_⟩,Nat.le_refl _⟩,fun i q=>hb.new i q.1,hb.ext.trans hx,hb.ext.size⟩
 ·exact TblAt.ext (F:=fun i=>F i∧i<w.heap.size) ⟨ht.row,ht.tree,fun q=>ht.out q.1,fun j hj q=>ht.outs j hj q.1⟩ hx
 ·rw[World.size_alloc];have:=q.2;omega
 ·have:=ht.row.lt;omega
 ·have:=(ht.tree j hj).lt;omega
theorem LawI.found{A:Option Addr}{n c:Nat}(way most:Nat)(fl:List Int)(h:LawI w0 tb p bl ts l t F w)(ht:t≤40)(hw:way<5)(hs:Sl w 1 (fun x cs=>cs=encN x) (.slice A n c) fl)(hl:∀x∈fl,In64 x)(h4:fl.length≤4)(hm:0<most):
  ∃(S:StoreD) (Ts:Nat→TrD) (all:List OpD) (k:Nat),Tab S Ts (fun _=>l)∧Finds Ts way (bts (keyL fl)) l all k∧Calls Tryz.prog 20 #[.pointer (some ⟨tb,0,none⟩),.int .i64 (way:Nat),.slice A n c,.int .i64 (most:Nat)] w fun e w'=>
   ∃(A':Option Addr) (c' j:Nat) (F2:Nat→Prop),e= .returned (.slice A' j c')∧Sl w' 11 ROp (.slice A' j c') (all.take j)∧j≤k∧((j=k∨most≤j)∧j≤most)∧LawI w0 tb p bl ts l t F2 w'∧Only F w w':=by
 obtain⟨C,S,Ts,h1,h2,h3⟩:=h.doz.ex
 obtain⟨all,k,hf⟩:=h1.tab.finds hw (bts (keyL fl))
 have hal:all.length≤l.length:=(hf.nodup h1.tab hw).length_le_of_subset (fun o ho=>hf.mem o ho)
 refine⟨S,Ts,all,k,h1.tab,hf,(Y4a way most fl w h.doz.at_ h3 h1.tab (fun i hi=>h1.dep ht i hi) hw hs hl h4 hf (by have:=h.len;omega) hm).mono ?_⟩
 rintro e w' ⟨A',c',j,F2,rfl,ho,hj1,hj2,hj3,ht2,hp2,hk2⟩
 obtain⟨F3,g1,g2⟩:=h.doz.after h1 h2 ht2 hp2 hk2 h.len
 have g3:=g2.fresh h.ext (fun i q=>q.elim (h.new i) (fun e=>e▸h.bl))
 exact⟨A',c',j,F3,rfl,ho.sl (fun _=>rfl) (fun _=>rfl),hj1,hj3,⟨g1,fun i q=>g3.2 i (.inl q),g3.1,h.bl⟩,hk2.only⟩
end
theorem Finds.same{S:StoreD}{Ts:Nat→TrD}{l all:List OpD}{k way:Nat}{fl:List Int}(hT:Tab S Ts (fun _=>l))(hw:way<5)(h4:fl.length≤4)(hfl:∀x∈fl,In64 x)(hf:Finds Ts way (bts (keyL fl)) l all k):all.take k=Z4u (way:Nat) fl l:=by
 have hint:∀o∈l,∀x∈wayL way o,In64 x:=fun o ho x hx=>(OpIn.of (hT.ok way hw o ho)).way way x hx
 have hln:l.Nodup:=(hT.ids 0 (by omega)).imp (fun {a b} h e=>h (by rw[e]))
 have hok:∀o,okF (way:Nat) fl o=true↔fl <+: wayL way o:=fun o=>by
  unfold okF
  rw[Z8v hw]
  have hl:=Z3q way o
  have hne:(wayL way o).isEmpty=false:=by cases h:wayL way o with | nil=>rw[h]at hl;simp at hl | cons _ _=>rfl
  rw[hne,decide_eq_true h4]
  simp[List.isPrefixOf_iff_prefix]
 have hp:(all.take k).Perm (Z4u (way:Nat) fl l):=(List.perm_ext_iff_of_nodup ((hf.nodup hT hw).sublist (List.take_sublist _ _)) (((Y1c _ _ _).1.nodup_iff).2 (hln.filter _))).2 (fun o=>by
  rw[hf.mem_iff hT hw,(Y1c _ _ _).1.mem_iff,List.mem_filter,hok]
  refine and_congr_right (fun ho=>⟨fun q=> ?_,X8p⟩)
  exact X0a hfl (hint o ho) ((Z6o _ _).1 q))
 refine Z8d (R:=fun a b=>ltW (way:Nat) b a=false) _ _ hp ?_ (Y1c _ _ _).2 (fun a ha b hb h1 h2=> ?_)
 ·refine(List.Pairwise.sublist (List.take_sublist k all) (hf.rise hT hw)).imp_of_mem (fun {a b} ha hb h=> ?_)
  have hma:=hf.mem a (List.mem_of_mem_take ha)
  have hmb:=hf.mem b (List.mem_of_mem_take hb)
  unfold ltW
  rw[Z8v hw,Z8v hw]
  rw[wayK,wayK,V9x (hint a hma) (hint b hmb)]at h
  exact Y3r _ _ h
 ·have hma:=hf.mem a (List.mem_of_mem_take ha)
  have hmb:=hf.mem b (List.mem_of_mem_take hb)
  unfold ltW at h1 h2
  rw[Z8v hw,Z8v hw]at h1 h2
  have e2:=V8h _ _ h2 h1
  have q1:=Z6m way a
  have q2:=Z6m way b
  rw[e2,q2]at q1
  exact Y7u (hT.ids 0 (by omega)) hma hmb (Option.some.inj q1).symm
theorem V2m{way:Int}{fl:List Int}(h:4<fl.length∨way<0∨5≤way)(l:List OpD):Z4u way fl l= []:=by
 have hk:∀o,okF way fl o=false:=fun o=>by
  unfold okF
  rcases h with h | h
  ·rw[decide_eq_false (show¬fl.length≤4 by omega)];simp
  ·have:wayI way o= []:=by unfold wayI;rw[if_neg (by omega)]
   rw[this];rfl
 unfold Z4u
 induction l with
 | nil=>rfl
 | cons o r ih=>
   rw[List.foldl_cons,show Y8x way fl [] o= []by unfold Y8x;rw[hk,if_neg (by simp)]]
   exact ih
theorem U1j(A:Option Addr)(n n' c c':Nat):(Value.slice A n c).ownBlock=(Value.slice A n' c').ownBlock:=by cases A<;>rfl
theorem LawI.founds{w0 w:World}{tb p bl:Nat}{ts:Nat→Nat}{l:List OpD}{t:Nat}{F:Nat→Prop}{A:Option Addr}{n c:Nat}(way:Int)(m:Nat)(fl:List Int)(h:LawI w0 tb p bl ts l t F w)(ht:t≤40)(hs:Sl w 1 RIn (.slice A n c) fl)(hl:∀x∈fl,In64 x)(h100:fl.length≤100):
  Calls Tryz.prog 20 #[.pointer (some ⟨tb,0,none⟩),.int .i64 way,.slice A n c,.int .i64 (m:Nat)] w fun e w'=>∃A' n' c',e= .returned (.slice A' n' c')∧Sl w' 11 ROp (.slice A' n' c') ((Z4u way fl l).take m)∧Ext w0 w'∧Only F w w':=by
 by_cases ho:m=0∨4<fl.length∨way<0∨5≤way
 ·have hR:(Z4u way fl l).take m= []:=by
   rcases ho with rfl | ho
   ·simp
   ·rw[V2m ho];simp
  rw[hR]
  refine(V2i way m fl w h.doz.at_.row hs hl (by have:=hs.at.1;omega) ho).mono ?_
  rintro e w' ⟨rfl,hx⟩
  exact⟨_,_,_,rfl,Sl.nil _ _ _,h.ext.trans hx,Only.of hx⟩
 ·have hw:0≤way∧way<5:=by omega
  obtain⟨wn,rfl⟩:∃wn:Nat,way=wn:=⟨way.toNat,by omega⟩
  obtain⟨S,Ts,all,k,hT,hf,cF⟩:=h.found wn m fl ht (by omega) hs hl (by omega) (by omega)
  refine cF.mono ?_
  rintro e w' ⟨A',c',j,F2,rfl,hg,hj1,⟨hj2,hj3⟩,hl2,ho2⟩
  refine⟨_,_,_,rfl,?_,hl2.ext,ho2⟩
  have he:all.take j=(Z4u (wn:Nat) fl l).take m:=by
   rw[←hf.same hT (by omega) (by omega) hl,List.take_take]
   congr 1
   omega
  rw[←he]
  exact hg
theorem Y4s(hAw:∀w,Calls Tryz.prog 16 #[] w fun e w'=>e= .returned (.bool true)∧Ext w w')(V U:Value)(acts:List (Int×OpD))(fl:List Int)(way most:Int)(w:World)(hs:Sl w 12 RAct V acts)(hin:∀a∈acts,In64 a.2.id∧In64 a.2.result)(hu:Sl w 1 RIn U fl)(hl:∀x∈fl,In64 x):
  Calls Tryz.prog 3 #[V,.int .i64 way,U,.int .i64 most] w fun e w'=>e= .returned (.bool true)∧Ext w w':=by
 obtain⟨A,c,rfl⟩:=hs.form
 obtain⟨B,d0,rfl⟩:=hu.form
 obtain⟨_,hc1,hc2,hA⟩:=hs.at
 have HA:=hD hA
 have HIN:=hD hin
 have HAW:=hD hAw
 have HU:=hD hu
 have HFL:=hD hl
 have cB:=Y4o w
 clear hs hA hin hAw hu hl
 by_cases h100:100<fl.length
 ·have q0:decide ((100:Int)<(fl.length:Int))=true:=decide_eq_true (by omega)
  clear h100
  go_enter Tryz.func3,Tryz.ntmps3
  go_wp2_with (first
   | (go_at_call 15;(with_reducible refine cB.mono ?_);clear cB;rintro e w1 ⟨d,p,tb,ts,F,rfl,ht,hb,hz⟩;have HX1:=hD hb.ext;clear ht hb hz)
   | (go_at_call 16;(with_reducible refine(HAW.out _).mono ?_);rintro e w4 ⟨rfl,hx4⟩;have HX4:=hD hx4;clear hx4))
  go_ret
  exact⟨rfl,HX1.out.trans HX4.out⟩
 have q0:decide ((100:Int)<(fl.length:Int))=false:=decide_eq_false (by omega)
 have H100:Hid (fl.length≤100):=by unfold Hid;omega
 clear h100
 go_enter Tryz.func3,Tryz.ntmps3
 go_upto_block 0 with (go_at_call 15;(with_reducible refine cB.mono ?_);clear cB;rintro e w1 ⟨d,p,tb,ts,F,rfl,ht,hb,hz⟩;have HST:=hD (LawI.start ht hb);clear ht hb hz)
 generalize hW2:World.alloc w1 _=W2 at *
 obtain⟨bl,hbl⟩:∃bl,w1.heap.size=bl:=⟨_,rfl⟩
 rw[hbl]at HST ⊢
 have HBL:=hD hbl
 clear hW2 hbl
 obtain⟨L,hL⟩:∃L,X7w (acts.take 40)=L:=⟨_,rfl⟩
 have HL:=hD hL
 go_cut [13] (fun _ wx=>∃F,LawI w tb p bl ts L 40 F wx)
 case first=>
  go_wp2_with fail
  go_loopw [13] (fun i wr=>∃(k:Nat) (F:Nat→Prop),k≤acts.length∧k≤40∧i= .int .i64 k∧LawI w tb p bl ts (X7w (acts.take k)) k F wr) (fun i _=>acts.length-(intOf i).toNat)
  case atStart=>exact⟨0,_,by omega,by omega,rfl,HST.out⟩
  case round=>
   obtain⟨k,F2,hk,hk40,rfl,hr⟩:=hrel
   have HR:=hD hr
   clear hr
   by_cases hlt:k<acts.length
   ·have hd:decide ((k:Int)<(acts.length:Int))=true:=by simp;omega
    by_cases h40:k<40
    ·have hd2:decide ((k:Int)<40)=true:=by simp;omega
     have HT:=hD (X7v acts k hlt)
     have HIK:=hD (HIN.out _ (List.getElem_mem hlt))
     obtain⟨b,off,rfl,hbl,hx⟩:=HA.out (by omega)
     obtain⟨cs,rfl,_,hcs⟩:=hx k hlt
     have HE:Hid (∀W:World,Ext w W→(W.cell? ⟨b,off+k*12,none⟩=some (.int .i64 acts[k].1)∧W.cell? ⟨b,off+k*12+1,none⟩=some (.int .i64 acts[k].2.id)∧W.cell? ⟨b,off+k*12+2,none⟩=some (.int .i64 acts[k].2.proc)∧W.cell? ⟨b,off+k*12+3,none⟩=some (.int .i64 acts[k].2.object)∧W.cell? ⟨b,off+k*12+4,none⟩=some (.int .i64 acts[k].2.kind)∧W.cell? ⟨b,off+k*12+5,none⟩=some (.int .i64 acts[k].2.method)∧W.cell? ⟨b,off+k*12+6,none⟩=some (.int .i64 acts[k].2.arg)∧W.cell? ⟨b,off+k*12+7,none⟩=some (.int .i64 acts[k].2.second)∧W.cell? ⟨b,off+k*12+8,none⟩=some (.bool acts[k].2.done)∧W.cell? ⟨b,off+k*12+9,none⟩=some (.int .i64 acts[k].2.result)∧W.cell? ⟨b,off+k*12+10,none⟩=some (.int .i64 acts[k].2.invoke)∧W.cell? ⟨b,off+k*12+11,none⟩=some (.int .i64 acts[k].2.ret))):=by
      intro W h
      have hw:=fun j u hu=>(h.cell (p:=⟨b,off+k*12+j,none⟩) hbl).trans (hcs j u hu)
      exact⟨hw 0 _ rfl,hw 1 _ rfl,hw 2 _ rfl,hw 3 _ rfl,hw 4 _ rfl,hw 5 _ rfl,hw 6 _ rfl,hw 7 _ rfl,hw 8 _ rfl,hw 9 _ rfl,hw 10 _ rfl,hw 11 _ rfl⟩
     clear hx hcs
     generalize acts[k]=x at *
     obtain⟨kd,o⟩:=x
     dsimp only at HE HIK
     generalize X7w (acts.take k)=l at *
     have hbw:=Nat.lt_of_lt_of_le hbl HR.out.ext.size
     obtain⟨e0,e1,e2,e3,e4,e5,e6,e7,e8,e9,e10,e11⟩:=HE.out wr HR.out.ext
     by_cases hkd:kd<2
     ·have q1:decide (kd<2)=true:=decide_eq_true hkd
      have HS:Hid (V4k l (kd,o)=actL kd o l):=if_pos hkd
      have cD:=HR.out.act kd o (by omega) HIK.out.1 HIK.out.2 h40
      unfold actV at cD
      clear hkd
      go_wp2_with (go_at_call 17;(with_reducible refine cD.mono ?_);clear cD;rintro e w3 ⟨rfl,F3,hl3⟩;have HL3:=hD hl3;clear hl3)
      go_roundw
      case rel=>exact⟨k+1,F3,by omega,by omega,by go_num,by rw[HT.out,HS.out];exact HL3.out⟩
      case measure=>simp[intOf];omega
     ·have q1:decide (kd<2)=false:=decide_eq_false hkd
      have HS:Hid (V4k l (kd,o)=l):=if_neg hkd
      clear hkd
      go_wp2_with fail
      go_roundw
      case rel=>exact⟨k+1,F2,by omega,by omega,by go_num,by rw[HT.out,HS.out];exact HR.out.skip⟩
      case measure=>simp[intOf];omega
    ·obtain rfl:k=40:=by omega
     have hd2:decide (((40:Nat):Int)<40)=false:=by simp
     rw[HL.out]at HR
     go_wp2_with fail
     go_meet
     exact⟨F2,HR.out⟩
   ·have hd:decide ((k:Int)<(acts.length:Int))=false:=by simp;omega
    have HF:Hid (∃F,LawI w tb p bl ts L 40 F wr):=by
     refine⟨F2,?_⟩
     have e1:acts.take k=acts.take 40:=by rw[List.take_of_length_le (by omega),List.take_of_length_le (by omega)]
     have h1:=HR.out
     rw[e1,HL.out]at h1
     exact h1.more hk40
    go_wp2_with fail
    go_meet
    exact HF.out
 case rest=>
 obtain⟨F1,hr1⟩:=hcut
 have HR1:=hD hr1
 clear hr1 HST
 have HLN:Hid (L.length≤40):=HR1.out.len
 clear hL
 obtain⟨lA,lc,hbr,hls⟩:=HR1.out.list
 have c0:=hbr.cell 0
 have cR:=Y7c (.slice lA L.length lc) (.slice B fl.length d0) L way fl wc hls (HU.out.ext HR1.out.ext) (by have:=HLN.out;omega)
 obtain⟨want,hwant⟩:∃want,Z4u way fl L=want:=⟨_,rfl⟩
 have HWA:=hD hwant
 rw[hwant]at cR
 have HWL:Hid (want.length≤40):=by
  unfold Hid
  rw[←hwant]
  have h1:=X0k way fl L L.length (Nat.le_refl _)
  rw[List.take_length]at h1
  have:=HLN.out
  omega
 clear hbr hls hwant
 go_upto_region 11 with (go_at_call 18;(with_reducible refine cR.mono ?_);clear cR;rintro e w5 ⟨⟨v5,rfl,ho5⟩,hx5⟩;obtain⟨wA,wcap,rfl⟩:=ho5.form;have HO5:=hD ho5;have HX5:=hD hx5;clear ho5 hx5)
 clear c0
 have hwl:want.length≤40:=HWL.out
 have HW5:Hid (Sl w5 11 ROp (.slice wA want.length wcap) want):=HO5.out.sl (fun _=>rfl) (fun _=>rfl)
 have hcap:=HW5.out.at.2.1
 have hcap2:=HW5.out.at.2.2.1
 obtain⟨bb,hbb⟩:∃bb:Bool,bb=true↔0≤most∧most<want.length:=⟨decide (0≤most∧most<want.length),by simp⟩
 have HBB:=hD hbb
 clear hbb
 go_cut [69] (fun s wx=>s= .bool bb∧wx=w5)
 case first=>
  by_cases hm0:0≤most
  ·have q1:decide ((0:Int)≤most)=true:=decide_eq_true hm0
   by_cases hm1:most<want.length
   ·have q2:decide (most<(want.length:Int))=true:=decide_eq_true hm1
    have HB:Hid (bb=true):=HBB.out.2 ⟨hm0,hm1⟩
    clear hm0 hm1
    go_wp2_with fail
    go_meet
    exact⟨by rw[HB.out],rfl⟩
   ·have q2:decide (most<(want.length:Int))=false:=decide_eq_false hm1
    have HB:Hid (bb=false):=by unfold Hid;cases h:bb with | false=>rfl | true=>exact absurd (HBB.out.1 h).2 hm1
    clear hm0 hm1
    go_wp2_with fail
    go_meet
    exact⟨by rw[HB.out],rfl⟩
  ·have q1:decide ((0:Int)≤most)=false:=decide_eq_false hm0
   have HB:Hid (bb=false):=by unfold Hid;cases h:bb with | false=>rfl | true=>exact absurd (HBB.out.1 h).1 hm0
   clear hm0
   go_wp2_with fail
   go_meet
   exact⟨by rw[HB.out],rfl⟩
 case rest=>
 obtain⟨rfl,rfl⟩:=hcut
 go_upto_if 69 with fail
 go_cut [3,14] (fun a b wx=>∃(m n:Nat) (R:List OpD),a= .int .i64 m∧b= .slice wA n wcap∧Sl wc 11 ROp (.slice wA n wcap) R∧R=want.take m∧wx=wc)
 case first=>
  cases bb with
  | true=>
    obtain⟨hm0,hm1⟩:=HBB.out.1 rfl
    obtain⟨m,rfl⟩:∃m:Nat,most=m:=⟨most.toNat,by omega⟩
    have q3:(0:Int)≤(m:Int):=by omega
    have q4:(m:Int).toNat=m:=by omega
    have q5:¬wcap<m:=by omega
    have HT:=hD (HW5.out.take (p:=m) (by omega))
    clear hm0 hm1 HBB
    go_wp2_with fail
    go_meet
    exact⟨m,m,_,rfl,rfl,HT.out,rfl,rfl⟩
  | false=>
    have HM:Hid (want=want.take 1000):=by unfold Hid;rw[List.take_of_length_le (by omega)]
    clear HBB
    go_wp2_with fail
    go_meet
    exact⟨1000,_,want,rfl,rfl,HW5.out,HM.out,rfl⟩
 case rest=>
 obtain⟨m,n,R,rfl,rfl,hsr,hR,rfl⟩:=hcut
 have HSR:=hD hsr
 have HR:=hD hR
 have cF:Hid (∀W,Ext wc W→Calls Tryz.prog 20 #[.pointer (some ⟨tb,0,none⟩),.int .i64 way,.slice B fl.length d0,.int .i64 m] W fun e w'=>∃A' n' c',e= .returned (.slice A' n' c')∧Sl w' 11 ROp (.slice A' n' c') R∧Sl w' 11 ROp (.slice wA n wcap) R∧Ext w w'):=fun W hW=>by
  refine((HR1.out.to (HX5.out.trans hW)).founds way m fl (by omega) (HU.out.ext ((HR1.out.ext.trans HX5.out).trans hW)) HFL.out H100.out).mono ?_
  rintro e w' ⟨A',n',c',rfl,h1,h2,h3⟩
  rw[HWA.out,←HR.out]at h1
  refine⟨_,_,_,rfl,h1,(HSR.out.ext hW).onlyC h3 (fun b hb hv hF=> ?_),h2⟩
  have h5:=(HO5.out.lt b ((U1j wA _ n _ wcap).trans hv)).1
  have h6:=HR1.out.doz.lt b hF
  omega
 have cO:Hid (∀(P Q:Value) (W:World),Sl W 11 ROp P R→Sl W 11 ROp Q R→Calls Tryz.prog 19 #[P,Q] W fun e w'=>e= .returned (.bool true)∧Ext W w'):=fun P Q W h1 h2=>X3x P Q R W h1 h2
 clear hsr hR hwl hcap hcap2
 go_wp2_with (first
  | (go_at_call 20;(with_reducible refine(cF.out _ (Ext.refl _)).mono ?_);clear cF;rintro e w6 ⟨gA,gn,gc,rfl,hg1,hg2,hx6⟩;have HG1:=hD hg1;have HG2:=hD hg2;have HX6:=hD hx6;clear hg1 hg2 hx6)
  | (go_at_call 19;(with_reducible refine(cO.out _ _ _ HG1.out HG2.out).mono ?_);clear cO;rintro e w7 ⟨rfl,hx7⟩;have HX7:=hD hx7;clear hx7)
  | (go_at_call 16;(with_reducible refine(HAW.out _).mono ?_);rintro e w8 ⟨rfl,hx8⟩;have HX8:=hD hx8;clear hx8))
 go_ret
 exact⟨rfl,(HX6.out.trans HX7.out).trans HX8.out⟩
end Go.Proofs.YtmiolpfanlpfnaaGreat
