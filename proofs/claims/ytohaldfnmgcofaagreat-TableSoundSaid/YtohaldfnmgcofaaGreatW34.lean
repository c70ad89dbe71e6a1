/- A table behind so many acts, its pages counted. Plain. No conditions. -/
import Derived.Test.YtohaldfnmgcofaaGreatW33
set_option maxRecDepth 100000
set_option maxHeartbeats 4000000
set_option linter.unusedSimpArgs false
set_option linter.unusedVariables false
namespace Go.Proofs.YtohaldfnmgcofaaGreat
section
open Go.RowKit
structure TabZ (c:Nat) (C:StoreD) (S:StoreD) (Ts:Nat->TrD) (l:List OpD) (t:Nat):Prop extends TabI c S Ts l t where
 soil:Soil (Y9i t) C S
 acc:Acc S Ts
theorem PutY.putB{S0 S:StoreD}{Ts0 Ts:Nat->TrD}{l:List OpD}{o:OpD}(h:PutY S0 Ts0 l o S Ts):PutB S0 Ts0 l o S Ts:=
 let ⟨S1,Ts1,h1,h2,h3,_⟩:=h.via;⟨h.tab,S1,Ts1,h1.toDelB,h2,h3⟩
section
variable {c t:Nat} {C S0 S:StoreD} {Ts0 Ts:Nat->TrD} {l:List OpD} {o:OpD} {id:Int}
theorem TabZ.more{u:Nat}(h:TabZ c C S Ts l t)(hu:t<=u):TabZ c C S Ts l u:=⟨h.toTabI.more hu,h.soil.more (Y0x hu),h.acc⟩
theorem TabZ.del(h:TabZ c C S0 Ts0 l t)(hb:DelY S0 Ts0 l id S Ts):TabZ c C S Ts (delO l id) t:=⟨h.toTabI.del hb.toDelB,hb.soil _ _ h.soil,hb.acc h.acc⟩
theorem TabZ.put(h:TabZ c C S0 Ts0 l t)(ho:Z1s o=0)(hb:PutY S0 Ts0 l o S Ts):TabZ c C S Ts (wiO l o) (t+1):=by obtain⟨S1,Ts1,h1,h2,h3,h4,h6⟩:=hb.via;refine⟨h.toTabI.put ho hb.putB,?_,h6 (h1.acc h.acc)⟩;have h5:=h.toTabI.del h1.toDelB;refine(h4 h5.slim _ _ (h1.soil _ _ h.soil)).more ?_;have:=Y6o h5.pot 5 (aF _);show _<=Y9i t+5*((t+17)/9);omega
end
section
variable {S S':StoreD}
theorem Cmtd.used(h:Cmtd S S')(hp:2<S.head.pages)(b:Nat):Z0z S' b=Z0z S b:=by unfold Z0z;rw[h.view 0 (by omega)]
theorem Cmtd.root(h:Cmtd S S')(hp:2<S.head.pages)(i:Nat):Z1x S' i=Z1x S i:=by unfold Z1x;rw[h.view 1 (by omega)]
theorem Cmtd.rm(h:Cmtd S S')(hp:2<S.head.pages):Z0x S'=Z0x S:=by unfold Z0x Z1r;rw[h.pages,show Z0z S'=Z0z S from funext (fun b=>h.used hp b)]
theorem PageN.cmtd{a:Nat}{n:NodeD}(hn:PageN S a n)(h:Cmtd S S')(hp:2<S.head.pages):PageN S' a n:=
 ⟨⟨hn.given.1,by rw[h.pages];exact hn.given.2.1,by rw[h.used hp];exact hn.given.2.2⟩,hn.ok,hn.fits,by rw[h.view a hn.given.2.1];exact hn.view⟩
theorem X4m(h:Cmtd S S')(hp:2<S.head.pages):∀(d:Nat) (t:TT d),onT S d t->onT S' d t
 | 0,_,ho=>PageN.cmtd ho h hp
 | d+1,_,ho=>⟨PageN.cmtd ho.1 h hp,fun c hc=>X4m h hp d c (ho.2 c hc)⟩
theorem TrS.cmtd{i:Nat}(h:Cmtd S S')(hp:2<S.head.pages):∀ {T:TrD},TrS S i T->TrS S' i T
 | .no,ht=>by show Z1x S' i=0;rw[h.root hp];exact ht
 | .yes d t,ht=>⟨by rw[h.root hp];exact ht.1,X4m h hp d t ht.2.1,ht.2.2⟩
theorem Fm.cmtd(hf:Fm S)(h:Cmtd S S')(hp:2<S.head.pages)(hfull:FullV S'):Fm S':=⟨hfull,by rw[h.used hp];exact hf.u0,by rw[h.used hp];exact hf.u1,by rw[h.pages];exact hf.most⟩
theorem Tab.cmtd{Ts:Nat->TrD}{L:Nat->List OpD}(ht:Tab S Ts L)(h:Cmtd S S')(hp:2<S.head.pages)(hfull:FullV S'):Tab S' Ts L:=
 ⟨ht.fm.cmtd h hp hfull,fun i hi=>(ht.tr i hi).cmtd h hp,ht.disj,ht.ok,ht.ids,ht.mem⟩
theorem TabI.cmtd{c t:Nat}{Ts:Nat->TrD}{l:List OpD}(ht:TabI c S Ts l t)(h:Cmtd S S')(hp:2<S.head.pages)(hfull:FullV S'):TabI c S' Ts l t:=
 ⟨ht.tab.cmtd h hp hfull,ht.ris,ht.pot,ht.slim,by rw[h.rm hp];exact ht.room⟩
theorem TabZ.cmtd{c t:Nat}{C:StoreD}{Ts:Nat->TrD}{l:List OpD}(ht:TabZ c C S Ts l t)(h:Cmtd S S')(hp:2<S.head.pages)(hfull:FullV S'):TabZ c S' S' Ts l t:=by
 refine⟨ht.toTabI.cmtd h hp hfull,⟨rfl,?_⟩,fun b hb hu=>ht.acc b hb (by rwa [h.used hp]at hu)⟩;obtain⟨L,h1,h2⟩:=ht.soil.list;refine⟨L,h1,fun b hb q=>h2 b hb ?_⟩;rcases q with q | q
 ·exact absurd (h.clean b) q
 ·rw[h.used hp]at q;exact .inr q
end
theorem V5b{S:StoreD}(h:Fm S)(hr:∀i,i<5->TrS S i .no):Tab S (fun _=> .no) (fun _=> []):=
 ⟨h,hr,fun i j _ _ _ b hb=>(by cases hb),fun i _ o ho=>(by cases ho),fun i _=>List.Pairwise.nil,fun i _ x=>⟨fun q=>(by cases q),fun⟨_,q,_⟩=>(by cases q)⟩⟩
theorem X9o{c n room:Nat}(hf:FullV (Z1j n room))(hc:c<=pgN n room-2):TabI c (Z1j n room) (fun _=> .no) [] 0:=
 ⟨V5b (X4c hf) (fun i _=>X4b n room i),List.Pairwise.nil,fun i _=>Nat.zero_le _,fun i _ x hx=>(by cases hx),by rw[Z7z];show c<=_+0;omega⟩
theorem X9y(f:Nat)(ya yb:Array Value)(W:World):Sem.run Tryz.prog (binOp .eql 154 (.func (.func f) ya yb) .nilFunc) W= .ok (.bool false) W:=by kernel_rfl
def U1k{A:Option Addr}{n c:Nat}(pv:Option Addr)(way:Int)(w:World)(e:Ending)(w':World):Prop:=
 ∃bt bw bf,e= .returned (.func (.func 178) #[] #[.pointer (some ⟨bf,0,none⟩),.pointer (some ⟨bt,0,none⟩),.pointer (some ⟨bw,0,none⟩)])/\Ext w w'/\w.heap.size<=bt/\w.heap.size<=bw/\w.heap.size<=bf/\
  Row1 w' bt 66 [.pointer pv]/\Row1 w' bw 3 [.int .i64 way]/\Row1 w' bf 80 [.slice A n c]
theorem V7u{A:Option Addr}{n c:Nat}(pv:Option Addr)(way:Int)(w:World):
  Calls Tryz.prog 133 #[.pointer pv,.int .i64 way,.slice A n c] w (U1k (A:=A) (n:=n) (c:=c) pv way w):=by
 have HR:Hid (∀W',W'=((w.alloc (.cells #[.pointer pv] 66)).alloc (.cells #[.int .i64 way] 3)).alloc (.cells #[.slice A n c] 80)->U1k (A:=A) (n:=n) (c:=c) pv way w (.returned (.func (.func 178) #[] #[.pointer (some ⟨w.heap.size+2,0,none⟩),.pointer (some ⟨w.heap.size,0,none⟩),.pointer (some ⟨w.heap.size+1,0,none⟩)])) W'):=by rintro W' rfl;exact⟨w.heap.size,w.heap.size+1,w.heap.size+2,rfl,(Ext.alloc _ _).trans ((Ext.alloc _ _).trans (Ext.alloc _ _)),by omega,by omega,by omega,((Row1.made w _ [.pointer pv]).alloc _).alloc _,(Row1.made' (by simp) _ [.int .i64 way]).alloc _,Row1.made' (by simp) _ [.slice A n c]⟩
 go_enter Tryz.func133,Tryz.ntmps133;go_wp2_with fail;go_ret;exact HR.out _ rfl
attribute [local go_sem] Oper.semAt_some
def AllR(pv:Option Addr)(w:World)(e:Ending)(w':World):Prop:=
 ∃bt,e= .returned (.func (.func 132) #[] #[.pointer (some ⟨bt,0,none⟩)])/\Ext w w'/\w.heap.size<=bt/\Row1 w' bt 66 [.pointer pv]
theorem Y5x(pv:Option Addr)(w:World):
  Calls Tryz.prog 73 #[.pointer pv] w (AllR pv w):=by
 have HR:Hid (∀W',W'=w.alloc (.cells #[.pointer pv] 66)->AllR pv w (.returned (.func (.func 132) #[] #[.pointer (some ⟨w.heap.size,0,none⟩)])) W'):=by rintro W' rfl;exact⟨w.heap.size,rfl,Ext.alloc _ _,aF _,Row1.made w _ [.pointer pv]⟩
 go_enter Tryz.func73,Tryz.ntmps73;go_wp2_with fail;go_ret;exact HR.out _ rfl
end
section
open Go.RowKit
structure FJ (bl bm:Nat) (most:Int) (pre:List OpD) (G:Nat->Prop) (W:World):Prop where
 list:∃A c,OwnL W 0 73 11 OpD.cells (.slice A pre.length c) pre/\Row1 W bl 69 [.slice A pre.length c]/\∀k,(Value.slice A pre.length c).ownBlock=some k->G k
 most:Row1 W bm 3 [.int .i64 most]
 gl:G bl
 gm:G bm
theorem Y6p{bl bm:Nat}{most:Int}{pre:List OpD}{G:Nat->Prop}(x:OpD)(W:World)(h:FJ bl bm most pre G W)(hp:pre.length<=100000):
  Calls Tryz.prog 134 #[x.val,.pointer (some ⟨bl,0,none⟩),.pointer (some ⟨bm,0,none⟩)] W fun e W'=>e= .returned (.bool (decide ((pre.length:Int)+1<most)))/\∃G2,FJ bl bm most (pre++ [x]) G2 W'/\Keeps G G2 W W':=by
 obtain⟨A,c,ho,hr,hk⟩:=h.list;have hm:=h.most;have hgl:=h.gl;have hgm:=h.gm;have hne:bl≠bm:=hr.apart hm (by decide);have hvl:(Value.slice A pre.length c).ownBlock≠some bl:=ho.apartRow hr (by decide);have hvm:(Value.slice A pre.length c).ownBlock≠some bm:=ho.apartRow hm (by decide);have c0:W.cell? ⟨bl,0,none⟩=some (.slice A pre.length c):=hr.cell 0;have HO:=hD ho;have HR:=hD hr;have HM:=hD hm;have HK:=hD hk;have HGL:=hD hgl;have HGM:=hD hgm;have hbl:=hr.lt;have hbm:=hm.lt;obtain⟨n,hn⟩:∃n,pre.length=n:=⟨_,rfl⟩;have HN:=hD hn;have HLN:Hid ((pre++ [x]).length=n+1):=by unfold Hid;rw[aA,aK,hn]
 rw[hn]at hp ho hr hk hvl hvm c0 HO HR HK ⊢;clear h hn ho hr hm hk hgl hgm;go_enter Tryz.func134,Tryz.ntmps134;go_upto_region 1 with fail;have HX2:Hid (Ext W ((W.alloc (.cells #[.int .i64 x.id,.int .i64 x.proc,.int .i64 x.object,.int .i64 x.kind,.int .i64 x.method,.int .i64 x.arg,.int .i64 x.second,.bool x.done,.int .i64 x.result,.int .i64 x.invoke,.int .i64 x.ret] 73)).alloc (.cells #[.int .i64 x.id,.int .i64 x.proc,.int .i64 x.object,.int .i64 x.kind,.int .i64 x.method,.int .i64 x.arg,.int .i64 x.second,.bool x.done,.int .i64 x.result,.int .i64 x.invoke,.int .i64 x.ret] 73))):=(Ext.alloc _ _).trans (Ext.alloc _ _);have HOX:Hid (OwnL ((W.alloc (.cells #[.int .i64 x.id,.int .i64 x.proc,.int .i64 x.object,.int .i64 x.kind,.int .i64 x.method,.int .i64 x.arg,.int .i64 x.second,.bool x.done,.int .i64 x.result,.int .i64 x.invoke,.int .i64 x.ret] 73)).alloc (.cells #[.int .i64 x.id,.int .i64 x.proc,.int .i64 x.object,.int .i64 x.kind,.int .i64 x.method,.int .i64 x.arg,.int .i64 x.second,.bool x.done,.int .i64 x.result,.int .i64 x.invoke,.int .i64 x.ret] 73)) 0 73 11 OpD.cells (.slice A n c) pre):=HO.out.ext HX2.out;have HRX:Hid (Row1 ((W.alloc (.cells #[.int .i64 x.id,.int .i64 x.proc,.int .i64 x.object,.int .i64 x.kind,.int .i64 x.method,.int .i64 x.arg,.int .i64 x.second,.bool x.done,.int .i64 x.result,.int .i64 x.invoke,.int .i64 x.ret] 73)).alloc (.cells #[.int .i64 x.id,.int .i64 x.proc,.int .i64 x.object,.int .i64 x.kind,.int .i64 x.method,.int .i64 x.arg,.int .i64 x.second,.bool x.done,.int .i64 x.result,.int .i64 x.invoke,.int .i64 x.ret] 73)) bl 69 [.slice A n c]):=HR.out.ext HX2.out hbl;have HMX:Hid (Row1 ((W.alloc (.cells #[.int .i64 x.id,.int .i64 x.proc,.int .i64 x.object,.int .i64 x.kind,.int .i64 x.method,.int .i64 x.arg,.int .i64 x.second,.bool x.done,.int .i64 x.result,.int .i64 x.invoke,.int .i64 x.ret] 73)).alloc (.cells #[.int .i64 x.id,.int .i64 x.proc,.int .i64 x.object,.int .i64 x.kind,.int .i64 x.method,.int .i64 x.arg,.int .i64 x.second,.bool x.done,.int .i64 x.result,.int .i64 x.invoke,.int .i64 x.ret] 73)) bm 3 [.int .i64 most]):=HM.out.ext HX2.out hbm;have HP1:Hid (pre.length+1<=1000000000):=by unfold Hid;rw[HN.out];omega
 have HVL:=hD hvl;have HVM:=hD hvm;go_wp2_with (at_builtin;go_loud (refine Z0u elOp Z9w Y9z rfl (.tmp 5) (.tmp 7) rfl (.slice A n c) pre rfl HOX.out (Nat.zero_le _) (W.heap.size+1) 1 x rfl (Row1.made' (by simp) _ x.cells) HP1.out (by decide) ?_;intro A4 c4 w4 hown4 hgr4 hwh4;rw[HLN.out]at hown4 hwh4 ⊢;have HR4:=HRX.out.grown hgr4 (fun e=>HVL.out e.symm);have HM4:=hD (HMX.out.grown hgr4 (fun e=>HVM.out e.symm));have v40:w4.cell? ⟨bl,0,none⟩=some (.slice A n c):=HR4.cell 0;have vf0:w4.frozen? ⟨bl,0,none⟩=false:=HR4.soft 0;have v41:w4.cell? ⟨bm,0,none⟩=some (.int .i64 most):=HM4.out.cell 0;have HR4:=hD HR4;have HO4:=hD hown4;have HG4:=hD hgr4;have HW4:=hD hwh4;clear hown4 hgr4 hwh4));go_ret;refine⟨?_,fun i=>G i\/W.heap.size<=i,?_,?_⟩
 ·try simp only[Int.natCast_add,Int.natCast_one]
  rfl
 ·have hw2:((W.alloc (.cells #[.int .i64 x.id,.int .i64 x.proc,.int .i64 x.object,.int .i64 x.kind,.int .i64 x.method,.int .i64 x.arg,.int .i64 x.second,.bool x.done,.int .i64 x.result,.int .i64 x.invoke,.int .i64 x.ret] 73)).alloc (.cells #[.int .i64 x.id,.int .i64 x.proc,.int .i64 x.object,.int .i64 x.kind,.int .i64 x.method,.int .i64 x.arg,.int .i64 x.second,.bool x.done,.int .i64 x.result,.int .i64 x.invoke,.int .i64 x.ret] 73)).heap.size=W.heap.size+2:=by simp
  have hG:∀k,(Value.slice A4 (n+1) c4).ownBlock=some k->(G k\/W.heap.size<=k)/\k≠bl:=fun k hk=>by
   rcases HW4.out k hk with q | q
   ·exact⟨.inl (HK.out k q),fun e=>HVL.out (e▸q)⟩
   ·rw[hw2]at q;exact⟨.inr (by omega),by omega⟩
  have ho:Only (fun i=>i=bl) w4 (w4.setCell ⟨bl,0,none⟩ (.slice A4 (n+1) c4)):=Only.setCell (F:=fun i=>i=bl) (p:=⟨bl,0,none⟩) Only.refl (.inl rfl) _;refine⟨⟨A4,c4,?_,?_,?_⟩,ho.row HM4.out (Ne.symm hne),.inl HGL.out,.inl HGM.out⟩
  ·rw[HLN.out];exact HO4.out.only ho (fun k hk=>(hG k hk).2)
  ·rw[HLN.out];exact HR4.out.set 0 _
  ·rw[HLN.out];exact fun k hk=>(hG k hk).1
 ·exact⟨(((Only.of HX2.out).trans (Only.grown HG4.out) (fun i q=> .inl (HK.out i q))).setCell (p:=⟨bl,0,none⟩) (.inl HGL.out) _),fun i q=>q⟩
def kvW(way:Nat)(o:OpD):KV:=(wayK way o,recW way o)
theorem V1k{way:Nat}{l:List OpD}:∀(L:List KV),(∀x∈L,∃o∈l,x=kvW way o)->∃os:List OpD,L=os.map (kvW way)/\∀o∈os,o∈l
 | [],_=>⟨[],rfl,fun _ h=>by cases h⟩
 | x::r,h=>by
   obtain⟨o,ho,rfl⟩:=h x List.mem_cons_self;obtain⟨os,h1,h2⟩:=V1k r (fun y hy=>h y (List.mem_cons_of_mem _ hy));exact⟨o::os,by rw[h1];rfl,fun a ha=>by
    rcases List.mem_cons.1 ha with rfl | ha
    ·exact ho
    ·exact h2 a ha⟩
structure Finds (Ts:Nat->TrD) (way:Nat) (front:ByteArray) (l all:List OpD) (k:Nat):Prop where
 outs:Z1e (Ts way).list front=all.map (kvW way)
 mem:∀o∈all,o∈l
 under:∀i (h:i<all.length),i<k->Z3b (wayK way all[i]) front=true
 stop:∀h:k<all.length,Z3b (wayK way all[k]) front=false
 le:k<=all.length
theorem Y3l{α:Type}(p:α->Bool):∀l:List α,∃k,k<=l.length/\(∀i (h:i<l.length),i<k->p l[i]=true)/\∀h:k<l.length,p l[k]=false
 | []=>⟨0,aF _,fun i h=>absurd h (by simp),fun h=>absurd h (by simp)⟩
 | a::r=>by
   cases hp:p a with
   | false=>exact⟨0,by simp,fun i h q=>absurd q (by omega),fun _=>by simpa using hp⟩
   | true=>
     obtain⟨k,h1,h2,h3⟩:=Y3l p r;refine⟨k+1,by simp;omega,fun i h q=> ?_,fun h=> ?_⟩
     ·cases i with
      | zero=>simpa using hp
      | succ i=>simpa using h2 i (by simpa using h) (by omega)
     ·simpa using h3 (by simpa using h)
theorem Tab.finds{S:StoreD}{Ts:Nat->TrD}{l:List OpD}{way:Nat}(h:Tab S Ts (fun _=>l))(hw:way<5)(front:ByteArray):∃all k,Finds Ts way front l all k:=by
 obtain⟨all,h1,h2⟩:=V1k (way:=way) (l:=l) (Z1e (Ts way).list front) (fun x hx=>by
  obtain⟨o,ho,e⟩:=(h.mem way hw x).1 ((List.mem_filter.1 hx).1);exact⟨o,ho,e⟩)
 obtain⟨k,h3,h4,h5⟩:=Y3l (fun o=>Z3b (wayK way o) front) all;exact⟨all,k,h1,h2,h4,h5,h3⟩
attribute [local go_sem] Oper.semAt_some
theorem X1b(p q:Tmp)(u v:Value)(t:Array Value):(#[p,q].zip #[u,v]).foldl (fun t (p,v)=>t.setIfInBounds p v) t=(t.setIfInBounds p u).setIfInBounds q v:=by simp
theorem X4y:∀ {l:List OpD} (_:l.Pairwise (fun a b=>a.id≠b.id)) {o:OpD} (_:o∈l),getL l o.id=some o
 | [],_,_,h=>by cases h
 | a::r,hp,o,h=>by
   unfold getL;rw[List.find?_cons];rcases List.mem_cons.1 h with rfl | h
   ·simp
   ·have:=(List.pairwise_cons.1 hp).1 o h;rw[show (a.id==o.id)=false by simpa using this];exact X4y (List.pairwise_cons.1 hp).2 h
theorem Y4n{motive:Act->Prop}{a:Act}(h:∀a0,a0=a->motive a0):motive a:=h a rfl
theorem X6n{w:World}{base:Nat}{v:Value}{way:Nat}{o:OpD}(h:OwnL w base 3 1 encN v (wayL way o)):∃sb cap q,v= .slice (some ⟨sb,0,none⟩) (q+1) cap/\q<3/\base<=sb/\sb<w.heap.size/\w.cell? ⟨sb,q,none⟩=some (.int .i64 o.id):=by
 have hw:=Y2l way o;obtain⟨g,cap,spare,rfl,hbg,hr,h4⟩:=h.row (by omega);have hlt:=h.lt g rfl;obtain⟨q,hq⟩:∃q,(wayL way o).length=q+1:=⟨(wayL way o).length-1,by omega⟩;refine⟨g,cap,q,by rw[hq],by omega,hlt.1,hlt.2,?_⟩;have hl:(wayL way o)[q]? =some o.id:=by have:=Y3c way o;rw[List.getLast?_eq_getElem?,hq]at this;exact this
 rw[hr.cell q,aL (by rw[Z0s Z0i,hq];omega)];have:=Z3i encN 1 Z0i (wayL way o) q o.id hl 0 (.int .i64 o.id) rfl;rwa [Nat.mul_one,Nat.add_zero]at this
structure FRows (tb p:Nat) (ts:Nat->Nat) (bt bw bs by_ bl bm way:Nat) (begin:ByteArray) (T:Nat->Prop) (W:World):Prop where
 row:X5t W tb ts
 tree:∀j,j<5->Z0b W (ts j) p j
 rt:Row1 W bt 66 [tp tb]
 rw_:Row1 W bw 3 [.int .i64 (way:Nat)]
 rs:Row1 W bs 9 [.string begin]
 ry:Row1 W by_ 227 [.func (.func 134) #[] #[.pointer (some ⟨bl,0,none⟩),.pointer (some ⟨bm,0,none⟩)]]
 t1:T tb
 t2:∀j,j<5->T (ts j)
 t3:T bt/\T bw/\T bs/\T by_
theorem FRows.only{tb p:Nat}{ts:Nat->Nat}{bt bw bs by_ bl bm way:Nat}{begin:ByteArray}{T G:Nat->Prop}{W W':World}(h:FRows tb p ts bt bw bs by_ bl bm way begin T W)(ho:Only G W W')(hG:∀i,T i->¬G i):FRows tb p ts bt bw bs by_ bl bm way begin T W':=
 ⟨ho.row h.row (hG _ h.t1),fun j hj=>ho.row (h.tree j hj) (hG _ (h.t2 j hj)),ho.row h.rt (hG _ h.t3.1),ho.row h.rw_ (hG _ h.t3.2.1),ho.row h.rs (hG _ h.t3.2.2.1),ho.row h.ry (hG _ h.t3.2.2.2),h.t1,h.t2,h.t3⟩
theorem FRows.tbl{tb p:Nat}{ts:Nat->Nat}{bt bw bs by_ bl bm way:Nat}{begin:ByteArray}{T F:Nat->Prop}{W:World}(h:FRows tb p ts bt bw bs by_ bl bm way begin T W)(hF:∀i,T i->¬F i):TblAt W tb p ts F:=
 ⟨h.row,h.tree,hF _ h.t1,fun j hj=>hF _ (h.t2 j hj)⟩
theorem FJ.only{bl bm:Nat}{most:Int}{pre:List OpD}{G H:Nat->Prop}{W W':World}(h:FJ bl bm most pre G W)(ho:Only H W W')(hH:∀i,G i->¬H i):FJ bl bm most pre G W':=by obtain⟨A,c,h1,h2,h3⟩:=h.list;exact⟨⟨A,c,h1.only ho (fun k hk=>hH k (h3 k hk)),ho.row h2 (hH _ h.gl),h3⟩,ho.row h.most (hH _ h.gm),h.gl,h.gm⟩
def FI(tb p:Nat)(ts:Nat->Nat)(bt bw bs by_ bl bm way:Nat)(begin:ByteArray)(T:Nat->Prop)(most:Int)(all:List OpD)(k:Nat)(pre:List KV)(G:Nat->Prop)(W:World):Prop:=
 ∃Gc:Nat->Prop,G=(fun i=>Gc i\/T i)/\(∀i,T i->¬Gc i)/\pre=(all.take pre.length).map (kvW way)/\pre.length<=k/\(pre.length<=all.length/\(pre.length:Int)<most)/\
  FRows tb p ts bt bw bs by_ bl bm way begin T W/\FJ bl bm most (all.take pre.length) Gc W
theorem FI.abides{tb p:Nat}{ts:Nat->Nat}{bt bw bs by_ bl bm way:Nat}{begin:ByteArray}{T:Nat->Prop}{most:Int}{all:List OpD}{k:Nat}:Z2x (FI tb p ts bt bw bs by_ bl bm way begin T most all k):=by rintro s G W W' ⟨Gc,rfl,h1,h2,h3,h4,h5,h6⟩ hlt ho;exact⟨Gc,rfl,h1,h2,h3,h4,h5.only ho (fun i q r=>r (.inr q)),h6.only ho (fun i q r=>r (.inl q))⟩
def FX(tb p:Nat)(ts:Nat->Nat)(bt bw bs by_ bl bm way:Nat)(begin:ByteArray)(T:Nat->Prop)(most:Int)(all:List OpD)(k:Nat)(G:Nat->Prop)(W:World):Prop:=
 ∃(Gc:Nat->Prop) (j:Nat),G=(fun i=>Gc i\/T i)/\(∀i,T i->¬Gc i)/\j<=k/\j<=all.length/\((j=k\/most<=(j:Int))/\(j:Int)<=most)/\
  FRows tb p ts bt bw bs by_ bl bm way begin T W/\FJ bl bm most (all.take j) Gc W
theorem FX.abides{tb p:Nat}{ts:Nat->Nat}{bt bw bs by_ bl bm way:Nat}{begin:ByteArray}{T:Nat->Prop}{most:Int}{all:List OpD}{k:Nat}(s:List KV)(G:Nat->Prop)(W W':World)(h:FX tb p ts bt bw bs by_ bl bm way begin T most all k G W)(ho:Only (fun i=>¬G i) W W'):FX tb p ts bt bw bs by_ bl bm way begin T most all k G W':=by obtain⟨Gc,j,rfl,h1,h2,h3,h4,h5,h6⟩:=h;exact⟨Gc,j,rfl,h1,h2,h3,h4,h5.only ho (fun i q r=>r (.inr q)),h6.only ho (fun i q r=>r (.inl q))⟩
theorem FRows.keeps{tb p:Nat}{ts:Nat->Nat}{bt bw bs by_ bl bm way:Nat}{begin:ByteArray}{T F0 F1 Gc Gc1:Nat->Prop}{W0 W:World}(h1:FRows tb p ts bt bw bs by_ bl bm way begin T W0)(h2:FRows tb p ts bt bw bs by_ bl bm way begin T W)
 (hT:∀i,T i->i=tb\/(∃j,j<5/\i=ts j)\/i=bt\/i=bw\/i=bs\/i=by_)(hF:∀i,T i->¬F1 i/\¬Gc1 i)(hk:Keeps (Un F0 (fun i=>Gc i\/T i)) (Un F1 (fun i=>Gc1 i\/T i)) W0 W):Keeps (Un F0 Gc) (Un F1 Gc1) W0 W:=by
 have hb:∀i,T i->W.heap[i]? =W0.heap[i]? :=fun i q=>by
  rcases hT i q with rfl | ⟨j,hj,rfl⟩ | rfl | rfl | rfl | rfl
  ·exact h2.row.trans h1.row.symm
  ·exact(h2.tree j hj).trans (h1.tree j hj).symm
  ·exact h2.rt.trans h1.rt.symm
  ·exact h2.rw_.trans h1.rw_.symm
  ·exact h2.rs.trans h1.rs.symm
  ·exact h2.ry.trans h1.ry.symm
 refine⟨⟨hk.only.os,hk.only.tape,hk.only.output,hk.only.size,fun i hi hn=> ?_⟩,fun i q=> ?_⟩
 ·by_cases ht:T i
  ·exact hb i ht
  ·exact hk.only.block i hi (fun r=>by
    rcases r with r | r | r
    ·exact hn (.inl r)
    ·exact hn (.inr r)
    ·exact ht r)
 ·have hnT:¬T i:=fun r=>by
   rcases q with q | q
   ·exact(hF i r).1 q
   ·exact(hF i r).2 q
  rcases hk.new i (q.elim .inl (fun q=> .inr (.inl q)))with (r | r | r) | r
  ·exact .inl (.inl r)
  ·exact .inl (.inr r)
  ·exact absurd r hnT
  ·exact .inr r
end
end Go.Proofs.YtohaldfnmgcofaaGreat
