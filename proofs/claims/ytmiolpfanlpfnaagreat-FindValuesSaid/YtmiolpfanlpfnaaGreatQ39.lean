/- What is found by a way, as operations (plain law). No program. -/
import Derived.Test.YtmiolpfanlpfnaaGreatQ38
import Derived.Test.YtmiolpfanlpfnaaGreatQ13
set_option maxRecDepth 100000
set_option maxHeartbeats 4000000
namespace Go.Proofs.YtmiolpfanlpfnaaGreat
set_option linter.unusedSimpArgs false
set_option linter.unusedVariables false
open Go.RowKit
def kvW(way:Nat)(o:OpD):KV:=(wayK way o,recW way o)
theorem V0p{way:Nat}{l:List OpD}:∀(L:List KV),(∀x∈L,∃o∈l,x=kvW way o)→∃os:List OpD,L=os.map (kvW way)∧∀o∈os,o∈l
 | [],_=>⟨[],rfl,fun _ h=>by cases h⟩
 | x::r,h=>by
   obtain⟨o,ho,rfl⟩:=h x List.mem_cons_self
   obtain⟨os,h1,h2⟩:=V0p r (fun y hy=>h y (List.mem_cons_of_mem _ hy))
   exact⟨o::os,by rw[h1];rfl,fun a ha=>by
    rcases List.mem_cons.1 ha with rfl | ha
    ·exact ho
    ·exact h2 a ha⟩
structure Finds (Ts:Nat→TrD) (way:Nat) (front:ByteArray) (l all:List OpD) (k:Nat):Prop where
 outs:Z1g (Ts way).list front=all.map (kvW way)
 mem:∀o∈all,o∈l
 under:∀i (h:i<all.length),i<k→Z2k (wayK way all[i]) front=true
 stop:∀h:k<all.length,Z2k (wayK way all[k]) front=false
 le:k≤all.length
theorem Y2o{α:Type}(p:α→Bool):∀l:List α,∃k,k≤l.length∧(∀i (h:i<l.length),i<k→p l[i]=true)∧∀h:k<l.length,p l[k]=false
 | []=>⟨0,Nat.le_refl _,fun i h=>absurd h (by simp),fun h=>absurd h (by simp)⟩
 | a::r=>by
   cases hp:p a with
   | false=>exact⟨0,by simp,fun i h q=>absurd q (by omega),fun _=>by simpa using hp⟩
   | true=>
     obtain⟨k,h1,h2,h3⟩:=Y2o p r
     refine⟨k+1,by simp;omega,fun i h q=> ?_,fun h=> ?_⟩
     ·cases i with
      | zero=>simpa using hp
      | succ i=>simpa using h2 i (by simpa using h) (by omega)
     ·simpa using h3 (by simpa using h)
theorem Tab.finds{S:StoreD}{Ts:Nat→TrD}{l:List OpD}{way:Nat}(h:Tab S Ts (fun _=>l))(hw:way<5)(front:ByteArray):∃all k,Finds Ts way front l all k:=by
 obtain⟨all,h1,h2⟩:=V0p (way:=way) (l:=l) (Z1g (Ts way).list front) (fun x hx=>by
  obtain⟨o,ho,e⟩:=(h.mem way hw x).1 ((List.mem_filter.1 hx).1)
  exact⟨o,ho,e⟩)
 obtain⟨k,h3,h4,h5⟩:=Y2o (fun o=>Z2k (wayK way o) front) all
 exact⟨all,k,h1,h2,h4,h5,h3⟩
attribute [local go_sem] Oper.semAt_some
theorem V8i(p q:Tmp)(u v:Value)(t:Array Value):(#[p,q].zip #[u,v]).foldl (fun t (p,v)=>t.setIfInBounds p v) t=(t.setIfInBounds p u).setIfInBounds q v:=by simp
theorem X4e:∀ {l:List OpD} (_:l.Pairwise (fun a b=>a.id≠b.id)) {o:OpD} (_:o∈l),getL l o.id=some o
 | [],_,_,h=>by cases h
 | a::r,hp,o,h=>by
   unfold getL
   rw[List.find?_cons]
   rcases List.mem_cons.1 h with rfl | h
   ·simp
   ·have:=(List.pairwise_cons.1 hp).1 o h
    rw[show (a.id==o.id)=false by simpa using this]
    exact X4e (List.pairwise_cons.1 hp).2 h
theorem V9j{motive:Act→Prop}{a:Act}(h:∀a0,a0=a→motive a0):motive a:=h a rfl
theorem X5q{w:World}{base:Nat}{v:Value}{way:Nat}{o:OpD}(h:OwnL w base 3 1 encN v (wayL way o)):∃sb cap q,v= .slice (some ⟨sb,0,none⟩) (q+1) cap∧q<3∧base≤sb∧sb<w.heap.size∧w.cell? ⟨sb,q,none⟩=some (.int .i64 o.id):=by
 have hw:=Y1r way o
 obtain⟨g,cap,spare,rfl,hbg,hr,h4⟩:=h.row (by omega)
 have hlt:=h.lt g rfl
 obtain⟨q,hq⟩:∃q,(wayL way o).length=q+1:=⟨(wayL way o).length-1,by omega⟩
 refine⟨g,cap,q,by rw[hq],by omega,hlt.1,hlt.2,?_⟩
 have hl:(wayL way o)[q]? =some o.id:=by
  have:=Y2i way o
  rw[List.getLast?_eq_getElem?,hq]at this
  exact this
 rw[hr.cell q,List.getElem?_append_left (by rw[Z0t Z0l,hq];omega)]
 have:=Z3e encN 1 Z0l (wayL way o) q o.id hl 0 (.int .i64 o.id) rfl
 rwa [Nat.mul_one,Nat.add_zero]at this
end Go.Proofs.YtmiolpfanlpfnaaGreat
namespace Go.Proofs.YtmiolpfanlpfnaaGreat
set_option linter.unusedSimpArgs false
set_option linter.unusedVariables false
open Go.RowKit
def X7j(x:OpD):Array Value:=#[x.val]
def T1(tb:Nat)(ts:Nat→Nat)(bt:Nat):Nat→Prop:=fun i=>i=tb∨(∃j,j<5∧i=ts j)∨i=bt
def ItF(tb p:Nat)(ts:Nat→Nat)(bt:Nat)(S:StoreD)(F:Nat→Prop)(W:World):Prop:=
 ∃Fp:Nat→Prop,F=(fun i=>Fp i∨T1 tb ts bt i)∧TblAt W tb p ts Fp∧PagerAt W p Fp S∧Row1 W bt 26 [tp tb]∧¬Fp bt
theorem ItF.abides{tb p bt B:Nat}{ts:Nat→Nat}{S:StoreD}(h1:tb<B)(h2:∀j,j<5→ts j<B)(h3:bt<B):Z9l B (ItF tb p ts bt S):=by
 rintro F W W' ⟨Fp,rfl,ht,hp,hr,hn⟩ ho
 exact⟨Fp,rfl,⟨ho.row ht.row (fun q=>by omega),fun j hj=>ho.row (ht.tree j hj) (fun q=>by have:=h2 j hj;omega),ht.out,ht.outs⟩,hp.only ho (fun j q r=>r.1 (.inl q)),ho.row hr (fun q=>by omega),hn⟩
theorem ItF.ext{tb p bt:Nat}{ts:Nat→Nat}{S:StoreD}{F:Nat→Prop}{W W':World}(h:ItF tb p ts bt S F W)(hx:Ext W W'):ItF tb p ts bt S F W':=by
 obtain⟨Fp,rfl,ht,hp,hr,hn⟩:=h
 exact⟨Fp,rfl,ht.ext hx,hp.ext hx,hr.ext hx hr.lt,hn⟩
structure QRows (tb p:Nat) (ts:Nat→Nat) (bt bs by_ l:Nat) (begin:ByteArray) (W:World):Prop where
 row:V3s W tb ts
 tree:∀j,j<5→Z0b W (ts j) p j
 rt:Row1 W bt 26 [tp tb]
 rs:Row1 W bs 9 [.string begin]
 ry:Row1 W by_ 46 [.func (.yield l) #[] #[]]
def TQ(tb:Nat)(ts:Nat→Nat)(bt bs by_ fb kb:Nat):Nat→Prop:=fun i=>T1 tb ts bt i∨i=bs∨i=by_∨i=fb∨i=kb
theorem QRows.only{tb p:Nat}{ts:Nat→Nat}{bt bs by_ fb kb l:Nat}{begin:ByteArray}{G:Nat→Prop}{W W':World}(h:QRows tb p ts bt bs by_ l begin W)(ho:Only G W W')(hG:∀i,TQ tb ts bt bs by_ fb kb i→¬G i):QRows tb p ts bt bs by_ l begin W':=
 ⟨ho.row h.row (hG _ (.inl (.inl rfl))),fun j hj=>ho.row (h.tree j hj) (hG _ (.inl (.inr (.inl ⟨j,hj,rfl⟩)))),ho.row h.rt (hG _ (.inl (.inr (.inr rfl)))),ho.row h.rs (hG _ (.inr (.inl rfl))),ho.row h.ry (hG _ (.inr (.inr (.inl rfl))))⟩
theorem QRows.tbl{tb p:Nat}{ts:Nat→Nat}{bt bs by_ fb kb l:Nat}{begin:ByteArray}{F:Nat→Prop}{W:World}(h:QRows tb p ts bt bs by_ l begin W)(hF:∀i,TQ tb ts bt bs by_ fb kb i→¬F i):TblAt W tb p ts F:=
 ⟨h.row,h.tree,hF _ (.inl (.inl rfl)),fun j hj=>hF _ (.inl (.inr (.inl ⟨j,hj,rfl⟩)))⟩
section
variable (tb p:Nat) (ts:Nat→Nat) (bt bs by_ fb kb l way:Nat) (begin:ByteArray) (J Jx:List OpD→(Nat→Prop)→World→Prop) (all:List OpD) (k:Nat)
def QI(pre:List KV)(G:Nat→Prop)(W:World):Prop:=
 ∃Gc:Nat→Prop,G=(fun i=>Gc i∨TQ tb ts bt bs by_ fb kb i)∧(∀i,TQ tb ts bt bs by_ fb kb i→¬Gc i)∧pre=(all.take pre.length).map (kvW way)∧pre.length≤k∧pre.length≤all.length∧
  QRows tb p ts bt bs by_ l begin W∧J (all.take pre.length) Gc W
def QX(G:Nat→Prop)(W:World):Prop:=
 ∃(Gc:Nat→Prop) (j:Nat),G=(fun i=>Gc i∨TQ tb ts bt bs by_ fb kb i)∧(∀i,TQ tb ts bt bs by_ fb kb i→¬Gc i)∧j≤k∧j≤all.length∧
  QRows tb p ts bt bs by_ l begin W∧((j=k∧J (all.take j) Gc W)∨Jx (all.take j) Gc W)
end
section
variable {tb p:Nat} {ts:Nat→Nat} {bt bs by_ fb kb l way:Nat} {begin:ByteArray} {J Jx:List OpD→(Nat→Prop)→World→Prop} {all:List OpD} {k:Nat}
theorem QI.abides(hJ:Z2x J):Z2x (QI tb p ts bt bs by_ fb kb l way begin J all k):=by
 rintro s G W W' ⟨Gc,rfl,h1,h2,h3,h4,h5,h6⟩ hlt ho
 exact⟨Gc,rfl,h1,h2,h3,h4,h5.only ho (fun i q r=>r (.inr q)),hJ _ _ _ _ h6 (fun i q=>hlt i (.inl q)) (ho.mono (fun i q=> .inl (fun r=>q (.inl r))))⟩
theorem QX.abides(hJ:Z2x J)(hJx:Z2x Jx)(G:Nat→Prop)(W W':World)(h:QX tb p ts bt bs by_ fb kb l begin J Jx all k G W)(hlt:∀i,G i→i<W.heap.size)(ho:Only (fun i=>¬G i) W W'):QX tb p ts bt bs by_ fb kb l begin J Jx all k G W':=by
 obtain⟨Gc,j,rfl,h1,h2,h3,h4,h5⟩:=h
 have ho':Only (fun i=>¬Gc i) W W':=ho.mono (fun i q=> .inl (fun r=>q (.inl r)))
 refine⟨Gc,j,rfl,h1,h2,h3,h4.only ho (fun i q r=>r (.inr q)),?_⟩
 rcases h5 with ⟨q1,q2⟩ | q
 ·exact .inl ⟨q1,hJ _ _ _ _ q2 (fun i q=>hlt i (.inl q)) ho'⟩
 ·exact .inr (hJx _ _ _ _ q (fun i q=>hlt i (.inl q)) ho')
theorem X9m{S:StoreD}{F1 F7 Gc1 F8' G8:Nat→Prop}{W w6 w8 w9:World}(hw:way<5)(hx:Ext W w6)(hit:ItT p (ts way) way S (fun b=>b=fb∨b=kb) F1 W)(hdd:Dis F1 (fun i=>Gc1 i∨TQ tb ts bt bs by_ fb kb i) W)(hg1:∀i,TQ tb ts bt bs by_ fb kb i→¬Gc1 i)
 (hn:∀i,(i=bs∨i=by_∨i=fb∨i=kb)→¬T1 tb ts bt i)(hk:Keeps F1 F7 w6 w8)(hq8:QRows tb p ts bt bs by_ l begin w8)(hi9:ItF tb p ts bt S F8' w9)(hd9:Dis F8' G8 w9)(hk9:Keeps (Un (fun i=>F7 i∨T1 tb ts bt i) Gc1) (Un F8' G8) w8 w9):
  ∃F8:Nat→Prop,ItT p (ts way) way S (fun b=>b=fb∨b=kb) F8 w9∧Dis F8 (fun i=>G8 i∨TQ tb ts bt bs by_ fb kb i) w9∧Keeps (Un F1 (fun i=>Gc1 i∨TQ tb ts bt bs by_ fb kb i)) (Un F8 (fun i=>G8 i∨TQ tb ts bt bs by_ fb kb i)) W w9∧(∀i,TQ tb ts bt bs by_ fb kb i→¬G8 i)∧QRows tb p ts bt bs by_ l begin w9:=by
 obtain⟨Fp,rfl,ht,hp,hr,hnb⟩:=hi9
 have z1:=hx.size
 have z2:=hk.only.size
 have z3:=hk9.only.size
 have hTlt:∀i,TQ tb ts bt bs by_ fb kb i→i<W.heap.size:=fun i q=>(hdd.2 i (.inr q)).1
 have hTF:∀i,TQ tb ts bt bs by_ fb kb i→¬F7 i:=fun i q=>hk.out (by have:=hTlt i q;omega) (hdd.2 i (.inr q)).2
 have hpu:∀i,(i=bs∨i=by_∨i=fb∨i=kb)→¬Un (fun i=>F7 i∨T1 tb ts bt i) Gc1 i:=fun i q r=>by
  rcases r with (r | r) | r
  ·exact hTF i (.inr q) r
  ·exact hn i q r
  ·exact hg1 i (.inr q) r
 have hpo:∀i,(i=bs∨i=by_∨i=fb∨i=kb)→¬Un (fun i=>Fp i∨T1 tb ts bt i) G8 i:=fun i q=>hk9.out (by have:=hTlt i (.inr q);omega) (hpu i q)
 have hTp:∀i,TQ tb ts bt bs by_ fb kb i→¬Fp i:=fun i q r=>by
  rcases q with (rfl | ⟨j,hj,rfl⟩ | rfl) | q
  ·exact ht.out r
  ·exact ht.outs j hj r
  ·exact hnb r
  ·exact hpo i q (.inl (.inl r))
 have hTG:∀i,TQ tb ts bt bs by_ fb kb i→¬G8 i:=fun i q r=>by
  rcases q with q | q
  ·exact(hd9.2 i r).2 (.inr q)
  ·exact hpo i q (.inr r)
 refine⟨Fp,⟨hp,ht.tree way hw,ht.outs way hw,fun b q=>⟨hTp b (.inr (.inr (.inr q))),by have:=hTlt b (.inr (.inr (.inr q)));omega⟩⟩,⟨fun i q=>hd9.1 i (.inl q),fun i q=> ?_⟩,⟨?_,fun i q=> ?_⟩,hTG,⟨ht.row,ht.tree,hr,hk9.only.row hq8.rs (hpu _ (.inl rfl)),hk9.only.row hq8.ry (hpu _ (.inr (.inl rfl)))⟩⟩
 ·rcases q with q | q
  ·exact⟨(hd9.2 i q).1,fun r=>(hd9.2 i q).2 (.inl r)⟩
  ·exact⟨by have:=hTlt i q;omega,hTp i q⟩
 ·refine((Only.of hx).trans hk.only (fun i q=> .inl (.inl q))).trans hk9.only (fun i q=> ?_)
  rcases q with (q | q) | q
  ·rcases hk.new i q with s | s
   ·exact .inl (.inl s)
   ·exact .inr (by omega)
  ·exact .inl (.inr (.inr (.inl q)))
  ·exact .inl (.inr (.inl q))
 ·have hnew:Un (fun i=>Fp i∨T1 tb ts bt i) G8 i→Un F1 (fun i=>Gc1 i∨TQ tb ts bt bs by_ fb kb i) i∨W.heap.size≤i:=fun q=>by
   rcases hk9.new i q with (s | s) | s
   ·rcases s with s | s
    ·rcases hk.new i s with s | s
     ·exact .inl (.inl s)
     ·exact .inr (by omega)
    ·exact .inl (.inr (.inr (.inl s)))
   ·exact .inl (.inr (.inl s))
   ·exact .inr (by omega)
  rcases q with q | q | q
  ·exact hnew (.inl (.inl q))
  ·exact hnew (.inr q)
  ·exact .inl (.inr (.inr q))
end
structure QPost (tb p:Nat) (ts:Nat→Nat) (bt:Nat) (S:StoreD) (F G:Nat→Prop) (J Jx:List OpD→(Nat→Prop)→World→Prop) (all:List OpD) (k:Nat) (w w':World):Prop where
 out:∃F2 G2,ItF tb p ts bt S F2 w'∧Dis F2 G2 w'∧Keeps (Un F G) (Un F2 G2) w w'∧((∃xs,xs=all.take k∧J xs G2 w')∨(∃pre,pre <+: all.take k∧Jx pre G2 w'))
attribute [local go_sem] Oper.semAt_some
theorem V3v(p:Tmp)(u:Value)(t:Array Value):(#[p].zip #[u]).foldl (fun t (p,v)=>t.setIfInBounds p v) t=t.setIfInBounds p u:=by simp
def Agr(B:Nat→Prop)(w W:World):Prop:=∀i,B i→i<w.heap.size∧W.heap[i]? =w.heap[i]?
theorem Agr.only{B G:Nat→Prop}{w W W':World}(h:Agr B w W)(hz:w.heap.size≤W.heap.size)(ho:Only G W W')(hB:∀i,B i→¬G i):Agr B w W':=fun i q=>⟨(h i q).1,(ho.block i (Nat.lt_of_lt_of_le (h i q).1 hz) (hB i q)).trans (h i q).2⟩
theorem Agr.row{B:Nat→Prop}{w W:World}(h:Agr B w W){g:Nat}{t:TypeId}{cs:List Value}(hg:B g)(hr:Row1 w g t cs):Row1 W g t cs:=hr.same (h g hg).2
theorem Sl.agr{α:Type}{B:Nat→Prop}{w W:World}{sz:Nat}{R:α→List Value→Prop}{v:Value}{xs:List α}(h:Sl w sz R v xs)(ha:Agr B w W)(hz:w.heap.size≤W.heap.size)(hv:∀b,0<xs.length→v.ownBlock=some b→B b):Sl W sz R v xs:=by
 obtain⟨A,c,rfl,h1,h2,h3⟩:=h
 refine⟨A,c,rfl,h1,h2,fun hn=> ?_⟩
 obtain⟨b,off,rfl,hb,hx⟩:=h3 hn
 refine⟨b,off,rfl,Nat.lt_of_lt_of_le hb hz,fun i x hi=> ?_⟩
 obtain⟨cs,hr,hl,hcs⟩:=hx i x hi
 exact⟨cs,hr,hl,fun j u hu=>(World.cell?_of_block (ha b (hv b hn rfl)).2).trans (hcs j u hu)⟩
theorem NdB.agr{B:Nat→Prop}{w W:World}(ha:Agr B w W)(hz:w.heap.size≤W.heap.size):∀(d:Nat) (t:ND) (n:NCell),NdB B w d t n→NdB B W d t n
 | 0,_,_,h=>h
 | d+1,_,_,⟨h1,h2,h3,h4,ks,h5,h5b,h6,h7⟩=>⟨h1,h2,h3,h4,ks,h5.agr ha hz h5b,h5b,h6,fun i x y hx hy=>NdB.agr ha hz d x y (h7 i x y hx hy)⟩
def OkC(okf:FuncId)(caps:Array Value)(pr:OpD→Bool)(It:(Nat→Prop)→World→Prop)(B:Nat→Prop)(w:World):Prop:=
 ∀(x:OpD) (F:Nat→Prop) (W:World),w.heap.size≤W.heap.size→It F W→(∀i,F i→i<W.heap.size)→Agr B w W→BF B F W→Calls Tryz.prog okf (#[x.val]++caps) W fun e w'=>e= .returned (.bool (pr x))∧∃F',It F' w'∧(∀i,F' i→i<w'.heap.size)∧Keeps F F' W w'
structure ChoI (w:World) (B:Nat→Prop) (okv:Value) (pr:OpD→Bool) (pre:List OpD) (G:Nat→Prop) (W:World):Prop where
 hB:∀i,B i→G i
 g0:G w.heap.size
 g1:G (w.heap.size+1)
 agr:Agr B w W
 size:w.heap.size≤W.heap.size
 ok:Row1 W w.heap.size 46 [okv]
 list:∃A c,Row1 W (w.heap.size+1) 30 [.slice A (pre.filter pr).length c]∧OwnL W (w.heap.size+2) 32 11 OpD.cells (.slice A (pre.filter pr).length c) (pre.filter pr)∧∀k,(Value.slice A (pre.filter pr).length c).ownBlock=some k→G k
theorem ChoI.abides{w:World}{B:Nat→Prop}{okv:Value}{pr:OpD→Bool}:Z2x (ChoI w B okv pr):=fun s G W W' h hlt ho=>by
 obtain⟨A,c,h1,h2,h3⟩:=h.list
 exact⟨h.hB,h.g0,h.g1,h.agr.only h.size ho (fun i q r=>r (h.hB i q)),Nat.le_trans h.size ho.size,ho.row h.ok (fun r=>r h.g0),A,c,ho.row h1 (fun r=>r h.g1),h2.only ho (fun k q r=>r (h3 k q)),h3⟩
theorem V5b(ty:TypeId)(W:World){base:Nat}{A:Option Addr}{n c:Nat}{xs:List OpD}(h:OwnL W base 32 11 OpD.cells (.slice A n c) xs)(hn:xs.length=n)(hb:base≤W.heap.size)(G cc:Nat)(y:OpD)(hr:Row1 W G 32 y.cells)(h63:xs.length+1≤1000000000):
  ∃A' c' w',(Builtin.append_ #[30,30] ty #[.slice A n c,.slice (some ⟨G,0,none⟩) 1 cc]).run Tryz.prog W= .ok (.slice A' (n+1) c') w'∧OwnL w' base 32 11 OpD.cells (.slice A' (n+1) c') (xs++ [y])∧W.grownBy w' (Value.slice A n c).ownBlock∧(∀k,(Value.slice A' (n+1) c').ownBlock=some k→(Value.slice A n c).ownBlock=some k∨W.heap.size≤k):=by
 obtain⟨i,z,hi,hz,hsize,hby,hzs⟩:=elOp.hi
 subst hn
 obtain⟨v',w',q1,q2,q3,q4⟩:=Z4u (P:=Tryz.prog) W base 30 ty 32 i z 11 _ elOp.ht hi hz hsize hby hzs elOp.pos _ xs.length (xs.flatMap OpD.cells) h ⟨G,0,none⟩ 1 cc y.cells (by rfl) (fun j u hu=>by rw[Addr.add_lit,Nat.zero_add,hr.cell];exact hu) (Z7r y) (by simp[maxLen];omega) (by omega) hb
 have h2:OwnL w' base 32 11 OpD.cells v' (xs++ [y]):=by
  unfold OwnL
  rw[List.length_append,List.flatMap_append]
  simpa using q2
 obtain⟨A',c',rfl⟩:=h2.form
 have hl:(xs++ [y]).length=xs.length+1:=by simp
 rw[hl]at q1 q4 h2
 exact⟨A',c',w',q1,h2,q3,q4⟩
theorem Y6h{l m:Nat}{ops:Array Oper}{rest:List Oper}{o:Oper}{a:Act}{W:World}{Q:Exit→Act→World→Prop}(hgd:o.guard=none)(s x:Operand)
 (ho:o.op= .call { callee:= .builtin .append,args:=#[s,x],argTypes:=#[30,30]})
 {base:Nat}{A:Option Addr}{n c:Nat}{xs:List OpD}(hs:a.eval s= .slice A n c)(h:OwnL W base 32 11 OpD.cells (.slice A n c) xs)(hn:xs.length=n)(hb:base≤W.heap.size)(G cc:Nat)(y:OpD)(hx:a.eval x= .slice (some ⟨G,0,none⟩) 1 cc)(hr:Row1 W G 32 y.cells)(h63:xs.length+1≤1000000000)
 (hK:∀A' c' w',OwnL w' base 32 11 OpD.cells (.slice A' (n+1) c') (xs++ [y])→W.grownBy w' (Value.slice A n c).ownBlock→(∀k,(Value.slice A' (n+1) c').ownBlock=some k→(Value.slice A n c).ownBlock=some k∨W.heap.size≤k)→wpListIn (Fence.wide.inRound l) m Tryz.prog ops Q rest (a.put o.dst (.slice A' (n+1) c')) w'):
  wpListIn (Fence.wide.inRound l) m Tryz.prog ops Q (o::rest) a W:=by
 obtain⟨A',c',w',h1,h2,h3,h4⟩:=V5b o.type W h hn hb G cc y hr h63
 refine wpListIn_plain hgd fun K hk=> ?_
 refine⟨fun _ _=>trivial,?_⟩
 rw[Oper.semAt_eq _ _ _ (fun c e=>by rw[ho]at e;cases e)]
 unfold execOp
 simp only[ho,resolve,invoke,builtin,Sem.run_bind,Sem.run_pure,Result.andThen_ok,List.map_toArray,List.map_cons,List.map_nil,hs,hx,h1]
 exact hk _ _ (hK A' c' w' h2 h3 h4)
end Go.Proofs.YtmiolpfanlpfnaaGreat
namespace Go.Proofs.YtmiolpfanlpfnaaGreat
set_option linter.unusedSimpArgs false
set_option linter.unusedVariables false
open Go.RowKit
structure StR (tb p:Nat) (ts:Nat→Nat) (bt b0:Nat) (S:StoreD) (F:Nat→Prop) (W:World):Prop where
 it:ItF tb p ts bt S F W
 low:∀i,F i→i<W.heap.size
 row:Row1 W b0 26 [tp tb]
 out:¬F b0
theorem StR.ok{tb p bt b0:Nat}{ts:Nat→Nat}{S:StoreD}:StOk (StR tb p ts bt b0 S):=
 ⟨fun F W W' h hx=>⟨h.it.ext hx,fun i q=>Nat.lt_of_lt_of_le (h.low i q) hx.size,h.row.ext hx h.row.lt,h.out⟩,fun F W i h q=>h.low i q⟩
theorem X6z(r:Option OpD):∃(x:OpD) (ev:Int),getR r= .tuple #[.agg #[.int .i64 x.id,.int .i64 x.proc,.int .i64 x.object,.int .i64 x.kind,.int .i64 x.method,.int .i64 x.arg,.int .i64 x.second,.bool x.done,.int .i64 x.result,.int .i64 x.invoke,.int .i64 x.ret],.int .i64 ev]∧(ev==0)=r.isSome∧∀q,r=some q→x=q:=by
 cases r with
 | none=>exact⟨opZero,6,rfl,rfl,fun q h=>by cases h⟩
 | some o=>exact⟨o,0,rfl,rfl,fun q h=>by injection h⟩
theorem X5r{tb p bt b0:Nat}{ts:Nat→Nat}{S:StoreD}{Ts:Nat→TrD}{ls:List OpD}(hT:Tab S Ts (fun _=>ls))(hd:depT (Ts 0)≤31):GetW 87 (.pointer (some ⟨b0,0,none⟩)) ls (StR tb p ts bt b0 S):=by
 intro id F W hi1 hi2 hst
 obtain⟨⟨Fp,rfl,ht,hp,hrt,hnb⟩,hlow,hb0,hnb0⟩:=hst
 obtain⟨x,ev,hx1,hx2,hx3⟩:=X6z (getL ls id)
 obtain⟨W0,hW0⟩:∃W0,W.alloc (.cells #[.int .i64 0,.int .i64 0,.int .i64 0,.int .i64 0,.int .i64 0,.int .i64 0,.int .i64 0,.bool false,.int .i64 0,.int .i64 0,.int .i64 0] 32)=W0:=⟨_,rfl⟩
 have HX0:Hid (Ext W W0):=by unfold Hid;rw[←hW0];exact Ext.alloc _ _
 have HR0:Hid (Row1 W0 W.heap.size 32 [.int .i64 0,.int .i64 0,.int .i64 0,.int .i64 0,.int .i64 0,.int .i64 0,.int .i64 0,.bool false,.int .i64 0,.int .i64 0,.int .i64 0]):=by unfold Hid;rw[←hW0];exact Row1.made W _ _
 have hnr:¬Fp W.heap.size:=fun q=>by have:=hlow _ (.inl q);omega
 have cG:Hid (∀W',Ext W0 W'→Calls Tryz.prog 60 #[tp tb,.int .i64 id] W' fun e w'=>e= .returned (.tuple #[.agg #[.int .i64 x.id,.int .i64 x.proc,.int .i64 x.object,.int .i64 x.kind,.int .i64 x.method,.int .i64 x.arg,.int .i64 x.second,.bool x.done,.int .i64 x.result,.int .i64 x.invoke,.int .i64 x.ret],.int .i64 ev])∧∃F',(∀i,F' i→i<w'.heap.size)∧TblAt w' tb p ts F'∧PagerAt w' p F' S∧Keeps Fp F' W' w'):=fun W' hW=>by
  have h1:=Z6z id W' (ht.ext (HX0.out.trans hW)) (hp.ext (HX0.out.trans hW)) hT hd ⟨hi1,hi2⟩
  rw[hx1]at h1
  exact h1.mono (fun e w' ⟨q0,F',q1,q2,q3⟩=>⟨q0,fun i=>F' i∧i<w'.heap.size,fun i q=>q.2,⟨q1.row,q1.tree,fun q=>q1.out q.1,fun j hj q=>q1.outs j hj q.1⟩,q2.shrink,q3.shrink⟩)
 have HFIN:Hid (∀(F7:Nat→Prop) (w1 w':World),(∀i,F7 i→i<w1.heap.size)→TblAt w1 tb p ts F7→PagerAt w1 p F7 S→Keeps Fp F7 W0 w1→Only (fun i=>i=W.heap.size) (w1.alloc (.cells #[.int .i64 x.id,.int .i64 x.proc,.int .i64 x.object,.int .i64 x.kind,.int .i64 x.method,.int .i64 x.arg,.int .i64 x.second,.bool x.done,.int .i64 x.result,.int .i64 x.invoke,.int .i64 x.ret] 32)) w'→∃F',StR tb p ts bt b0 S F' w'∧Keeps (fun i=>Fp i∨T1 tb ts bt i) F' W w'):=fun F7 w1 w' q1 q2 q3 q4 q5=>by
  have z0:=HX0.out.size
  have z1:=q4.only.size
  have hro:¬F7 W.heap.size:=q4.out HR0.out.lt hnr
  have hoA:Only (fun i=>i=W.heap.size) w1 w':=(Only.of (Ext.alloc w1 (.cells #[.int .i64 x.id,.int .i64 x.proc,.int .i64 x.object,.int .i64 x.kind,.int .i64 x.method,.int .i64 x.arg,.int .i64 x.second,.bool x.done,.int .i64 x.result,.int .i64 x.invoke,.int .i64 x.ret] 32))).trans q5 (fun i q=> .inl q)
  have hk:Keeps Fp F7 W w1:=(Keeps.of HX0.out).trans q4
  have hn0:b0≠W.heap.size:=fun e=>by have:=hb0.lt;omega
  have hnt:∀i,i<W.heap.size→i≠W.heap.size:=fun i q=>by omega
  have htl:tb<W.heap.size:=ht.row.lt
  have htsl:∀j,j<5→ts j<W.heap.size:=fun j hj=>(ht.tree j hj).lt
  have hbtl:=hrt.lt
  refine⟨fun i=>F7 i∨T1 tb ts bt i,⟨⟨F7,rfl,⟨hoA.row q2.row (hnt _ htl),fun j hj=>hoA.row (q2.tree j hj) (hnt _ (htsl j hj)),q2.out,q2.outs⟩,q3.only hoA (fun i q e=>hro (e▸q)),hoA.row (hk.only.row hrt hnb) (hnt _ hbtl),hk.out hbtl hnb⟩,fun i q=> ?_,hoA.row (hk.only.row hb0 (fun q=>hnb0 (.inl q))) hn0,fun q=> ?_⟩,⟨(hk.only.mono (fun i q=> .inl (.inl q))).trans hoA (fun i q=> .inr (by omega)),fun i q=> ?_⟩⟩
  ·have:=hoA.size
   rcases q with q | q
   ·have:=q1 i q;omega
   ·have:=hlow i (.inr q);omega
  ·rcases q with q | q
   ·exact hk.out hb0.lt (fun r=>hnb0 (.inl r)) q
   ·exact hnb0 (.inr q)
  ·rcases q with q | q
   ·rcases hk.new i q with r | r
    ·exact .inl (.inl r)
    ·exact .inr r
   ·exact .inl (.inr q)
 have hc0:W0.cell? ⟨b0,0,none⟩=some (tp tb):=(hb0.ext HX0.out hb0.lt).cell 0
 have HX3:=hD hx3
 have HX2:=hD hx2
 clear hx3 hx2 hx1 ht hp hrt hnb hlow hb0 hnb0 hT hd
 go_enter Tryz.func87,Tryz.ntmps87
 go_upto_region 1 with fail
 clear hW0
 go_wp2_with (go_at_call 60;(with_reducible refine(cG.out _ (Ext.refl _)).mono ?_);clear cG;rintro e w1 ⟨rfl,F7,hl7,ht7,hp7,hk7⟩;have HR1:Hid (Row1 (w1.alloc (.cells #[.int .i64 x.id,.int .i64 x.proc,.int .i64 x.object,.int .i64 x.kind,.int .i64 x.method,.int .i64 x.arg,.int .i64 x.second,.bool x.done,.int .i64 x.result,.int .i64 x.invoke,.int .i64 x.ret] 32)) W.heap.size 32 [.int .i64 0,.int .i64 0,.int .i64 0,.int .i64 0,.int .i64 0,.int .i64 0,.int .i64 0,.bool false,.int .i64 0,.int .i64 0,.int .i64 0]):=Row1.alloc (hk7.only.row HR0.out hnr) _;obtain⟨a0,a1,a2,a3,a4,a5,a6,a7,a8,a9,a10⟩:=Z1p HR1.out;obtain⟨f0,f1,f2,f3,f4,f5,f6,f7,f8,f9,f10⟩:=Z4d HR1.out;have HFN:=fun w'=>hD (HFIN.out F7 w1 w' hl7 ht7 hp7 hk7);clear hl7 ht7 hp7 hk7)
 refine bodyPost_ret (Y9b rfl _ _ W.heap.size x _ rfl rfl ?_) rfl ⟨⟨x,?_,HX3.out⟩,(HFN _).out ?_⟩
 ·exact Z5b HR1.out _ _ _ _ _ _ _ _ _ _ _
 ·rw[←HX2.out];rfl
 ·exact Z7f _ _ _ _ _ _ _ _ _ _ _ _ _
theorem Y8y{tb p bt b0 ba bq:Nat}{ts:Nat→Nat}{S:StoreD}{Ts:Nat→TrD}{ls:List OpD}{B:Nat→Prop}{d:Nat}{t:ND}{n:NCell}{ord:ByteArray}{down count:Bool}{limit:Int}(w:World)(hT:Tab S Ts (fun _=>ls))(hdp:depT (Ts 0)≤31)
 (hn:RN n n.cells)(hd:NdB B w d t n)(hB0:B b0)(hBa:B ba)(hBq:B bq)(h0:Row1 w b0 26 [tp tb])(ha:Row1 w ba 143 [.func (.func 87) #[] #[.pointer (some ⟨b0,0,none⟩)]])
 (hq:Row1 w bq 69 (n.cells++ [.string ord,.bool down,.int .i64 limit,.bool count])):
  OkC 90 #[.pointer (some ⟨ba,0,none⟩),.pointer (some ⟨bq,0,none⟩)] (fun o=>Z0r ls o t) (ItF tb p ts bt S) B w:=by
 intro x F W hz hit hlow hag hbf
 show Calls Tryz.prog 90 #[.agg #[.int .i64 x.id,.int .i64 x.proc,.int .i64 x.object,.int .i64 x.kind,.int .i64 x.method,.int .i64 x.arg,.int .i64 x.second,.bool x.done,.int .i64 x.result,.int .i64 x.invoke,.int .i64 x.ret],.pointer (some ⟨ba,0,none⟩),.pointer (some ⟨bq,0,none⟩)] W _
 have eg:∀args w,(callFunc 87 args).run Tryz.prog w= .ok (.enter 87 args) w:=enters_of Tryz.func87 (by kernel_rfl) rfl
 have hst:StR tb p ts bt b0 S F W:=⟨hit,hlow,hag.row hB0 h0,(hbf b0 hB0).2⟩
 have cH:Hid (∀W',Ext W W'→Calls Tryz.prog 91 #[.agg #[.func (.func 87) #[] #[.pointer (some ⟨b0,0,none⟩)]],.agg #[.int .i64 n.kind,n.kids,.string n.field,.string n.sign,.int .i64 n.value],x.val] W' fun e w'=>e= .returned (.bool (Z0r ls x t))∧∃F',StR tb p ts bt b0 S F' w'∧Keeps F F' W w'):=fun W' hx=>
  (Y8c 87 eg _ ls _ B StR.ok (X5r hT hdp) x d t n F W' hn ((NdB.agr hag hz d t n hd).ext hx) (StR.ok.ext _ _ _ hst hx) (hbf.ext hx)).mono (fun e w' ⟨q0,F',q1,q2⟩=>⟨q0,F',q1,(Keeps.of hx).trans q2⟩)
 have ra:=hag.row hBa ha
 have rq:=hag.row hBq hq
 obtain⟨kA,kn,kc,hkk⟩:=hn.2.2.2
 clear hst hit hlow hag hbf hn hd h0 ha hq hT eg
 obtain⟨nk,nkids,nf,ns,nv⟩:=n
 dsimp only at *
 subst hkk
 have c0:W.cell? ⟨ba,0,none⟩=some (.func (.func 87) #[] #[.pointer (some ⟨b0,0,none⟩)]):=ra.cell 0
 have d0:W.cell? ⟨bq,0,none⟩=some (.int .i64 nk):=rq.cell 0
 have d1:W.cell? ⟨bq,1,none⟩=some (.slice kA kn kc):=rq.cell 1
 have d2:W.cell? ⟨bq,2,none⟩=some (.string nf):=rq.cell 2
 have d3:W.cell? ⟨bq,3,none⟩=some (.string ns):=rq.cell 3
 have d4:W.cell? ⟨bq,4,none⟩=some (.int .i64 nv):=rq.cell 4
 have l0:=ra.lt
 have l1:=rq.lt
 clear ra rq
 go_enter Tryz.func90,Tryz.ntmps90
 go_wp2_with (go_at_call 91;(with_reducible refine(cH.out _ ?_).mono ?_);(· exact Xt);clear cH;rintro e w1 ⟨rfl,F',hs1,hk1⟩;have HS1:=hD hs1;have HK1:=hD hk1;clear hs1 hk1)
 go_ret
 exact⟨rfl,F',HS1.out.it,HS1.out.low,HK1.out⟩
attribute [local go_sem] Oper.semAt_some
theorem X7m{ba bq bf bt bw:Nat}{It:(Nat→Prop)→World→Prop}{all:List OpD}{k:Nat}{pr:OpD→Bool}{B F:Nat→Prop}(w:World)
 (hseq:∀(m:Nat) (w':World),Ext w w'→SeqO Fence.wide m Tryz.prog 129 #[.pointer (some ⟨bf,0,none⟩),.pointer (some ⟨bt,0,none⟩),.pointer (some ⟨bw,0,none⟩)] X7j It (fun xs=>xs=all.take k) (fun pre=>pre <+: all.take k) (fun pre x=>pre++ [x] <+: all.take k) w')
 (hIt:Z9l w.heap.size It)(hit:It F w)(hlow:∀i,F i→i<w.heap.size)(hB:BF B F w)(hok:OkC 90 #[.pointer (some ⟨ba,0,none⟩),.pointer (some ⟨bq,0,none⟩)] pr It B w)(hn:all.length≤100000):
  Calls Tryz.prog 89 #[.func (.func 129) #[] #[.pointer (some ⟨bf,0,none⟩),.pointer (some ⟨bt,0,none⟩),.pointer (some ⟨bw,0,none⟩)],.func (.func 90) #[] #[.pointer (some ⟨ba,0,none⟩),.pointer (some ⟨bq,0,none⟩)]] w fun e w'=>
   ∃v,e= .returned v∧OwnL w' w.heap.size 32 11 OpD.cells v ((all.take k).filter pr)∧∃F',It F' w'∧(∀i,F' i→i<w'.heap.size)∧Keeps F F' w w'∧∀b,v.ownBlock=some b→¬F' b:=by
 refine callsIn_wide (n:=3).1 ?_
 refine callsIn_of_wp_marks Tryz.func89 rfl trivial ?_ rfl
 simp only[Tryz.ntmps89,List.size_toArray,List.length_cons,List.length_nil,Nat.reduceAdd,Nat.reduceSub,Array.replicate_succ,Array.replicate_zero,List.push_toArray,List.append_toArray,List.nil_append,List.cons_append]
 have HX0:Hid (∀v,Ext w ((w.alloc (.cells #[v] 46)).alloc (.cells #[.slice none 0 0] 30))):=fun v=>(Ext.alloc _ _).trans (Ext.alloc _ _)
 have HR0:Hid (∀v,Row1 ((w.alloc (.cells #[v] 46)).alloc (.cells #[.slice none 0 0] 30)) w.heap.size 46 [v]):=fun v=>(Row1.made w _ [v]).alloc _
 have HR1:Hid (∀v,Row1 ((w.alloc (.cells #[v] 46)).alloc (.cells #[.slice none 0 0] 30)) (w.heap.size+1) 30 [.slice none 0 0]):=fun v=>Row1.made' (by simp) _ [.slice none 0 0]
 gi_wp2
 generalize hw1:World.alloc _ _=w1
 have hx:Ext w w1:=by rw[←hw1];exact HX0.out _
 have hz1:w1.heap.size=w.heap.size+2:=by rw[←hw1];simp
 have hr0:Row1 w1 w.heap.size 46 [.func (.func 90) #[] #[.pointer (some ⟨ba,0,none⟩),.pointer (some ⟨bq,0,none⟩)]]:=by rw[←hw1];exact HR0.out _
 have hr1:Row1 w1 (w.heap.size+1) 30 [.slice none 0 0]:=by rw[←hw1];exact HR1.out _
 have HOK:=hD hok
 have HIT:=hD hIt
 clear hw1 HX0 HR0 HR1 hok
 refine Z5w rfl (by decide) (gf:=129) (lb:=#[.pointer (some ⟨bf,0,none⟩),.pointer (some ⟨bt,0,none⟩),.pointer (some ⟨bw,0,none⟩)]) rfl trivial (enters_of Tryz.func129 (by kernel_rfl) rfl)
  (hseq _ w1 hx) (Ext.refl w1) (fun _=>rfl) F (fun i=>B i∨i=w.heap.size∨i=w.heap.size+1) (fun F1 W W' q ho=>hIt F1 W W' q (ho.mono (fun i r=> .inl ⟨r.1,by omega⟩)))
  (hIt F w w1 hit (Only.of hx)) ⟨fun i q=>by have:=hlow i q;omega,fun i q=> ?dis⟩
  (ChoI w B (.func (.func 90) #[] #[.pointer (some ⟨ba,0,none⟩),.pointer (some ⟨bq,0,none⟩)]) pr) (fun c pre G W=>False) ChoI.abides (fun c s G W W' q q2 q3=>q)
  ⟨fun i q=> .inl q,.inr (.inl rfl),.inr (.inr rfl),fun i q=>⟨(hB i q).1,hx.block i (hB i q).1⟩,by omega,hr0,none,0,hr1,OwnL.nil _ _ _ _ _,fun k q=>(by cases q)⟩
  (fun x W a1 W1=>W1=W.alloc (.cells x.cells.toArray 32)∧a1= { tmps:=#[.func (.func 129) #[] #[.pointer (some ⟨bf,0,none⟩),.pointer (some ⟨bt,0,none⟩),.pointer (some ⟨bw,0,none⟩)],.func (.func 90) #[] #[.pointer (some ⟨ba,0,none⟩),.pointer (some ⟨bq,0,none⟩)],undef,.pointer (some ⟨w.heap.size,0,none⟩),.slice none 0 0,.pointer (some ⟨w.heap.size+1,0,none⟩),.pointer (some ⟨W.heap.size,0,none⟩),.func (.func 129) #[] #[.pointer (some ⟨bf,0,none⟩),.pointer (some ⟨bt,0,none⟩),.pointer (some ⟨bw,0,none⟩)],x.val,undef,undef,undef,undef,undef,undef,undef,undef],defers:= []})
  (fun x W a1 W1 q=>q.1▸Ext.alloc _ _) ?assign ?body ?done ?stop
 case dis=>
  rcases q with q | rfl | rfl
  ·exact⟨by have:=(hB i q).1;omega,(hB i q).2⟩
  ·exact⟨by omega,fun r=>by have:=hlow _ r;omega⟩
  ·exact⟨by omega,fun r=>by have:=hlow _ r;omega⟩
 case assign=>
  intro l x W K hK
  simp only[X7j,V3v,List.setIfInBounds_toArray,List.set_cons_succ,List.set_cons_zero]
  gi_wp2
  first | exact⟨rfl,rfl⟩ | exact rfl
 case body=>
  rintro l pre x W0 a1 W1 W F1 G1 ⟨rfl,rfl⟩ hl0 hl1 hl2 ho1 hzz hd0 hI hit1 hd1 hok1
  obtain⟨A,c,hl,hown,hog⟩:=hI.list
  have HI:=hD hI
  have HD:=hD hd1
  obtain⟨n,hnn⟩:∃n,(pre.filter pr).length=n:=⟨_,rfl⟩
  have HN:=hD hnn
  rw[hnn]at hl hown hog
  have HOW:=hD hown
  have HLR:=hD hl
  have HOG:=hD hog
  have hlen:pre.length+1≤all.length:=by
   obtain⟨r,hr⟩:=hok1
   have:=congrArg List.length hr
   simp only[List.length_append,List.length_cons,List.length_nil,List.length_take]at this
   omega
  have hnl:n≤pre.length:=by rw[←hnn];exact List.length_filter_le _ _
  have hx1:Row1 W W0.heap.size 32 x.cells:=ho1.row (Row1.made W0 _ x.cells) (by omega)
  obtain⟨o0,o1,o2,o3,o4,o5,o6,o7,o8,o9,o10⟩:=At11.row hx1
  have k0:W.cell? ⟨w.heap.size,0,none⟩=some (.func (.func 90) #[] #[.pointer (some ⟨ba,0,none⟩),.pointer (some ⟨bq,0,none⟩)]):=hI.ok.cell 0
  have hbf:BF B F1 W:=fun i q=>hd1.2 i (hI.hB i q)
  have cY:Calls Tryz.prog 90 #[.agg #[.int .i64 x.id,.int .i64 x.proc,.int .i64 x.object,.int .i64 x.kind,.int .i64 x.method,.int .i64 x.arg,.int .i64 x.second,.bool x.done,.int .i64 x.result,.int .i64 x.invoke,.int .i64 x.ret],.pointer (some ⟨ba,0,none⟩),.pointer (some ⟨bq,0,none⟩)] W fun e w'=>e= .returned (.bool (pr x))∧∃F',It F' w'∧(∀i,F' i→i<w'.heap.size)∧Keeps F1 F' W w':=HOK.out x F1 W hI.size hit1 hd1.1 hI.agr hbf
  have hblW:w.heap.size+1<W.heap.size:=hl.lt
  have hxW:W0.heap.size<W.heap.size:=hx1.lt
  have HX1:=hD hx1
  have hnx:¬F1 W0.heap.size:=fun q=>by have:=hd0.1 _ q;omega
  clear hI hit1 hd1 hown hl hog hnn ho1 hd0 hok1
  cases hp:pr x with
  | false=>
    rw[hp]at cY
    have HFL:Hid ((pre++ [x]).filter pr=pre.filter pr):=by unfold Hid;rw[List.filter_append,List.filter_cons,hp,if_neg (by decide),List.filter_nil,List.append_nil]
    clear hp
    gi_wp2_with (refine ⟨trivial,?_⟩;gi_at_call 90;refine(CallsIn.inRound l (callsIn_wide.2 cY)).mono ?_;clear cY;rintro e w9 ⟨rfl,F9,hi9,hl9,hk9⟩;have HI9:=hD hi9;have HL9:=hD hl9;have HK9:=hD hk9;clear hi9 hl9 hk9)
    have z9:=HK9.out.only.size
    refine⟨F9,G1,HI9.out,⟨HL9.out,fun i q=>⟨by have:=(HD.out.2 i q).1;omega,HK9.out.out (HD.out.2 i q).1 (HD.out.2 i q).2⟩⟩,⟨HK9.out.only.mono (fun i q=> .inl (.inl q)),fun i q=> ?_⟩,?_⟩
    ·rcases q with q | q
     ·rcases HK9.out.new i q with r | r
      ·exact .inl (.inl r)
      ·exact .inr r
     ·exact .inl (.inr q)
    ·have hg:∀i,G1 i→¬F1 i:=fun i q=>(HD.out.2 i q).2
     refine⟨HI.out.hB,HI.out.g0,HI.out.g1,HI.out.agr.only HI.out.size HK9.out.only (fun i q=>hg i (HI.out.hB i q)),by have:=HI.out.size;omega,HK9.out.only.row HI.out.ok (hg _ HI.out.g0),?_⟩
     rw[HFL.out,HN.out]
     exact⟨A,c,HK9.out.only.row HLR.out (hg _ HI.out.g1),HOW.out.only HK9.out.only (fun k q=>hg k (HOG.out k q)),HOG.out⟩
  | true=>
    rw[hp]at cY
    have HFL:Hid ((pre++ [x]).filter pr=pre.filter pr++ [x]):=by unfold Hid;rw[List.filter_append,List.filter_cons,hp,if_pos rfl,List.filter_nil]
    have HN2:Hid ((pre.filter pr++ [x]).length=n+1):=by unfold Hid;rw[List.length_append,HN.out];rfl
    clear hp
    gi_wp2_with (first
     | (refine ⟨trivial,?_⟩;gi_at_call 90;refine(CallsIn.inRound l (callsIn_wide.2 cY)).mono ?_;clear cY
        rintro e w9 ⟨rfl,F9,hi9,hl9,hk9⟩
        have z9:=hk9.only.size
        have hg:∀i,G1 i→¬F1 i:=fun i q=>(HD.out.2 i q).2
        have hl8:Row1 w9 (w.heap.size+1) 30 [.slice A n c]:=hk9.only.row HLR.out (hg _ HI.out.g1)
        have hox:Row1 w9 W0.heap.size 32 x.cells:=hk9.only.row HX1.out hnx
        obtain⟨x0,x1,x2,x3,x4,x5,x6,x7,x8,x9,x10⟩:=At11.row hox
        have ho9:OwnL w9 (w.heap.size+2) 32 11 OpD.cells (.slice A n c) (pre.filter pr):=HOW.out.only hk9.only (fun k q=>hg k (HOG.out k q))
        have y0:w9.cell? ⟨w.heap.size+1,0,none⟩=some (.slice A n c):=hl8.cell 0
        have HI9:=hD hi9;have HL9:=hD hl9;have HK9:=hD hk9;have HO9:=hD ho9;have HL8:=hD hl8
        have hq2:(pre.filter pr).length+1≤1000000000:=by rw[HN.out];omega
        have hq1:w.heap.size+2≤(w9.alloc (.cells #[.int .i64 x.id,.int .i64 x.proc,.int .i64 x.object,.int .i64 x.kind,.int .i64 x.method,.int .i64 x.arg,.int .i64 x.second,.bool x.done,.int .i64 x.result,.int .i64 x.invoke,.int .i64 x.ret] 32)).heap.size:=by rw[World.size_alloc];omega
        have HQ1:=hD hq1;have HQ2:=hD hq2
        clear hi9 hl9 hk9 hl8 hox ho9 hg hq1 hq2)
     | (with_reducible show wpListIn _ _ _ _ _ (({ dst:=_,op:=Op.call { callee:=Callee.builtin Builtin.append,args:=_,argTypes:=_},type:=_,pos:=_,after:=_,guard:=_}:Oper)::_) _ _
        go_loud (
         refine Y6h rfl (.tmp 12) (.tmp 14) rfl rfl (HO9.out.alloc _) HN.out HQ1.out w9.heap.size 1 x rfl (Row1.made w9 _ x.cells) HQ2.out ?_
         intro A6 c6 w6 ho6 hgr6 hwh6
         have hl6:Row1 w6 (w.heap.size+1) 30 [.slice A n c]:=(HL8.out.alloc _).grown hgr6 (fun e=>by have:=(HO9.out.lt _ e.symm).1;omega)
         have u0:w6.cell? ⟨w.heap.size+1,0,none⟩=some (.slice A n c):=hl6.cell 0
         have u1:w6.frozen? ⟨w.heap.size+1,0,none⟩=false:=hl6.soft 0
         have HO6:=hD ho6;have HGR:=hD hgr6;have HWH:=hD hwh6;have HL6:=hD hl6
         clear ho6 hgr6 hwh6 hl6)))
    have z9:=HK9.out.only.size
    have hg:∀i,G1 i→¬F1 i:=fun i q=>(HD.out.2 i q).2
    have hg9:∀i,G1 i→¬F9 i:=fun i q=>HK9.out.out (HD.out.2 i q).1 (hg i q)
    obtain⟨w7,hw7⟩:∃w7,w6.setCell ⟨w.heap.size+1,0,none⟩ (.slice A6 (n+1) c6)=w7:=⟨_,rfl⟩
    have ho7:Only (fun i=>i=w.heap.size+1) w6 w7:=hw7▸Only.setCell (F:=fun i=>i=w.heap.size+1) (p:=⟨w.heap.size+1,0,none⟩) Only.refl (.inl rfl) _
    have hr7:Row1 w7 (w.heap.size+1) 30 [.slice A6 (n+1) c6]:=hw7▸HL6.out.set 0 _
    have hown7:OwnL w7 (w.heap.size+2) 32 11 OpD.cells (.slice A6 (n+1) c6) (pre.filter pr++ [x]):=HO6.out.only ho7 (fun k q e=>by have:=(HO6.out.lt k q).1;omega)
    have ho97:Only (fun i=>(Value.slice A n c).ownBlock=some i∨i=w.heap.size+1) w9 w7:=((Only.of (Ext.alloc w9 (.cells #[.int .i64 x.id,.int .i64 x.proc,.int .i64 x.object,.int .i64 x.kind,.int .i64 x.method,.int .i64 x.arg,.int .i64 x.second,.bool x.done,.int .i64 x.result,.int .i64 x.invoke,.int .i64 x.ret] 32))).trans (Only.grown HGR.out) (fun i q=> .inl (.inl q))).trans ho7 (fun i q=> .inl (.inr q))
    have hO:∀i,((Value.slice A n c).ownBlock=some i∨i=w.heap.size+1)→G1 i:=fun i q=>by
     rcases q with q | rfl
     ·exact HOG.out i q
     ·exact HI.out.g1
    have hnew:∀i,(Value.slice A6 (n+1) c6).ownBlock=some i→G1 i∨w9.heap.size≤i:=fun i q=>by
     rcases HWH.out i q with r | r
     ·exact .inl (HOG.out i r)
     ·rw[World.size_alloc]at r;exact .inr (by omega)
    have z7:=ho97.size
    show Y7c It _ _ _ F1 G1 W _ _ _
    rw[hw7]
    have hos:∀i,((Value.slice A n c).ownBlock=some i∨i=w.heap.size+1)→w.heap.size+1≤i:=fun i q=>by
     rcases q with q | rfl
     ·have:=(HO9.out.lt i q).1;omega
     ·omega
    have hBl:∀i,B i→i<w.heap.size:=fun i q=>(HI.out.agr i q).1
    have hz0:=HI.out.size
    refine⟨F9,fun i=>G1 i∨(Value.slice A6 (n+1) c6).ownBlock=some i,HIT.out F9 w9 w7 HI9.out (ho97.mono (fun i q=> .inl ⟨hg9 i (hO i q),by have:=hos i q;omega⟩)),⟨fun i q=>Nat.lt_of_lt_of_le (HL9.out i q) z7,fun i q=> ?_⟩,⟨(HK9.out.only.mono (fun i q=> .inl (.inl q))).trans ho97 (fun i q=> .inl (.inr (hO i q))),fun i q=> ?_⟩,?_⟩
    ·rcases q with q | q
     ·exact⟨by have:=(HD.out.2 i q).1;omega,hg9 i q⟩
     ·refine⟨(hown7.lt i q).2,fun r=> ?_⟩
      rcases hnew i q with s | s
      ·exact hg9 i s r
      ·have:=HL9.out i r;omega
    ·rcases q with q | q | q
     ·rcases HK9.out.new i q with r | r
      ·exact .inl (.inl r)
      ·exact .inr r
     ·exact .inl (.inr q)
     ·rcases hnew i q with s | s
      ·exact .inl (.inr s)
      ·exact .inr (by omega)
    ·refine⟨fun i q=> .inl (HI.out.hB i q),.inl HI.out.g0,.inl HI.out.g1,(HI.out.agr.only HI.out.size HK9.out.only (fun i q=>hg i (HI.out.hB i q))).only (by omega) ho97 (fun i q r=>by have:=hos i r;have:=hBl i q;omega),by omega,ho97.row (HK9.out.only.row HI.out.ok (hg _ HI.out.g0)) (fun r=>by have:=hos _ r;omega),?_⟩
     rw[HFL.out,HN2.out]
     exact⟨A6,c6,hr7,hown7,fun k q=> .inr q⟩
 case done=>
  rintro D xs W F1 G1 jH rfl hI hit1 hd1 hn1 hn2 hk hK
  obtain⟨A,c,hl,hown,hog⟩:=hI.list
  have z0:W.cell? ⟨w.heap.size+1,0,none⟩=some (.slice A ((all.take k).filter pr).length c):=hl.cell 0
  have ho2:=Only.putObj W D (.deferred none)
  have HEND:Hid (OwnL (W.putObj D (.deferred none)) w.heap.size 32 11 OpD.cells (.slice A ((all.take k).filter pr).length c) ((all.take k).filter pr)∧∃F',It F' (W.putObj D (.deferred none))∧(∀i,F' i→i<(W.putObj D (.deferred none)).heap.size)∧Keeps F F' w (W.putObj D (.deferred none))∧∀b,(Value.slice A ((all.take k).filter pr).length c).ownBlock=some b→¬F' b):=by
   have hz:(W.putObj D (.deferred none)).heap.size=W.heap.size:=by simp
   have hag:=hI.agr
   have hkk:=((Only.of (F:=Un F (fun i=>B i∨i=w.heap.size∨i=w.heap.size+1)) hx).trans hk.only (fun i q=> .inl q)).trans ho2 (fun i q=> .inr (by omega))
   refine⟨(hown.lower (by omega)).only ho2 (fun k q e=>hn2 (e▸hog k q)),F1,HIT.out F1 W _ hit1 (ho2.mono (fun i q=> .inl ⟨fun r=>hn1 (q▸r),by omega⟩)),fun i q=>by rw[hz];exact hd1.1 i q,⟨⟨hkk.os,hkk.tape,hkk.output,hkk.size,fun i hi hnf=> ?_⟩,fun i q=> ?_⟩,fun b q=>(hd1.2 b (hog b q)).2⟩
   ·by_cases hbi:B i
    ·exact(World.putObj_heap_other (by omega)).trans (hag i hbi).2
    ·refine hkk.block i hi (fun r=> ?_)
     rcases r with r | r | r | r
     ·exact hnf r
     ·exact hbi r
     ·omega
     ·omega
   ·rcases hk.new i (.inl q)with (r | r | r | r) | r
    ·exact .inl r
    ·exact absurd q (hd1.2 i (hI.hB i r)).2
    ·exact .inr (by omega)
    ·exact .inr (by omega)
    ·exact .inr (by omega)
  have HK:=hD hK
  clear hk hit1 hd1 hK ho2 hl hown hog hI
  gi_wp2
  exact⟨by simp,.inl ⟨_,_,rfl,run_takeDeferred HK.out,_,results_tmp rfl _ _ _,.slice A ((all.take k).filter pr).length c,rfl,HEND.out⟩⟩
 case stop=>intro D c pre W F1 G1 _ _ h;exact h.elim
end Go.Proofs.YtmiolpfanlpfnaaGreat
