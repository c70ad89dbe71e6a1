/- find.choose over a table's operations; what a query asks other operations by. Conditions: a table's trees. -/
import Derived.Test.YtmiolpfanlpfnaaGreatV37
import Derived.Test.YtmiolpfanlpfnaaGreatV12
set_option maxRecDepth 100000
set_option maxHeartbeats 4000000
set_option linter.unusedSimpArgs false
set_option linter.unusedVariables false
namespace Go.Proofs.YtmiolpfanlpfnaaGreat
section
open Go.RowKit
attribute [local go_sem] Oper.semAt_some
theorem V3l(p:Tmp)(u:Value)(t:Array Value):(#[p].zip #[u]).foldl (fun t (p,v)=>t.setIfInBounds p v) t=t.setIfInBounds p u:=by simp
def Agr(B:Nat→Prop)(w W:World):Prop:=∀i,B i→i<w.heap.size∧W.heap[i]? =w.heap[i]?
theorem Agr.only{B G:Nat→Prop}{w W W':World}(h:Agr B w W)(hz:w.heap.size≤W.heap.size)(ho:Only G W W')(hB:∀i,B i→¬G i):Agr B w W':=fun i q=>⟨(h i q).1,(ho.block i (Nat.lt_of_lt_of_le (h i q).1 hz) (hB i q)).trans (h i q).2⟩
theorem Agr.row{B:Nat→Prop}{w W:World}(h:Agr B w W){g:Nat}{t:TypeId}{cs:List Value}(hg:B g)(hr:Row1 w g t cs):Row1 W g t cs:=hr.same (h g hg).2
theorem Sl.agr{α:Type}{B:Nat→Prop}{w W:World}{sz:Nat}{R:α→List Value→Prop}{v:Value}{xs:List α}(h:Sl w sz R v xs)(ha:Agr B w W)(hz:w.heap.size≤W.heap.size)(hv:∀b,0<xs.length→v.ownBlock=some b→B b):Sl W sz R v xs:=by
 obtain⟨A,c,rfl,h1,h2,h3⟩:=h
 refine⟨A,c,rfl,h1,h2,fun hn=> ?_⟩
 obtain⟨b,off,rfl,hb,hx⟩:=h3 hn
 refine⟨b,off,rfl,Nat.lt_of_lt_of_le hb hz,fun i x hi=> ?_⟩
 obtain⟨cs,hr,hl,hcs⟩:=hx i x hi
 exact⟨cs,hr,hl,fun j u hu=>(World.cell?_of_block (ha b (hv b hn rfl)).2).trans (hcs j u hu)⟩
theorem NdB.agr{B:Nat→Prop}{w W:World}(ha:Agr B w W)(hz:w.heap.size≤W.heap.size):∀(d:Nat) (t:ND) (n:NCell),NdB B w d t n→NdB B W d t n
 | 0,_,_,h=>h
 | d+1,_,_,⟨h1,h2,h3,h4,ks,h5,h5b,h6,h7⟩=>⟨h1,h2,h3,h4,ks,h5.agr ha hz h5b,h5b,h6,fun i x y hx hy=>NdB.agr ha hz d x y (h7 i x y hx hy)⟩
def OkC(okf:FuncId)(caps:Array Value)(pr:OpD→Bool)(It:(Nat→Prop)→World→Prop)(B:Nat→Prop)(w:World):Prop:=
 ∀(x:OpD) (F:Nat→Prop) (W:World),w.heap.size≤W.heap.size→It F W→(∀i,F i→i<W.heap.size)→Agr B w W→BF B F W→Calls Tryz.prog okf (#[x.val]++caps) W fun e w'=>e= .returned (.bool (pr x))∧∃F',It F' w'∧(∀i,F' i→i<w'.heap.size)∧Keeps F F' W w'
structure ChoI (w:World) (B:Nat→Prop) (okv:Value) (pr:OpD→Bool) (pre:List OpD) (G:Nat→Prop) (W:World):Prop where
 hB:∀i,B i→G i
 g0:G w.heap.size
 g1:G (w.heap.size+1)
 agr:Agr B w W
 size:w.heap.size≤W.heap.size
 ok:Row1 W w.heap.size 46 [okv]
 list:∃A c,Row1 W (w.heap.size+1) 30 [.slice A (pre.filter pr).length c]∧OwnL W (w.heap.size+2) 32 11 OpD.cells (.slice A (pre.filter pr).length c) (pre.filter pr)∧∀k,(Value.slice A (pre.filter pr).length c).ownBlock=some k→G k
theorem ChoI.abides{w:World}{B:Nat→Prop}{okv:Value}{pr:OpD→Bool}:Z2y (ChoI w B okv pr):=fun s G W W' h hlt ho=>by
 obtain⟨A,c,h1,h2,h3⟩:=h.list
 exact⟨h.hB,h.g0,h.g1,h.agr.only h.size ho (fun i q r=>r (h.hB i q)),Nat.le_trans h.size ho.size,ho.row h.ok (fun r=>r h.g0),A,c,ho.row h1 (fun r=>r h.g1),h2.only ho (fun k q r=>r (h3 k q)),h3⟩
theorem V4t(ty:TypeId)(W:World){base:Nat}{A:Option Addr}{n c:Nat}{xs:List OpD}(h:OwnL W base 32 11 OpD.cells (.slice A n c) xs)(hn:xs.length=n)(hb:base≤W.heap.size)(G cc:Nat)(y:OpD)(hr:Row1 W G 32 y.cells)(h63:xs.length+1≤1000000000):
  ∃A' c' w',(Builtin.append_ #[30,30] ty #[.slice A n c,.slice (some ⟨G,0,none⟩) 1 cc]).run Tryz.prog W= .ok (.slice A' (n+1) c') w'∧OwnL w' base 32 11 OpD.cells (.slice A' (n+1) c') (xs++ [y])∧W.grownBy w' (Value.slice A n c).ownBlock∧(∀k,(Value.slice A' (n+1) c').ownBlock=some k→(Value.slice A n c).ownBlock=some k∨W.heap.size≤k):=by
 obtain⟨i,z,hi,hz,hsize,hby,hzs⟩:=elOp.hi
 subst hn
 obtain⟨v',w',q1,q2,q3,q4⟩:=Z4s (P:=Tryz.prog) W base 30 ty 32 i z 11 _ elOp.ht hi hz hsize hby hzs elOp.pos _ xs.length (xs.flatMap OpD.cells) h ⟨G,0,none⟩ 1 cc y.cells (by rfl) (fun j u hu=>by rw[Addr.add_lit,Nat.zero_add,hr.cell];exact hu) (Z7r y) (by simp[maxLen];omega) (by omega) hb
 have h2:OwnL w' base 32 11 OpD.cells v' (xs++ [y]):=by
  unfold OwnL
  rw[List.length_append,List.flatMap_append]
  simpa using q2
 obtain⟨A',c',rfl⟩:=h2.form
 have hl:(xs++ [y]).length=xs.length+1:=by simp
 rw[hl]at q1 q4 h2
 exact⟨A',c',w',q1,h2,q3,q4⟩
theorem Y5z{l m:Nat}{ops:Array Oper}{rest:List Oper}{o:Oper}{a:Act}{W:World}{Q:Exit→Act→World→Prop}(hgd:o.guard=none)(s x:Operand)
 (ho:o.op= .call { callee:= .builtin .append,args:=#[s,x],argTypes:=#[30,30]})
 {base:Nat}{A:Option Addr}{n c:Nat}{xs:List OpD}(hs:a.eval s= .slice A n c)(h:OwnL W base 32 11 OpD.cells (.slice A n c) xs)(hn:xs.length=n)(hb:base≤W.heap.size)(G cc:Nat)(y:OpD)(hx:a.eval x= .slice (some ⟨G,0,none⟩) 1 cc)(hr:Row1 W G 32 y.cells)(h63:xs.length+1≤1000000000)
 (hK:∀A' c' w',OwnL w' base 32 11 OpD.cells (.slice A' (n+1) c') (xs++ [y])→W.grownBy w' (Value.slice A n c).ownBlock→(∀k,(Value.slice A' (n+1) c').ownBlock=some k→(Value.slice A n c).ownBlock=some k∨W.heap.size≤k)→wpListIn (Fence.wide.inRound l) m Tryz.prog ops Q rest (a.put o.dst (.slice A' (n+1) c')) w'):
  wpListIn (Fence.wide.inRound l) m Tryz.prog ops Q (o::rest) a W:=by
 obtain⟨A',c',w',h1,h2,h3,h4⟩:=V4t o.type W h hn hb G cc y hr h63
 refine wpListIn_plain hgd fun K hk=> ?_
 refine⟨fun _ _=>trivial,?_⟩
 rw[Oper.semAt_eq _ _ _ (fun c e=>by rw[ho]at e;cases e)]
 unfold execOp
 simp only[ho,resolve,invoke,builtin,Sem.run_bind,Sem.run_pure,Result.andThen_ok,List.map_toArray,List.map_cons,List.map_nil,hs,hx,h1]
 exact hk _ _ (hK A' c' w' h2 h3 h4)
end
section
open Go.RowKit
structure StR (tb p:Nat) (ts:Nat→Nat) (bt b0:Nat) (S:StoreD) (F:Nat→Prop) (W:World):Prop where
 it:ItF tb p ts bt S F W
 low:∀i,F i→i<W.heap.size
 row:Row1 W b0 26 [tp tb]
 out:¬F b0
theorem StR.ok{tb p bt b0:Nat}{ts:Nat→Nat}{S:StoreD}:StOk (StR tb p ts bt b0 S):=
 ⟨fun F W W' h hx=>⟨h.it.ext hx,fun i q=>Nat.lt_of_lt_of_le (h.low i q) hx.size,h.row.ext hx h.row.lt,h.out⟩,fun F W i h q=>h.low i q⟩
theorem X6k(r:Option OpD):∃(x:OpD) (ev:Int),getR r= .tuple #[.agg #[.int .i64 x.id,.int .i64 x.proc,.int .i64 x.object,.int .i64 x.kind,.int .i64 x.method,.int .i64 x.arg,.int .i64 x.second,.bool x.done,.int .i64 x.result,.int .i64 x.invoke,.int .i64 x.ret],.int .i64 ev]∧(ev==0)=r.isSome∧∀q,r=some q→x=q:=by
 cases r with
 | none=>exact⟨opZero,6,rfl,rfl,fun q h=>by cases h⟩
 | some o=>exact⟨o,0,rfl,rfl,fun q h=>by injection h⟩
theorem X5e{tb p bt b0:Nat}{ts:Nat→Nat}{S:StoreD}{Ts:Nat→TrD}{ls:List OpD}(hT:Tab S Ts (fun _=>ls))(hd:depT (Ts 0)≤31):GetW 87 (.pointer (some ⟨b0,0,none⟩)) ls (StR tb p ts bt b0 S):=by
 intro id F W hi1 hi2 hst
 obtain⟨⟨Fp,rfl,ht,hp,hrt,hnb⟩,hlow,hb0,hnb0⟩:=hst
 obtain⟨x,ev,hx1,hx2,hx3⟩:=X6k (getL ls id)
 obtain⟨W0,hW0⟩:∃W0,W.alloc (.cells #[.int .i64 0,.int .i64 0,.int .i64 0,.int .i64 0,.int .i64 0,.int .i64 0,.int .i64 0,.bool false,.int .i64 0,.int .i64 0,.int .i64 0] 32)=W0:=⟨_,rfl⟩
 have HX0:Hid (Ext W W0):=by unfold Hid;rw[←hW0];exact Ext.alloc _ _
 have HR0:Hid (Row1 W0 W.heap.size 32 [.int .i64 0,.int .i64 0,.int .i64 0,.int .i64 0,.int .i64 0,.int .i64 0,.int .i64 0,.bool false,.int .i64 0,.int .i64 0,.int .i64 0]):=by unfold Hid;rw[←hW0];exact Row1.made W _ _
 have hnr:¬Fp W.heap.size:=fun q=>by have:=hlow _ (.inl q);omega
 have cG:Hid (∀W',Ext W0 W'→Calls Tryz.prog 60 #[tp tb,.int .i64 id] W' fun e w'=>e= .returned (.tuple #[.agg #[.int .i64 x.id,.int .i64 x.proc,.int .i64 x.object,.int .i64 x.kind,.int .i64 x.method,.int .i64 x.arg,.int .i64 x.second,.bool x.done,.int .i64 x.result,.int .i64 x.invoke,.int .i64 x.ret],.int .i64 ev])∧∃F',(∀i,F' i→i<w'.heap.size)∧TblAt w' tb p ts F'∧PagerAt w' p F' S∧Keeps Fp F' W' w'):=fun W' hW=>by
  have h1:=Z6y id W' (ht.ext (HX0.out.trans hW)) (hp.ext (HX0.out.trans hW)) hT hd ⟨hi1,hi2⟩
  rw[hx1]at h1
  exact h1.mono (fun e w' ⟨q0,F',q1,q2,q3⟩=>⟨q0,fun i=>F' i∧i<w'.heap.size,fun i q=>q.2,⟨q1.row,q1.tree,fun q=>q1.out q.1,fun j hj q=>q1.outs j hj q.1⟩,q2.shrink,q3.shrink⟩)
 have HFIN:Hid (∀(F7:Nat→Prop) (w1 w':World),(∀i,F7 i→i<w1.heap.size)→TblAt w1 tb p ts F7→PagerAt w1 p F7 S→Keeps Fp F7 W0 w1→Only (fun i=>i=W.heap.size) (w1.alloc (.cells #[.int .i64 x.id,.int .i64 x.proc,.int .i64 x.object,.int .i64 x.kind,.int .i64 x.method,.int .i64 x.arg,.int .i64 x.second,.bool x.done,.int .i64 x.result,.int .i64 x.invoke,.int .i64 x.ret] 32)) w'→∃F',StR tb p ts bt b0 S F' w'∧Keeps (fun i=>Fp i∨T1 tb ts bt i) F' W w'):=fun F7 w1 w' q1 q2 q3 q4 q5=>by
  have z0:=HX0.out.size
  have z1:=q4.only.size
  have hro:¬F7 W.heap.size:=q4.out HR0.out.lt hnr
  have hoA:Only (fun i=>i=W.heap.size) w1 w':=(Only.of (Ext.alloc w1 (.cells #[.int .i64 x.id,.int .i64 x.proc,.int .i64 x.object,.int .i64 x.kind,.int .i64 x.method,.int .i64 x.arg,.int .i64 x.second,.bool x.done,.int .i64 x.result,.int .i64 x.invoke,.int .i64 x.ret] 32))).trans q5 (fun i q=> .inl q)
  have hk:Keeps Fp F7 W w1:=(Keeps.of HX0.out).trans q4
  have hn0:b0≠W.heap.size:=fun e=>by have:=hb0.lt;omega
  have hnt:∀i,i<W.heap.size→i≠W.heap.size:=fun i q=>by omega
  have htl:tb<W.heap.size:=ht.row.lt
  have htsl:∀j,j<5→ts j<W.heap.size:=fun j hj=>(ht.tree j hj).lt
  have hbtl:=hrt.lt
  refine⟨fun i=>F7 i∨T1 tb ts bt i,⟨⟨F7,rfl,⟨hoA.row q2.row (hnt _ htl),fun j hj=>hoA.row (q2.tree j hj) (hnt _ (htsl j hj)),q2.out,q2.outs⟩,q3.only hoA (fun i q e=>hro (e▸q)),hoA.row (hk.only.row hrt hnb) (hnt _ hbtl),hk.out hbtl hnb⟩,fun i q=> ?_,hoA.row (hk.only.row hb0 (fun q=>hnb0 (.inl q))) hn0,fun q=> ?_⟩,⟨(hk.only.mono (fun i q=> .inl (.inl q))).trans hoA (fun i q=> .inr (by omega)),fun i q=> ?_⟩⟩
  ·have:=hoA.size
   rcases q with q | q
   ·have:=q1 i q;omega
   ·have:=hlow i (.inr q);omega
  ·rcases q with q | q
   ·exact hk.out hb0.lt (fun r=>hnb0 (.inl r)) q
   ·exact hnb0 (.inr q)
  ·rcases q with q | q
   ·rcases hk.new i q with r | r
    ·exact .inl (.inl r)
    ·exact .inr r
   ·exact .inl (.inr q)
 have hc0:W0.cell? ⟨b0,0,none⟩=some (tp tb):=(hb0.ext HX0.out hb0.lt).cell 0
 have HX3:=hD hx3
 have HX2:=hD hx2
 clear hx3 hx2 hx1 ht hp hrt hnb hlow hb0 hnb0 hT hd
 go_enter Tryz.func87,Tryz.ntmps87
 go_upto_region 1 with fail
 clear hW0
 go_wp2_with (go_at_call 60;(with_reducible refine(cG.out _ (Ext.refl _)).mono ?_);clear cG;rintro e w1 ⟨rfl,F7,hl7,ht7,hp7,hk7⟩;have HR1:Hid (Row1 (w1.alloc (.cells #[.int .i64 x.id,.int .i64 x.proc,.int .i64 x.object,.int .i64 x.kind,.int .i64 x.method,.int .i64 x.arg,.int .i64 x.second,.bool x.done,.int .i64 x.result,.int .i64 x.invoke,.int .i64 x.ret] 32)) W.heap.size 32 [.int .i64 0,.int .i64 0,.int .i64 0,.int .i64 0,.int .i64 0,.int .i64 0,.int .i64 0,.bool false,.int .i64 0,.int .i64 0,.int .i64 0]):=Row1.alloc (hk7.only.row HR0.out hnr) _;obtain⟨a0,a1,a2,a3,a4,a5,a6,a7,a8,a9,a10⟩:=Z1q HR1.out;obtain⟨f0,f1,f2,f3,f4,f5,f6,f7,f8,f9,f10⟩:=Z4c HR1.out;have HFN:=fun w'=>hD (HFIN.out F7 w1 w' hl7 ht7 hp7 hk7);clear hl7 ht7 hp7 hk7)
 refine bodyPost_ret (Y8q rfl _ _ W.heap.size x _ rfl rfl ?_) rfl ⟨⟨x,?_,HX3.out⟩,(HFN _).out ?_⟩
 ·exact Z5a HR1.out _ _ _ _ _ _ _ _ _ _ _
 ·rw[←HX2.out];rfl
 ·exact Z7e _ _ _ _ _ _ _ _ _ _ _ _ _
theorem Y8o{tb p bt b0 ba bq:Nat}{ts:Nat→Nat}{S:StoreD}{Ts:Nat→TrD}{ls:List OpD}{B:Nat→Prop}{d:Nat}{t:ND}{n:NCell}{ord:ByteArray}{down count:Bool}{limit:Int}(w:World)(hT:Tab S Ts (fun _=>ls))(hdp:depT (Ts 0)≤31)
 (hn:RN n n.cells)(hd:NdB B w d t n)(hB0:B b0)(hBa:B ba)(hBq:B bq)(h0:Row1 w b0 26 [tp tb])(ha:Row1 w ba 143 [.func (.func 87) #[] #[.pointer (some ⟨b0,0,none⟩)]])
 (hq:Row1 w bq 69 (n.cells++ [.string ord,.bool down,.int .i64 limit,.bool count])):
  OkC 90 #[.pointer (some ⟨ba,0,none⟩),.pointer (some ⟨bq,0,none⟩)] (fun o=>Z0n ls o t) (ItF tb p ts bt S) B w:=by
 intro x F W hz hit hlow hag hbf
 show Calls Tryz.prog 90 #[.agg #[.int .i64 x.id,.int .i64 x.proc,.int .i64 x.object,.int .i64 x.kind,.int .i64 x.method,.int .i64 x.arg,.int .i64 x.second,.bool x.done,.int .i64 x.result,.int .i64 x.invoke,.int .i64 x.ret],.pointer (some ⟨ba,0,none⟩),.pointer (some ⟨bq,0,none⟩)] W _
 have eg:∀args w,(callFunc 87 args).run Tryz.prog w= .ok (.enter 87 args) w:=enters_of Tryz.func87 (by kernel_rfl) rfl
 have hst:StR tb p ts bt b0 S F W:=⟨hit,hlow,hag.row hB0 h0,(hbf b0 hB0).2⟩
 have cH:Hid (∀W',Ext W W'→Calls Tryz.prog 91 #[.agg #[.func (.func 87) #[] #[.pointer (some ⟨b0,0,none⟩)]],.agg #[.int .i64 n.kind,n.kids,.string n.field,.string n.sign,.int .i64 n.value],x.val] W' fun e w'=>e= .returned (.bool (Z0n ls x t))∧∃F',StR tb p ts bt b0 S F' w'∧Keeps F F' W w'):=fun W' hx=>
  (Y7v 87 eg _ ls _ B StR.ok (X5e hT hdp) x d t n F W' hn ((NdB.agr hag hz d t n hd).ext hx) (StR.ok.ext _ _ _ hst hx) (hbf.ext hx)).mono (fun e w' ⟨q0,F',q1,q2⟩=>⟨q0,F',q1,(Keeps.of hx).trans q2⟩)
 have ra:=hag.row hBa ha
 have rq:=hag.row hBq hq
 obtain⟨kA,kn,kc,hkk⟩:=hn.2.2.2
 clear hst hit hlow hag hbf hn hd h0 ha hq hT eg
 obtain⟨nk,nkids,nf,ns,nv⟩:=n
 dsimp only at *
 subst hkk
 have c0:W.cell? ⟨ba,0,none⟩=some (.func (.func 87) #[] #[.pointer (some ⟨b0,0,none⟩)]):=ra.cell 0
 have d0:W.cell? ⟨bq,0,none⟩=some (.int .i64 nk):=rq.cell 0
 have d1:W.cell? ⟨bq,1,none⟩=some (.slice kA kn kc):=rq.cell 1
 have d2:W.cell? ⟨bq,2,none⟩=some (.string nf):=rq.cell 2
 have d3:W.cell? ⟨bq,3,none⟩=some (.string ns):=rq.cell 3
 have d4:W.cell? ⟨bq,4,none⟩=some (.int .i64 nv):=rq.cell 4
 have l0:=ra.lt
 have l1:=rq.lt
 clear ra rq
 go_enter Tryz.func90,Tryz.ntmps90
 go_wp2_with (go_at_call 91;(with_reducible refine(cH.out _ ?_).mono ?_);(· exact Xt);clear cH;rintro e w1 ⟨rfl,F',hs1,hk1⟩;have HS1:=hD hs1;have HK1:=hD hk1;clear hs1 hk1)
 go_ret
 exact⟨rfl,F',HS1.out.it,HS1.out.low,HK1.out⟩
attribute [local go_sem] Oper.semAt_some
theorem X6y{ba bq bf bt bw:Nat}{It:(Nat→Prop)→World→Prop}{all:List OpD}{k:Nat}{pr:OpD→Bool}{B F:Nat→Prop}(w:World)
 (hseq:∀(m:Nat) (w':World),Ext w w'→SeqO Fence.wide m Tryz.prog 129 #[.pointer (some ⟨bf,0,none⟩),.pointer (some ⟨bt,0,none⟩),.pointer (some ⟨bw,0,none⟩)] X6v It (fun xs=>xs=all.take k) (fun pre=>pre <+: all.take k) (fun pre x=>pre++ [x] <+: all.take k) w')
 (hIt:Z9l w.heap.size It)(hit:It F w)(hlow:∀i,F i→i<w.heap.size)(hB:BF B F w)(hok:OkC 90 #[.pointer (some ⟨ba,0,none⟩),.pointer (some ⟨bq,0,none⟩)] pr It B w)(hn:all.length≤100000):
  Calls Tryz.prog 89 #[.func (.func 129) #[] #[.pointer (some ⟨bf,0,none⟩),.pointer (some ⟨bt,0,none⟩),.pointer (some ⟨bw,0,none⟩)],.func (.func 90) #[] #[.pointer (some ⟨ba,0,none⟩),.pointer (some ⟨bq,0,none⟩)]] w fun e w'=>
   ∃v,e= .returned v∧OwnL w' w.heap.size 32 11 OpD.cells v ((all.take k).filter pr)∧∃F',It F' w'∧(∀i,F' i→i<w'.heap.size)∧Keeps F F' w w'∧∀b,v.ownBlock=some b→¬F' b:=by
 refine callsIn_wide (n:=3).1 ?_
 refine callsIn_of_wp_marks Tryz.func89 rfl trivial ?_ rfl
 simp only[Tryz.ntmps89,List.size_toArray,List.length_cons,List.length_nil,Nat.reduceAdd,Nat.reduceSub,Array.replicate_succ,Array.replicate_zero,List.push_toArray,List.append_toArray,List.nil_append,List.cons_append]
 have HX0:Hid (∀v,Ext w ((w.alloc (.cells #[v] 46)).alloc (.cells #[.slice none 0 0] 30))):=fun v=>(Ext.alloc _ _).trans (Ext.alloc _ _)
 have HR0:Hid (∀v,Row1 ((w.alloc (.cells #[v] 46)).alloc (.cells #[.slice none 0 0] 30)) w.heap.size 46 [v]):=fun v=>(Row1.made w _ [v]).alloc _
 have HR1:Hid (∀v,Row1 ((w.alloc (.cells #[v] 46)).alloc (.cells #[.slice none 0 0] 30)) (w.heap.size+1) 30 [.slice none 0 0]):=fun v=>Row1.made' (by simp) _ [.slice none 0 0]
 gi_wp2
 generalize hw1:World.alloc _ _=w1
 have hx:Ext w w1:=by rw[←hw1];exact HX0.out _
 have hz1:w1.heap.size=w.heap.size+2:=by rw[←hw1];simp
 have hr0:Row1 w1 w.heap.size 46 [.func (.func 90) #[] #[.pointer (some ⟨ba,0,none⟩),.pointer (some ⟨bq,0,none⟩)]]:=by rw[←hw1];exact HR0.out _
 have hr1:Row1 w1 (w.heap.size+1) 30 [.slice none 0 0]:=by rw[←hw1];exact HR1.out _
 have HOK:=hD hok
 have HIT:=hD hIt
 clear hw1 HX0 HR0 HR1 hok
 refine Z5t rfl (by decide) (gf:=129) (lb:=#[.pointer (some ⟨bf,0,none⟩),.pointer (some ⟨bt,0,none⟩),.pointer (some ⟨bw,0,none⟩)]) rfl trivial (enters_of Tryz.func129 (by kernel_rfl) rfl)
  (hseq _ w1 hx) (Ext.refl w1) (fun _=>rfl) F (fun i=>B i∨i=w.heap.size∨i=w.heap.size+1) (fun F1 W W' q ho=>hIt F1 W W' q (ho.mono (fun i r=> .inl ⟨r.1,by omega⟩)))
  (hIt F w w1 hit (Only.of hx)) ⟨fun i q=>by have:=hlow i q;omega,fun i q=> ?dis⟩
  (ChoI w B (.func (.func 90) #[] #[.pointer (some ⟨ba,0,none⟩),.pointer (some ⟨bq,0,none⟩)]) pr) (fun c pre G W=>False) ChoI.abides (fun c s G W W' q q2 q3=>q)
  ⟨fun i q=> .inl q,.inr (.inl rfl),.inr (.inr rfl),fun i q=>⟨(hB i q).1,hx.block i (hB i q).1⟩,by omega,hr0,none,0,hr1,OwnL.nil _ _ _ _ _,fun k q=>(by cases q)⟩
  (fun x W a1 W1=>W1=W.alloc (.cells x.cells.toArray 32)∧a1= { tmps:=#[.func (.func 129) #[] #[.pointer (some ⟨bf,0,none⟩),.pointer (some ⟨bt,0,none⟩),.pointer (some ⟨bw,0,none⟩)],.func (.func 90) #[] #[.pointer (some ⟨ba,0,none⟩),.pointer (some ⟨bq,0,none⟩)],undef,.pointer (some ⟨w.heap.size,0,none⟩),.slice none 0 0,.pointer (some ⟨w.heap.size+1,0,none⟩),.pointer (some ⟨W.heap.size,0,none⟩),.func (.func 129) #[] #[.pointer (some ⟨bf,0,none⟩),.pointer (some ⟨bt,0,none⟩),.pointer (some ⟨bw,0,none⟩)],x.val,undef,undef,undef,undef,undef,undef,undef,undef],defers:= []})
  (fun x W a1 W1 q=>q.1▸Ext.alloc _ _) ?assign ?body ?done ?stop
 case dis=>
  rcases q with q | rfl | rfl
  ·exact⟨by have:=(hB i q).1;omega,(hB i q).2⟩
  ·exact⟨by omega,fun r=>by have:=hlow _ r;omega⟩
  ·exact⟨by omega,fun r=>by have:=hlow _ r;omega⟩
 case assign=>
  intro l x W K hK
  simp only[X6v,V3l,List.setIfInBounds_toArray,List.set_cons_succ,List.set_cons_zero]
  gi_wp2
  first | exact⟨rfl,rfl⟩ | exact rfl
 case body=>
  rintro l pre x W0 a1 W1 W F1 G1 ⟨rfl,rfl⟩ hl0 hl1 hl2 ho1 hzz hd0 hI hit1 hd1 hok1
  obtain⟨A,c,hl,hown,hog⟩:=hI.list
  have HI:=hD hI
  have HD:=hD hd1
  obtain⟨n,hnn⟩:∃n,(pre.filter pr).length=n:=⟨_,rfl⟩
  have HN:=hD hnn
  rw[hnn]at hl hown hog
  have HOW:=hD hown
  have HLR:=hD hl
  have HOG:=hD hog
  have hlen:pre.length+1≤all.length:=by
   obtain⟨r,hr⟩:=hok1
   have:=congrArg List.length hr
   simp only[List.length_append,List.length_cons,List.length_nil,List.length_take]at this
   omega
  have hnl:n≤pre.length:=by rw[←hnn];exact List.length_filter_le _ _
  have hx1:Row1 W W0.heap.size 32 x.cells:=ho1.row (Row1.made W0 _ x.cells) (by omega)
  obtain⟨o0,o1,o2,o3,o4,o5,o6,o7,o8,o9,o10⟩:=At11.row hx1
  have k0:W.cell? ⟨w.heap.size,0,none⟩=some (.func (.func 90) #[] #[.pointer (some ⟨ba,0,none⟩),.pointer (some ⟨bq,0,none⟩)]):=hI.ok.cell 0
  have hbf:BF B F1 W:=fun i q=>hd1.2 i (hI.hB i q)
  have cY:Calls Tryz.prog 90 #[.agg #[.int .i64 x.id,.int .i64 x.proc,.int .i64 x.object,.int .i64 x.kind,.int .i64 x.method,.int .i64 x.arg,.int .i64 x.second,.bool x.done,.int .i64 x.result,.int .i64 x.invoke,.int .i64 x.ret],.pointer (some ⟨ba,0,none⟩),.pointer (some ⟨bq,0,none⟩)] W fun e w'=>e= .returned (.bool (pr x))∧∃F',It F' w'∧(∀i,F' i→i<w'.heap.size)∧Keeps F1 F' W w':=HOK.out x F1 W hI.size hit1 hd1.1 hI.agr hbf
  have hblW:w.heap.size+1<W.heap.size:=hl.lt
  have hxW:W0.heap.size<W.heap.size:=hx1.lt
  have HX1:=hD hx1
  have hnx:¬F1 W0.heap.size:=fun q=>by have:=hd0.1 _ q;omega
  clear hI hit1 hd1 hown hl hog hnn ho1 hd0 hok1
  cases hp:pr x with
  | false=>
    rw[hp]at cY
    have HFL:Hid ((pre++ [x]).filter pr=pre.filter pr):=by unfold Hid;rw[List.filter_append,List.filter_cons,hp,if_neg (by decide),List.filter_nil,List.append_nil]
    clear hp
    gi_wp2_with (refine ⟨trivial,?_⟩;gi_at_call 90;refine(CallsIn.inRound l (callsIn_wide.2 cY)).mono ?_;clear cY;rintro e w9 ⟨rfl,F9,hi9,hl9,hk9⟩;have HI9:=hD hi9;have HL9:=hD hl9;have HK9:=hD hk9;clear hi9 hl9 hk9)
    have z9:=HK9.out.only.size
    refine⟨F9,G1,HI9.out,⟨HL9.out,fun i q=>⟨by have:=(HD.out.2 i q).1;omega,HK9.out.out (HD.out.2 i q).1 (HD.out.2 i q).2⟩⟩,⟨HK9.out.only.mono (fun i q=> .inl (.inl q)),fun i q=> ?_⟩,?_⟩
    ·rcases q with q | q
     ·rcases HK9.out.new i q with r | r
      ·exact .inl (.inl r)
      ·exact .inr r
     ·exact .inl (.inr q)
    ·have hg:∀i,G1 i→¬F1 i:=fun i q=>(HD.out.2 i q).2
     refine⟨HI.out.hB,HI.out.g0,HI.out.g1,HI.out.agr.only HI.out.size HK9.out.only (fun i q=>hg i (HI.out.hB i q)),by have:=HI.out.size;omega,HK9.out.only.row HI.out.ok (hg _ HI.out.g0),?_⟩
     rw[HFL.out,HN.out]
     exact⟨A,c,HK9.out.only.row HLR.out (hg _ HI.out.g1),HOW.out.only HK9.out.only (fun k q=>hg k (HOG.out k q)),HOG.out⟩
  | true=>
    rw[hp]at cY
    have HFL:Hid ((pre++ [x]).filter pr=pre.filter pr++ [x]):=by unfold Hid;rw[List.filter_append,List.filter_cons,hp,if_pos rfl,List.filter_nil]
    have HN2:Hid ((pre.filter pr++ [x]).length=n+1):=by unfold Hid;rw[List.length_append,HN.out];rfl
    clear hp
    gi_wp2_with (first
     | (refine ⟨trivial,?_⟩;gi_at_call 90;refine(CallsIn.inRound l (callsIn_wide.2 cY)).mono ?_;clear cY
        rintro e w9 ⟨rfl,F9,hi9,hl9,hk9⟩
        have z9:=hk9.only.size
        have hg:∀i,G1 i→¬F1 i:=fun i q=>(HD.out.2 i q).2
        have hl8:Row1 w9 (w.heap.size+1) 30 [.slice A n c]:=hk9.only.row HLR.out (hg _ HI.out.g1)
        have hox:Row1 w9 W0.heap.size 32 x.cells:=hk9.only.row HX1.out hnx
        obtain⟨x0,x1,x2,x3,x4,x5,x6,x7,x8,x9,x10⟩:=At11.row hox
        have ho9:OwnL w9 (w.heap.size+2) 32 11 OpD.cells (.slice A n c) (pre.filter pr):=HOW.out.only hk9.only (fun k q=>hg k (HOG.out k q))
        have y0:w9.cell? ⟨w.heap.size+1,0,none⟩=some (.slice A n c):=hl8.cell 0
        have HI9:=hD hi9;have HL9:=hD hl9;have HK9:=hD hk9;have HO9:=hD ho9;have HL8:=hD hl8
        have hq2:(pre.filter pr).length+1≤1000000000:=by rw[HN.out];omega
        have hq1:w.heap.size+2≤(w9.alloc (.cells #[.int .i64 x.id,.int .i64 x.proc,.int .i64 x.object,.int .i64 x.kind,.int .i64 x.method,.int .i64 x.arg,.int .i64 x.second,.bool x.done,.int .i64 x.result,.int .i64 x.invoke,.int .i64 x.ret] 32)).heap.size:=by rw[World.size_alloc];omega
        have HQ1:=hD hq1;have HQ2:=hD hq2
        clear hi9 hl9 hk9 hl8 hox ho9 hg hq1 hq2)
     | (with_reducible show wpListIn _ _ _ _ _ (({ dst:=_,op:=Op.call { callee:=Callee.builtin Builtin.append,args:=_,argTypes:=_},type:=_,pos:=_,after:=_,guard:=_}:Oper)::_) _ _
        go_loud (
         refine Y5z rfl (.tmp 12) (.tmp 14) rfl rfl (HO9.out.alloc _) HN.out HQ1.out w9.heap.size 1 x rfl (Row1.made w9 _ x.cells) HQ2.out ?_
         intro A6 c6 w6 ho6 hgr6 hwh6
         have hl6:Row1 w6 (w.heap.size+1) 30 [.slice A n c]:=(HL8.out.alloc _).grown hgr6 (fun e=>by have:=(HO9.out.lt _ e.symm).1;omega)
         have u0:w6.cell? ⟨w.heap.size+1,0,none⟩=some (.slice A n c):=hl6.cell 0
         have u1:w6.frozen? ⟨w.heap.size+1,0,none⟩=false:=hl6.soft 0
         have HO6:=hD ho6;have HGR:=hD hgr6;have HWH:=hD hwh6;have HL6:=hD hl6
         clear ho6 hgr6 hwh6 hl6)))
    have z9:=HK9.out.only.size
    have hg:∀i,G1 i→¬F1 i:=fun i q=>(HD.out.2 i q).2
    have hg9:∀i,G1 i→¬F9 i:=fun i q=>HK9.out.out (HD.out.2 i q).1 (hg i q)
    obtain⟨w7,hw7⟩:∃w7,w6.setCell ⟨w.heap.size+1,0,none⟩ (.slice A6 (n+1) c6)=w7:=⟨_,rfl⟩
    have ho7:Only (fun i=>i=w.heap.size+1) w6 w7:=hw7▸Only.setCell (F:=fun i=>i=w.heap.size+1) (p:=⟨w.heap.size+1,0,none⟩) Only.refl (.inl rfl) _
    have hr7:Row1 w7 (w.heap.size+1) 30 [.slice A6 (n+1) c6]:=hw7▸HL6.out.set 0 _
    have hown7:OwnL w7 (w.heap.size+2) 32 11 OpD.cells (.slice A6 (n+1) c6) (pre.filter pr++ [x]):=HO6.out.only ho7 (fun k q e=>by have:=(HO6.out.lt k q).1;omega)
    have ho97:Only (fun i=>(Value.slice A n c).ownBlock=some i∨i=w.heap.size+1) w9 w7:=((Only.of (Ext.alloc w9 (.cells #[.int .i64 x.id,.int .i64 x.proc,.int .i64 x.object,.int .i64 x.kind,.int .i64 x.method,.int .i64 x.arg,.int .i64 x.second,.bool x.done,.int .i64 x.result,.int .i64 x.invoke,.int .i64 x.ret] 32))).trans (Only.grown HGR.out) (fun i q=> .inl (.inl q))).trans ho7 (fun i q=> .inl (.inr q))
    have hO:∀i,((Value.slice A n c).ownBlock=some i∨i=w.heap.size+1)→G1 i:=fun i q=>by
     rcases q with q | rfl
     ·exact HOG.out i q
     ·exact HI.out.g1
    have hnew:∀i,(Value.slice A6 (n+1) c6).ownBlock=some i→G1 i∨w9.heap.size≤i:=fun i q=>by
     rcases HWH.out i q with r | r
     ·exact .inl (HOG.out i r)
     ·rw[World.size_alloc]at r;exact .inr (by omega)
    have z7:=ho97.size
    show Y6v It _ _ _ F1 G1 W _ _ _
    rw[hw7]
    have hos:∀i,((Value.slice A n c).ownBlock=some i∨i=w.heap.size+1)→w.heap.size+1≤i:=fun i q=>by
     rcases q with q | rfl
     ·have:=(HO9.out.lt i q).1;omega
     ·omega
    have hBl:∀i,B i→i<w.heap.size:=fun i q=>(HI.out.agr i q).1
    have hz0:=HI.out.size
    refine⟨F9,fun i=>G1 i∨(Value.slice A6 (n+1) c6).ownBlock=some i,HIT.out F9 w9 w7 HI9.out (ho97.mono (fun i q=> .inl ⟨hg9 i (hO i q),by have:=hos i q;omega⟩)),⟨fun i q=>Nat.lt_of_lt_of_le (HL9.out i q) z7,fun i q=> ?_⟩,⟨(HK9.out.only.mono (fun i q=> .inl (.inl q))).trans ho97 (fun i q=> .inl (.inr (hO i q))),fun i q=> ?_⟩,?_⟩
    ·rcases q with q | q
     ·exact⟨by have:=(HD.out.2 i q).1;omega,hg9 i q⟩
     ·refine⟨(hown7.lt i q).2,fun r=> ?_⟩
      rcases hnew i q with s | s
      ·exact hg9 i s r
      ·have:=HL9.out i r;omega
    ·rcases q with q | q | q
     ·rcases HK9.out.new i q with r | r
      ·exact .inl (.inl r)
      ·exact .inr r
     ·exact .inl (.inr q)
     ·rcases hnew i q with s | s
      ·exact .inl (.inr s)
      ·exact .inr (by omega)
    ·refine⟨fun i q=> .inl (HI.out.hB i q),.inl HI.out.g0,.inl HI.out.g1,(HI.out.agr.only HI.out.size HK9.out.only (fun i q=>hg i (HI.out.hB i q))).only (by omega) ho97 (fun i q r=>by have:=hos i r;have:=hBl i q;omega),by omega,ho97.row (HK9.out.only.row HI.out.ok (hg _ HI.out.g0)) (fun r=>by have:=hos _ r;omega),?_⟩
     rw[HFL.out,HN2.out]
     exact⟨A6,c6,hr7,hown7,fun k q=> .inr q⟩
 case done=>
  rintro D xs W F1 G1 jH rfl hI hit1 hd1 hn1 hn2 hk hK
  obtain⟨A,c,hl,hown,hog⟩:=hI.list
  have z0:W.cell? ⟨w.heap.size+1,0,none⟩=some (.slice A ((all.take k).filter pr).length c):=hl.cell 0
  have ho2:=Only.putObj W D (.deferred none)
  have HEND:Hid (OwnL (W.putObj D (.deferred none)) w.heap.size 32 11 OpD.cells (.slice A ((all.take k).filter pr).length c) ((all.take k).filter pr)∧∃F',It F' (W.putObj D (.deferred none))∧(∀i,F' i→i<(W.putObj D (.deferred none)).heap.size)∧Keeps F F' w (W.putObj D (.deferred none))∧∀b,(Value.slice A ((all.take k).filter pr).length c).ownBlock=some b→¬F' b):=by
   have hz:(W.putObj D (.deferred none)).heap.size=W.heap.size:=by simp
   have hag:=hI.agr
   have hkk:=((Only.of (F:=Un F (fun i=>B i∨i=w.heap.size∨i=w.heap.size+1)) hx).trans hk.only (fun i q=> .inl q)).trans ho2 (fun i q=> .inr (by omega))
   refine⟨(hown.lower (by omega)).only ho2 (fun k q e=>hn2 (e▸hog k q)),F1,HIT.out F1 W _ hit1 (ho2.mono (fun i q=> .inl ⟨fun r=>hn1 (q▸r),by omega⟩)),fun i q=>by rw[hz];exact hd1.1 i q,⟨⟨hkk.os,hkk.tape,hkk.output,hkk.size,fun i hi hnf=> ?_⟩,fun i q=> ?_⟩,fun b q=>(hd1.2 b (hog b q)).2⟩
   ·by_cases hbi:B i
    ·exact(World.putObj_heap_other (by omega)).trans (hag i hbi).2
    ·refine hkk.block i hi (fun r=> ?_)
     rcases r with r | r | r | r
     ·exact hnf r
     ·exact hbi r
     ·omega
     ·omega
   ·rcases hk.new i (.inl q)with (r | r | r | r) | r
    ·exact .inl r
    ·exact absurd q (hd1.2 i (hI.hB i r)).2
    ·exact .inr (by omega)
    ·exact .inr (by omega)
    ·exact .inr (by omega)
  have HK:=hD hK
  clear hk hit1 hd1 hK ho2 hl hown hog hI
  gi_wp2
  exact⟨by simp,.inl ⟨_,_,rfl,run_takeDeferred HK.out,_,results_tmp rfl _ _ _,.slice A ((all.take k).filter pr).length c,rfl,HEND.out⟩⟩
 case stop=>intro D c pre W F1 G1 _ _ h;exact h.elim
end
section
open Go.RowKit
attribute [local go_sem] Oper.semAt_some
theorem Y4y(l':Nat){n:Nat}{P:Program}{l:Nat}{f:FuncId}{tmps:Array Value}{assign body:Code}{w:World}{R:Ending→World→Prop}(h:RoundIn Fence.wide n P l f tmps assign body w R):RoundIn (Fence.wide.inRound l') n P l f tmps assign body w R:=⟨h.1,fun c cs _=>h.2 c cs (room_wide _)⟩
theorem V1w{A:Option Addr}{n c bt bw bf tb p:Nat}{ts:Nat→Nat}{F G:Nat→Prop}{S:StoreD}{Ts:Nat→TrD}{ls all:List OpD}{k:Nat}{J Jx:List OpD→(Nat→Prop)→World→Prop}(l way:Nat)(fl:List Int)(w:World)
 (hit0:ItF tb p ts bt S F w)(hdis0:Dis F G w)(hJ:Z2y J)(hJx:Z2y Jx)
 (hY:∀pre x W1 F1 G1,J pre G1 W1→ItF tb p ts bt S F1 W1→Dis F1 G1 W1→pre++ [x] <+: all.take k→YieldAt Fence.wide 0 Tryz.prog l (X6v x) W1 fun e W'=>
    ∃F2 G2,ItF tb p ts bt S F2 W'∧Dis F2 G2 W'∧Keeps (Un F1 G1) (Un F2 G2) W1 W'∧((e= .returned (.bool true)∧J (pre++ [x]) G2 W')∨(e= .returned (.bool false)∧Jx (pre++ [x]) G2 W')))
 (h0:J [] G w)(hT:Tab S Ts (fun _=>ls))(hd:∀i,i<5→depT (Ts i)≤31)(hw:way<5)
 (h2:Row1 w bw 3 [.int .i64 (way:Nat)])(h3:Row1 w bf 23 [.slice A n c])
 (hs:Sl w 1 (fun x cs=>cs=encN x) (.slice A n c) fl)(hl:∀x∈fl,In64 x)(h4:fl.length≤4)(hf:Finds Ts way (bts (keyL fl)) ls all k)(hal:all.length≤100000):
  Calls Tryz.prog 129 #[.func (.yield l) #[] #[],.pointer (some ⟨bf,0,none⟩),.pointer (some ⟨bt,0,none⟩),.pointer (some ⟨bw,0,none⟩)] w fun e w'=>
   (∃v,e= .returned v)∧QPost tb p ts bt S F G J Jx all k w w':=by
 obtain⟨Fp,rfl,ht,hp,h1,hnb⟩:=hit0
 have hFlow:∀i,Fp i→i<w.heap.size:=fun i q=>hdis0.1 i (.inl q)
 have hof:OfR fl= .tuple #[.string (bts (keyL fl)),.int .i64 0]:=by unfold OfR;rw[if_neg (by omega)]
 have hn4:n≤4:=by have:=hs.at.1;omega
 have cO:Hid (∀W,Ext w W→Calls Tryz.prog 68 #[.slice A n c] W fun e w'=>e= .returned (.tuple #[.string (bts (keyL fl)),.int .i64 0])∧Ext W w'):=fun W hW=>by rw[←hof];exact V7x fl W (hs.ext hW) hl (by omega)
 have cM:Hid (∀W,Ext w W→Calls Tryz.prog 70 #[tp tb] W fun e w'=>e= .returned (.bool true)∧W=w'):=fun W hW=>Z5p W (ht.ext hW).row
 have HC:Hid (∀W,Ext w W→W.cell? ⟨bt,0,none⟩=some (tp tb)∧W.cell? ⟨bw,0,none⟩=some (.int .i64 (way:Nat))∧W.cell? ⟨bf,0,none⟩=some (.slice A n c)):=fun W hW=>⟨(h1.ext hW h1.lt).cell 0,(h2.ext hW h2.lt).cell 0,(h3.ext hW h3.lt).cell 0⟩
 obtain⟨bg,hbg⟩:∃bg,bts (keyL fl)=bg:=⟨_,rfl⟩
 rw[hbg]at cO hf
 clear hof hbg hs hl h4
 refine callsIn_wide (n:=3).1 ?_
 refine callsIn_of_wp_marks Tryz.func129 rfl trivial ?_ rfl
 simp only[Tryz.ntmps129,List.size_toArray,List.length_cons,List.length_nil,Nat.reduceAdd,Nat.reduceSub,Array.replicate_succ,Array.replicate_zero,List.push_toArray,List.append_toArray,List.nil_append,List.cons_append]
 obtain⟨W0,hW0⟩:∃W0,w.alloc (.cells #[.func (.yield l) #[] #[]] 46)=W0:=⟨_,rfl⟩
 have HX0:Hid (Ext w W0):=by unfold Hid;rw[←hW0];exact Ext.alloc _ _
 have HY0:Hid (Row1 W0 w.heap.size 46 [.func (.yield l) #[] #[]]):=by unfold Hid;rw[←hW0];exact Row1.made w _ _
 obtain⟨d1,d2,d3⟩:=HC.out _ HX0.out
 have q1:decide ((way:Int)<0)=false:=decide_eq_false (by omega)
 have q2:decide ((5:Int)≤(way:Int))=false:=decide_eq_false (by omega)
 gi_wp2_with (first
  | (refine ⟨trivial,?_⟩;gi_at_call 68;refine(callsIn_wide.2 (cO.out _ HX0.out)).mono ?_;clear cO;rintro e w1 ⟨rfl,hb1⟩;have HB1:Hid (Ext w w1):=HX0.out.trans hb1;have HX1:=hD hb1;clear hb1;obtain⟨e1,e2,e3⟩:=HC.out _ (HB1.out.trans (Ext.alloc _ (.cells #[.string bg] 9))))
  | (refine ⟨trivial,?_⟩;gi_at_call 70;refine(callsIn_wide.2 (cM.out _ (HB1.out.trans (Ext.alloc _ _)))).mono ?_;clear cM;rintro e w2 ⟨rfl,rfl⟩))
 have hx2:Ext w (w1.alloc (.cells #[.string bg] 9)):=HB1.out.trans (Ext.alloc _ _)
 have HBS:Hid (Row1 (w1.alloc (.cells #[.string bg] 9)) w1.heap.size 9 [.string bg]):=Row1.made w1 _ _
 have HYY:Hid (Row1 (w1.alloc (.cells #[.string bg] 9)) w.heap.size 46 [.func (.yield l) #[] #[]]):=Row1.alloc (HY0.out.ext HX1.out HY0.out.lt) _
 have hzb:w.heap.size<w1.heap.size:=Nat.lt_of_lt_of_le HY0.out.lt HX1.out.size
 have HTC:Hid (w.cell? ⟨tb,way,none⟩=some (tp (ts way))):=by unfold Hid;rw[ht.row.cell way,Y6i _ _ _ hw,if_pos hw]
 have htbl:=ht.row.lt
 generalize hW2:w1.alloc _=W2 at *
 generalize w1.heap.size=bs at *
 have HX2:=hD hx2
 have HCC:Hid (∀W,Ext W2 W→W.cell? ⟨bt,0,none⟩=some (tp tb)∧W.cell? ⟨bw,0,none⟩=some (.int .i64 (way:Nat))∧W.cell? ⟨bs,0,none⟩=some (.string bg)∧W.cell? ⟨tb,way,none⟩=some (tp (ts way))):=fun W hW=>
  ⟨(HC.out _ (HX2.out.trans hW)).1,(HC.out _ (HX2.out.trans hW)).2.1,(HBS.out.ext hW HBS.out.lt).cell 0,((HX2.out.trans hW).cell (p:=⟨tb,way,none⟩) htbl).trans HTC.out⟩
 have cF:Hid (∀W,Calls Tryz.prog 71 #[.pointer (some ⟨ts way,0,none⟩),.string bg] W (V3j (ts way) bg W)):=fun W=>X3r (ts way) bg W
 have hw0:(0:Int)≤(way:Int):=by omega
 have hw5:(way:Int)<5:=by omega
 clear hW2 hx2 e1 e2 e3 hW0 d1 d2 d3
 refine Y4m (wpIn_wide.2 ?_)
 refine wp_region_held_drew (S:=fun W=>W.cell? ⟨bt,0,none⟩=some (tp tb)∧W.cell? ⟨bw,0,none⟩=some (.int .i64 (way:Nat))∧W.cell? ⟨bs,0,none⟩=some (.string bg)∧W.cell? ⟨tb,way,none⟩=some (tp (ts way))) (by kernel_rfl) (HCC.out _ (by exact Xt)) (fun hHeld=> ?_)
 refine' tk 0 ?_
 refine' tk 1 ?_
 refine' tk 2 ?_
 refine' tk 3 ?_
 refine' tk 4 ?_
 refine' tk 5 ?_
 refine' tk 6 ?_
 refine stp 7 (fun K hK=> ?_);go_simp
 (with_reducible refine(cF.out _).mono ?_)
 rintro e w3 ⟨fb,kb,rfl,h31,h32,h33,h34,h35⟩
 have HX3:Hid (Ext W2 w3):=Ext.trans (by exact Xt) h31
 (try dsimp only)
 (try go_simp)
 refine hK.out _ _ (HCC.out _ HX3.out) (fun hHeld=> ?_)
 clear hK K
 refine pt ?_
 refine wpAnyH_done (by kernel_rfl) ?_ _
 dsimp only[V5i]
 gi_wp2
 have hw3:Ext w w3:=HX2.out.trans HX3.out
 have hz3:=HX3.out.size
 have hzw:=HX2.out.size
 have hbs:=HBS.out.lt
 have hyy:=HYY.out.lt
 have hbt:=h1.lt
 have hbw:=h2.lt
 have hfb:W2.heap.size≤fb:=h32
 have hkb:W2.heap.size≤kb:=h33
 have hfl:=h34.lt
 have hkl:=h35.lt
 have hsz:W2.heap.size≤w3.heap.size:=hz3
 have htl:∀j,j<5→ts j<w.heap.size:=fun j hj=>(ht.tree j hj).lt
 have hT1:∀i,T1 tb ts bt i→i<w.heap.size∧¬Fp i∧¬G i:=fun i q=>⟨hdis0.1 i (.inr q),by
  rcases q with rfl | ⟨j,hj5,rfl⟩ | rfl
  ·exact ht.out
  ·exact ht.outs j hj5
  ·exact hnb,fun r=>(hdis0.2 i r).2 (.inr q)⟩
 have hT2:∀i,(i=bs∨i=w.heap.size∨i=fb∨i=kb)→w.heap.size≤i∧i<w3.heap.size:=fun i q=>by rcases q with rfl | rfl | rfl | rfl<;>omega
 have hn12:∀i,(i=bs∨i=w.heap.size∨i=fb∨i=kb)→¬T1 tb ts bt i:=fun i q r=>by have:=hT2 i q;have:=(hT1 i r).1;omega
 have hTF:∀i,TQ tb ts bt bs w.heap.size fb kb i→i<w3.heap.size∧¬Fp i∧¬G i:=fun i q=>by
  rcases q with q | q
  ·have:=hT1 i q;exact⟨by omega,this.2⟩
  ·have:=hT2 i q;exact⟨this.2,fun r=>by have:=hFlow i r;omega,fun r=>by have:=(hdis0.2 i r).1;omega⟩
 have HFR:Hid (QRows tb p ts bt bs w.heap.size l bg w3):=⟨ht.row.ext hw3 ht.row.lt,fun j hj5=>(ht.tree j hj5).ext hw3 (ht.tree j hj5).lt,h1.ext hw3 h1.lt,HBS.out.ext HX3.out hbs,HYY.out.ext HX3.out hyy⟩
 have HIT:Hid (ItT p (ts way) way S (fun b=>b=fb∨b=kb) Fp w3):=⟨hp.ext hw3,(ht.tree way hw).ext hw3 (ht.tree way hw).lt,ht.outs way hw,fun b q=>⟨fun r=>by have:=hFlow b r;rcases q with rfl | rfl<;>omega,by rcases q with rfl | rfl<;>omega⟩⟩
 have HDI:Hid (Dis Fp (fun i=>G i∨TQ tb ts bt bs w.heap.size fb kb i) w3):=⟨fun i q=>by have:=hFlow i q;omega,fun i q=>by
  rcases q with q | q
  ·exact⟨by have:=(hdis0.2 i q).1;omega,fun r=>(hdis0.2 i q).2 (.inl r)⟩
  ·exact⟨(hTF i q).1,(hTF i q).2.1⟩⟩
 have HFI:Hid (QI tb p ts bt bs w.heap.size fb kb l way bg J all k [] (fun i=>G i∨TQ tb ts bt bs w.heap.size fb kb i) w3):=⟨G,rfl,fun i q=>(hTF i q).2.2,rfl,Nat.zero_le _,Nat.zero_le _,HFR.out,by rw[List.length_nil,List.take_zero];exact hJ _ _ _ _ h0 (fun i q=>(hdis0.2 i q).1) (Only.of hw3)⟩
 have HE:Hid (∀(D:Nat) (W:World) (F1 Gc1:Nat→Prop) (j:Nat),w3.heap.size≤D→(∀i,TQ tb ts bt bs w.heap.size fb kb i→¬Gc1 i)→j≤k→j≤all.length→QRows tb p ts bt bs w.heap.size l bg W→((j=k∧J (all.take j) Gc1 W)∨Jx (all.take j) Gc1 W)→ItT p (ts way) way S (fun b=>b=fb∨b=kb) F1 W→Dis F1 (fun i=>Gc1 i∨TQ tb ts bt bs w.heap.size fb kb i) W→¬F1 D→¬(Gc1 D∨TQ tb ts bt bs w.heap.size fb kb D)→Keeps (Un Fp (fun i=>G i∨TQ tb ts bt bs w.heap.size fb kb i)) (Un F1 (fun i=>Gc1 i∨TQ tb ts bt bs w.heap.size fb kb i)) w3 W→
   QPost tb p ts bt S (fun i=>Fp i∨T1 tb ts bt i) G J Jx all k w (W.putObj D (.deferred none))):=fun D W F1 Gc1 j jH hg1 hjk hja hfr hfj hit hdd hn1' hn2' hk=>by
  have ho:=Only.putObj W D (.deferred none)
  have hz:(W.putObj D (.deferred none)).heap.size=W.heap.size:=by simp
  have hfr2:=hfr.only (fb:=fb) (kb:=kb) ho (fun i q r=>hn2' (.inr (r▸q)))
  have hJo:Only (fun i=>¬Gc1 i) W (W.putObj D (.deferred none)):=ho.mono (fun i q=> .inl (fun r=>hn2' (.inl (q▸r))))
  have hnew:∀i,Un F1 (fun i=>Gc1 i∨TQ tb ts bt bs w.heap.size fb kb i) i→Un (fun i=>Fp i∨T1 tb ts bt i) G i∨w.heap.size≤i:=fun i q=>by
   rcases hk.new i q with (s | s | s | s) | s
   ·exact .inl (.inl (.inl s))
   ·exact .inl (.inr s)
   ·exact .inl (.inl (.inr s))
   ·exact .inr (hT2 i s).1
   ·exact .inr (by have:=hw3.size;omega)
  constructor
  refine⟨fun i=>F1 i∨T1 tb ts bt i,Gc1,⟨F1,rfl,hfr2.tbl (fb:=fb) (kb:=kb) (fun i q=>(hdd.2 i (.inr q)).2),hit.1.only ho (fun i q r=>hn1' (r▸q)),hfr2.rt,(hdd.2 bt (.inr (.inl (.inr (.inr rfl))))).2⟩,⟨fun i q=> ?_,fun i q=>⟨by rw[hz];exact(hdd.2 i (.inl q)).1,fun r=> ?_⟩⟩,⟨?_,fun i q=> ?_⟩,?_⟩
  ·rw[hz]
   rcases q with q | q
   ·exact hdd.1 i q
   ·exact(hdd.2 i (.inr (.inl q))).1
  ·rcases r with r | r
   ·exact(hdd.2 i (.inl q)).2 r
   ·exact hg1 i (.inl r) q
  ·refine((Only.of hw3).trans hk.only (fun i q=> ?_)).trans ho (fun i q=> .inr (by have:=hw3.size;omega))
   rcases q with s | s | s | s
   ·exact .inl (.inl (.inl s))
   ·exact .inl (.inr s)
   ·exact .inl (.inl (.inr s))
   ·exact .inr (hT2 i s).1
  ·rcases q with (q | q) | q
   ·exact hnew i (.inl q)
   ·exact .inl (.inl (.inr q))
   ·exact hnew i (.inr (.inl q))
  ·rcases hfj with ⟨q1,q2⟩ | q
   ·exact .inl ⟨_,by rw[q1],hJ _ _ _ _ q2 (fun i q=>(hdd.2 i (.inl q)).1) hJo⟩
   ·exact .inr ⟨_,List.take_prefix_take_left hjk,hJx _ _ _ _ q (fun i q=>(hdd.2 i (.inl q)).1) hJo⟩
 have HGET:Hid (∀o,o∈ls→getL ls o.id=some o):=fun o ho=>X3q (hT.ids 0 (by omega)) ho
 refine V9i (motive:=fun a=>Code.wpIn Fence.wide 3 Tryz.prog _ _ a _) (fun a0 hA0=> ?_)
 refine Z5s rfl (by decide) (gf:=131) (lb:=#[.pointer (some ⟨fb,0,none⟩),.pointer (some ⟨kb,0,none⟩)]) (by rw[hA0];rfl) trivial (enters_of Tryz.func131 (by kernel_rfl) rfl)
  (Y9r (K:=fun b=>b=fb∨b=kb) bg (Ts way) w3 (hT.tr way hw) (Y1q (hd way hw)) (by omega) h34 h35 (.inl rfl) (.inr rfl)) (Ext.refl w3) (fun _=>rfl) Fp (fun i=>G i∨TQ tb ts bt bs w.heap.size fb kb i) (ItT.abides (p:=p) (i:=way) (Nat.lt_of_lt_of_le (htl way hw) hw3.size))
  HIT.out HDI.out (QI tb p ts bt bs w.heap.size fb kb l way bg J all k)
  (fun c pre G W=>c= .ret∧QX tb p ts bt bs w.heap.size fb kb l bg J Jx all k G W)
  (QI.abides hJ) (fun c s G W W' q q2 q3=>⟨q.1,QX.abides hJ hJx G W W' q.2 q2 q3⟩) HFI.out
  (fun x=> { tmps:=(((a0.tmps.setIfInBounds 40 (.string x.1)).setIfInBounds 41 (.string x.2)).setIfInBounds 7 (.string x.1)),defers:= []}) ?assign ?body ?done ?stop
 case assign=>
  intro l x W K hK
  subst hA0
  simp only[V6t,V8f,List.setIfInBounds_toArray,List.set_cons_succ,List.set_cons_zero]at hK ⊢
  gi_wp2
  exact hK
 case body=>
  rintro l' pre x W F1 G1 ⟨Gc1,rfl,hg1,hpre,hpk,hpa,hfr,hfj⟩ hit hdd hok
  rw[hf.outs]at hok
  obtain⟨m,hm⟩:∃m,pre.length=m:=⟨_,rfl⟩
  rw[hm]at hpre hpk hpa hfj
  have hxm:all[m]?.map (kvW way)=some x:=by
   have e1:(pre++ [x])[m]? =some x:=by rw[←hm];simp
   obtain⟨r,hr⟩:=hok
   have e2:(all.map (kvW way))[m]? =some x:=by rw[←hr,List.getElem?_append_left (by rw[List.length_append,hm];simp)];exact e1
   rwa [List.getElem?_map]at e2
  have hml:m<all.length:=by
   rcases Nat.lt_or_ge m all.length with q | q
   ·exact q
   ·rw[List.getElem?_eq_none q]at hxm;cases hxm
  obtain⟨o,hoe⟩:∃o,all[m]=o:=⟨_,rfl⟩
  rw[List.getElem?_eq_getElem hml,hoe]at hxm
  obtain rfl:kvW way o=x:=by injection hxm
  have hol:o∈ls:=by rw[←hoe];exact hf.mem _ (List.getElem_mem hml)
  have hoc:=hT.ok way hw o hol
  have c5:W.cell? ⟨bs,0,none⟩=some (.string bg):=hfr.rs.cell 0
  have c2:W.cell? ⟨bt,0,none⟩=some (tp tb):=hfr.rt.cell 0
  have cU:=X7y (wayK way o) bg W
  have HFRW:=hD hfr
  have HFJW:=hD hfj
  have HITW:=hD hit
  have HDDW:=hD hdd
  have HTAB:=hD hT
  have HFS:=hD hf
  clear hfr hfj hit hdd hT
  subst hA0
  dsimp only[kvW]
  simp only[List.setIfInBounds_toArray,List.set_cons_succ,List.set_cons_zero]
  cases hu:Z2j (wayK way o) bg with
  | false=>
    rw[hu]at cU
    gi_wp2_with (refine ⟨trivial,?_⟩;gi_at_call 73;refine(CallsIn.inRound l' (callsIn_wide.2 cU)).mono ?_;clear cU;rintro e w5 ⟨rfl,rfl⟩)
    have hmk:m=k:=by
     rcases Nat.lt_or_ge m k with q | q
     ·have:=hf.under m hml q
      rw[hoe,hu]at this;cases this
     ·omega
    exact⟨F1,_,HITW.out,HDDW.out,Keeps.refl,rfl,Gc1,m,rfl,hg1,hpk,hpa,HFRW.out,.inl ⟨hmk,HFJW.out⟩⟩
  | true=>
    rw[hu]at cU
    have hmk:m<k:=by
     rcases Nat.lt_or_ge m k with q | q
     ·exact q
     ·have e:m=k:=by omega
      subst e
      have:=hf.stop hml
      rw[hoe,hu]at this;cases this
    have hin:=OpIn.of hoc
    have hwl:=Y1i way o
    have cS:Calls Tryz.prog 72 #[.string (wayK way o)] W fun e w'=>∃v,e= .returned (.tuple #[v,.int .i64 0])∧OwnL w' W.heap.size 3 1 encN v (wayL way o)∧Ext W w':=X8k (wayL way o) W (hin.way way) (by omega)
    have HIN:=hD hin
    clear hin
    gi_wp2_with (first
     | (refine ⟨trivial,?_⟩;gi_at_call 73;refine(CallsIn.inRound l' (callsIn_wide.2 cU)).mono ?_;clear cU;rintro e w5 ⟨rfl,rfl⟩)
     | (refine ⟨trivial,?_⟩;gi_at_call 72;refine(CallsIn.inRound l' (callsIn_wide.2 cS)).mono ?_;clear cS;rintro e w6 ⟨v6,rfl,ho6,hx6⟩;obtain⟨sb,c6,q6,rfl,hq6,hb6,hs6,hc6⟩:=X5c ho6;have HX6:=hD hx6;clear ho6 hx6))
    have hz6:=HX6.out.size
    have HFR6:Hid (QRows tb p ts bt bs w.heap.size l bg w6):=HFRW.out.only (fb:=fb) (kb:=kb) (Only.of (F:=fun _=>False) HX6.out) (fun _ _ q=>q)
    have HIT6:=hD (HITW.out.ext HX6.out)
    have hF6:∀i,F1 i→i<W.heap.size:=HDDW.out.1
    have HTT:Hid (TblAt w6 tb p ts F1):=HFR6.out.tbl (fb:=fb) (kb:=kb) (fun i q=>(HDDW.out.2 i (.inr q)).2)
    have hid64:In64 o.id:=by have:=HIN.out.id;unfold In64;omega
    have hgl:getL ls o.id=some o:=HGET.out o hol
    have cG:Hid (∀W',Ext w6 W'→Calls Tryz.prog 60 #[tp tb,.int .i64 o.id] W' fun e w'=>e= .returned (.tuple #[.agg #[.int .i64 o.id,.int .i64 o.proc,.int .i64 o.object,.int .i64 o.kind,.int .i64 o.method,.int .i64 o.arg,.int .i64 o.second,.bool o.done,.int .i64 o.result,.int .i64 o.invoke,.int .i64 o.ret],.int .i64 0])∧∃F',(∀i,F' i→i<w'.heap.size)∧PagerAt w' p F' S∧Keeps F1 F' W' w'):=fun W' hW=>by
     have h1:=Z6y o.id W' (HTT.out.ext hW) (HIT6.out.1.ext hW) HTAB.out (hd 0 (by omega)) hid64
     rw[hgl]at h1
     exact h1.mono (fun e w' ⟨q0,F',q1,q2,q3⟩=>⟨q0,fun i=>F' i∧i<w'.heap.size,fun i q=>q.2,q2.shrink,q3.shrink⟩)
    have hq0:IntKind.i64.wrap (q6:Int)=q6:=by rw[IntKind.wrap_i64];omega
    have hq1:(q6:Int)<(q6:Int)+1:=by omega
    have hq2:(0:Int)≤(q6:Int):=by omega
    have hq3:((q6:Int)).toNat=q6:=by omega
    have HCS:Hid (∀W',Ext w6 W'→W'.cell? ⟨bt,0,none⟩=some (tp tb)∧W'.cell? ⟨sb,q6,none⟩=some (.int .i64 o.id)):=fun W' hW=>⟨(HFR6.out.rt.ext hW HFR6.out.rt.lt).cell 0,(hW.cell (p:=⟨sb,q6,none⟩) hs6).trans hc6⟩
    have hnbt:¬F1 bt:=(HDDW.out.2 _ (.inr (.inl (.inr (.inr rfl))))).2
    have hnsb:¬F1 sb:=fun q=>by have:=hF6 _ q;omega
    have hn6:¬F1 w6.heap.size:=fun q=>by have:=hF6 _ q;omega
    have HC7:Hid (∀(F7:Nat→Prop) (w7 W':World),Keeps F1 F7 w6 w7→Ext w7 W'→W'.cell? ⟨bt,0,none⟩=some (tp tb)∧W'.cell? ⟨sb,q6,none⟩=some (.int .i64 o.id)):=fun F7 w7 W' hk hx=>by
     have hr:=hk.only.row HFR6.out.rt hnbt
     have hz:=hk.only.size
     exact⟨(hr.ext hx hr.lt).cell 0,(hx.cell (p:=⟨sb,q6,none⟩) (by show sb<_;omega)).trans ((hk.only.cell hs6 hnsb).trans hc6)⟩
    have HPL:=hD hm
    have htl':(all.take m).length=m:=by rw[List.length_take];omega
    have htk:all.take m++ [o]=all.take (m+1):=by rw[List.take_add_one,List.getElem?_eq_getElem hml,hoe];rfl
    have HTK:Hid (((all.take m).length:Nat)=m∧all.take m++ [o]=all.take (m+1)):=⟨htl',htk⟩
    have HPX:Hid (pre++ [kvW way o]=(all.take (m+1)).map (kvW way)):=by unfold Hid;rw[←htk,List.map_append,←hpre];rfl
    have HJ8:Hid (∀F7 w8,Keeps F1 F7 w6 w8→J (all.take m) Gc1 w8):=fun F7 w8 hk=>hJ _ _ _ _ HFJW.out (fun i q=>(HDDW.out.2 i (.inl q)).1) (((Only.of HX6.out).trans hk.only (fun i q=> .inl q)).mono (fun i q=> .inl (fun r=>(HDDW.out.2 i (.inl r)).2 q)))
    have HI8:Hid (∀F7 w8,Keeps F1 F7 w6 w8→(∀i,F7 i→i<w8.heap.size)→PagerAt w8 p F7 S→QRows tb p ts bt bs w.heap.size l bg w8∧ItF tb p ts bt S (fun i=>F7 i∨T1 tb ts bt i) w8∧Dis (fun i=>F7 i∨T1 tb ts bt i) Gc1 w8):=fun F7 w8 hk hlow hp8=>by
     have hq8:QRows tb p ts bt bs w.heap.size l bg w8:=HFR6.out.only (fb:=fb) (kb:=kb) hk.only (fun i q=>(HDDW.out.2 i (.inr q)).2)
     have hz8:=hk.only.size
     have hTF7:∀i,TQ tb ts bt bs w.heap.size fb kb i→¬F7 i:=fun i q=>hk.out (by have:=(HDDW.out.2 i (.inr q)).1;omega) (HDDW.out.2 i (.inr q)).2
     refine⟨hq8,⟨F7,rfl,hq8.tbl (fb:=fb) (kb:=kb) hTF7,hp8,hq8.rt,hTF7 _ (.inl (.inr (.inr rfl)))⟩,fun i q=> ?_,fun i q=>⟨by have:=(HDDW.out.2 i (.inl q)).1;omega,fun r=> ?_⟩⟩
     ·rcases q with q | q
      ·exact hlow i q
      ·have:=(HDDW.out.2 i (.inr (.inl q))).1;omega
     ·rcases r with r | r
      ·exact hk.out (by have:=(HDDW.out.2 i (.inl q)).1;omega) (HDDW.out.2 i (.inl q)).2 r
      ·exact hg1 i (.inl r) q
    have HOK:Hid (all.take m++ [o] <+: all.take k):=by unfold Hid;rw[htk];exact List.take_prefix_take_left (by omega)
    have HROUND:Hid (∀(F7 F8' G8:Nat→Prop) (w8 w9:World),Keeps F1 F7 w6 w8→QRows tb p ts bt bs w.heap.size l bg w8→ItF tb p ts bt S F8' w9→Dis F8' G8 w9→Keeps (Un (fun i=>F7 i∨T1 tb ts bt i) Gc1) (Un F8' G8) w8 w9→
      ∃F8:Nat→Prop,ItT p (ts way) way S (fun b=>b=fb∨b=kb) F8 w9∧Dis F8 (fun i=>G8 i∨TQ tb ts bt bs w.heap.size fb kb i) w9∧Keeps (Un F1 (fun i=>Gc1 i∨TQ tb ts bt bs w.heap.size fb kb i)) (Un F8 (fun i=>G8 i∨TQ tb ts bt bs w.heap.size fb kb i)) W w9∧(∀i,TQ tb ts bt bs w.heap.size fb kb i→¬G8 i)∧QRows tb p ts bt bs w.heap.size l bg w9):=fun F7 F8' G8 w8 w9 hk hq8 hi9 hd9 hk9=>X8z hw HX6.out HITW.out HDDW.out hg1 hn12 hk hq8 hi9 hd9 hk9
    clear hm hpre htl' htk
    refine Y4m ?_
    refine V4l (S:=fun W=>W.cell? ⟨bt,0,none⟩=some (tp tb)∧W.cell? ⟨sb,q6,none⟩=some (.int .i64 o.id)) (by kernel_rfl) (by kernel_rfl) (HCS.out _ (by exact Xt)) (fun hHeld=> ?_)
    refine' tkW 0 ?_
    refine' tkW 1 ?_
    refine' tkW 2 ?_
    refine' tkW 3 ?_
    refine' tkW 4 ?_
    refine' tkW 5 ?_
    refine' tkW 6 ?_
    refine Y5v (rs:= [7,11]) (by kernel_rfl) (by simp) ?_;refine AllReadyW.cons rfl (fun K hK=> ?_) (AllReadyW.cons rfl (fun K hK=> ?_) (AllReadyW.nil))
    ·go_simp
     (with_reducible refine(cG.out _ ?_).mono ?_)
     ·exact Xt
     rintro e w7 ⟨rfl,F7,ht7,hp7,hk7⟩
     have HLOW:=hD ht7
     have HK7:Hid (Keeps F1 F7 w6 w7):=Keeps.trans (Keeps.of (by exact Xt)) hk7
     have HP7:=hD hp7
     clear ht7 hp7 hk7
     (try dsimp only)
     (try go_simp)
     refine hK.out _ _ (HC7.out _ _ _ HK7.out (Ext.refl _)) (fun hHeld=> ?_)
     clear hK K
     refine ptW ?_
     refine' tkW 8 ?_
     refine' tkW 9 ?_
     refine' tkW 10 ?_
     refine stpW 11 (fun K hK=> ?_);go_simp
     skip
     refine hK.out _ _ (HC7.out _ _ _ HK7.out (by exact Xt)) (fun hHeld=> ?_)
     clear hK K
     refine ptW ?_
     refine stpW 12 (fun K hK=> ?_);go_simp
     generalize hw8:World.alloc _ _=w8
     have HZ:Hid (Keeps F1 F7 w6 w8∧Row1 w8 w7.heap.size 32 o.cells∧PagerAt w8 p F7 S∧∀i,F7 i→i<w8.heap.size):=by unfold Hid;rw[←hw8];exact⟨HK7.out.ext (Ext.alloc _ _),Row1.made w7 _ o.cells,HP7.out.ext (Ext.alloc _ _),fun i q=>Nat.lt_of_lt_of_le (HLOW.out i q) (Ext.alloc _ _).size⟩
     clear hw8
     refine hK.out _ _ (HC7.out _ _ _ HZ.out.1 (Ext.refl _)) (fun hHeld=> ?_)
     clear hK K
     refine ptW ?_
     refine' tkW 13 ?_
     refine Y4b (by kernel_rfl) ?_ _
     generalize w7.heap.size=D at *
     dsimp only[V5i]
     obtain⟨o0,o1,o2,o3,o4,o5,o6,o7,o8,o9,o10⟩:=At11.row HZ.out.2.1
     obtain⟨hq8,hi8,hd8⟩:=HI8.out F7 w8 HZ.out.1 HZ.out.2.2.2 HZ.out.2.2.1
     have HQ8:=hD hq8
     have y0:w8.cell? ⟨w.heap.size,0,none⟩=some (.func (.yield l) #[] #[]):=hq8.ry.cell 0
     obtain⟨fn9,tm9,as9,bo9,hy9,hR9⟩:=hY (all.take m) o w8 _ Gc1 (HJ8.out F7 w8 HZ.out.1) hi8 hd8 HOK.out
     dsimp only[X6v]at hy9
     have hy8:(Instr.yield l #[.agg #[.int .i64 o.id,.int .i64 o.proc,.int .i64 o.object,.int .i64 o.kind,.int .i64 o.method,.int .i64 o.arg,.int .i64 o.second,.bool o.done,.int .i64 o.result,.int .i64 o.invoke,.int .i64 o.ret]]).run Tryz.prog w8= .ok (.round l fn9 tm9 as9 bo9) w8:=hy9
     have HR9:=hD hR9
     clear hq8 hi8 hd8 hy9 hR9
     gi_wp2_with fail
     refine RoundIn.mono (Y4y l' HR9.out) ?_
     rintro e w9 ⟨F8',G8,hi9,hd9,hk9,hj9⟩
     have HFIN:=hD (HROUND.out F7 F8' G8 w8 w9 HZ.out.1 HQ8.out hi9 hd9 hk9)
     rw[HTK.out.2]at hj9
     clear hi9 hd9 hk9
     rcases hj9 with ⟨rfl,hj8⟩ | ⟨rfl,hj8⟩
     ·have HJ9:=hD hj8
      clear hj8
      gi_wp2
      obtain⟨F9,r1,r2,r3,r4,r5⟩:=HFIN.out
      exact⟨F9,_,r1,r2,r3,G8,rfl,r4,by rw[List.length_append,HPL.out,List.length_singleton];exact HPX.out,by rw[List.length_append,HPL.out,List.length_singleton];exact hmk,by rw[List.length_append,HPL.out,List.length_singleton];exact hml,r5,by rw[List.length_append,HPL.out,List.length_singleton];exact HJ9.out⟩
     ·have HJ9:=hD hj8
      clear hj8
      gi_wp2
      obtain⟨F9,r1,r2,r3,r4,r5⟩:=HFIN.out
      exact⟨F9,_,r1,r2,r3,rfl,G8,m+1,rfl,r4,hmk,hml,r5,.inr HJ9.out⟩
    ·go_simp
     skip
     refine hK.out _ _ (HCS.out _ (by exact Xt)) (fun hHeld=> ?_)
     clear hK K
     refine ptW ?_
     refine stpW 7 (fun K hK=> ?_);go_simp
     (with_reducible refine(cG.out _ ?_).mono ?_)
     ·exact Xt
     rintro e w7 ⟨rfl,F7,ht7,hp7,hk7⟩
     have HLOW:=hD ht7
     have HK7:Hid (Keeps F1 F7 w6 w7):=Keeps.trans (Keeps.of (by exact Xt)) hk7
     have HND:Hid (¬F7 w6.heap.size):=hk7.out (by simp) hn6
     have HRD:Hid (Row1 w7 w6.heap.size 32 opZero.cells):=hk7.only.row (Row1.made' (by simp) _ opZero.cells) hn6
     have HP7:=hD hp7
     clear ht7 hp7 hk7
     (try dsimp only)
     (try go_simp)
     refine hK.out _ _ (HC7.out _ _ _ HK7.out (Ext.refl _)) (fun hHeld=> ?_)
     clear hK K
     refine ptW ?_
     refine' tkW 8 ?_
     refine' tkW 9 ?_
     refine' tkW 10 ?_
     obtain⟨a0,a1,a2,a3,a4,a5,a6,a7,a8,a9,a10⟩:=Z1q (show Row1 w7 w6.heap.size 32 [.int .i64 0,.int .i64 0,.int .i64 0,.int .i64 0,.int .i64 0,.int .i64 0,.int .i64 0,.bool false,.int .i64 0,.int .i64 0,.int .i64 0]from HRD.out)
     obtain⟨f0,f1,f2,f3,f4,f5,f6,f7,f8,f9,f10⟩:=Z4c HRD.out
     refine stpW 12 (fun K hK=> ?_);go_simp
     have HO8:=hD (Z7e w7 w6.heap.size (.int .i64 o.id) (.int .i64 o.proc) (.int .i64 o.object) (.int .i64 o.kind) (.int .i64 o.method) (.int .i64 o.arg) (.int .i64 o.second) (.bool o.done) (.int .i64 o.result) (.int .i64 o.invoke) (.int .i64 o.ret))
     have HR8:=hD (Z5a (show Row1 w7 w6.heap.size 32 [.int .i64 0,.int .i64 0,.int .i64 0,.int .i64 0,.int .i64 0,.int .i64 0,.int .i64 0,.bool false,.int .i64 0,.int .i64 0,.int .i64 0]from HRD.out) (.int .i64 o.id) (.int .i64 o.proc) (.int .i64 o.object) (.int .i64 o.kind) (.int .i64 o.method) (.int .i64 o.arg) (.int .i64 o.second) (.bool o.done) (.int .i64 o.result) (.int .i64 o.invoke) (.int .i64 o.ret))
     generalize hw8:World.setCell _ _ _=w8 at HO8 HR8 ⊢
     have HZ:Hid (Keeps F1 F7 w6 w8∧Row1 w8 w6.heap.size 32 o.cells∧PagerAt w8 p F7 S∧∀i,F7 i→i<w8.heap.size):=⟨⟨HK7.out.only.trans HO8.out (fun i q=> .inr (by omega)),HK7.out.new⟩,HR8.out,HP7.out.only HO8.out (fun i q e=>HND.out (e▸q)),fun i q=>Nat.lt_of_lt_of_le (HLOW.out i q) HO8.out.size⟩
     clear hw8 a0 a1 a2 a3 a4 a5 a6 a7 a8 a9 a10 f0 f1 f2 f3 f4 f5 f6 f7 f8 f9 f10
     refine hK.out _ _ (HC7.out _ _ _ HZ.out.1 (Ext.refl _)) (fun hHeld=> ?_)
     clear hK K
     refine ptW ?_
     refine' tkW 13 ?_
     refine Y4b (by kernel_rfl) ?_ _
     generalize w6.heap.size=D at *
     dsimp only[V5i]
     obtain⟨o0,o1,o2,o3,o4,o5,o6,o7,o8,o9,o10⟩:=At11.row HZ.out.2.1
     obtain⟨hq8,hi8,hd8⟩:=HI8.out F7 w8 HZ.out.1 HZ.out.2.2.2 HZ.out.2.2.1
     have HQ8:=hD hq8
     have y0:w8.cell? ⟨w.heap.size,0,none⟩=some (.func (.yield l) #[] #[]):=hq8.ry.cell 0
     obtain⟨fn9,tm9,as9,bo9,hy9,hR9⟩:=hY (all.take m) o w8 _ Gc1 (HJ8.out F7 w8 HZ.out.1) hi8 hd8 HOK.out
     dsimp only[X6v]at hy9
     have hy8:(Instr.yield l #[.agg #[.int .i64 o.id,.int .i64 o.proc,.int .i64 o.object,.int .i64 o.kind,.int .i64 o.method,.int .i64 o.arg,.int .i64 o.second,.bool o.done,.int .i64 o.result,.int .i64 o.invoke,.int .i64 o.ret]]).run Tryz.prog w8= .ok (.round l fn9 tm9 as9 bo9) w8:=hy9
     have HR9:=hD hR9
     clear hq8 hi8 hd8 hy9 hR9
     gi_wp2_with fail
     refine RoundIn.mono (Y4y l' HR9.out) ?_
     rintro e w9 ⟨F8',G8,hi9,hd9,hk9,hj9⟩
     have HFIN:=hD (HROUND.out F7 F8' G8 w8 w9 HZ.out.1 HQ8.out hi9 hd9 hk9)
     rw[HTK.out.2]at hj9
     clear hi9 hd9 hk9
     rcases hj9 with ⟨rfl,hj8⟩ | ⟨rfl,hj8⟩
     ·have HJ9:=hD hj8
      clear hj8
      gi_wp2
      obtain⟨F9,r1,r2,r3,r4,r5⟩:=HFIN.out
      exact⟨F9,_,r1,r2,r3,G8,rfl,r4,by rw[List.length_append,HPL.out,List.length_singleton];exact HPX.out,by rw[List.length_append,HPL.out,List.length_singleton];exact hmk,by rw[List.length_append,HPL.out,List.length_singleton];exact hml,r5,by rw[List.length_append,HPL.out,List.length_singleton];exact HJ9.out⟩
     ·have HJ9:=hD hj8
      clear hj8
      gi_wp2
      obtain⟨F9,r1,r2,r3,r4,r5⟩:=HFIN.out
      exact⟨F9,_,r1,r2,r3,rfl,G8,m+1,rfl,r4,hmk,hml,r5,.inr HJ9.out⟩
 case done=>
  rintro D pre0 W F1 G1 jH hxs ⟨Gc1,rfl,hg1,hpre,hpk,hpa,hfr,hfj⟩ hit hdd hn1' hn2' hk hK
  have hpk':pre0.length=k:=by
   have:=hf.le
   have e:=congrArg List.length hxs
   rw[hf.outs,List.length_map]at e
   omega
  have HFIN:=HE.out D W F1 Gc1 _ jH hg1 hpk hpa hfr (.inl ⟨hpk',hfj⟩) hit hdd hn1' hn2' hk
  have HK:=hD hK
  have HFN:=hD HFIN
  clear hk hit hdd hK hfr hfj HFIN
  subst hA0
  gi_wp2
  exact⟨by simp,.inl ⟨_,_,rfl,run_takeDeferred HK.out,_,results_none rfl _ _ _,⟨_,rfl⟩,HFN.out⟩⟩
 case stop=>
  rintro D c pre W F1 G1 jH hpre ⟨rfl,Gc1,j,rfl,hg1,hjk,hja,hfr,hfj⟩ hit hdd hn1' hn2' hk hK
  have HFIN:=HE.out D W F1 Gc1 _ jH hg1 hjk hja hfr hfj hit hdd hn1' hn2' hk
  have HK:=hD hK
  have HFN:=hD HFIN
  clear hk hit hdd hK hfr hfj HFIN
  subst hA0
  gi_wp2
  exact⟨by simp,.inl ⟨_,_,rfl,run_takeDeferred HK.out,_,results_none rfl _ _ _,⟨_,rfl⟩,HFN.out⟩⟩
theorem X1y{A:Option Addr}{n c bt bw bf tb p m:Nat}{ts:Nat→Nat}{S:StoreD}{Ts:Nat→TrD}{ls all:List OpD}{k:Nat}(way:Nat)(fl:List Int)(w:World)
 (hT:Tab S Ts (fun _=>ls))(hd:∀i,i<5→depT (Ts i)≤31)(hw:way<5)(h2:Row1 w bw 3 [.int .i64 (way:Nat)])(h3:Row1 w bf 23 [.slice A n c])
 (hs:Sl w 1 (fun x cs=>cs=encN x) (.slice A n c) fl)(hl:∀x∈fl,In64 x)(h4:fl.length≤4)(hf:Finds Ts way (bts (keyL fl)) ls all k)(hal:all.length≤100000):
  SeqO Fence.wide m Tryz.prog 129 #[.pointer (some ⟨bf,0,none⟩),.pointer (some ⟨bt,0,none⟩),.pointer (some ⟨bw,0,none⟩)] X6v (ItF tb p ts bt S) (fun xs=>xs=all.take k) (fun pre=>pre <+: all.take k) (fun pre x=>pre++ [x] <+: all.take k) w:=by
 intro l J Jx W F G hx hit hdis hJ hJx hY h0
 refine callsIn_wide.2 ((V1w l way fl W hit hdis hJ hJx (fun pre x W1 F1 G1 q1 q2 q3 q4=>Y0w (hY pre x W1 F1 G1 q1 q2 q3 q4)) h0 hT hd hw (h2.ext hx h2.lt) (h3.ext hx h3.lt) (hs.ext hx) hl h4 hf hal).mono (fun e w' h=>⟨h.1,h.2.out⟩))
end
end Go.Proofs.YtmiolpfanlpfnaaGreat
