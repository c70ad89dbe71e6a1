/- A range over a function whose iterator turns memory of its own between two rounds: what it owns, what the consumer owns. No conditions. -/
import Derived.RangeFuncFrom
import Derived.RangeFuncNested
import Derived.RangeFuncCalls
import Derived.Test.YtohaldfnmgcofaaGreatT19
set_option maxRecDepth 100000
set_option maxHeartbeats 4000000
set_option linter.unusedSimpArgs false
set_option linter.unusedVariables false
namespace Go.Proofs.YtohaldfnmgcofaaGreat
section
open Go.RowKit
def Dis(F G:Nat->Prop)(W:World):Prop:=(∀i,F i->i<W.heap.size)/\∀i,G i->i<W.heap.size/\¬F i
def Z2y{β:Type}(J:β->(Nat->Prop)->World->Prop):Prop:=∀s G W W',J s G W->(∀i,G i->i<W.heap.size)->Only (fun i=>¬G i) W W'->J s G W'
def Y3c(B:Nat)(It:(Nat->Prop)->World->Prop):Prop:=∀F W W',It F W->Only (fun i=>¬F i/\B<=i) W W'->It F W'
abbrev Un(F G:Nat->Prop):Nat->Prop:=fun i=>F i\/G i
def SeqO{α:Type}(Fn:Fence)(n:Nat)(P:Program)(g:Nat)(lb:Array Value)(encs:α->Array Value)(It:(Nat->Prop)->World->Prop)(S Sp:List α->Prop)(Ok:List α->α->Prop)(w:World):Prop:=
 ∀(l:Nat) (J Jx:List α->(Nat->Prop)->World->Prop) (W:World) (F G:Nat->Prop),Ext w W->It F W->Dis F G W->Z2y J->Z2y Jx->
  (∀pre x W1 F1 G1,J pre G1 W1->It F1 W1->Dis F1 G1 W1->Ok pre x->YieldAt Fn (n-1) P l (encs x) W1 fun e W'=>
    ∃F2 G2,It F2 W'/\Dis F2 G2 W'/\Keeps (Un F1 G1) (Un F2 G2) W1 W'/\((e= .returned (.bool true)/\J (pre++ [x]) G2 W')\/(e= .returned (.bool false)/\Jx (pre++ [x]) G2 W')))->
  J [] G W->
  CallsIn Fn n P g (#[.func (.yield l) #[] #[]]++lb) W fun e W'=>(∃v,e= .returned v)/\∃F2 G2,It F2 W'/\Dis F2 G2 W'/\Keeps (Un F G) (Un F2 G2) W W'/\((∃xs,S xs/\J xs G2 W')\/(∃pre,Sp pre/\Jx pre G2 W'))
def X4t{α:Type}(It:(Nat->Prop)->World->Prop)(I:List α->(Nat->Prop)->World->Prop)(Ix:Code->List α->(Nat->Prop)->World->Prop)(xs:List α)(F1 G1:Nat->Prop)(W:World):Exit->Act->World->Prop
 | .normal,_,W'=>∃F2 G2,It F2 W'/\Dis F2 G2 W'/\Keeps (Un F1 G1) (Un F2 G2) W W'/\I xs G2 W'
 | .ret,_,W'=>∃F2 G2,It F2 W'/\Dis F2 G2 W'/\Keeps (Un F1 G1) (Un F2 G2) W W'/\Ix .ret xs G2 W'
 | .exit id,_,W'=>∃F2 G2,It F2 W'/\Dis F2 G2 W'/\Keeps (Un F1 G1) (Un F2 G2) W W'/\Ix (.exit id) xs G2 W'
 | .goto t,_,W'=>∃F2 G2,It F2 W'/\Dis F2 G2 W'/\Keeps (Un F1 G1) (Un F2 G2) W W'/\Ix (.goto t) xs G2 W'
 | .panic _,_,_=>False
 | .outgrown,_,_=>False
theorem Only.putObj(W:World)(l:Nat)(o:Obj):Only (fun i=>i=l) W (W.putObj l o):=⟨rfl,rfl,rfl,by simp,fun i _ hn=>World.putObj_heap_other hn⟩
section
variable {Fn:Fence} {n:Nat} {P:Program}
theorem Z4g{α:Type}{g:Operand}{ps:Array Tmp}{assign body:Code}{Q:Exit->Act->World->Prop}{a:Act}{w:World}
 (hro:Fn.round=none)(h1:1<=n){gf:Nat}{lb:Array Value}(hg:a.eval g= .func (.func gf) #[] lb)(hFg:Fn.fn gf)(eg:∀args w,(callFunc gf args).run P w= .ok (.enter gf args) w)
 {encs:α->Array Value}{It:(Nat->Prop)->World->Prop}{S Sp:List α->Prop}{Ok:List α->α->Prop}{w0:World}(hseq:SeqO Fn (n-1) P gf lb encs It S Sp Ok w0)
 (hb0:Ext w0 w)(hps:∀x,(encs x).size=ps.size)(F G:Nat->Prop)(hIt:Y3c w0.heap.size It)(hit:It F w)(hdis:Dis F G w)
 (I:List α->(Nat->Prop)->World->Prop)(Ix:Code->List α->(Nat->Prop)->World->Prop)(hI:Z2y I)(hIx:∀c,Z2y (Ix c))(h0:I [] G w)(As:α->World->Act->World->Prop)(hAs:∀x W a1 W1,As x W a1 W1->Ext W W1)
 (hassign:∀(l:Nat) (x:α) (W:World) (K:Act->World->Prop),(∀a1 W1,As x W a1 W1->K a1 W1)->
    assign.wpIn (Fn.inRound l) (n-1-1) P (Exit.then K (fun _ _ _=>False)) { tmps:=(ps.zip (encs x)).foldl (fun t (p,v)=>t.setIfInBounds p v) a.tmps,defers:= []} W)
 (hbody:∀(l:Nat) (pre:List α) (x:α) (W0:World) (a1:Act) (W1 W:World) (F1 G1:Nat->Prop),As x W0 a1 W1->l<W0.heap.size->¬F1 l->¬G1 l->Only (fun i=>i=l) W1 W->W.heap.size=W1.heap.size->Dis F1 G1 W0->I pre G1 W->It F1 W->Dis F1 G1 W->Ok pre x->body.wpIn (Fn.inRound l) (n-1-1) P (X4t It I Ix (pre++ [x]) F1 G1 W) a1 W)
 (hdone:∀(D:Nat) (xs:List α) (W:World) (F1 G1:Nat->Prop),w.heap.size<=D->S xs->I xs G1 W->It F1 W->Dis F1 G1 W->¬F1 D->¬G1 D->Keeps (Un F G) (Un F1 G1) w W->W.heap[D]? =some (.deferred (some []))->Q .normal { a with defers:= { target:= .collected D,args:=#[]}::a.defers} W)
 (hstop:∀(D:Nat) (c:Code) (pre:List α) (W:World) (F1 G1:Nat->Prop),w.heap.size<=D->Sp pre->Ix c pre G1 W->It F1 W->Dis F1 G1 W->¬F1 D->¬G1 D->Keeps (Un F G) (Un F1 G1) w W->W.heap[D]? =some (.deferred (some []))->c.wpIn Fn n P Q { a with defers:= { target:= .collected D,args:=#[]}::a.defers} W):
  (Code.rangeFunc g ps assign body).wpIn Fn n P Q a w:=by
 refine wpIn_rangeFunc ?_;intro fn hfn;rw[hro];obtain⟨rec,hrec⟩:∃rec:LoopState->Option Code->Loop,rec=fun st pe=> { state:=st,pending:=pe,fn,tmps:=a.tmps,params:=ps,assign,body,defers:=w.heap.size}:=⟨_,rfl⟩;obtain⟨W1,hW1⟩:∃W1,(w.alloc (.deferred (some []))).alloc (.loop (rec .ready none))=W1:=⟨_,rfl⟩;have hL1:W1.heap[w.heap.size+1]? =some (.loop (rec .ready none)):=by rw[<-hW1];have:=World.alloc_heap_new (w.alloc (.deferred (some []))) (.loop (rec .ready none));rwa [World.size_alloc]at this
 have hK1:W1.heap[w.heap.size]? =some (.deferred (some [])):=by rw[<-hW1];exact(Below.heap_alloc _ _ _ (by simp)).trans (World.alloc_heap_new w _)
 have hx1:Ext w W1:=by rw[<-hW1];exact Ext.trans (Ext.alloc _ _) (Ext.alloc _ _)
 have hs1:W1.heap.size=w.heap.size+2:=by rw[<-hW1];simp
 have hsz0:w0.heap.size<=w.heap.size:=hb0.size;have hI1:I [] G W1:=hI _ _ _ _ h0 (fun i q=>(hdis.2 i q).1) (Only.of hx1);have hit1:It F W1:=hIt _ _ _ hit (Only.of hx1);refine⟨w.heap.size+1,[{ target:= .collected w.heap.size,args:=#[]}],W1,{ target:= .fn (.func gf) lb,args:=#[.func (.yield (w.heap.size+1)) #[] #[]]},W1,gf,
  #[.func (.yield (w.heap.size+1)) #[] #[]]++lb,W1,?_,?_,?_,?_,fun _=>h1,?_⟩
 ·rw[<-hW1,hrec];exact run_enterLoop_outer _ _ _ _ _
 ·simp only[resolve,hg];simp[go_sem]
 ·intro f' hf';simp[Target.leads]at hf';subst hf';exact hFg
 ·simp[invoke,go_sem,eg]
 ·have hdis1:Dis F (fun i=>G i\/i=w.heap.size+1\/i=w.heap.size) W1:=⟨fun i q=>by have:=hdis.1 i q;omega,fun i q=>by
   rcases q with q | q | q
   ·exact⟨by have:=(hdis.2 i q).1;omega,(hdis.2 i q).2⟩
   ·exact⟨by omega,fun r=>by have:=hdis.1 i r;omega⟩
   ·exact⟨by omega,fun r=>by have:=hdis.1 i r;omega⟩⟩
  refine(hseq (w.heap.size+1)
   (fun pre G' W=>∃G,G'=(fun i=>G i\/i=w.heap.size+1\/i=w.heap.size)/\¬G (w.heap.size+1)/\¬G w.heap.size/\I pre G W/\W.heap[w.heap.size+1]? =some (.loop (rec .ready none))/\W.heap[w.heap.size]? =some (.deferred (some [])))
   (fun pre G' W=>∃c G,G'=(fun i=>G i\/i=w.heap.size+1\/i=w.heap.size)/\¬G (w.heap.size+1)/\¬G w.heap.size/\Ix c pre G W/\W.heap[w.heap.size+1]? =some (.loop (rec .done (some c)))/\W.heap[w.heap.size]? =some (.deferred (some [])))
   W1 F (fun i=>G i\/i=w.heap.size+1\/i=w.heap.size) (Ext.trans hb0 hx1) hit1 hdis1
   (fun pre G' W W' hs hlt ho=>by
     obtain⟨G,rfl,n1,n2,hi,hl,hk⟩:=hs;exact⟨G,rfl,n1,n2,hI _ _ _ _ hi (fun i q=>hlt i (.inl q)) (ho.mono (fun i q=> .inl (fun r=>q (.inl r)))),(ho.block _ (hlt _ (.inr (.inl rfl))) (fun q=>q (.inr (.inl rfl)))).trans hl,(ho.block _ (hlt _ (.inr (.inr rfl))) (fun q=>q (.inr (.inr rfl)))).trans hk⟩)
   (fun pre G' W W' hs hlt ho=>by
     obtain⟨c,G,rfl,n1,n2,hi,hl,hk⟩:=hs;exact⟨c,G,rfl,n1,n2,hIx c _ _ _ _ hi (fun i q=>hlt i (.inl q)) (ho.mono (fun i q=> .inl (fun r=>q (.inl r)))),(ho.block _ (hlt _ (.inr (.inl rfl))) (fun q=>q (.inr (.inl rfl)))).trans hl,(ho.block _ (hlt _ (.inr (.inr rfl))) (fun q=>q (.inr (.inr rfl)))).trans hk⟩)
   ?_ ⟨G,rfl,fun q=>by have:=(hdis.2 _ q).1;omega,fun q=>by have:=(hdis.2 _ q).1;omega,hI1,hL1,hK1⟩).mono ?_
  ·rintro pre x W0 F1 G1' ⟨G1,rfl,n1,n2,hi0,hl0,hk0⟩ hitW0 hdisW0 hok;have hlt0:w.heap.size+1<W0.heap.size:=(Array.getElem?_eq_some_iff.1 hl0).1;have hy:=run_yield (P:=P) (args:=encs x) hl0 (by rw[hrec];exact hps x);rw[hrec]at hy;refine⟨fn,_,assign,body,hy,roundIn_of_wpIn hfn (hassign _ x W0 _ (fun a1 W hA=> ?_))⟩;have hxa:=hAs _ _ _ _ hA;have hza:=hxa.size;have hl:=(hxa.block _ hlt0).trans hl0;have hk:=(hxa.block _ (by omega:w.heap.size<W0.heap.size)).trans hk0;have hi:I pre G1 W:=hI _ _ _ _ hi0 (fun i q=>(hdisW0.2 i (.inl q)).1) (Only.of hxa);have hitW:It F1 W:=hIt _ _ _ hitW0 (Only.of hxa);have hdisW:Dis F1 (fun i=>G1 i\/i=w.heap.size+1\/i=w.heap.size) W:=⟨fun i q=>aE (hdisW0.1 i q) hza,fun i q=>⟨aE (hdisW0.2 i q).1 hza,(hdisW0.2 i q).2⟩⟩;have hlt:w.heap.size+1<W.heap.size:=(Array.getElem?_eq_some_iff.1 hl).1;have hF1:¬F1 (w.heap.size+1):=(hdisW.2 _ (.inr (.inl rfl))).2;have hF0:¬F1 w.heap.size:=(hdisW.2 _ (.inr (.inr rfl))).2;refine⟨_,run_beginRound hl (by rw[hrec]),?_⟩;obtain⟨o2,ho2⟩:∃o2,o2=Obj.loop { rec .ready none with state:= .busy}:=⟨_,rfl⟩;rw[<-ho2];obtain⟨W2,hW2⟩:∃W2,W.putObj (w.heap.size+1) o2=W2:=⟨_,rfl⟩;rw[hW2];have hl2:W2.heap[w.heap.size+1]? =some o2:=hW2▸World.putObj_heap_same hlt;have hk2:W2.heap[w.heap.size]? =some (.deferred (some [])):=by rw[<-hW2];exact(World.putObj_heap_other (by omega)).trans hk
   have hs2:W2.heap.size=W.heap.size:=by rw[<-hW2];simp
   have ho12:Only (fun i=>i=w.heap.size+1) W W2:=hW2▸Only.putObj _ _ _;have hi2:I pre G1 W2:=hI _ _ _ _ hi (fun i q=>(hdisW.2 i (.inl q)).1) (ho12.mono (fun i q=> .inl (fun r=>by subst q;exact n1 r)));have hit2:It F1 W2:=hIt _ _ _ hitW (ho12.mono (fun i q=> .inl ⟨fun r=>by subst q;exact hF1 r,by omega⟩));have hdis2:Dis F1 G1 W2:=⟨fun i q=>by have:=hdisW.1 i q;omega,fun i q=>⟨by have:=(hdisW.2 i (.inl q)).1;omega,(hdisW.2 i (.inl q)).2⟩⟩;refine wpIn_mono (hbody _ pre x W0 a1 W _ F1 G1 hA hlt0 hF1 n1 ho12 hs2 ⟨hdisW0.1,fun i q=>hdisW0.2 i (.inl q)⟩ hi2 hit2 hdis2 hok) ?_;have fin:∀(jump:Option Code) (W3:World) (F2 G2:Nat->Prop),It F2 W3->Dis F2 G2 W3->Keeps (Un F1 G1) (Un F2 G2) W2 W3->∃W4,Only (fun i=>i=w.heap.size+1) W3 W4/\W4.heap.size=W3.heap.size/\
     (Instr.endRound (w.heap.size+1) jump).run P W3= .ok (.bool jump.isNone) W4/\¬G2 (w.heap.size+1)/\¬G2 w.heap.size/\
     W4.heap[w.heap.size+1]? =some (.loop (rec (if jump.isNone then .ready else .done) jump))/\W4.heap[w.heap.size]? =some (.deferred (some []))/\
     It F2 W4/\Dis F2 (fun i=>G2 i\/i=w.heap.size+1\/i=w.heap.size) W4/\Keeps (Un F1 (fun i=>G1 i\/i=w.heap.size+1\/i=w.heap.size)) (Un F2 (fun i=>G2 i\/i=w.heap.size+1\/i=w.heap.size)) W0 W4:=fun jump W3 F2 G2 q1 q2 q3=>by
    have hu1:¬Un F1 G1 (w.heap.size+1):=fun r=>r.elim hF1 n1;have hu0:¬Un F1 G1 w.heap.size:=fun r=>r.elim hF0 n2;have hv1:=q3.out (i:=w.heap.size+1) (by omega) hu1;have hv0:=q3.out (i:=w.heap.size) (by omega) hu0;have hl3:W3.heap[w.heap.size+1]? =some o2:=(q3.only.block _ (by omega) hu1).trans hl2;have hk3:W3.heap[w.heap.size]? =some (.deferred (some [])):=(q3.only.block _ (by omega) hu0).trans hk2;have hz3:=q3.only.size;have he:=run_endRound (P:=P) jump (ho2▸hl3);have ho:=Only.putObj W3 (w.heap.size+1) (.loop (rec (if jump.isNone then .ready else .done) jump));refine⟨W3.putObj (w.heap.size+1) (.loop (rec (if jump.isNone then .ready else .done) jump)),ho,by simp,by rw[hrec]at he ⊢;exact he,fun r=>hv1 (.inr r),fun r=>hv0 (.inr r),
     World.putObj_heap_same (by omega),(World.putObj_heap_other (by omega)).trans hk3,hIt _ _ _ q1 (ho.mono (fun i q=> .inl ⟨fun r=>by subst q;exact hv1 (.inl r),by omega⟩)),⟨fun i q=>by have:=q2.1 i q;simpa using this,fun i q=> ?_⟩,⟨?_,fun i q=> ?_⟩⟩
    ·rcases q with q | q | q
     ·exact⟨by have:=(q2.2 i q).1;simpa using this,(q2.2 i q).2⟩
     ·subst q;exact⟨by simp;omega,fun r=>hv1 (.inl r)⟩
     ·subst q;exact⟨by simp;omega,fun r=>hv0 (.inl r)⟩
    ·refine(((Only.of hxa).trans' (ho12.mono (fun i q=> .inl (.inr (.inr (.inl q)))))).trans' ?_).trans' (ho.mono (fun i q=> .inl (.inr (.inr (.inl q)))));exact q3.only.mono (fun i q=> .inl (q.elim .inl (fun r=> .inr (.inl r))))
    ·rcases q with q | q | q | q
     ·rcases q3.new i (.inl q)with r | r
      ·exact .inl (r.elim .inl (fun r=> .inr (.inl r)))
      ·exact .inr (by omega)
     ·rcases q3.new i (.inr q)with r | r
      ·exact .inl (r.elim .inl (fun r=> .inr (.inl r)))
      ·exact .inr (by omega)
     ·exact .inl (.inr (.inr (.inl q)))
     ·exact .inl (.inr (.inr (.inr q)))
   have ab:∀(J:List α->(Nat->Prop)->World->Prop) (G2:Nat->Prop) (W3 W4:World) (F2:Nat->Prop) (xs:List α),Z2y J->J xs G2 W3->Dis F2 G2 W3->¬G2 (w.heap.size+1)->Only (fun i=>i=w.heap.size+1) W3 W4->J xs G2 W4:=fun J G2 W3 W4 F2 xs q1 q2 q3 q4 q5=>
    q1 _ _ _ _ q2 (fun i q=>(q3.2 i q).1) (q5.mono (fun i q=> .inl (fun r=>by subst q;exact q4 r)))
   rintro e a3 W3 hp;cases e with
   | normal=>
     obtain⟨F2,G2,p1,p2,p3,p4⟩:=hp;obtain⟨W4,f0,f1,f2,f3,f4,f5,f6,f7,f8,f9⟩:=fin none W3 F2 G2 p1 p2 p3;exact⟨_,_,f2,F2,_,f7,f8,f9,.inl ⟨rfl,G2,rfl,f3,f4,ab _ _ _ _ _ _ hI p4 p2 f3 f0,f5,f6⟩⟩
   | ret=>
     obtain⟨F2,G2,p1,p2,p3,p4⟩:=hp;obtain⟨W4,f0,f1,f2,f3,f4,f5,f6,f7,f8,f9⟩:=fin (some .ret) W3 F2 G2 p1 p2 p3;exact⟨_,_,f2,F2,_,f7,f8,f9,.inr ⟨rfl,.ret,G2,rfl,f3,f4,ab _ _ _ _ _ _ (hIx _) p4 p2 f3 f0,f5,f6⟩⟩
   | exit id=>
     obtain⟨F2,G2,p1,p2,p3,p4⟩:=hp;obtain⟨W4,f0,f1,f2,f3,f4,f5,f6,f7,f8,f9⟩:=fin (some (.exit id)) W3 F2 G2 p1 p2 p3;exact⟨_,_,f2,F2,_,f7,f8,f9,.inr ⟨rfl,.exit id,G2,rfl,f3,f4,ab _ _ _ _ _ _ (hIx _) p4 p2 f3 f0,f5,f6⟩⟩
   | goto t=>
     obtain⟨F2,G2,p1,p2,p3,p4⟩:=hp;obtain⟨W4,f0,f1,f2,f3,f4,f5,f6,f7,f8,f9⟩:=fin (some (.goto t)) W3 F2 G2 p1 p2 p3;exact⟨_,_,f2,F2,_,f7,f8,f9,.inr ⟨rfl,.goto t,G2,rfl,f3,f4,ab _ _ _ _ _ _ (hIx _) p4 p2 f3 f0,f5,f6⟩⟩
   | panic ch=>exact hp.elim
   | outgrown=>exact hp.elim
  ·have fin:∀(W3:World) (F2 G2:Nat->Prop) (o:Obj),It F2 W3->Dis F2 (fun i=>G2 i\/i=w.heap.size+1\/i=w.heap.size) W3->Keeps (Un F (fun i=>G i\/i=w.heap.size+1\/i=w.heap.size)) (Un F2 (fun i=>G2 i\/i=w.heap.size+1\/i=w.heap.size)) W1 W3->¬G2 (w.heap.size+1)->W3.heap[w.heap.size]? =some (.deferred (some []))->
     It F2 (W3.putObj (w.heap.size+1) o)/\Dis F2 G2 (W3.putObj (w.heap.size+1) o)/\¬F2 w.heap.size/\Keeps (Un F G) (Un F2 G2) w (W3.putObj (w.heap.size+1) o)/\(W3.putObj (w.heap.size+1) o).heap[w.heap.size]? =some (.deferred (some [])):=fun W3 F2 G2 o q1 q2 q3 q4 q5=>by
    have ho:=Only.putObj W3 (w.heap.size+1) o;have hf1:=(q2.2 _ (.inr (.inl rfl))).2;refine⟨hIt _ _ _ q1 (ho.mono (fun i q=> .inl ⟨fun r=>by subst q;exact hf1 r,by omega⟩)),⟨fun i q=>by have:=q2.1 i q;simpa using this,fun i q=>⟨by have:=(q2.2 i (.inl q)).1;simpa using this,(q2.2 i (.inl q)).2⟩⟩,(q2.2 _ (.inr (.inr rfl))).2,⟨?_,fun i q=> ?_⟩,(World.putObj_heap_other (by omega)).trans q5⟩
    ·refine((Only.of hx1).trans (F':=Un F (fun i=>G i\/i=w.heap.size+1\/i=w.heap.size)) q3.only (fun i q=> ?_)).trans (F':=fun i=>i=w.heap.size+1) ho (fun i q=> .inr (by omega));rcases q with q | q | q | q
     ·exact .inl (.inl q)
     ·exact .inl (.inr q)
     ·exact .inr (by omega)
     ·exact .inr (by omega)
    ·have hq:Un F2 (fun i=>G2 i\/i=w.heap.size+1\/i=w.heap.size) i:=q.elim .inl (fun r=> .inr (.inl r));rcases q3.new i hq with r | r
     ·rcases r with r | r | r | r
      ·exact .inl (.inl r)
      ·exact .inl (.inr r)
      ·exact .inr (by omega)
      ·exact .inr (by omega)
     ·exact .inr (by omega)
   rintro e W2 ⟨⟨v,rfl⟩,F2,G2',q1,q2,q3,(⟨xs,hS,G2,rfl,n1,n2,hi,hl,hk⟩ | ⟨pre,hSp,c,G2,rfl,n1,n2,hi,hl,hk⟩)⟩
   ·have he:=run_endLoop (P:=P) hl (by rw[hrec];simp);obtain⟨r1,r2,r3,r4,r5⟩:=fin W2 F2 G2 _ q1 q2 q3 n1 hk;refine⟨none,_,by rw[hrec]at he;exact he,hdone _ xs _ F2 G2 (aF _) hS (hI _ _ _ _ hi (fun i q=>(q2.2 i (.inl q)).1) ((Only.putObj W2 _ _).mono (fun i q=> .inl (fun r=>by subst q;exact n1 r)))) r1 r2 r3 n2 r4 r5⟩
   ·have he:=run_endLoop (P:=P) hl (by rw[hrec];simp);obtain⟨r1,r2,r3,r4,r5⟩:=fin W2 F2 G2 _ q1 q2 q3 n1 hk;refine⟨some c,_,by rw[hrec]at he;exact he,hstop _ c pre _ F2 G2 (aF _) hSp (hIx c _ _ _ _ hi (fun i q=>(q2.2 i (.inl q)).1) ((Only.putObj W2 _ _).mono (fun i q=> .inl (fun r=>by subst q;exact n1 r)))) r1 r2 r3 n2 r4 r5⟩
theorem Z2q{α:Type}{g:Operand}{ps:Array Tmp}{assign body:Code}{Q:Exit->Act->World->Prop}{a:Act}{w:World}
 (hro:Fn.round=none)(h1:1<=n){gf:Nat}{lb:Array Value}(hg:a.eval g= .func (.func gf) #[] lb)(hFg:Fn.fn gf)(eg:∀args w,(callFunc gf args).run P w= .ok (.enter gf args) w)
 {encs:α->Array Value}{It:(Nat->Prop)->World->Prop}{S Sp:List α->Prop}{Ok:List α->α->Prop}{w0:World}(hseq:SeqO Fn (n-1) P gf lb encs It S Sp Ok w0)
 (hb0:Ext w0 w)(hps:∀x,(encs x).size=ps.size)(F G:Nat->Prop)(hIt:Y3c w0.heap.size It)(hit:It F w)(hdis:Dis F G w)
 (I:List α->(Nat->Prop)->World->Prop)(Ix:Code->List α->(Nat->Prop)->World->Prop)(hI:Z2y I)(hIx:∀c,Z2y (Ix c))(h0:I [] G w)(a₁:α->Act)
 (hassign:∀(l:Nat) (x:α) (W:World) (K:Act->World->Prop),K (a₁ x) W->
    assign.wpIn (Fn.inRound l) (n-1-1) P (Exit.then K (fun _ _ _=>False)) { tmps:=(ps.zip (encs x)).foldl (fun t (p,v)=>t.setIfInBounds p v) a.tmps,defers:= []} W)
 (hbody:∀(l:Nat) (pre:List α) (x:α) (W:World) (F1 G1:Nat->Prop),I pre G1 W->It F1 W->Dis F1 G1 W->Ok pre x->body.wpIn (Fn.inRound l) (n-1-1) P (X4t It I Ix (pre++ [x]) F1 G1 W) (a₁ x) W)
 (hdone:∀(D:Nat) (xs:List α) (W:World) (F1 G1:Nat->Prop),w.heap.size<=D->S xs->I xs G1 W->It F1 W->Dis F1 G1 W->¬F1 D->¬G1 D->Keeps (Un F G) (Un F1 G1) w W->W.heap[D]? =some (.deferred (some []))->Q .normal { a with defers:= { target:= .collected D,args:=#[]}::a.defers} W)
 (hstop:∀(D:Nat) (c:Code) (pre:List α) (W:World) (F1 G1:Nat->Prop),w.heap.size<=D->Sp pre->Ix c pre G1 W->It F1 W->Dis F1 G1 W->¬F1 D->¬G1 D->Keeps (Un F G) (Un F1 G1) w W->W.heap[D]? =some (.deferred (some []))->c.wpIn Fn n P Q { a with defers:= { target:= .collected D,args:=#[]}::a.defers} W):
  (Code.rangeFunc g ps assign body).wpIn Fn n P Q a w:=
 Z4g hro h1 hg hFg eg hseq hb0 hps F G hIt hit hdis I Ix hI hIx h0 (fun x W a1 W1=>a1=a₁ x/\W1=W) (fun x W a1 W1 q=>by rw[q.2];exact Ext.refl _)
  (fun l x W K hK=>hassign l x W K (hK _ _ ⟨rfl,rfl⟩)) (fun l pre x W0 a1 W1 W F1 G1 q _ _ _ _ _ _ q1 q2 q3 q4=>by rw[q.1];exact hbody l pre x W F1 G1 q1 q2 q3 q4) hdone hstop
end
section
variable {P:Program} {ops:Array Oper} {Q:Exit->Act->World->Prop} {S:World->Prop}
def askW(P:Program)(o:Oper)(a:Act)(next:Act->World->Prop)(Q:Exit->Act->World->Prop):Result Next->Prop
 | .ok (.round l f tmps assign body) w'=>RoundIn Fence.wide 0 P l f tmps assign body w' fun
     | .returned v,w''=>next (a.put o.dst v) w''
     | .panicked chain,w''=>Q (.panic chain) a w''
     | .outgrown,_=>LetsOut Q
 | r=>o.upon P a next Q r
def opW(P:Program)(ops:Array Oper)(Q:Exit->Act->World->Prop)(i:Nat)(K:Act->World->Prop)(a:Act)(w:World):Prop:=
 match ops[i]? with
 | none=>K a w
 | some o=>if Region.wanted o (yielded ops a.tmps)then askW P o a K Q ((execOp a.eval o).run P w)else K (a.put o.dst undef) w
theorem V4w{o:Oper}{a:Act}{K K':Act->World->Prop}(h:∀a w,K a w->K' a w):∀r,askW P o a K Q r->askW P o a K' Q r:=fun r hh=>by
 cases r with
 | ok n w'=>
   cases n<;>simp only[askW,Oper.upon]at hh ⊢ <;>
    first
     | exact h _ _ hh
     | exact Calls.mono hh (fun e w'' he=>by cases e<;>first | exact h _ _ he | exact he)
     | exact Rows.mono hh (fun _ _ he=>h _ _ he)
     | exact RoundIn.mono hh (fun e w'' he=>by cases e<;>first | exact h _ _ he | exact he)
 | halt x w'=>cases x<;>simp only[askW,Oper.upon]at hh ⊢ <;>exact hh
theorem Y8d{i:Nat}{a:Act}{w:World}{K K':Act->World->Prop}(h:∀a w,K a w->K' a w)(hh:opW P ops Q i K a w):opW P ops Q i K' a w:=by
 unfold opW at *;split
 ·exact h _ _ (by simpa [*]using hh)
 ·rename_i o ho
  simp only[ho]at hh;split
  ·rename_i hw;simp only[hw,if_true]at hh;exact V4w h _ hh
  ·rename_i hw;simp only[hw]at hh;exact h _ _ hh
theorem U1u{o:Oper}{a:Act}{K:Act->World->Prop}(n:Nat):∀r,askW P o a K Q r->o.uponIn Fence.wide n P a K Q r:=fun r hh=>by
 have hd:Fence.wide.depth.isSome=true->1<=n:=fun q=>by simp[Fence.wide]at q
 cases r with
 | ok x w'=>
   cases x<;>simp only[askW,Oper.upon,Oper.uponIn]at hh ⊢
   case value v=>exact hh
   case skip=>exact hh
   case defer d=>exact hh
   case enter f args=>exact⟨hd,(callsIn_wide (n:=n-1)).2 hh⟩
   case row row args=>
    refine⟨hd,fun c cs _=> ?_⟩;obtain⟨v,w'',h1,h2⟩:=hh c cs;exact⟨v,w'',h1,stepsIn_wide.2 h2⟩
   case round l f tmps assign body=>exact⟨hd,hh.1,fun c cs _=>hh.2 c cs (room_wide _)⟩
 | halt x w'=>cases x<;>simp only[askW,Oper.upon,Oper.uponIn]at hh ⊢ <;>exact hh
def anyW(P:Program)(ops:Array Oper)(Q:Exit->Act->World->Prop)(S:World->Prop):Nat->Array Bool->Act->World->Prop
 | 0,listed,a,w=>Region.ready .any ops listed= []/\Q .normal a w
 | fuel+1,listed,a,w=>
   (Region.ready .any ops listed= []->Q .normal a w)/\
   ∀i∈Region.ready .any ops listed,opW P ops Q i (fun a' w'=>S w'/\anyW P ops Q S fuel (listed.setIfInBounds i true) a' w') a w
theorem X7l(n:Nat)(i:Nat)(rest:List Nat)(a:Act)(w:World)(h:opW P ops Q i (wpOpsIn Fence.wide n P ops Q rest) a w):wpOpsIn Fence.wide n P ops Q (i::rest) a w:=by
 unfold opW at h;simp only[wpOpsIn];cases ho:ops[i]? with
 | none=>simp only[ho]at h;exact h
 | some o=>
   simp only[ho]at h ⊢;split
   ·rename_i hw
    simp only[hw,if_true]at h;exact⟨fun _ _=>trivial,U1u n _ h⟩
   ·rename_i hw
    simp only[hw]at h;exact⟨fun _ _=>trivial,h⟩
theorem X8r(n:Nat):∀(fuel t:Nat) (listed:Array Bool) (a:Act) (w:World),anyW P ops Q S fuel listed a w->wpOpsIn Fence.wide n P ops Q (Region.linearise.go .any ops fuel t listed []) a w:=by
 intro fuel
 induction fuel with
 | zero=>intro t listed a w h;simpa [Region.linearise.go,wpOpsIn]using h.2
 | succ fuel ih=>
   intro t listed a w h;obtain⟨h0,h1⟩:=h;simp only[Region.linearise.go];change wpOpsIn Fence.wide n P ops Q (match (Region.ready .any ops listed)[t%(Region.ready .any ops listed).length]? with
    | some i=>Region.linearise.go .any ops fuel (t/(Region.ready .any ops listed).length) (listed.setIfInBounds i true) [i]
    | none=> [].reverse) a w
   cases hi:(Region.ready .any ops listed)[t%(Region.ready .any ops listed).length]? with
   | none=>
     have hnil:Region.ready .any ops listed= []:=by
      cases hr:Region.ready .any ops listed with
      | nil=>rfl
      | cons x xs=>
        rw[hr,List.getElem?_eq_none_iff]at hi;exact absurd (Nat.mod_lt t (show 0<(x::xs).length by simp)) (by omega)
     simpa [wpOpsIn]using h0 hnil
   | some i=>
     simp only[];rw[linearise_go_acc,List.reverse_singleton,List.singleton_append];exact X7l n _ _ _ _ (Y8d (fun a w q=>ih _ _ a w q.2) (h1 i (List.mem_of_getElem? hi)))
theorem V6d{id:Nat}{a:Act}{w:World}(hm:P.follows .mixedOrders=true)(hS:S w.drew)
 (h:S w.drew->anyW P ops Q S ops.size (Array.replicate ops.size false) a w.drew):(Code.region id ops true).wp P Q a w:=by
 refine(wpIn_wide (n:=1)).1 (wpIn_region_draw fun t=> ?_);simp only[Region.schedule,hm,Bool.true_or,if_true];exact X8r 1 ops.size t _ a _ (h hS)
theorem U0x{j:Nat}{oi oj:Oper}{v:Value}(hj:ops[j]? =some oj)(hap:oi.apart ops oj=true)(hsi:∀cs b,oi.op≠ .select cs b)(hsj:∀cs b,oj.op≠ .select cs b)
 (hQ:∀c a w,Q (.panic c) (a.put oi.dst v) w->Q (.panic c) a w){K:Act->World->Prop}{a:Act}{w:World}(hy:YieldsIf P ops S oi v a)(h:opW P ops Q j K (a.put oi.dst v) w):
  opW P ops Q j (fun a' w'=>YieldsIf P ops S oi v a'/\K (a'.put oi.dst v) w') a w:=by
 obtain⟨h1,h2,h3⟩:=Oper.apart_spec hap;have keep:∀(a:Act),YieldsIf P ops S oi v a->∀u,YieldsIf P ops S oi v (a.put oj.dst u):=fun a hy u=>hy.of_same (execOp_put oi hsi a oj.dst u h3) (wanted_put oi a oj.dst u h3);have comm:∀(u:Value),K ((a.put oi.dst v).put oj.dst u)=K ((a.put oj.dst u).put oi.dst v):=fun u=>by rw[Act.put_comm a v u h2]
 unfold opW at *;simp only[hj]at *;rw[wanted_put oj a oi.dst v h1]at h;split
 ·rename_i hw
  simp only[hw,if_true]at h;rw[execOp_put oj hsj a oi.dst v h1]at h;generalize (execOp a.eval oj).run P w=r at *;cases r with
  | ok n w'=>
    cases n<;>simp only[askW,Oper.upon]at h ⊢
    case value u=>exact⟨keep a hy u,by rw[<-comm u];exact h⟩
    case skip=>exact⟨keep a hy _,by rw[<-comm];exact h⟩
    case defer d=>
     refine⟨keep { a with defers:=d::a.defers} (hy.of_same rfl rfl) _,?_⟩;rw[<-Act.put_comm _ v undef h2,<-Act.put_defers];exact h
    case enter f args=>
     refine Calls.mono h fun e w'' he=> ?_;cases e with
     | returned u=>exact⟨keep a hy u,by rw[<-comm u];exact he⟩
     | panicked c=>exact hQ _ _ _ he
     | outgrown=>exact he
    case row row args=>exact Rows.mono h fun u w'' he=>⟨keep a hy u,by rw[<-comm u];exact he⟩
    case round l f tmps assign body=>
     refine RoundIn.mono h fun e w'' he=> ?_;cases e with
     | returned u=>exact⟨keep a hy u,by rw[<-comm u];exact he⟩
     | panicked c=>exact hQ _ _ _ he
     | outgrown=>exact he
  | halt x w'=>
    cases x<;>simp only[askW,Oper.upon]at h ⊢
    case panic u=>exact hQ _ _ _ h
 ·rename_i hw
  simp only[hw]at h;exact⟨keep a hy _,by rw[<-comm];exact h⟩
theorem Y6h{i:Nat}{o:Oper}{v:Value}{a:Act}(hi:ops[i]? =some o)(hy:YieldsIf P ops S o v a){K:Act->World->Prop}{w:World}(hS:S w)(h:K (a.put o.dst v) w):opW P ops Q i K a w:=by
 unfold opW;simp only[hi];rcases hy with ⟨hw,hv⟩ | ⟨hw,rfl⟩
 ·simp only[hw,if_true,hv w hS,askW,Oper.upon];exact h
 ·simp only[hw,Bool.false_eq_true,if_false];exact h
theorem X8t{i:Nat}{oi:Oper}{v:Value}(hi:ops[i]? =some oi)(hsel:∀(j:Nat) (o:Oper) cs b,ops[j]? =some o->o.op≠ .select cs b)
 (hQ:∀c a w,Q (.panic c) (a.put oi.dst v) w->Q (.panic c) a w):
  ∀(fuel:Nat) (listed:Array Bool) (a:Act) (w:World),
   (∀j oj,ops[j]? =some oj->j≠i->listed.getD j true=false->(∀e∈oj.after,Region.binds .any e=true->e.on≠i)->oi.apart ops oj=true)->
   i∈Region.ready .any ops listed->YieldsIf P ops S oi v a->S w->
   anyW P ops Q S fuel (listed.setIfInBounds i true) (a.put oi.dst v) w->anyW P ops Q S (fuel+1) listed a w:=by
 intro fuel
 induction fuel with
 | zero=>
   intro listed a w _ hr hy hS H;refine⟨fun h=>(by rw[h]at hr;cases hr),fun j hj=> ?_⟩;by_cases hji:j=i
   ·subst hji;exact Y6h hi hy hS ⟨hS,H⟩
   ·have:=ready_mono hj hji;rw[H.1]at this;cases this
 | succ fuel ih=>
   intro listed a w hfree hr hy hS H;refine⟨fun h=>(by rw[h]at hr;cases hr),fun j hj=> ?_⟩;by_cases hji:j=i
   ·subst hji;exact Y6h hi hy hS ⟨hS,H⟩
   ·have h1:=H.2 j (ready_mono hj hji);obtain⟨hjun,oj,hoj,hall⟩:=mem_ready.1 hj;have hnot:∀e∈oj.after,Region.binds .any e=true->e.on≠i:=fun e he hb heq=>by
     have g1:=hall e he hb;have g0:=(mem_ready.1 hr).1;rw[heq]at g1;rcases Nat.lt_or_ge i listed.size with h' | h'
     ·simp[h']at g0 g1;rw[g0]at g1;cases g1
     ·simp[Array.getElem?_eq_none h']at g1
    have h2:=U0x hoj (hfree j oj hoj hji hjun hnot) (fun cs b=>hsel i oi cs b hi) (fun cs b=>hsel j oj cs b hoj) hQ hy h1;refine Y8d (fun a' w' h3=>⟨h3.2.1,ih (listed.setIfInBounds j true) a' w' (fun k ok hk hki hun hno=>hfree k ok hk hki ?_ hno) (ready_mono hr (Ne.symm hji)) h3.1 h3.2.1 ?_⟩) h2
    ·by_cases hjk:j=k
     ·subst hjk;exact hjun
     ·rw[getD_set_ne true hjk]at hun;exact hun
    ·rw[Array.setIfInBounds_comm _ _ hji];exact h3.2.2
theorem V4x{i:Nat}{oi:Oper}{v:Value}{fuel:Nat}{listed:Array Bool}{a:Act}{w:World}(hi:ops[i]? =some oi)
 (hs:Region.noSelect ops=true)(hf:Region.free .any ops listed i=true)(hr:(Region.ready .any ops listed).contains i=true)
 (hQ:∀c a w,Q (.panic c) (a.put oi.dst v) w->Q (.panic c) a w)(hy:YieldsIf P ops S oi v a)(hS:S w)
 (h:anyW P ops Q S fuel (listed.setIfInBounds i true) (a.put oi.dst v) w):anyW P ops Q S (fuel+1) listed a w:=
 X8t hi (Region.noSelect_spec hs) hQ fuel listed a w (Region.free_spec hi hf) (by simpa using hr) hy hS h
theorem tkW(i:Nat){oi:Oper}{v:Value}{fuel:Nat}{listed listed':Array Bool}{a a':Act}{w:World}
 (h:anyW P ops Q S fuel listed' a' w)
 (hi:ops[i]? =some oi:=by simp only[List.getElem?_toArray,List.getElem?_cons_succ,List.getElem?_cons_zero];exact rfl)
 (hs:Region.noSelect ops=true:=by kernel_rfl)(hf:Region.free .any ops listed i=true:=by kernel_rfl)(hr:(Region.ready .any ops listed).contains i=true:=by kernel_rfl)
 (hQ:∀c a w,Q (.panic c) (a.put oi.dst v) w->Q (.panic c) a w:=by exact fun _ _ _ h=>h)
 (hw:Region.wanted oi (yielded ops a.tmps)=true:=by rfl)
 (hy:∀w,S w->(execOp a.eval oi).run P w= .ok (.value v) w:=by intro w hSw;(try dsimp only at hSw);go_simp;(try with_reducible rfl))
 (hS:S w:=by assumption)
 (ha:a.put oi.dst v=a':=by(try simp only[Act.put,List.setIfInBounds_toArray,List.set_cons_zero,List.set_cons_succ]);exact rfl)(hl:listed.setIfInBounds i true=listed':=by(try simp only[List.setIfInBounds_toArray,List.set_cons_zero,List.set_cons_succ]);exact rfl):anyW P ops Q S (fuel+1) listed a w:=by
 subst ha hl;exact V4x hi hs hf hr hQ (Or.inl ⟨hw,hy⟩) hS h
theorem ptW{fuel:Nat}{listed listed':Array Bool}{a a':Act}{w:World}(h:anyW P ops Q S fuel listed' a' w)
 (ha:a=a':=by(try simp only[Act.put,List.setIfInBounds_toArray,List.set_cons_zero,List.set_cons_succ]);exact rfl)(hl:listed=listed':=by(try simp only[List.setIfInBounds_toArray,List.set_cons_zero,List.set_cons_succ]);exact rfl):anyW P ops Q S fuel listed a w:=by
 subst ha hl;exact h
theorem X8s{i:Nat}{o:Oper}{fuel:Nat}{listed:Array Bool}{a:Act}{w:World}{l:Nat}{f:FuncId}{tmps:Array Value}{assign body:Code}(hr:Region.ready .any ops listed= [i])(ho:ops[i]? =some o)
 (hw:Region.wanted o (yielded ops a.tmps)=true)(he:(execOp a.eval o).run P w= .ok (.round l f tmps assign body) w)
 (h:RoundIn Fence.wide 0 P l f tmps assign body w fun e w'=>∃v,e= .returned v/\S w'/\(S w'->anyW P ops Q S fuel (listed.setIfInBounds i true) (a.put o.dst v) w')):anyW P ops Q S (fuel+1) listed a w:=by
 refine⟨fun h0=>absurd (hr▸h0) (by simp),fun j hj=> ?_⟩;obtain rfl:j=i:=by rw[hr]at hj;simpa using hj
 unfold opW;simp only[ho,hw,if_true,he,askW];refine RoundIn.mono h ?_;rintro e w' ⟨v,rfl,h1,h2⟩;exact⟨h1,h2 h1⟩
theorem Z8a{listed:Array Bool}{a:Act}{w:World}(hr:Region.ready .any ops listed= [])(h:Q .normal a w):∀fuel,anyW P ops Q S fuel listed a w
 | 0=>⟨hr,h⟩
 | _+1=>⟨fun _=>h,by rw[hr];simp⟩
end
abbrev KV:=ByteArray×ByteArray
def X8i(x:KV):Array Value:=#[.string x.1,.string x.2]
def ItT(p t i:Nat)(S:StoreD)(K F:Nat->Prop)(W:World):Prop:=PagerAt W p F S/\Z0b W t p i/\¬F t/\∀b,K b->¬F b/\b<W.heap.size
theorem ItT.ext{p t i:Nat}{S:StoreD}{K F:Nat->Prop}{W W':World}(h:ItT p t i S K F W)(hb:Ext W W'):ItT p t i S K F W':=⟨h.1.ext hb,h.2.1.ext hb h.2.1.lt,h.2.2.1,fun b q=>⟨(h.2.2.2 b q).1,aE (h.2.2.2 b q).2 hb.size⟩⟩
theorem ItT.keeps{p t i:Nat}{S:StoreD}{K F F':Nat->Prop}{W W':World}(h:ItT p t i S K F W)(hp:PagerAt W' p F' S)(hk:Keeps F F' W W'):ItT p t i S K F' W':=⟨hp,hk.only.row h.2.1 h.2.2.1,hk.out h.2.1.lt h.2.2.1,fun b q=>⟨hk.out (h.2.2.2 b q).2 (h.2.2.2 b q).1,aE (h.2.2.2 b q).2 hk.only.size⟩⟩
theorem ItT.abides{p t i B:Nat}{S:StoreD}{K:Nat->Prop}(ht:t<B):Y3c B (ItT p t i S K):=fun F W W' h ho=>
 ⟨h.1.only ho (fun j q q'=>q'.1 q),ho.row h.2.1 (fun q=>by omega),h.2.2.1,fun b q=>⟨(h.2.2.2 b q).1,aE (h.2.2.2 b q).2 ho.size⟩⟩
theorem ItT.only{p t i:Nat}{S:StoreD}{K F G:Nat->Prop}{W W':World}(h:ItT p t i S K F W)(ho:Only G W W')(hF:∀j,F j->¬G j)(ht:¬G t):ItT p t i S K F W':=
 ⟨h.1.only ho hF,ho.row h.2.1 ht,h.2.2.1,fun b q=>⟨(h.2.2.2 b q).1,aE (h.2.2.2 b q).2 ho.size⟩⟩
abbrev Z3k(w:World)(b t l:Nat)(key:ByteArray)(left:Int):Prop:=Row1 w b 195 [tp t,.string key,.func (.yield l) #[] #[],.int .i64 left]
def outL(n:NodeD)(key:ByteArray)(j:Nat):List KV:=((n.keys.zip n.vals).take j).filter (fun x=> !ltB x.1 key)
theorem V1k(n:NodeD)(key:ByteArray)(j:Nat)(hv:n.vals.length=n.keys.length)(hj:j<n.keys.length)(k v:ByteArray)(hk:n.keys[j]? =some k)(hvv:n.vals[j]? =some v):
  outL n key (j+1)=outL n key j++(if ltB k key=true then []else [(k,v)]):=by
 unfold outL;have hz:(n.keys.zip n.vals)[j]? =some (k,v):=by rw[List.getElem?_zip_eq_some];exact⟨hk,hvv⟩
 rw[List.take_add_one,hz,List.filter_append]
 congr 1
 simp only[Option.toList,List.filter];cases ltB k key<;>rfl
def X3l(P:Program)(l:Nat)(It:(Nat->Prop)->World->Prop)(J Jx:List KV->(Nat->Prop)->World->Prop)(Ok:List KV->KV->Prop):Prop:=
 ∀pre x W1 F1 G1,J pre G1 W1->It F1 W1->Dis F1 G1 W1->Ok pre x->YieldAt Fence.wide 0 P l (X8i x) W1 fun e W'=>
  ∃F2 G2,It F2 W'/\Dis F2 G2 W'/\Keeps (Un F1 G1) (Un F2 G2) W1 W'/\((e= .returned (.bool true)/\J (pre++ [x]) G2 W')\/(e= .returned (.bool false)/\Jx (pre++ [x]) G2 W'))
def Y9b(wb t l p i:Nat)(S:StoreD)(K:Nat->Prop)(key:ByteArray)(lf:Nat)(F G:Nat->Prop)(J Jx:List KV->(Nat->Prop)->World->Prop)(pre out:List KV)(w:World)(e:Ending)(w':World):Prop:=
 ∃F2 G2,ItT p t i S K F2 w'/\Dis F2 G2 w'/\Keeps (fun i=>Un F G i\/i=wb) (fun i=>Un F2 G2 i\/i=wb) w w'/\Z3k w' wb t l key lf/\¬Un F2 G2 wb/\
  ((e= .returned (.bool true)/\J (pre++out) G2 w')\/(e= .returned (.bool false)/\∃q,q <+: out/\Jx (pre++q) G2 w'))
structure LeafS (p t i:Nat) (S:StoreD) (K:Nat->Prop) (J:List KV->(Nat->Prop)->World->Prop) (F G:Nat->Prop) (wa:World) (pre:List KV) (Fr Gr:Nat->Prop) (wr:World):Prop where
 it:ItT p t i S K Fr wr
 dis:Dis Fr Gr wr
 keep:Keeps (Un F G) (Un Fr Gr) wa wr
 j:J pre Gr wr
theorem LeafS.ext{p t i:Nat}{S:StoreD}{K:Nat->Prop}{J:List KV->(Nat->Prop)->World->Prop}{F G:Nat->Prop}{wa:World}{pre:List KV}{Fr Gr:Nat->Prop}{wr W:World}(h:LeafS p t i S K J F G wa pre Fr Gr wr)(hJ:Z2y J)(hb:Ext wr W):LeafS p t i S K J F G wa pre Fr Gr W:=
 ⟨h.it.ext hb,⟨fun i q=>aE (h.dis.1 i q) hb.size,fun i q=>⟨aE (h.dis.2 i q).1 hb.size,(h.dis.2 i q).2⟩⟩,h.keep.ext hb,hJ _ _ _ _ h.j (fun i q=>(h.dis.2 i q).1) (Only.of hb)⟩
theorem X9f{t p i:Nat}{F G K:Nat->Prop}{S:StoreD}{J Jx:List KV->(Nat->Prop)->World->Prop}{Ok:List KV->KV->Prop}(l wb a d lf:Nat)(key:ByteArray)(n:NodeD)(pre:List KV)(w:World)
 (hit:ItT p t i S K F w)(hdis:Dis F G w)(hwb:Z3k w wb t l key ((lf+1:Nat):Int))(hnw:¬Un F G wb)(hp:PageN S a n)(hl:n.leaf=true)(hd:0<d)(hJ:Z2y J)
 (hY:X3l Tryz.prog l (ItT p t i S K) J Jx Ok)(hOk:∀q x,q++ [x] <+: outL n key n.keys.length->Ok (pre++q) x)(h0:J pre G w)(hlf:lf<2000):
  cQ 107 #[tp wb,.int .i64 a,.int .i64 d] w (Y9b wb t l p i S K key lf F G J Jx pre (outL n key n.keys.length) w):=by
 have HIT:=hD hit;obtain⟨h1,h2,h3,_⟩:=hit;have hne:t≠wb:=Row1.apart h2 hwb (by decide);have hG0:¬G wb:=fun q=>hnw (.inr q);have hF0:¬F wb:=fun q=>hnw (.inl q);obtain⟨lv,hlv⟩:∃lv:Nat,lf+1=lv:=⟨_,rfl⟩;rw[hlv]at hwb;have T1:IntKind.i64.wrap ((lv:Int)-1)=(lf:Int):=by rw[IntKind.wrap_i64];omega
 have T2:decide ((lf:Int)<0)=false:=aM;have T3:((d:Int)==0)=false:=by simp;omega
 have z3:w.cell? ⟨wb,3,none⟩=some (.int .i64 lv):=hwb.cell 3;have y3:w.frozen? ⟨wb,3,none⟩=false:=hwb.soft 3;have hoA:Only (fun j=>j=wb) w (w.setCell ⟨wb,3,none⟩ (.int .i64 lf)):=Y5o w wb 3 _;have hwA:Z3k (w.setCell ⟨wb,3,none⟩ (.int .i64 lf)) wb t l key lf:=hwb.set 3 _;have x0:(w.setCell ⟨wb,3,none⟩ (.int .i64 lf)).cell? ⟨wb,0,none⟩=some (tp t):=hwA.cell 0;have htA:Z0b (w.setCell ⟨wb,3,none⟩ (.int .i64 lf)) t p i:=hoA.row h2 (fun q=>hne q);have cL:=Z1m a n (w.setCell ⟨wb,3,none⟩ (.int .i64 lf)) htA (h1.only hoA (fun j q q'=>by subst q';exact hF0 q)) hp;rw[hl]at cL;have HWA:=hD hwA;have HTA:=hD htA;have HOA:=hD hoA;have HD:=hD hdis;have HNW:=hD hnw;have HJ:=hD hJ;have HY:=hD hY;have HOK:=hD hOk;have H0:=hD h0;have HNT:=hD h3;have HVL:Hid (n.vals.length=n.keys.length):=(hp.ok.leafs hl).1;have HMANY:Hid (n.keys.length<=255):=hp.ok.many;have HSA:Hid ((w.setCell ⟨wb,3,none⟩ (.int .i64 lf)).heap.size=w.heap.size):=Z1z _ _ _;have HWL:=hD hwb.lt;have HTL:=hD h2.lt;have HTW:Hid (¬t=wb):=hne;clear h1 h2 h3 hdis hwb hnw hp hl hd hJ hY hOk h0 hlf hlv hoA hwA htA hG0 hF0;go_enter Tryz.func107,Tryz.ntmps107;go_wp2_with (first
  | (go_at_call 82;(with_reducible refine cL.mono ?_);clear cL;rintro e w2 ⟨kA,kn,kc,vA,vn,vc,cA,cn,cc,B,F1,rfl,hn1,hp1,hk1,hB,hF1,hBW⟩
     have HW2:Hid (Z3k w2 wb t l key lf):=hk1.only.row HWA.out (fun q=>HNW.out (.inl q));have x3:(w2.alloc (.cells #[.bool true,.slice kA kn kc,.slice vA vn vc,.slice cA cn cc] 166)).cell? ⟨wb,3,none⟩=some (.int .i64 lf):=(Row1.alloc HW2.out _).cell 3;have HN1:=hD hn1;have HP1:=hD hp1;have HK1:=hD hk1;have HB:=hD hB;have HF1:=hD hF1;have HBW:=hD hBW;clear hn1 hp1 hk1 hB hF1 hBW))
 obtain⟨wa,hwa⟩:∃wa,w2.alloc (.cells #[.bool true,.slice kA kn kc,.slice vA vn vc,.slice cA cn cc] 166)=wa:=⟨_,rfl⟩;rw[hwa];have hxa:Ext w2 wa:=hwa▸Ext.alloc _ _;have hra:Row1 wa w2.heap.size 166 [.bool true,.slice kA kn kc,.slice vA vn vc,.slice cA cn cc]:=hwa▸Row1.made w2 _ _;have hsz2:=HK1.out.only.size;rw[HSA.out]at hsz2;have HBW':Hid (w.heap.size<=B):=by have:=HB.out;rw[HSA.out]at this;exact this
 have HUN:Hid (∀b,B<=b\/b=wb->¬Un F1 G b):=fun b q=>by
  rcases q with q | q
  ·exact fun r=>r.elim (fun r=>by have:=HF1.out b r;omega) (fun r=>by have:=(HD.out.2 b r).1;have:=HBW'.out;omega)
  ·subst q;exact fun r=>r.elim (fun r=>HK1.out.out (by rw[HSA.out];exact HWL.out) (fun q=>HNW.out (.inl q)) r) (fun r=>HNW.out (.inr r))
 have HKEEP:Hid (∀Fr Gr W,Keeps (Un F1 G) (Un Fr Gr) wa W->∀b,(B<=b\/b=wb)->b<wa.heap.size->W.heap[b]? =wa.heap[b]?):=fun Fr Gr W q b hb hlt=>q.only.block b hlt (HUN.out b hb);have hita:ItT p t i S K F1 wa:=((HIT.out.only HOA.out (fun j q q'=>by subst q';exact HNW.out (.inl q)) (fun q=>HTW.out q)).keeps HP1.out HK1.out).ext hxa;have hdisa:Dis F1 G wa:=⟨fun i q=>by have:=HF1.out i q;have:=HBW.out;have:=hxa.size;omega,fun i q=>⟨by have:=(HD.out.2 i q).1;have:=hxa.size;omega,fun r=>by
  rcases HK1.out.new i r with s | s
  ·exact(HD.out.2 i q).2 s
  ·rw[HSA.out]at s;have:=(HD.out.2 i q).1;omega⟩⟩
 have hoa:Only (fun i=>¬G i) w wa:=((HOA.out.mono (fun i q=> .inl (fun r=>by subst q;exact HNW.out (.inr r)))).trans' (HK1.out.only.mono (fun i q=> .inl (fun r=>(HD.out.2 i r).2 q)))).ext hxa;have hja:J pre G wa:=HJ.out _ _ _ _ H0.out (fun i q=>(HD.out.2 i q).1) hoa;have HS0:Hid (LeafS p t i S K J F1 G wa (pre++outL n key 0) F1 G wa):=⟨hita,hdisa,Keeps.refl,by simpa [outL]using hja⟩;have HRA:=hD hra;have HXA:=hD hxa;have HWA2:Hid (Z3k wa wb t l key lf):=HW2.out.ext hxa HW2.out.lt;have HKN:Hid (kn=n.keys.length):=by obtain⟨A,c,q⟩:=HN1.out.keys.form;injection q
 have HVN:Hid (vn=n.vals.length):=by obtain⟨A,c,q⟩:=HN1.out.vals.form;injection q
 have HKWA:Hid (Keeps (fun i=>Un F G i\/i=wb) (fun i=>Un F1 G i\/i=wb) w wa):=⟨((HOA.out.mono (fun i q=> .inl (.inr q))).trans' (HK1.out.only.mono (fun i q=> .inl (.inl (.inl q))))).ext hxa,fun i q=>by
  rcases q with (q | q) | q
  ·rcases HK1.out.new i q with r | r
   ·exact .inl (.inl (.inl r))
   ·rw[HSA.out]at r;exact .inr r
  ·exact .inl (.inl (.inr q))
  ·exact .inl (.inr q)⟩
 clear hwa hxa hra hita hdisa hoa hja hsz2
 go_loopw [70] (fun x wr=>∃(j:Nat) (Fr Gr:Nat->Prop),j<=kn/\x= .int .i64 j/\Hid (LeafS p t i S K J F1 G wa (pre++outL n key j) Fr Gr wr)) (fun x _=>kn-(intOf x).toNat)
 case atStart=>exact⟨0,F1,G,by omega,rfl,HS0⟩
 case round=>
  obtain⟨j,Fr,Gr,hj,rfl,hs⟩:=hrel;by_cases hjk:j<kn
  ·have q1:decide ((j:Int)<kn)=true:=aN;have q1':decide (j<kn)=true:=decide_eq_true hjk;have hw1:IntKind.i64.wrap ((j:Int)+1)=(j:Int)+1:=by rw[IntKind.wrap_i64];have:=HMANY.out;have:=HKN.out;omega
   obtain⟨kb,kc9,hkv,hkb,hkcell⟩:=Z4h HN1.out.keys j (by have:=HKN.out;omega);obtain⟨vb,vc9,hvv,hvb,hvcell⟩:=Z4h HN1.out.vals j (by have:=HKN.out;have:=HVL.out;omega);injection hkv with e1 e2 e3;injection hvv with f1 f2 f3;have hkB:B<=kb:=HN1.out.fk kb (by rw[e1];rfl);have hvB:B<=vb:=HN1.out.fv vb (by rw[f1];rfl);have hvn:j<vn:=by have:=HKN.out;have:=HVN.out;have:=HVL.out;omega
   have hvn':(j:Int)<vn:=by omega
   subst e1 f1;obtain⟨k,hk⟩:∃k,n.keys[j]? =some k:=⟨_,aB (by have:=HKN.out;omega)⟩;obtain⟨v,hv⟩:∃v,n.vals[j]? =some v:=⟨_,aB (by have:=HVN.out;omega)⟩;rw[hk]at hkcell;rw[hv]at hvcell;simp only[Option.getD_some]at hkcell hvcell;have hxa:=HXA.out;have HST:Hid (outL n key (j+1)=outL n key j++(if ltB k key=true then []else [(k,v)])):=V1k n key j HVL.out (by have:=HKN.out;omega) k v hk hv;have HSS:Hid (∀Fr Gr W,Keeps (Un F1 G) (Un Fr Gr) wa W->W.cell? ⟨wb,1,none⟩=some (.string key)/\W.cell? ⟨wb,2,none⟩=some (.func (.yield l) #[] #[])/\W.cell? ⟨w2.heap.size,2,none⟩=some (.slice (some ⟨vb,0,none⟩) vn vc)/\W.cell? ⟨vb,j,none⟩=some (.string v)/\W.cell? ⟨kb,j,none⟩=some (.string k)):=fun Fr Gr W q=>by have h9:=HKEEP.out _ _ _ q;have r1:=HWA2.out.same (h9 wb (.inr rfl) HWA2.out.lt);have r2:=HRA.out.same (h9 w2.heap.size (.inl HBW.out) HRA.out.lt);exact⟨r1.cell 1,r1.cell 2,r2.cell 2,(World.cell?_of_block (h9 vb (.inl hvB) (aE hvb hxa.size))).trans ((hxa.cell (p:=⟨vb,j,none⟩) hvb).trans hvcell),(World.cell?_of_block (h9 kb (.inl hkB) (aE hkb hxa.size))).trans ((hxa.cell (p:=⟨kb,j,none⟩) hkb).trans hkcell)⟩
   have hks:=hs.out.keep;obtain⟨_,_,_,_,u5⟩:=HSS.out _ _ _ hks;have HOKX:Hid (ltB k key=false->Ok (pre++outL n key j) (k,v)):=fun q=>HOK.out _ _ (by
    have h9:outL n key (j+1) <+: outL n key n.keys.length:=by unfold outL;refine List.IsPrefix.filter _ ?_;exact List.take_prefix_take_left (by have:=HKN.out;omega)
    rw[HST.out,if_neg (by rw[q];decide)]at h9;exact h9)
   obtain⟨lt,hlt⟩:∃lt,ltB k key=lt:=⟨_,rfl⟩;have HLT:=hD hlt;have hlt2:Op.bytesLess k.toList key.toList=lt:=hlt;have HKS:=hD hks;clear hk hv hkcell hvcell hxa hks hkB hvB e2 e3 f2 f3 hkb hvb hlt;cases lt with
   | true=>
     go_upto_region 15 with fail;refine wp_region_held_drew (S:=fun W=>W.cell? ⟨wb,1,none⟩=some (.string key)/\W.cell? ⟨wb,2,none⟩=some (.func (.yield l) #[] #[])/\W.cell? ⟨w2.heap.size,2,none⟩=some (.slice (some ⟨vb,0,none⟩) vn vc)/\W.cell? ⟨vb,j,none⟩=some (.string v)/\W.cell? ⟨kb,j,none⟩=some (.string k)) (by kernel_rfl) (HSS.out _ _ _ (HKS.out.ext (by exact Xt))) (fun hHeld=> ?_);refine' tk 0 ?_;refine' tk 1 ?_;refine' tk 2 ?_;refine' tk 3 ?_;refine' tk 4 ?_;refine' tk 5 ?_;refine' tk 6 ?_;refine' tkn 7 ?_;refine' tkn 8 ?_;refine' tkn 9 ?_;refine' tkn 10 ?_;refine' tkn 11 ?_;refine' tkn 12 ?_;refine' tkn 13 ?_;refine' tkn 14 ?_;refine' tkn 15 ?_;refine' tkn 16 ?_;refine' tkn 17 ?_;refine' tkn 18 ?_;refine' tk 19 ?_;refine wpAnyH_done (by kernel_rfl) ?_ _;go_wp2_with fail
     go_roundw
     case rel=>exact⟨j+1,Fr,Gr,by omega,by go_num,hD (by rw[HST.out,if_pos HLT.out,List.append_nil];exact hs.out.ext HJ.out (by exact Xt))⟩
     case measure=>simp only[intOf];omega
   | false=>
     have hsd:=hs.out.ext HJ.out (show Ext wr wr.drew from Below.drew (Ext.refl _));obtain⟨fn9,tm9,as9,bo9,hy9,hR9⟩:=HY.out (pre++outL n key j) (k,v) wr.drew Fr Gr hsd.j hsd.it hsd.dis (HOKX.out HLT.out);have hy8:(Instr.yield l #[.string k,.string v]).run Tryz.prog wr.drew= .ok (.round l fn9 tm9 as9 bo9) wr.drew:=hy9;have HYIELD:=hD hy8;have HR9:=hD hR9;have HKD:Hid (Keeps (Un F1 G) (Un Fr Gr) wa wr.drew):=hsd.keep;clear hsd hy9 hy8 hR9;go_upto_region 15 with fail;refine V6d (S:=fun W=>W.cell? ⟨wb,1,none⟩=some (.string key)/\W.cell? ⟨wb,2,none⟩=some (.func (.yield l) #[] #[])/\W.cell? ⟨w2.heap.size,2,none⟩=some (.slice (some ⟨vb,0,none⟩) vn vc)/\W.cell? ⟨vb,j,none⟩=some (.string v)/\W.cell? ⟨kb,j,none⟩=some (.string k)) (by kernel_rfl) (HSS.out _ _ _ HKD.out) (fun hHeld=> ?_);refine' tkW 0 ?_;refine' tkW 1 ?_;refine' tkW 2 ?_;refine' tkW 3 ?_;refine' tkW 4 ?_;refine' tkW 5 ?_;refine' tkW 6 ?_;refine' tkW 7 ?_;refine' tkW 8 ?_;refine' tkW 9 ?_;refine' tkW 10 ?_;refine' tkW 11 ?_;refine' tkW 12 ?_;refine' tkW 13 ?_;refine' tkW 14 ?_;refine' tkW 15 ?_;refine' tkW 16 ?_;refine' X8s (i:=17) (o:= ?zoi17b) (by kernel_rfl) ?zhi17b ?zhw17b ?zhe17b ?zrest17b;(case zhi17b=>simp only[List.getElem?_toArray,List.getElem?_cons_succ,List.getElem?_cons_zero];exact rfl);(case zhw17b=>rfl);(case zhe17b=>go_simp;exact HYIELD.out);refine RoundIn.mono HR9.out ?_;rintro e W9 ⟨F9,G9,p1,p2,p3,p4⟩;have HK9:Hid (Keeps (Un F1 G) (Un F9 G9) wa W9):=Keeps.trans HKD.out p3;obtain⟨yb,rfl,p5⟩:∃yb:Bool,e= .returned (.bool yb)/\((yb=true/\J (pre++outL n key j++ [(k,v)]) G9 W9)\/(yb=false/\Jx (pre++outL n key j++ [(k,v)]) G9 W9)):=by
      rcases p4 with ⟨rfl,q⟩ | ⟨rfl,q⟩
      ·exact⟨true,rfl,.inl ⟨rfl,q⟩⟩
      ·exact⟨false,rfl,.inr ⟨rfl,q⟩⟩
     have HP1':=hD p1;have HP2':=hD p2;have HP5:=hD p5;clear p1 p2 p3 p4 p5;refine⟨_,rfl,(HSS.out _ _ _ HK9.out),fun hHeld=> ?_⟩;refine ptW ?_;refine' tkW 18 ?_;refine' tkW 19 ?_;refine Z8a (by kernel_rfl) ?_ _;cases yb with
     | true=>
       go_wp2_with fail
       go_roundw
       case rel=>exact⟨j+1,F9,G9,by omega,by go_num,hD (by
        rw[HST.out,if_neg (by rw[HLT.out];decide)];refine⟨HP1'.out,HP2'.out,HK9.out,?_⟩;rcases HP5.out with ⟨_,q⟩ | ⟨q,_⟩
        ·rw[<-aG];exact q
        ·cases q)⟩
       case measure=>simp only[intOf];omega
     | false=>
       have HDN:Hid (Y9b wb t l p i S K key lf F G J Jx pre (outL n key n.keys.length) w (.returned (.bool false)) W9):=by
        have hk:=HKEEP.out _ _ _ HK9.out;refine⟨F9,G9,HP1'.out,HP2'.out,?_,HWA2.out.same (hk wb (.inr rfl) HWA2.out.lt),HK9.out.out HWA2.out.lt (HUN.out wb (.inr rfl)),.inr ⟨rfl,outL n key (j+1),?_,?_⟩⟩
        ·refine⟨HKWA.out.only.trans HK9.out.only (fun i q=>HKWA.out.new i (.inl q)),fun i q=> ?_⟩;rcases q with q | q
         ·rcases HK9.out.new i q with r | r
          ·exact HKWA.out.new i (.inl r)
          ·exact .inr (Nat.le_trans HKWA.out.only.size r)
         ·exact .inl (.inr q)
        ·unfold outL;refine List.IsPrefix.filter _ ?_;exact List.take_prefix_take_left (by have:=HKN.out;omega)
        ·rw[HST.out,if_neg (by rw[HLT.out];decide)];rcases HP5.out with ⟨q,_⟩ | ⟨_,q⟩
         ·cases q
         ·rw[<-aG];exact q
       go_wp2_with fail;go_ret;exact HDN.out
  ·obtain rfl:j=kn:=by omega
   have HDN:Hid (Y9b wb t l p i S K key lf F G J Jx pre (outL n key n.keys.length) w (.returned (.bool true)) wr):=by
    have hk:=HKEEP.out _ _ _ hs.out.keep;refine⟨Fr,Gr,hs.out.it,hs.out.dis,?_,HWA2.out.same (hk wb (.inr rfl) HWA2.out.lt),hs.out.keep.out HWA2.out.lt (HUN.out wb (.inr rfl)),.inl ⟨rfl,by rw[<-HKN.out];exact hs.out.j⟩⟩;refine⟨HKWA.out.only.trans hs.out.keep.only (fun i q=>HKWA.out.new i (.inl q)),fun i q=> ?_⟩;rcases q with q | q
    ·rcases hs.out.keep.new i q with r | r
     ·exact HKWA.out.new i (.inl r)
     ·exact .inr (Nat.le_trans HKWA.out.only.size r)
    ·exact .inl (.inr q)
   clear hs;go_wp2_with fail;go_ret;exact HDN.out
theorem Y2c{P:Program}{l m:Nat}{args:Array Value}{W:World}{R:Ending->World->Prop}(h:YieldAt Fence.wide m P l args W R):YieldAt Fence.wide 0 P l args W R:=by obtain⟨fn,tmps,assign,body,h1,h2⟩:=h;exact⟨fn,tmps,assign,body,h1,h2.1,fun c cs _=>h2.2 c cs (room_wide _)⟩
theorem Y6d{p t i:Nat}{S:StoreD}{K F F1 G:Nat->Prop}{W w1:World}{α:Type}{J:α->(Nat->Prop)->World->Prop}{pre:α}(hit:ItT p t i S K F W)(hd:Dis F G W)(hJ:Z2y J)(h0:J pre G W)(hp:PagerAt w1 p F1 S)(hk:Keeps F F1 W w1):
  ∃F2,ItT p t i S K F2 w1/\Dis F2 G w1/\Keeps (Un F G) (Un F2 G) W w1/\J pre G w1/\Keeps F F2 W w1:=by
 have hk2:Keeps F (fun i=>F1 i/\i<w1.heap.size) W w1:=hk.shrink;refine⟨fun i=>F1 i/\i<w1.heap.size,hit.keeps hp.shrink hk2,⟨fun i q=>q.2,fun i q=>⟨aE (hd.2 i q).1 hk.only.size,hk2.out (hd.2 i q).1 (hd.2 i q).2⟩⟩,⟨hk.only.mono (fun i q=> .inl (.inl q)),fun i q=> ?_⟩,hJ _ _ _ _ h0 (fun i q=>(hd.2 i q).1) (hk.only.mono (fun i q=> .inl (fun r=>(hd.2 i r).2 q))),hk2⟩;rcases q with q | q
 ·rcases hk2.new i q with r | r
  ·exact .inl (.inl r)
  ·exact .inr r
 ·exact .inl (.inr q)
def SeqB(P:Program)(n g:Nat)(lb:Array Value)(It:(Nat->Prop)->World->Prop)(out:List KV)(w:World):Prop:=
 SeqO Fence.wide n P g lb X8i It (fun xs=>xs=out) (fun pre=>pre <+: out) (fun pre x=>pre++ [x] <+: out) w
section
variable {P:Program} {ops:Array Oper} {Q:Exit->Act->World->Prop} {S:World->Prop}
theorem X8q{o:Oper}{a:Act}{K:Act->World->Prop}(l n:Nat):∀r,askW P o a K Q r->o.uponIn (Fence.wide.inRound l) n P a K Q r:=fun r hh=>by
 have hd:(Fence.wide.inRound l).depth.isSome=true->1<=n:=fun q=>by simp[Fence.wide,Fence.inRound]at q
 cases r with
 | ok x w'=>
   cases x<;>simp only[askW,Oper.upon,Oper.uponIn]at hh ⊢
   case value v=>exact hh
   case skip=>exact hh
   case defer d=>exact hh
   case enter f args=>exact⟨hd,CallsIn.inRound l ((callsIn_wide (n:=n-1)).2 hh)⟩
   case row row args=>
    refine⟨hd,fun c cs _=> ?_⟩;obtain⟨v,w'',h1,h2⟩:=hh c cs;exact⟨v,w'',h1,stepsIn_wide.2 h2⟩
   case round l f tmps assign body=>exact⟨hd,hh.1,fun c cs _=>hh.2 c cs (room_wide _)⟩
 | halt x w'=>cases x<;>simp only[askW,Oper.upon,Oper.uponIn]at hh ⊢ <;>exact hh
theorem X2l(l n:Nat)(hnd:∀(i:Nat) (o:Oper),ops[i]? =some o->∀c,o.op≠ .defer c)(i:Nat)(rest:List Nat)(a:Act)(w:World)(h:opW P ops Q i (wpOpsIn (Fence.wide.inRound l) n P ops Q rest) a w):wpOpsIn (Fence.wide.inRound l) n P ops Q (i::rest) a w:=by
 unfold opW at h;simp only[wpOpsIn];cases ho:ops[i]? with
 | none=>simp only[ho]at h;exact h
 | some o=>
   simp only[ho]at h ⊢;split
   ·rename_i hw
    simp only[hw,if_true]at h;refine⟨fun _ _=>trivial,?_⟩;rw[Oper.semAt_eq _ _ _ (hnd i o ho)];exact X8q l n _ h
   ·rename_i hw
    simp only[hw]at h;exact⟨fun _ _=>trivial,h⟩
theorem X1m(l n:Nat)(hnd:∀(i:Nat) (o:Oper),ops[i]? =some o->∀c,o.op≠ .defer c):∀(fuel t:Nat) (listed:Array Bool) (a:Act) (w:World),anyW P ops Q S fuel listed a w->wpOpsIn (Fence.wide.inRound l) n P ops Q (Region.linearise.go .any ops fuel t listed []) a w:=by
 intro fuel
 induction fuel with
 | zero=>intro t listed a w h;simpa [Region.linearise.go,wpOpsIn]using h.2
 | succ fuel ih=>
   intro t listed a w h;obtain⟨h0,h1⟩:=h;simp only[Region.linearise.go];change wpOpsIn (Fence.wide.inRound l) n P ops Q (match (Region.ready .any ops listed)[t%(Region.ready .any ops listed).length]? with
    | some i=>Region.linearise.go .any ops fuel (t/(Region.ready .any ops listed).length) (listed.setIfInBounds i true) [i]
    | none=> [].reverse) a w
   cases hi:(Region.ready .any ops listed)[t%(Region.ready .any ops listed).length]? with
   | none=>
     have hnil:Region.ready .any ops listed= []:=by
      cases hr:Region.ready .any ops listed with
      | nil=>rfl
      | cons x xs=>
        rw[hr,List.getElem?_eq_none_iff]at hi;exact absurd (Nat.mod_lt t (show 0<(x::xs).length by simp)) (by omega)
     simpa [wpOpsIn]using h0 hnil
   | some i=>
     simp only[];rw[linearise_go_acc,List.reverse_singleton,List.singleton_append];exact X2l l n hnd _ _ _ _ (Y8d (fun a w q=>ih _ _ a w q.2) (h1 i (List.mem_of_getElem? hi)))
def U1b(ops:Array Oper):Bool:=ops.toList.all fun o=>match o.op with | .defer _=>false | _=>true
theorem X7n(h:U1b ops=true):∀(i:Nat) (o:Oper),ops[i]? =some o->∀c,o.op≠ .defer c:=fun i o ho c e=>by unfold U1b at h;rw[List.all_eq_true]at h;have h1:=h o (by rw[Array.mem_toList_iff];exact Array.mem_of_getElem? ho);rw[e]at h1;cases h1
theorem Y7y{id:Nat}{a:Act}{w:World}{l n:Nat}(hm:P.follows .mixedOrders=true)(hnd:U1b ops=true)(hS:S w.drew)
 (h:S w.drew->anyW P ops Q S ops.size (Array.replicate ops.size false) a w.drew):(Code.region id ops true).wpIn (Fence.wide.inRound l) n P Q a w:=by
 refine wpIn_region_draw fun t=> ?_;simp only[Region.schedule,hm,Bool.true_or,if_true];exact X1m l n (X7n hnd) ops.size t _ a _ (h hS)
theorem U1t{o:Oper}{a:Act}{K:Act->World->Prop}:∀r,o.upon P a K Q r->askW P o a K Q r:=fun r hh=>by
 cases r with
 | ok x w'=>cases x<;>first | exact hh | exact hh.elim
 | halt x w'=>exact hh
def AllReadyW(P:Program)(ops:Array Oper)(Q:Exit->Act->World->Prop)(S:World->Prop)(fuel:Nat)(listed:Array Bool)(a:Act)(w:World)(rs:List Nat):Prop:=
 ∀i∈rs,opW P ops Q i (fun a' w'=>S w'/\anyW P ops Q S fuel (listed.setIfInBounds i true) a' w') a w
theorem AllReadyW.nil{fuel:Nat}{listed:Array Bool}{a:Act}{w:World}:AllReadyW P ops Q S fuel listed a w []:=fun _ h=>by cases h
theorem AllReadyW.cons{fuel:Nat}{listed:Array Bool}{a:Act}{w:World}{i:Nat}{o:Oper}{rs:List Nat}(ho:ops[i]? =some o)
 (h:∀K':Act->World->Prop,Shut (∀a w,S w->(S w->anyW P ops Q S fuel (listed.setIfInBounds i true) a w)->K' a w)->if Region.wanted o (yielded ops a.tmps)=true then Oper.wp P o a w K' Q else K' (a.put o.dst undef) w)
 (hs:AllReadyW P ops Q S fuel listed a w rs):AllReadyW P ops Q S fuel listed a w (i::rs):=fun j hj=>by
 rcases List.mem_cons.1 hj with rfl | hj
 ·have h1:=h _ (fun a w h1 h2=>⟨h1,h2 h1⟩:Shut (∀a w,S w->(S w->anyW P ops Q S fuel (listed.setIfInBounds j true) a w)->(S w/\anyW P ops Q S fuel (listed.setIfInBounds j true) a w)));unfold opW;simp only[ho];split
  ·rename_i hw
   rw[if_pos hw]at h1;exact U1t _ h1
  ·rename_i hw
   rw[if_neg hw]at h1;exact h1
 ·exact hs j hj
theorem Y7b{rs:List Nat}{fuel:Nat}{listed:Array Bool}{a:Act}{w:World}(hr:Region.ready .any ops listed=rs)(hne:rs≠ [])
 (h:AllReadyW P ops Q S fuel listed a w rs):anyW P ops Q S (fuel+1) listed a w:=⟨fun h0=>absurd (hr.symm.trans h0) hne,fun i hi=>h i (hr▸hi)⟩
theorem stpW(i:Nat){o:Oper}{fuel:Nat}{listed:Array Bool}{a:Act}{w:World}
 (h:∀K':Act->World->Prop,Shut (∀a w,S w->(S w->anyW P ops Q S fuel (listed.setIfInBounds i true) a w)->K' a w)->if Region.wanted o (yielded ops a.tmps)=true then Oper.wp P o a w K' Q else K' (a.put o.dst undef) w)
 (hr:Region.ready .any ops listed= [i]:=by kernel_rfl)(ho:ops[i]? =some o:=by exact rfl):anyW P ops Q S (fuel+1) listed a w:=
 Y7b hr (by simp) (AllReadyW.cons ho h AllReadyW.nil)
def X2n(K:Act->World->Prop):Exit->Act->World->Prop
 | .normal,a,w=>K a w
 | _,_,_=>False
theorem Y0s{F:Fence}{n:Nat}{c:Code}{K:Act->World->Prop}{a:Act}{w:World}(h:c.wpIn F n P (X2n K) a w):c.wpIn F n P (Exit.then K Q) a w:=
 wpIn_mono h (by
  intro e a w q;cases e<;>first | exact q | exact q.elim)
end
end
end Go.Proofs.YtohaldfnmgcofaaGreat
