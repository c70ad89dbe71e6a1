/- Arguments that are read: slices, operations' and queries' nodes, out of the reading that a row gives. No conditions. -/
import Derived.Test.YtohaldfnmgcofaaGreatT01
import Derived.ProofKit
set_option maxRecDepth 100000
set_option linter.unusedSimpArgs false
set_option linter.unusedVariables false
namespace Go.Proofs.YtohaldfnmgcofaaGreat
open Go.ChangeShapes Go.WideShapes Go.ChangeAt Go.RowKit
section
variable {H:Type} {enc:TypeId×Value->H} {w:World} {spare:Nat->Bool} {held:Bool}
theorem V1p{P:Program}{t e sz fuel:Nat}{cs:List Value}{x:DataW H×List MemPlace}{α:Type}(R:α->List Value->Prop)(ht:P.underlying t=some (.slice e))(hc:P.cellsOf e=sz)(hsz:0<sz)
 (hR:∀n cs x,fuel=n+1->DataW.trod enc P w 0 spare held n e cs=some x->∃a,R a cs)(h:DataW.trod enc P w 0 spare held fuel t cs=some x):∃v xs,cs= [v]/\Sl w sz R v xs:=by
 rcases DataW.trod_slice ht h with ⟨rfl,_⟩ | ⟨a,len,cap,elems,rest,n,hf,rfl,_,_,hl,hm,hlen,hel,_,_⟩
 ·exact⟨_,[],rfl,Sl.nil _ _ _⟩
 ·rw[hc]at hel;have one:∀i,i<len->∃cs' a',R a' cs'/\cs'.length=sz/\∀j,j<sz->w.cell? ((a.add (i*sz)).add j)=cs'[j]? :=by intro i hi;have h1:=hel i hi;have h2:elems[i]? =some elems[i]:=aB (by omega);rw[h2,Option.bind_eq_some_iff]at h1;obtain⟨cs',hcs,htr⟩:=h1;obtain⟨_,hcl,hat⟩:=World.cells?_some hcs;obtain⟨a',ha'⟩:=hR n cs' _ hf htr;exact⟨cs',a',ha',hcl,hat⟩
  have adr:0<len->∃b off,a=⟨b,off,none⟩/\b<w.heap.size:=by
   intro h0;obtain⟨cs',_,_,hcl,hat⟩:=one 0 h0;have h1:=hat 0 hsz;have h2:cs'[0]? =some cs'[0]:=aB (by omega);rw[h2]at h1;obtain⟨b,off,spot⟩:=a;have hs:spot=none:=by simpa [Addr.add]using World.cell?_spot h1
   subst hs;have hb:=World.block_lt_of_cell? w _ h1;exact⟨b,off,rfl,by simpa [Addr.add]using hb⟩
  have all:∀m,m<=len->∃xs:List α,xs.length=m/\∀i x,xs[i]? =some x->∃cs',R x cs'/\cs'.length=sz/\∀j,j<sz->w.cell? ((a.add (i*sz)).add j)=cs'[j]? :=by
   intro m
   induction m with
   | zero=>intro _;exact⟨[],rfl,fun i x hx=>by simp at hx⟩
   | succ m ih=>
     intro hm';obtain⟨xs,hxl,hx⟩:=ih (by omega);obtain⟨cs',a',h1,h2,h3⟩:=one m (by omega);refine⟨xs++ [a'],by simp[hxl],fun i x hi=> ?_⟩;rcases Nat.lt_or_ge i m with hlt | hge
     ·rw[aL (by omega)]at hi;exact hx i x hi
     ·rw[List.getElem?_append_right (by omega)]at hi;have h0:i-xs.length=0:=by have:=(aC.1 hi).1;simp at this;omega
      rw[h0]at hi;obtain rfl:a'=x:=by simpa using hi
      obtain rfl:i=m:=by omega
      exact⟨cs',h1,h2,h3⟩
  obtain⟨xs,hxl,hx⟩:=all len (aF _);refine⟨_,xs,rfl,some a,cap,by rw[hxl],by omega,hm,fun h0=> ?_⟩;obtain⟨b,off,rfl,hb⟩:=adr (by omega);refine⟨b,off,rfl,hb,fun i x hi=> ?_⟩;obtain⟨cs',h1,h2,h3⟩:=hx i x hi;refine⟨cs',h1,h2,fun j u hu=> ?_⟩;have h4:=h3 j (by have:=(aC.1 hu).1;omega);rw[hu,Addr.add_lit,Addr.add_lit]at h4;exact h4
theorem Y8v{n:Int}(h:(Lit.int .i64 n).wf=true): -9223372036854775808<=n/\n<=9223372036854775807:=by simpa [Lit.wf,IntKind.min,IntKind.max,IntKind.signed,IntKind.bits]using h
theorem Tryz.cInt:Tryz.prog.cellsOf 3=1:=by kernel_rfl
end
structure OpW (o:OpD):Prop where
 id:(Lit.int .i64 o.id).wf=true
 proc:(Lit.int .i64 o.proc).wf=true
 object:(Lit.int .i64 o.object).wf=true
 kind:(Lit.int .i64 o.kind).wf=true
 method:(Lit.int .i64 o.method).wf=true
 arg:(Lit.int .i64 o.arg).wf=true
 second:(Lit.int .i64 o.second).wf=true
 result:(Lit.int .i64 o.result).wf=true
 invoke:(Lit.int .i64 o.invoke).wf=true
 ret:(Lit.int .i64 o.ret).wf=true
section
variable {H:Type} {enc:TypeId×Value->H} {w:World} {spare:Nat->Bool} {held:Bool}
theorem Tryz.op11:Tryz.prog.cellsOf 73=11:=by kernel_rfl
theorem Tryz.cBool:Tryz.prog.cellsOf 4=1:=by kernel_rfl
theorem U0w(fuel:Nat){cs:List Value}{x:DataW H×List MemPlace}(h:DataW.trod enc Tryz.prog w 0 spare held fuel 73 cs=some x):∃o:OpD,ROp o cs/\OpW o:=by
 obtain⟨xs,k,rfl,_,hcl,hxl,hg⟩:=DataW.trod_struct Tryz.underlying73 h;rw[Tryz.op11]at hcl
 match cs,hcl,xs,hxl with
 | [c0,c1,c2,c3,c4,c5,c6,c7,c8,c9,c10],_,[y0,y1,y2,y3,y4,y5,y6,y7,y8,y9,y10],_=>
   have g0:=hg 0 _ rfl;have g1:=hg 1 _ rfl;have g2:=hg 2 _ rfl;have g3:=hg 3 _ rfl;have g4:=hg 4 _ rfl;have g5:=hg 5 _ rfl;have g6:=hg 6 _ rfl;have g7:=hg 7 _ rfl;have g8:=hg 8 _ rfl;have g9:=hg 9 _ rfl;have g10:=hg 10 _ rfl;clear hg h hxl hcl;simp[Tryz.cInt,Tryz.cBool]at g0 g1 g2 g3 g4 g5 g6 g7 g8 g9 g10;obtain⟨n0,e0,_,w0⟩:=DataW.trod_int Tryz.underlying3 g0;obtain⟨n1,e1,_,w1⟩:=DataW.trod_int Tryz.underlying3 g1;obtain⟨n2,e2,_,w2⟩:=DataW.trod_int Tryz.underlying3 g2;obtain⟨n3,e3,_,w3⟩:=DataW.trod_int Tryz.underlying3 g3;obtain⟨n4,e4,_,w4⟩:=DataW.trod_int Tryz.underlying3 g4;obtain⟨n5,e5,_,w5⟩:=DataW.trod_int Tryz.underlying3 g5;obtain⟨n6,e6,_,w6⟩:=DataW.trod_int Tryz.underlying3 g6;obtain⟨n7,e7,_⟩:=DataW.trod_bool Tryz.underlying4 g7;obtain⟨n8,e8,_,w8⟩:=DataW.trod_int Tryz.underlying3 g8;obtain⟨n9,e9,_,w9⟩:=DataW.trod_int Tryz.underlying3 g9;obtain⟨n10,e10,_,w10⟩:=DataW.trod_int Tryz.underlying3 g10;simp only[List.cons.injEq,and_true]at e0 e1 e2 e3 e4 e5 e6 e7 e8 e9 e10;subst e0 e1 e2 e3 e4 e5 e6 e7 e8 e9 e10;exact⟨⟨n0,n1,n2,n3,n4,n5,n6,n7,n8,n9,n10⟩,rfl,⟨w0,w1,w2,w3,w4,w5,w6,w8,w9,w10⟩⟩
end
end Go.Proofs.YtohaldfnmgcofaaGreat
