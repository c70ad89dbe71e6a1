/- The words that all walks share: a slice that reads as a list of data, and how it stays so. No conditions. -/
import Derived.Test.YtohaldfnmgcofaaGreatRows
import Derived.WalkKit
import Derived.WalkSpells
import Derived.WalkLawsBesides
import Derived.Deep.QuietTactic
import Derived.BigQuiet
import Derived.Lib.Hide
import Derived.Deep.Light
import Derived.Deep.Cut
import Derived.Deep.DeepFit
import Derived.Deep.RegionWith
import Derived.Deep.RegionHeld3
import Derived.Deep.DeepCutAuto
set_option maxRecDepth 100000
set_option maxHeartbeats 800000
set_option linter.unusedSimpArgs false
set_option linter.unusedVariables false
namespace Go.Proofs.YtohaldfnmgcofaaGreat
section
open Go.RowKit
theorem hD{p:Prop}(h:p):Hid p:=h
theorem aA.{u}{α:Type u}{p q:List α}:(p++q).length=p.length+q.length:=List.length_append
theorem aB.{u}{α:Type u}{l:List α}{i:Nat}(h:i<l.length):l[i]? =some l[i]:=List.getElem?_eq_getElem h
theorem aC.{u}{α:Type u}{i:Nat}{a:α}{l:List α}:l[i]? =some a↔∃h:i<l.length,l[i]=a:=List.getElem?_eq_some_iff
theorem aD.{u}{α:Type u}{i:Nat}{l:List α}:(List.take i l).length=min i l.length:=List.length_take
theorem aE{n m k:Nat}:n<m->m<=k->n<k:=Nat.lt_of_lt_of_le
theorem aF(n:Nat):n<=n:=Nat.le_refl n
theorem aG.{u}{α:Type u}(p q r:List α):p++q++r=p++(q++r):=List.append_assoc p q r
theorem aH.{u,v}{α:Type u}{β:Type v}{xs ys:List α}{f:α->List β}:(xs++ys).flatMap f=xs.flatMap f++ys.flatMap f:=List.flatMap_append
theorem aI.{u,v}{α:Type u}{β:Type v}{x:α}{xs:List α}{f:α->List β}:(x::xs).flatMap f=f x++xs.flatMap f:=List.flatMap_cons
theorem aJ.{u}{α:Type u}{i:Nat}{l:List α}:(List.drop i l).length=l.length-i:=List.length_drop
theorem aK.{u}{α:Type u}{a:α}:[a].length=1:=List.length_singleton
theorem aL.{u}{α:Type u}{l₁ l₂:List α}{i:Nat}:i<l₁.length->(l₁++l₂)[i]? =l₁[i]?:=List.getElem?_append_left
theorem aM{p:Prop}[Decidable p](h:¬p:=by omega):decide p=false:=decide_eq_false h
theorem aN{p:Prop}[Decidable p](h:p:=by omega):decide p=true:=decide_eq_true h
abbrev tp(t:Nat):Value:= .pointer (some ⟨t,0,none⟩)
abbrev cQ:=Calls Tryz.prog
abbrev Ext(w w':World):Prop:=Below w.heap.size w w'
theorem Ext.refl(w:World):Ext w w:=Below.refl _ w
theorem Ext.trans{a b c:World}(h:Ext a b)(k:Ext b c):Ext a c:=Below.trans h (k.mono h.size)
theorem Ext.drewN{a w:World}(h:Ext a w)(n:Nat):Ext a (w.drewN n):=⟨h.os,h.tape,h.output,h.size,h.block⟩
def Sl{α:Type}(w:World)(sz:Nat)(R:α->List Value->Prop)(v:Value)(xs:List α):Prop:=
 ∃(A:Option Addr) (c:Nat),v= .slice A xs.length c/\xs.length<=c/\c<=maxLen/\
  (0<xs.length->∃b off,A=some ⟨b,off,none⟩/\b<w.heap.size/\
    ∀i x,xs[i]? =some x->∃cs,R x cs/\cs.length=sz/\∀j u,cs[j]? =some u->w.cell? ⟨b,off+i*sz+j,none⟩=some u)
theorem Sl.keep{α:Type}{w w':World}{sz:Nat}{R R':α->List Value->Prop}{v:Value}{xs:List α}(h:Sl w sz R v xs)
 (hs:w.heap.size<=w'.heap.size)(hc:∀b o,b<w.heap.size->w'.cell? ⟨b,o,none⟩=w.cell? ⟨b,o,none⟩)(hR:∀x cs,x∈xs->R x cs->R' x cs):Sl w' sz R' v xs:=by
 obtain⟨A,c,rfl,h1,h2,h3⟩:=h;refine⟨A,c,rfl,h1,h2,fun hn=> ?_⟩;obtain⟨b,off,rfl,hb,hx⟩:=h3 hn;refine⟨b,off,rfl,aE hb hs,fun i x hi=> ?_⟩;obtain⟨cs,hr,hl,hcs⟩:=hx i x hi;exact⟨cs,hR x cs (List.mem_of_getElem? hi) hr,hl,fun j u hu=>(hc b _ hb).trans (hcs j u hu)⟩
theorem Sl.ext{α:Type}{w w':World}{sz:Nat}{R:α->List Value->Prop}{v:Value}{xs:List α}(h:Sl w sz R v xs)(hb:Ext w w'):Sl w' sz R v xs:=
 h.keep hb.size (fun b o hlt=>hb.cell (p:=⟨b,o,none⟩) hlt) (fun _ _ _ h=>h)
theorem Sl.nil{α:Type}(w:World)(sz:Nat)(R:α->List Value->Prop):Sl w sz R (.slice none 0 0) []:=
 ⟨none,0,rfl,aF _,Nat.zero_le _,fun h=>absurd h (by simp)⟩
theorem Sl.at{α:Type}{w:World}{sz:Nat}{R:α->List Value->Prop}{A:Option Addr}{n c:Nat}{xs:List α}(h:Sl w sz R (.slice A n c) xs):
  n=xs.length/\xs.length<=c/\c<=9223372036854775807/\(0<xs.length->∃b off,A=some ⟨b,off,none⟩/\b<w.heap.size/\
   ∀i (hi:i<xs.length),∃cs,R xs[i] cs/\cs.length=sz/\∀j u,cs[j]? =some u->w.cell? ⟨b,off+i*sz+j,none⟩=some u):=by
 obtain⟨A',c',he,h1,h2,h3⟩:=h;injection he with e1 e2 e3;subst e1 e2 e3;refine⟨rfl,h1,by simpa [maxLen]using h2,fun hn=> ?_⟩;obtain⟨b,off,hA,hb,hx⟩:=h3 hn;exact⟨b,off,hA,hb,fun i hi=>hx i _ (aB hi)⟩
theorem Sl.form{α:Type}{w:World}{sz:Nat}{R:α->List Value->Prop}{v:Value}{xs:List α}(h:Sl w sz R v xs):∃A c,v= .slice A xs.length c:=by obtain⟨A,c,rfl,_⟩:=h;exact⟨A,c,rfl⟩
theorem Sl.all{α:Type}{w:World}{sz:Nat}{R:α->List Value->Prop}{v:Value}{xs:List α}(h:Sl w sz R v xs):∀x∈xs,∃cs,R x cs:=by intro x hx;obtain⟨i,hi,rfl⟩:=List.mem_iff_getElem.1 hx;obtain⟨A,c,_,_,_,h3⟩:=h;obtain⟨b,off,_,_,hc⟩:=h3 (by omega);obtain⟨cs,hr,_⟩:=hc i _ (aB hi);exact⟨cs,hr⟩
theorem Sl.mono{α:Type}{w:World}{sz:Nat}{R R':α->List Value->Prop}{v:Value}{xs:List α}(h:Sl w sz R v xs)(hR:∀x cs,R x cs->R' x cs):Sl w sz R' v xs:=
 h.keep (aF _) (fun _ _ _=>rfl) (fun x cs _=>hR x cs)
theorem Ext.alloc(w:World)(o:Obj):Ext w (w.alloc o):=Below.alloc (Below.refl _ _) (aF _) o
def Row1(w:World)(g:Nat)(t:TypeId)(cs:List Value):Prop:=w.heap[g]? =some (.cells cs.toArray t (0,0))
section
variable {w w':World} {g:Nat} {t:TypeId} {cs:List Value}
theorem Row1.lt(h:Row1 w g t cs):g<w.heap.size:=(Array.getElem?_eq_some_iff.1 h).1
theorem Row1.cell(h:Row1 w g t cs)(i:Nat):w.cell? ⟨g,i,none⟩=cs[i]? :=by unfold Row1 at h;simp[World.cell?,h]
theorem Row1.soft(h:Row1 w g t cs)(i:Nat):w.frozen? ⟨g,i,none⟩=false:=by unfold Row1 at h;simp[World.frozen?,h]
theorem Row1.same(h:Row1 w g t cs)(hb:w'.heap[g]? =w.heap[g]?):Row1 w' g t cs:=hb.trans h
theorem Row1.ext{B:Nat}(h:Row1 w g t cs)(hb:Below B w w')(hg:g<B):Row1 w' g t cs:=h.same (hb.block g hg)
theorem Row1.grown{row:Option Nat}(h:Row1 w g t cs)(hb:w.grownBy w' row)(hg:some g≠row):Row1 w' g t cs:=h.same (hb.block g h.lt hg)
theorem Row1.apart{g':Nat}{t':TypeId}{cs':List Value}(h:Row1 w g t cs)(h':Row1 w g' t' cs')(ht:t≠t'):g≠g':=by intro e;subst e;have:=h.symm.trans h';injection this with this;injection this with _ this;exact ht this
theorem Row1.alloc(h:Row1 w g t cs)(o:Obj):Row1 (w.alloc o) g t cs:=h.same (Below.heap_alloc w o g h.lt)
theorem Row1.set(h:Row1 w g t cs)(i:Nat)(u:Value):Row1 (w.setCell ⟨g,i,none⟩ u) g t (cs.set i u):=by unfold Row1 at h ⊢;simp[World.setCell,Array.getElem?_modify,h]
theorem Row1.setFar(h:Row1 w g t cs){p:Addr}(hp:g≠p.block)(u:Value):Row1 (w.setCell p u) g t cs:=h.same (Below.heap_setCell w p u g hp)
theorem Row1.made(w:World)(t:TypeId)(cs:List Value):Row1 (w.alloc (.cells cs.toArray t)) w.heap.size t cs:=heap_alloc_new w _
theorem Row1.made'{w:World}{n:Nat}(h:w.heap.size=n)(t:TypeId)(cs:List Value):Row1 (w.alloc (.cells cs.toArray t)) n t cs:=h▸Row1.made w t cs
end
theorem Z1z(w:World)(p:Addr)(u:Value):(w.setCell p u).heap.size=w.heap.size:=by simp[World.setCell]
abbrev But(g:Nat)(w w':World):Prop:=w.grownBy w' (some g)
section
variable {g:Nat} {a w w':World}
theorem But.of(h:Ext a w):But g a w:=⟨h.os,h.tape,h.output,h.size,fun k hk _=>h.block k hk⟩
theorem But.refl:But g a a:=But.of (Ext.refl a)
theorem But.trans(h:But g a w)(k:But g w w'):But g a w':=
 ⟨k.os.trans h.os,k.tape.trans h.tape,k.output.trans h.output,Nat.le_trans h.size k.size,fun i hi hne=>(k.block i (aE hi h.size) hne).trans (h.block i hi hne)⟩
theorem But.setCell(h:But g a w){p:Addr}(hp:p.block=g\/a.heap.size<=p.block)(u:Value):But g a (w.setCell p u):=
 ⟨h.os,h.tape,h.output,by simpa [World.setCell]using h.size,fun i hi hne=>(Below.heap_setCell w p u i (by
   intro e;subst e;rcases hp with e | e
   ·exact hne (by rw[e])
   ·omega)).trans (h.block _ hi hne)⟩
theorem But.fresh(h:But g a w)(hg:a.heap.size<=g):Ext a w:=⟨h.os,h.tape,h.output,h.size,fun k hk=>h.block k hk (fun e=>by injection e with e;omega)⟩
end
theorem Sl.laid{α:Type}{w:World}{sz g n c:Nat}{t:TypeId}{R:α->List Value->Prop}{xs:List α}{cs:List Value}(hg:Row1 w g t cs)(hn:n=xs.length)(hnc:n<=c)(hm:c<=maxLen)
 (hx:∀i x,xs[i]? =some x->∃ys,R x ys/\ys.length=sz/\∀j u,ys[j]? =some u->cs[i*sz+j]? =some u):Sl w sz R (.slice (some ⟨g,0,none⟩) n c) xs:=by
 subst hn;refine⟨_,c,rfl,hnc,hm,fun _=>⟨g,0,rfl,hg.lt,fun i x hi=> ?_⟩⟩;obtain⟨ys,h1,h2,h3⟩:=hx i x hi;exact⟨ys,h1,h2,fun j u hu=>by rw[Nat.zero_add,hg.cell];exact h3 j u hu⟩
theorem U2h{α:Type}{w:World}{base sz n:Nat}{e:TypeId}{v:Value}{R:α->List Value->Prop}{xs:List α}{cs:List Value}(h:w.ownsRow base e sz v n cs)(hn:n=xs.length)
 (hx:∀i x,xs[i]? =some x->∃ys,R x ys/\ys.length=sz/\∀j u,ys[j]? =some u->cs[i*sz+j]? =some u):Sl w sz R v xs:=by
 subst hn;rcases h.2 with ⟨rfl,h0⟩ | ⟨g,cap,cur,rfl,_,hg,hc,hm,_,ht⟩
 ·obtain rfl:xs= []:=List.eq_nil_of_length_eq_zero h0;exact Sl.nil _ _ _
 ·refine⟨_,cap,rfl,hc,hm,fun _=>⟨g,0,rfl,(Array.getElem?_eq_some_iff.1 hg).1,fun i x hi=> ?_⟩⟩;obtain⟨ys,h1,h2,h3⟩:=hx i x hi;refine⟨ys,h1,h2,fun j u hu=> ?_⟩;have h4:=h3 j u hu;rw[<-ht,List.getElem?_take]at h4;split at h4
  ·simpa [World.cell?,hg]using h4
  ·cases h4
theorem V1j{w w':World}{base sz n:Nat}{e:TypeId}{v:Value}{cs:List Value}(h:w.ownsRow base e sz v n cs)(hb:Ext w w'):w'.ownsRow base e sz v n cs:=
 h.kept (row:=none) ⟨hb.os,hb.tape,hb.output,hb.size,fun k hk _=>hb.block k hk⟩ (by cases v.ownBlock<;>simp)
theorem Z3j{α:Type}(f:α->List Value)(sz:Nat)(hf:∀x,(f x).length=sz):∀(xs:List α) (i:Nat) (x:α),xs[i]? =some x->∀j u,(f x)[j]? =some u->(xs.flatMap f)[i*sz+j]? =some u
 | [],_,_,h,_,_,_=>by simp at h
 | y::r,0,x,h,j,u,hu=>by
   obtain rfl:y=x:=by simpa using h
   rw[aI,Nat.zero_mul,Nat.zero_add,aL (aC.1 hu).1,hu]
 | y::r,i+1,x,h,j,u,hu=>by
   have h1:=Z3j f sz hf r i x (by simpa using h) j u hu;rw[aI,List.getElem?_append_right (by rw[hf];simp[Nat.add_mul];omega),hf,<-h1]
   congr 1
   rw[Nat.add_mul];omega
theorem Z3i{α:Type}(f:α->List Value)(sz:Nat)(hf:∀x,(f x).length=sz)(xs:List α):(xs.flatMap f).length=xs.length*sz:=by
 induction xs with
 | nil=>simp
 | cons y r ih=>rw[aI,aA,hf,ih,List.length_cons,Nat.add_mul];omega
theorem Y3r{k:IntKind}{a b:Int}(h:a=b):Ending.returned (.int k a)= .returned (.int k b):=by rw[h]
section
variable {P:Program} {ops:Array Oper} {Q:Exit->Act->World->Prop} {md:Region.Mode} {S:World->Prop}
theorem tk(i:Nat){oi:Oper}{v:Value}{fuel:Nat}{listed listed':Array Bool}{a a':Act}{w:World}
 (h:wpAnyH P md ops Q S fuel listed' a' w)
 (hi:ops[i]? =some oi:=by simp only[List.getElem?_toArray,List.getElem?_cons_succ,List.getElem?_cons_zero];exact rfl)
 (hs:Region.noSelect ops=true:=by kernel_rfl)(hf:Region.free md ops listed i=true:=by kernel_rfl)(hr:(Region.ready md ops listed).contains i=true:=by kernel_rfl)
 (hQ:∀c a w,Q (.panic c) (a.put oi.dst v) w->Q (.panic c) a w:=by exact fun _ _ _ h=>h)
 (hw:Region.wanted oi (yielded ops a.tmps)=true:=by rfl)
 (hy:∀w,S w->(execOp a.eval oi).run P w= .ok (.value v) w:=by intro w hSw;(try dsimp only at hSw);go_simp;(try with_reducible rfl))
 (hS:S w:=by assumption)
 (ha:a.put oi.dst v=a':=by(try simp only[Act.put,List.setIfInBounds_toArray,List.set_cons_zero,List.set_cons_succ]);exact rfl)(hl:listed.setIfInBounds i true=listed':=by(try simp only[List.setIfInBounds_toArray,List.set_cons_zero,List.set_cons_succ]);exact rfl):wpAnyH P md ops Q S (fuel+1) listed a w:=by
 subst ha hl;exact wpAnyH_take hi hs hf hr hQ (Or.inl ⟨hw,hy⟩) hS h
theorem tkn(i:Nat){oi:Oper}{fuel:Nat}{listed listed':Array Bool}{a a':Act}{w:World}
 (h:wpAnyH P md ops Q S fuel listed' a' w)
 (hi:ops[i]? =some oi:=by simp only[List.getElem?_toArray,List.getElem?_cons_succ,List.getElem?_cons_zero];exact rfl)
 (hs:Region.noSelect ops=true:=by kernel_rfl)(hf:Region.free md ops listed i=true:=by kernel_rfl)(hr:(Region.ready md ops listed).contains i=true:=by kernel_rfl)
 (hQ:∀c a w,Q (.panic c) (a.put oi.dst undef) w->Q (.panic c) a w:=by exact fun _ _ _ h=>h)
 (hw:Region.wanted oi (yielded ops a.tmps)=false:=by rfl)
 (hS:S w:=by assumption)
 (ha:a.put oi.dst undef=a':=by(try simp only[Act.put,List.setIfInBounds_toArray,List.set_cons_zero,List.set_cons_succ]);exact rfl)(hl:listed.setIfInBounds i true=listed':=by(try simp only[List.setIfInBounds_toArray,List.set_cons_zero,List.set_cons_succ]);exact rfl):wpAnyH P md ops Q S (fuel+1) listed a w:=by
 subst ha hl;exact wpAnyH_take hi hs hf hr hQ (Or.inr ⟨hw,rfl⟩) hS h
theorem pt{fuel:Nat}{listed listed':Array Bool}{a a':Act}{w:World}(h:wpAnyH P md ops Q S fuel listed' a' w)
 (ha:a=a':=by(try simp only[Act.put,List.setIfInBounds_toArray,List.set_cons_zero,List.set_cons_succ]);exact rfl)(hl:listed=listed':=by(try simp only[List.setIfInBounds_toArray,List.set_cons_zero,List.set_cons_succ]);exact rfl):wpAnyH P md ops Q S fuel listed a w:=by
 subst ha hl;exact h
theorem stp(i:Nat){o:Oper}{fuel:Nat}{listed:Array Bool}{a:Act}{w:World}
 (h:∀K':Act->World->Prop,Shut (∀a w,S w->(S w->wpAnyH P md ops Q S fuel (listed.setIfInBounds i true) a w)->K' a w)->if Region.wanted o (yielded ops a.tmps)=true then Oper.wp P o a w K' Q else K' (a.put o.dst undef) w)
 (hr:Region.ready md ops listed= [i]:=by kernel_rfl)(ho:ops[i]? =some o:=by exact rfl):wpAnyH P md ops Q S (fuel+1) listed a w:=
 wpAnyH_ready hr (by simp) (AllReadyH.cons ho h AllReadyH.nil)
end
theorem Xt{B:Nat}{a b:World}(h:Below B a b:=by(repeat' (with_reducible first | exact Below.refl _ _ | refine Ext.drewN ?_ _ | refine Below.drew ?_ | refine Below.setCell ?_ ?_ _ | refine Below.alloc ?_ ?_ _))<;>(first | omega | (simp;done) | (simp;omega))):Below B a b:=h
theorem Bdn{B:Nat}{a w:World}(h:Below B a w)(n:Nat):Below B a (w.drewN n):=⟨h.os,h.tape,h.output,h.size,h.block⟩
theorem Xx{a b c:World}(h:Ext a b)(k:a.heap.size<=b.heap.size->Below a.heap.size b c:=by(intro hz;(repeat' (with_reducible first | exact Below.refl _ _ | refine Bdn ?_ _ | refine Below.drew ?_ | refine Below.setCell ?_ ?_ _ | refine Below.alloc ?_ ?_ _))<;>(first | omega | (simp;done) | (simp;omega) | (simp at hz ⊢;omega)))):Ext a c:=Below.trans h (k h.size)
def Src(w:World)(A:Option Addr)(m size:Nat)(news:List Value):Prop:=
 news.length=m*size/\(0<m->∃b off,A=some ⟨b,off,none⟩/\b<w.heap.size/\∀j u,news[j]? =some u->w.cell? ⟨b,off+j,none⟩=some u)
theorem Src.of_sl{α:Type}{w:World}{size n c:Nat}{A:Option Addr}{f:α->List Value}{xs:List α}(hf:∀x,(f x).length=size)(hs:0<size)(h:Sl w size (fun x cs=>cs=f x) (.slice A n c) xs):Src w A n size (xs.flatMap f):=by
 obtain⟨hn,_,_,hx⟩:=h.at;subst hn;refine⟨Z3i f size hf xs,fun hm=> ?_⟩;obtain⟨b,off,rfl,hlt,hc⟩:=hx hm;refine⟨b,off,rfl,hlt,fun j u hu=> ?_⟩;have hj:j<xs.length*size:=by rw[<-Z3i f size hf xs];exact(aC.1 hu).1
 have hi:j/size<xs.length:=Nat.div_lt_of_lt_mul (by rw[Nat.mul_comm];exact hj);obtain⟨cs,rfl,_,hcs⟩:=hc (j/size) hi;have hm':j%size<size:=Nat.mod_lt _ hs;have hd:j/size*size+j%size=j:=by rw[Nat.mul_comm];exact Nat.div_add_mod j size
 have hv:(f xs[j/size])[j%size]? =some ((f xs[j/size])[j%size]'(by rw[hf];exact hm')):=aB _;have h1:=Z3j f size hf xs (j/size) _ (aB hi) (j%size) _ hv;rw[hd,hu]at h1;have h2:=hcs (j%size) _ hv;rw[Nat.add_assoc,hd]at h2;rw[h2,h1]
section
variable {P:Program} (w:World)
theorem Z5h(base:Nat)(t ty e:TypeId)(i:TypeInfo)(size:Nat)(ht:P.underlying t=some (.slice e))(hi:P.info? e=some i)
 (v:Value)(n:Nat)(xs:List Value)(hown:w.ownsRow base e size v n xs)(c:Nat):(Builtin.append_ #[t,t] ty #[v,.slice none 0 c]).run P w= .ok v w:=by
 rcases hown.2 with ⟨rfl,rfl⟩ | ⟨g,cap,cur,rfl,_,_,hnc,_⟩
 ·simp[Builtin.append_,run_underlying ht,sizeOf,typeInfo,hi,Builtin.lenOf,Builtin.firstCells]
 ·simp[Builtin.append_,run_underlying ht,sizeOf,typeInfo,hi,Builtin.lenOf,Builtin.firstCells,hnc,storeCells]
theorem Y7e{o:Oper}{a:Act}{K:Act->World->Prop}{Q:Exit->Act->World->Prop}(s x:Operand)(t:TypeId)
 (ho:o.op= .call { callee:= .builtin .append,args:=#[s,x],argTypes:=#[t,t]})
 (base:Nat)(e:TypeId)(i:TypeInfo)(z:Value)(size bytes:Nat)(ht:P.underlying t=some (.slice e))(hi:P.info? e=some i)(hz:i.zero=some z)
 (hsize:i.size=size)(hby:i.bytes=bytes)(hzs:z.cells.size=size)(hsz:0<size)
 (v:Value)(n:Nat)(xs:List Value)(hs:a.eval s=v)(hown:w.ownsRow base e size v n xs)
 (A:Option Addr)(m c:Nat)(news:List Value)(hx:a.eval x= .slice A m c)(hsrc:Src w A m size news)(h1:∀u∈news,u.oneCell'=true)
 (h63:n+m<=maxLen)(hbytes:(n+m)*bytes<=140737488355328)(hbase:base<=w.heap.size)
 (h:∀v' w',w'.ownsRow base e size v' (n+m) (xs++news)->w.grownBy w' v.ownBlock->K (a.put o.dst v') w'):o.wp P a w K Q:=by
 by_cases hm:0<m
 ·obtain⟨b,off,rfl,_,hc⟩:=hsrc.2 hm;exact wp_append_own w s x t ho base e i z size bytes ht hi hz hsize hby hzs hsz v n xs hs hown ⟨b,off,none⟩ m c news hx hsrc.1
   (fun j u hu=>by rw[Addr.add_lit];exact hc j u hu) h1 h63 hbytes hbase (fun v' w' h2 h3 _=>h v' w' h2 h3)
 ·obtain rfl:m=0:=by omega
  have hn:news= []:=List.eq_nil_of_length_eq_zero (by simpa using hsrc.1);subst hn;cases A with
  | some ad=>
    exact wp_append_own w s x t ho base e i z size bytes ht hi hz hsize hby hzs hsz v n xs hs hown ad 0 c [] hx (by simp) (by simp) h1 h63 hbytes hbase (fun v' w' h2 h3 _=>h v' w' h2 h3)
  | none=>
    have hr:=Z5h (P:=P) w base t o.type e i size ht hi v n xs hown c;unfold Oper.wp execOp;simp only[ho,resolve,invoke,builtin,Sem.run_bind,Sem.run_pure,Result.andThen_ok,List.map_toArray,List.map_cons,List.map_nil,hs,hx,hr];exact h v w (by simpa using hown) (World.grownBy.refl _ _)
end
theorem U0t{w:World}{base sz n cap g:Nat}{e:TypeId}{cs:List Value}(h:w.ownsRow base e sz (.slice (some ⟨g,0,none⟩) n cap) n cs)(j:Nat)(u:Value):
  (w.setCell ⟨g,j,none⟩ u).ownsRow base e sz (.slice (some ⟨g,0,none⟩) n cap) n (cs.set j u):=by
 refine⟨by rw[List.length_set];exact h.1,?_⟩;rcases h.2 with ⟨he,_⟩ | ⟨g',cap',cur,he,hb,hg,hc,hm,hs,ht⟩
 ·cases he
 ·injection he with e1 e2 e3;injection e1 with e1;injection e1 with e1;subst e1 e3;refine .inr ⟨g,cap,cur.setIfInBounds j u,rfl,hb,?_,hc,hm,by simpa using hs,?_⟩
  ·simp[World.setCell,Array.getElem?_modify,hg]
  ·rw[<-ht,Array.toList_setIfInBounds,List.take_set]
theorem Z3c{w:World}{base sz n:Nat}{e:TypeId}{v:Value}{cs:List Value}(h:w.ownsRow base e sz v n cs):∃A c,v= .slice A n c/\n<=c/\c<=9223372036854775807/\
  (0<n->∃g,A=some ⟨g,0,none⟩/\base<=g/\g<w.heap.size/\(∀i,w.frozen? ⟨g,i,none⟩=false)/\∀j u,cs[j]? =some u->w.cell? ⟨g,j,none⟩=some u):=by
 rcases h.2 with ⟨rfl,rfl⟩ | ⟨g,cap,cur,rfl,hb,hg,hc,hm,hs,ht⟩
 ·exact⟨none,0,rfl,by omega,by omega,fun h=>absurd h (by omega)⟩
 ·refine⟨_,cap,rfl,hc,by simpa [maxLen]using hm,fun _=>⟨g,rfl,hb,(Array.getElem?_eq_some_iff.1 hg).1,fun i=>by simp[World.frozen?,hg],fun j u hu=> ?_⟩⟩;have h1:=h.cells (g:=g) rfl j u hu;rwa [Addr.add_lit,Nat.zero_add]at h1
theorem V3r{α:Type}(f:α->List Value)(xs:List α)(p j:Nat)(u:Value)(h:((xs.take p).flatMap f)[j]? =some u):(xs.flatMap f)[j]? =some u:=by
 have e:xs.flatMap f=(xs.take p).flatMap f++(xs.drop p).flatMap f:=by rw[<-aH,List.take_append_drop]
 rw[e,aL (aC.1 h).1,h]
theorem Y0j{α:Type}(f:α->List Value)(sz:Nat)(hf:∀x,(f x).length=sz):∀(xs:List α) (i:Nat) (x:α) (j:Nat) (u:Value) (y:α) (h:i<xs.length),xs[i]=x->j<sz->(f x).set j u=f y->
  (xs.flatMap f).set (i*sz+j) u=(xs.set i y).flatMap f
 | [],i,_,_,_,_,h,_,_,_=>absurd h (by simp)
 | a::r,0,x,j,u,y,_,e,hj,hy=>by
   have e':a=x:=e;subst e';rw[aI,Nat.zero_mul,Nat.zero_add,List.set_append_left _ _ (by rw[hf];exact hj),hy];rfl
 | a::r,i+1,x,j,u,y,h,e,hj,hy=>by have h1:=Y0j f sz hf r i x j u y (by simpa using h) (by simpa using e) hj hy;rw[aI,List.set_append_right _ _ (by rw[hf];simp[Nat.add_mul];omega),hf,show(i+1)*sz+j-sz=i*sz+j by rw[Nat.add_mul];omega,h1];rfl
theorem V6u{w:World}{base base' sz n:Nat}{e:TypeId}{v:Value}{cs:List Value}(h:w.ownsRow base e sz v n cs)(hb:base'<=base):w.ownsRow base' e sz v n cs:=by
 refine⟨h.1,?_⟩;rcases h.2 with h | ⟨g,cap,cur,e1,e2,r⟩
 ·exact .inl h
 ·exact .inr ⟨g,cap,cur,e1,by omega,r⟩
structure Elem (P:Program) (t e:TypeId) (size bytes:Nat):Prop where
 ht:P.underlying t=some (.slice e)
 hi:∃i z,P.info? e=some i/\i.zero=some z/\i.size=size/\i.bytes=bytes/\z.cells.size=size
 pos:0<size
theorem Elem.of{P:Program}{t e:TypeId}{size bytes:Nat}{z:Value}(ht:P.underlying t=some (.slice e))(h:(P.info? e).map (fun i=>(i.zero,i.size,i.bytes))=some (some z,size,bytes))(hz:z.cells.size=size)(hp:0<size):Elem P t e size bytes:=by obtain⟨i,h1,h2,h3,h4⟩:=info_parts h;exact⟨ht,⟨i,z,h1,h2,h3,h4,hz⟩,hp⟩
def OwnL{α:Type}(w:World)(base:Nat)(e:TypeId)(k:Nat)(enc:α->List Value)(v:Value)(xs:List α):Prop:=w.ownsRow base e k v xs.length (xs.flatMap enc)
section
variable {α:Type} {w w':World} {base k:Nat} {e:TypeId} {enc:α->List Value} {v:Value} {xs:List α}
theorem OwnL.nil(w:World)(base:Nat)(e:TypeId)(k:Nat)(enc:α->List Value):OwnL w base e k enc (.slice none 0 0) []:=World.ownsRow_nil _ _ _ _
theorem OwnL.ext(h:OwnL w base e k enc v xs)(hb:Ext w w'):OwnL w' base e k enc v xs:=V1j h hb
theorem OwnL.alloc(h:OwnL w base e k enc v xs)(o:Obj):OwnL (w.alloc o) base e k enc v xs:=V1j h (Ext.alloc _ _)
theorem OwnL.lower{base':Nat}(h:OwnL w base e k enc v xs)(hb:base'<=base):OwnL w base' e k enc v xs:=V6u h hb
theorem OwnL.form(h:OwnL w base e k enc v xs):∃A c,v= .slice A xs.length c:=by obtain⟨A,c,rfl,_⟩:=Z3c h;exact⟨A,c,rfl⟩
theorem OwnL.sl{R:α->List Value->Prop}(henc:∀x,(enc x).length=k)(hR:∀x,R x (enc x))(h:OwnL w base e k enc v xs):Sl w k R v xs:=
 U2h h rfl (fun i x hi=>⟨enc x,hR x,henc x,Z3j enc k henc xs i x hi⟩)
theorem OwnL.lt(h:OwnL w base e k enc v xs):∀g,v.ownBlock=some g->base<=g/\g<w.heap.size:=World.ownsRow.lt h
theorem OwnL.grown(h:OwnL w base e k enc v xs){a:World}(hb:Ext a w)(hg:w.grownBy w' v.ownBlock)(hbase:a.heap.size<=base):Ext a w':=
 Below.grown hb hg hb.size (fun j hj=>Nat.le_trans hbase (h.lt j hj).1)
theorem OwnL.made(w:World)(e:TypeId)(k:Nat)(enc:α->List Value):OwnL (w.alloc (.cells #[] e)) w.heap.size e k enc (.slice (some ⟨w.heap.size,0,none⟩) 0 0) []:=
 World.ownsRow_made w #[] 0 (aF _) (Nat.zero_le _) (by simp)
end
section
variable {P:Program} {α:Type} {t e:TypeId} {size bytes:Nat} {enc:α->List Value}
theorem X9b(el:Elem P t e size bytes)(henc:∀x,(enc x).length=size)(h1:∀x,∀u∈enc x,u.oneCell'=true){o:Oper}{a:Act}{w:World}{K:Act->World->Prop}{Q:Exit->Act->World->Prop}(s x:Operand)
 (ho:o.op= .call { callee:= .builtin .append,args:=#[s,x],argTypes:=#[t,t]})
 {base:Nat}(v:Value)(xs:List α)(hs:a.eval s=v)(hown:OwnL w base e size enc v xs)(hbase:base<=w.heap.size)
 (A:Option Addr)(m c:Nat)(ys:List α)(hx:a.eval x= .slice A m c)(hm:m=ys.length)(hsrc:Src w A m size (ys.flatMap enc))
 (h63:xs.length+ys.length<=1000000000)(hbytes:bytes<=100000)
 (h:∀A' c' w',OwnL w' base e size enc (.slice A' (xs++ys).length c') (xs++ys)->w.grownBy w' v.ownBlock->K (a.put o.dst (.slice A' (xs++ys).length c')) w'):o.wp P a w K Q:=by
 subst hm;obtain⟨i,z,hi,hz,hsize,hby,hzs⟩:=el.hi;refine Y7e w s x t ho base e i z size bytes el.ht hi hz hsize hby hzs el.pos v xs.length (xs.flatMap enc) hs hown A ys.length c (ys.flatMap enc) hx hsrc (fun u hu=> ?_) (by simp[maxLen];omega) ?_ hbase ?_
 ·obtain⟨y,_,hy⟩:=List.mem_flatMap.1 hu;exact h1 y u hy
 ·exact Nat.le_trans (Nat.mul_le_mul h63 hbytes) (by omega)
 ·intro v' w' hown' hg;have hown2:OwnL w' base e size enc v' (xs++ys):=by unfold OwnL;rw[aA,aH];exact hown'
  obtain⟨A',c',rfl⟩:=hown2.form;exact h A' c' w' hown2 hg
theorem V9z(el:Elem P t e size bytes)(henc:∀x,(enc x).length=size)(h1:∀x,∀u∈enc x,u.oneCell'=true){o:Oper}{a:Act}{w:World}{K:Act->World->Prop}{Q:Exit->Act->World->Prop}(s x:Operand)
 (ho:o.op= .call { callee:= .builtin .append,args:=#[s,x],argTypes:=#[t,t]})
 {base:Nat}(v:Value)(xs:List α)(hs:a.eval s=v)(hown:OwnL w base e size enc v xs)(hbase:base<=w.heap.size)
 (G c:Nat)(y:α)(hx:a.eval x= .slice (some ⟨G,0,none⟩) 1 c)(hrow:Row1 w G e (enc y))(h63:xs.length+1<=1000000000)(hbytes:bytes<=100000)
 (h:∀A' c' w',OwnL w' base e size enc (.slice A' (xs++ [y]).length c') (xs++ [y])->w.grownBy w' v.ownBlock->K (a.put o.dst (.slice A' (xs++ [y]).length c')) w'):o.wp P a w K Q:=
 X9b el henc h1 s x ho v xs hs hown hbase _ 1 c [y] hx rfl ⟨by simp[henc],fun _=>⟨G,0,rfl,hrow.lt,fun j u hu=>by rw[Nat.zero_add,hrow.cell];simpa using hu⟩⟩ (by simpa using h63) hbytes h
theorem Z4x(el:Elem P t e size bytes)(henc:∀x,(enc x).length=size)(h1:∀x,∀u∈enc x,u.oneCell'=true){ops:Array Oper}{rest:List Oper}{o:Oper}{a:Act}{w:World}{Q:Exit->Act->World->Prop}(hgd:o.guard=none)(s x:Operand)
 (ho:o.op= .call { callee:= .builtin .append,args:=#[s,x],argTypes:=#[t,t]})
 {base:Nat}(v:Value)(xs:List α)(hs:a.eval s=v)(hown:OwnL w base e size enc v xs)(hbase:base<=w.heap.size)
 (A:Option Addr)(m c:Nat)(ys:List α)(hx:a.eval x= .slice A m c)(hm:m=ys.length)(hsrc:Src w A m size (ys.flatMap enc))
 (h63:xs.length+ys.length<=1000000000)(hbytes:bytes<=100000)
 (h:∀A' c' w',OwnL w' base e size enc (.slice A' (xs++ys).length c') (xs++ys)->w.grownBy w' v.ownBlock->wpList P ops Q rest (a.put o.dst (.slice A' (xs++ys).length c')) w'):wpList P ops Q (o::rest) a w:=
 wpList_plain hgd fun _ hK=>X9b el henc h1 s x ho v xs hs hown hbase A m c ys hx hm hsrc h63 hbytes fun A' c' w' h2 h3=>hK _ _ (h A' c' w' h2 h3)
theorem Z2u(el:Elem P t e size bytes)(henc:∀x,(enc x).length=size)(h1:∀x,∀u∈enc x,u.oneCell'=true){ops:Array Oper}{rest:List Oper}{o:Oper}{a:Act}{w:World}{Q:Exit->Act->World->Prop}(hgd:o.guard=none)(s x:Operand)
 (ho:o.op= .call { callee:= .builtin .append,args:=#[s,x],argTypes:=#[t,t]})
 {base:Nat}(v:Value)(xs:List α)(hs:a.eval s=v)(hown:OwnL w base e size enc v xs)(hbase:base<=w.heap.size)
 (G c:Nat)(y:α)(hx:a.eval x= .slice (some ⟨G,0,none⟩) 1 c)(hrow:Row1 w G e (enc y))(h63:xs.length+1<=1000000000)(hbytes:bytes<=100000)
 (h:∀A' c' w',OwnL w' base e size enc (.slice A' (xs++ [y]).length c') (xs++ [y])->w.grownBy w' v.ownBlock->wpList P ops Q rest (a.put o.dst (.slice A' (xs++ [y]).length c')) w'):wpList P ops Q (o::rest) a w:=
 wpList_plain hgd fun _ hK=>V9z el henc h1 s x ho v xs hs hown hbase G c y hx hrow h63 hbytes fun A' c' w' h2 h3=>hK _ _ (h A' c' w' h2 h3)
end
section
variable {α:Type} {w w':World} {base k n c p:Nat} {e:TypeId} {enc:α->List Value} {A:Option Addr} {xs:List α}
theorem Src.sl{R:α->List Value->Prop}(henc:∀x,(enc x).length=k)(hk:0<k)(hR:∀x cs,R x cs->cs=enc x)(h:Sl w k R (.slice A n c) xs):Src w A n k (xs.flatMap enc):=
 Src.of_sl henc hk (h.mono hR)
theorem Sl.take{R:α->List Value->Prop}(h:Sl w k R (.slice A n c) xs)(hp:p<=n):Sl w k R (.slice A p c) (xs.take p):=by
 obtain⟨hn,h1,h2,h3⟩:=h.at;subst hn;refine⟨A,c,by rw[aD,Nat.min_eq_left hp],by rw[aD];omega,by simpa [maxLen]using h2,fun hl=> ?_⟩;rw[aD]at hl;obtain⟨b,off,hA,hb,hx⟩:=h3 (by omega);refine⟨b,off,hA,hb,fun i x hi=> ?_⟩;rw[List.getElem?_take]at hi;split at hi
 ·obtain⟨hi',rfl⟩:=aC.1 hi;exact hx i hi'
 ·cases hi
theorem Sl.drop{R:α->List Value->Prop}(h:Sl w k R (.slice A n c) xs)(hp:p<=n):Sl w k R (.slice (if c=p then A else A.map (·.add (p*k))) (n-p) (c-p)) (xs.drop p):=by obtain⟨hn,h1,h2,h3⟩:=h.at;subst hn;refine⟨_,c-p,by rw[aJ],by rw[aJ];omega,by simp[maxLen];omega,fun hl=> ?_⟩;rw[aJ]at hl;obtain⟨b,off,rfl,hb,hx⟩:=h3 (by omega);rw[if_neg (by omega)];refine⟨b,off+p*k,by simp[Addr.add],hb,fun i x hi=> ?_⟩;rw[List.getElem?_drop]at hi;obtain⟨hi',rfl⟩:=aC.1 hi;obtain⟨cs,h4,h5,h6⟩:=hx (p+i) hi';refine⟨cs,h4,h5,fun j u hu=> ?_⟩;have:=h6 j u hu;rw[Nat.add_mul,<-Nat.add_assoc]at this;exact this
end
end
section
def varF:Nat->Nat->List UInt8
 | 0,n=> [UInt8.ofNat n]
 | k+1,n=>if 128<=n then UInt8.ofNat (n%128+128)::varF k (n/128)else [UInt8.ofNat n]
def varL(n:Nat):List UInt8:=varF 9 n
def Z5f:List UInt8->Nat->Nat->Nat×Nat
 | [],_,_=>(0,0)
 | c::r,i,acc=>
   if 10<=i then(0,0)
   else if i=9/\1<c.toNat then(0,0)
   else if c.toNat<128 then(if c.toNat=0/\0<i then(0,0)else(acc+c.toNat%128*128 ^ i,i+1))
   else Z5f r (i+1) (acc+c.toNat%128*128 ^ i)
def Y9i(s:List UInt8):Nat×Nat:=Z5f s 0 0
def Z4i(n:Int):Nat:=if 0<=n then(2*n).toNat else(-2*n-1).toNat
def Y0v(u:Nat):Int:=if u%2=0 then(u/2:Nat)else -((u/2:Nat):Int)-1
theorem X1q(n:Int):Y0v (Z4i n)=n:=by unfold Y0v Z4i;split<;>split<;>omega
theorem V8j{n:Int}(h1: -9223372036854775808<=n)(h2:n<=9223372036854775807):Z4i n<18446744073709551616:=by unfold Z4i;split<;>omega
theorem Z2a{n:Nat}(h:n<256):(UInt8.ofNat n).toNat=n:=by simp;omega
theorem V5h:∀(k n:Nat),0<(varF k n).length
 | 0,n=>by simp[varF]
 | k+1,n=>by unfold varF;split<;>simp
theorem X3t:∀(k n:Nat),(varF k n).length<=k+1
 | 0,n=>by simp[varF]
 | k+1,n=>by
   unfold varF;split
   ·simp only[List.length_cons];have:=X3t k (n/128);omega
   ·simp
theorem Z8d(n:Nat):0<(varL n).length/\(varL n).length<=10:=⟨V5h _ _,X3t _ _⟩
theorem Y5y:∀(k i n acc:Nat) (t:List UInt8),i+k=9->n*128 ^ i<18446744073709551616->(0<i->0<n)->Z5f (varF k n++t) i acc=(acc+n*128 ^ i,i+(varF k n).length)
 | 0,i,n,acc,t,hi,hn,hp=>by
   obtain rfl:i=9:=by omega
   have h1:n<2:=by omega
   have h2:(UInt8.ofNat n).toNat=n:=Z2a (by omega);simp only[varF,List.singleton_append,Z5f,h2,aK];have:=hp (by omega);rw[if_neg (by omega),if_neg (by omega),if_pos (by omega),if_neg (by omega),Nat.mod_eq_of_lt (by omega)]
 | k+1,i,n,acc,t,hi,hn,hp=>by
   unfold varF;split
   ·rename_i h
    have h2:(UInt8.ofNat (n%128+128)).toNat=n%128+128:=Z2a (by omega);have e:n=n%128+128*(n/128):=by omega
    have hs:n/128*128 ^ (i+1)<=n*128 ^ i:=by rw[Nat.pow_succ,Nat.mul_comm (128 ^ i) 128,<-Nat.mul_assoc];exact Nat.mul_le_mul_right _ (by omega)
    simp only[List.cons_append,Z5f,h2];rw[if_neg (by omega),if_neg (by omega),if_neg (by omega),Y5y k (i+1) (n/128) _ t (by omega) (by omega) (by omega)];have e2:(n%128+128)%128=n%128:=by omega
    rw[e2];have e3:n*128 ^ i=n%128*128 ^ i+n/128*128 ^ (i+1):=by
     conv=>lhs;rw[e]
     rw[Nat.add_mul,Nat.pow_succ,Nat.mul_comm 128 (n/128),Nat.mul_assoc,Nat.mul_comm 128 (128 ^ i)]
    rw[e3,List.length_cons]
    congr 1<;>omega
   ·rename_i h
    have h2:(UInt8.ofNat n).toNat=n:=Z2a (by omega);simp only[List.singleton_append,Z5f,h2,aK];rw[if_neg (by omega),if_neg (by omega),if_pos (by omega),if_neg (by omega),Nat.mod_eq_of_lt (by omega)]
theorem X6l{n:Nat}(h:n<18446744073709551616)(t:List UInt8):Y9i (varL n++t)=(n,(varL n).length):=by unfold Y9i varL;rw[Y5y 9 0 n 0 t rfl (by simpa using h) (by omega)];simp
def Z9m(n:Int):Prop:= -9223372036854775808<=n/\n<=9223372036854775807
end
section
open Go.RowKit
structure OpD where
 id:Int
 proc:Int
 object:Int
 kind:Int
 method:Int
 arg:Int
 second:Int
 done:Bool
 result:Int
 invoke:Int
 ret:Int
deriving DecidableEq
def OpD.cells(o:OpD):List Value:=
 [.int .i64 o.id,.int .i64 o.proc,.int .i64 o.object,.int .i64 o.kind,.int .i64 o.method,.int .i64 o.arg,.int .i64 o.second,.bool o.done,.int .i64 o.result,.int .i64 o.invoke,.int .i64 o.ret]
abbrev OpD.val(o:OpD):Value:=
 .agg #[.int .i64 o.id,.int .i64 o.proc,.int .i64 o.object,.int .i64 o.kind,.int .i64 o.method,.int .i64 o.arg,.int .i64 o.second,.bool o.done,.int .i64 o.result,.int .i64 o.invoke,.int .i64 o.ret]
def ROp(o:OpD)(cs:List Value):Prop:=cs=o.cells
theorem Y0a(o:OpD):o.cells.length=11:=rfl
theorem X0j(o:OpD):∀u∈o.cells,u.oneCell'=true:=by intro u hu;simp only[OpD.cells,List.mem_cons,List.not_mem_nil,or_false]at hu;rcases hu with rfl | rfl | rfl | rfl | rfl | rfl | rfl | rfl | rfl | rfl | rfl<;>rfl
def opZero:OpD:=⟨0,0,0,0,0,0,0,false,0,0,0⟩
def At11(w:World)(b:Nat)(o:OpD):Prop:=(w.cell? ⟨b,0,none⟩=some (.int .i64 o.id)/\w.cell? ⟨b,1,none⟩=some (.int .i64 o.proc)/\w.cell? ⟨b,2,none⟩=some (.int .i64 o.object)/\w.cell? ⟨b,3,none⟩=some (.int .i64 o.kind)/\w.cell? ⟨b,4,none⟩=some (.int .i64 o.method)/\w.cell? ⟨b,5,none⟩=some (.int .i64 o.arg)/\w.cell? ⟨b,6,none⟩=some (.int .i64 o.second)/\w.cell? ⟨b,7,none⟩=some (.bool o.done)/\w.cell? ⟨b,8,none⟩=some (.int .i64 o.result)/\w.cell? ⟨b,9,none⟩=some (.int .i64 o.invoke)/\w.cell? ⟨b,10,none⟩=some (.int .i64 o.ret))
theorem At11.ext{w w':World}{b:Nat}{o:OpD}(h:At11 w b o)(hb:Ext w w')(hlt:b<w.heap.size):At11 w' b o:=by obtain⟨h0,h1,h2,h3,h4,h5,h6,h7,h8,h9,h10⟩:=h;have c:=fun i=>hb.cell (p:=⟨b,i,none⟩) hlt;exact⟨(c 0).trans h0,(c 1).trans h1,(c 2).trans h2,(c 3).trans h3,(c 4).trans h4,(c 5).trans h5,(c 6).trans h6,(c 7).trans h7,(c 8).trans h8,(c 9).trans h9,(c 10).trans h10⟩
theorem At11.row{w:World}{b:Nat}{t:TypeId}{o:OpD}(h:Row1 w b t o.cells):At11 w b o:=
 ⟨h.cell 0,h.cell 1,h.cell 2,h.cell 3,h.cell 4,h.cell 5,h.cell 6,h.cell 7,h.cell 8,h.cell 9,h.cell 10⟩
theorem Tryz.infoOp:(Tryz.prog.info? 73).map (fun i=>(i.zero,i.size,i.bytes))=some (some (.agg #[.int .i64 0,.int .i64 0,.int .i64 0,.int .i64 0,.int .i64 0,.int .i64 0,.int .i64 0,.bool false,.int .i64 0,.int .i64 0,.int .i64 0]),11,88):=by kernel_rfl
theorem elOp:Elem Tryz.prog 69 73 11 88:=Elem.of Tryz.underlying69 Tryz.infoOp rfl (by decide)
def getL(l:List OpD)(id:Int):Option OpD:=l.find? (fun o=>o.id==id)
theorem V8g(l:List OpD)(id:Int)(k:Nat)(h:k<l.length)(h1:l[k].id=id)(h2:∀j (hj:j<k),(l[j]'(by omega)).id≠id):getL l id=some l[k]:=by unfold getL;rw[List.find?_eq_some_iff_getElem];refine⟨by simpa using h1,k,h,rfl,fun j hj=>by simpa using h2 j hj⟩
theorem V3j(l:List OpD)(id:Int)(h:∀j (hj:j<l.length),l[j].id≠id):getL l id=none:=by unfold getL;rw[List.find?_eq_none];intro x hx;obtain⟨j,hj,rfl⟩:=List.mem_iff_getElem.1 hx;simpa using h j hj
theorem X7b(V:Value)(l:List OpD)(id:Int)(w:World)(hs:Sl w 11 ROp V l):
  cQ 66 #[V,.int .i64 id] w fun e w'=>e= .returned (.tuple #[((getL l id).getD opZero).val,.bool (getL l id).isSome])/\Ext w w':=by
 obtain⟨A,c,rfl⟩:=hs.form;obtain⟨_,hc1,hc2,hA⟩:=hs.at;clear hs;go_enter Tryz.func66,Tryz.ntmps66;go_wp2_with fail
 go_loop [6] (fun i=>∃k:Nat,k<=l.length/\i= .int .i64 k/\∀j (hj:j<l.length),j<k->l[j].id≠id) (fun i=>l.length-(intOf i).toNat)
 case atStart=>exact⟨0,by omega,rfl,fun j _ h=>absurd h (by omega)⟩
 case round=>
  obtain⟨k,hk,rfl,hf⟩:=hrel;have HF:=hD hf;clear hf;by_cases hlt:k<l.length
  ·have hdk:decide ((k:Int)<(l.length:Int))=true:=by simp;omega
   obtain⟨b,off,rfl,hbl,hx⟩:=hA (by omega);obtain⟨cs,rfl,_,hcs⟩:=hx k hlt;have h0:=hcs 0 _ rfl;have h1:=hcs 1 _ rfl;have h2:=hcs 2 _ rfl;have h3:=hcs 3 _ rfl;have h4:=hcs 4 _ rfl;have h5:=hcs 5 _ rfl;have h6:=hcs 6 _ rfl;have h7:=hcs 7 _ rfl;have h8:=hcs 8 _ rfl;have h9:=hcs 9 _ rfl;have h10:=hcs 10 _ rfl;simp only[Nat.add_zero]at h0;clear hx hcs hA;by_cases heq:l[k].id=id
   ·have HQ:=hD (V8g l id k hlt heq (fun j hj=>HF.out j (by omega) hj));have hq:(l[k].id==id)=true:=by simpa using heq
    clear heq;generalize l[k]=o at *;go_wp2_with fail;refine bodyPost_ret (v:= .tuple #[o.val,.bool true]) (by simp[results,Tryz.results66,go_sem]) rfl ⟨?_,by exact Xt⟩;rw[HQ.out];rfl
   ·have hq:(l[k].id==id)=false:=by simpa using heq
    have HF2:Hid (∀j (hj:j<l.length),j<k+1->l[j].id≠id):=by
     intro j hj hjk;by_cases e:j=k
     ·subst e;exact heq
     ·exact HF.out j hj (by omega)
    clear heq;generalize l[k]=o at *;go_wp2_with fail
    go_round
    case rel=>exact⟨k+1,by omega,by go_num,HF2.out⟩
    case measure=>simp[intOf];omega
  ·have hdk:decide ((k:Int)<(l.length:Int))=false:=by simp;omega
   have HQ:=hD (V3j l id (fun j hj=>HF.out j hj (by omega)));go_wp2_with fail;refine bodyPost_ret (v:= .tuple #[opZero.val,.bool false]) (by simp[results,Tryz.results66,go_sem,opZero]) rfl ⟨?_,by exact Xt⟩;rw[HQ.out];rfl
theorem V6x(V U:Value)(l:List OpD)(w:World)(hs:Sl w 11 ROp V l)(hu:Sl w 11 ROp U l):
  cQ 25 #[V,U] w fun e w'=>e= .returned (.bool true)/\Ext w w':=by
 obtain⟨A,c,rfl⟩:=hs.form;obtain⟨B,d,rfl⟩:=hu.form;obtain⟨_,hc1,hc2,hA⟩:=hs.at;obtain⟨_,hd1,hd2,hB⟩:=hu.at;have HA:=hD hA;have HB:=hD hB;clear hs hu hA hB;go_enter Tryz.func25,Tryz.ntmps25;go_wp2_with fail
 go_loopw [5] (fun i wr=>∃k:Nat,k<=l.length/\i= .int .i64 k/\∃q,wr=w.drewN q) (fun i _=>l.length-(intOf i).toNat)
 case atStart=>exact⟨0,by omega,rfl,0,rfl⟩
 case round=>
  obtain⟨k,hk,rfl,q,rfl⟩:=hrel;by_cases hlt:k<l.length
  ·have hdk:decide ((k:Int)<(l.length:Int))=true:=by simp;omega
   obtain⟨b,off,rfl,hbl,hx⟩:=HA.out (by omega);obtain⟨b',off',rfl,hbl',hx'⟩:=HB.out (by omega);obtain⟨cs,rfl,_,hcs⟩:=hx k hlt;obtain⟨cs',rfl,_,hcs'⟩:=hx' k hlt;have h0:=hcs 0 _ rfl;have h1:=hcs 1 _ rfl;have h2:=hcs 2 _ rfl;have h3:=hcs 3 _ rfl;have h4:=hcs 4 _ rfl;have h5:=hcs 5 _ rfl;have h6:=hcs 6 _ rfl;have h7:=hcs 7 _ rfl;have h8:=hcs 8 _ rfl;have h9:=hcs 9 _ rfl;have h10:=hcs 10 _ rfl;have g0:=hcs' 0 _ rfl;have g1:=hcs' 1 _ rfl;have g2:=hcs' 2 _ rfl;have g3:=hcs' 3 _ rfl;have g4:=hcs' 4 _ rfl;have g5:=hcs' 5 _ rfl;have g6:=hcs' 6 _ rfl;have g7:=hcs' 7 _ rfl;have g8:=hcs' 8 _ rfl;have g9:=hcs' 9 _ rfl;have g10:=hcs' 10 _ rfl;simp only[Nat.add_zero]at h0 g0;clear hx hcs hx' hcs';generalize l[k]=o at *;go_wp2_with fail
   go_quiet (fail)
   go_wp2_with fail
   go_roundw
   case rel=>exact⟨k+1,by omega,by go_num,_,rfl⟩
   case measure=>simp[intOf];omega
  ·obtain rfl:k=l.length:=by omega
   have hdk:decide ((l.length:Int)<(l.length:Int))=false:=by simp
   go_wp2_with fail;go_ret;exact⟨rfl,by exact Xt⟩
end
end Go.Proofs.YtohaldfnmgcofaaGreat
