/- What a commit leaves, on a disk that has power: plain law. No conditions on any code. -/
import Derived.Test.YtohaldfnmgcofaaGreatW18
import Derived.Test.YtohaldfnmgcofaaGreatW04
set_option maxRecDepth 100000
set_option maxHeartbeats 4000000
set_option linter.unusedSimpArgs false
set_option linter.unusedVariables false
namespace Go.Proofs.YtohaldfnmgcofaaGreat
open Go.RowKit
structure Pow (D:DiskD):Prop where
 live:D.dead=false
 left:D.left= -1
theorem Y6b{D:DiskD}(h:Pow D){n:Int}(h0:0<=n)(h1:n<D.blocks.length):Z4i D n=0:=by unfold Z4i;rw[if_neg (by rw[h.live];simp),if_neg (by omega)]
theorem X3j{D:DiskD}(h:Pow D):useD D=(D,0):=by unfold useD;rw[if_neg (by rw[h.left];simp),if_neg (by rw[h.left];simp)]
theorem Y5p{D:DiskD}(h:Pow D){n:Nat}{s:ByteArray}(h1:n<D.blocks.length)(hs:s.size<=256):Z1d D n s=({ D with late:=D.late++ [(n,padB s)]},0):=by unfold Z1d;rw[Y6b h (by omega) (by omega),if_neg (by simp),if_neg (by omega),X3j h,if_neg (by simp)];rfl
theorem Z8i{D:DiskD}(h:Pow D)(h1:0<D.blocks.length):Z0v D=({ D with blocks:=layB D.late D.blocks,late:= []},0):=by unfold Z0v;rw[Y6b h (by omega) (by omega),if_neg (by simp),X3j h,if_neg (by simp)]
theorem Z8o:∀(l:List (Nat×ByteArray)) (D:DiskD),Pow D->(∀p∈l,p.1<D.blocks.length/\p.2.size<=256)->Z0j D l=({ D with late:=D.late++l.map (fun p=>(p.1,padB p.2))},0)
 | [],D,_,_=>by simp[Z0j]
 | p::r,D,h,hp=>by have h1:=hp p (by simp);rw[Z4b,Y5p h h1.1 h1.2,if_pos rfl];refine(Z8o r { D with late:=D.late++ [(p.1,padB p.2)]} ⟨h.live,h.left⟩ (fun q hq=>hp q (by simp[hq]))).trans ?_;simp
theorem V1w(n:Nat)(a b:List (Nat×ByteArray))(s:ByteArray):Z2y n (a++b) s=Z2y n b (Z2y n a s):=by unfold Z2y;rw[List.foldl_append]
theorem Z5w(n:Nat):∀(l:List (Nat×ByteArray)) (s:ByteArray),(∀p∈l,p.1≠n)->Z2y n l s=s
 | [],_,_=>rfl
 | p::r,s,h=>by have:Z2y n (p::r) s=Z2y n r (if p.1=n then p.2 else s):=rfl;rw[this,if_neg (h p (by simp)),Z5w n r s (fun q hq=>h q (by simp[hq]))]
theorem V6t(late:List (Nat×ByteArray)):∀(bs:List ByteArray) (n:Nat),n<bs.length->(layB late bs)[n]?.getD zeroB=Z2y n late (bs[n]?.getD zeroB):=by
 induction late with
 | nil=>intro bs n _;rfl
 | cons p r ih=>
   intro bs n hn;have e1:layB (p::r) bs=layB r (bs.set p.1 p.2):=rfl;have e2:Z2y n (p::r) (bs[n]?.getD zeroB)=Z2y n r (if p.1=n then p.2 else bs[n]?.getD zeroB):=rfl;rw[e1,e2,ih _ n (by simpa using hn)]
   congr 1
   rw[List.getElem?_set];split
   ·simp_all
   ·rfl
theorem Z7r{D:DiskD}(h:Pow D){n:Nat}(hn:n<D.blocks.length):Z0y (Z0v D).1 n=Z0y D n:=by rw[Z8i h (by omega)];unfold Z0y;dsimp only;rw[V6t _ _ _ hn];rfl
theorem Z9d(D:DiskD)(l:List (Nat×ByteArray))(n:Nat):Z0y { D with late:=D.late++l} n=Z2y n l (Z0y D n):=by unfold Z0y;dsimp only;rw[V1w]
structure PowAs (D D':DiskD):Prop where
 pow:Pow D'
 len:D'.blocks.length=D.blocks.length
 late:D'.late= []
theorem X4g{D:DiskD}(h:Pow D)(hl:2<=D.blocks.length)(H:HeadD):(putD D H).2=0/\PowAs D (putD D H).1/\∀n,2<=n->n<D.blocks.length->Z0y (putD D H).1 n=Z0y D n:=by
 have hm:H.seq%2<2:=Nat.mod_lt _ (by omega);have hw:=Y5p h (n:=H.seq%2) (s:=Z5z H) (by omega) (by rw[Z8g];omega);have hP:Pow { D with late:=D.late++ [(H.seq%2,padB (Z5z H))]}:=⟨h.live,h.left⟩;have hf:=Z8i hP (by dsimp only;omega);have e:putD D H=Z0v { D with late:=D.late++ [(H.seq%2,padB (Z5z H))]}:=by unfold putD;rw[hw,if_neg (by simp)]
 rw[e];refine⟨by rw[hf],⟨by rw[hf];exact⟨h.live,h.left⟩,by rw[Z4u],by rw[hf]⟩,fun n h2 hn=> ?_⟩;rw[Z7r hP (by dsimp only;exact hn),Z9d,Z5w _ _ _ (by intro p hp;simp at hp;subst hp;dsimp only;omega)]
theorem V2o{S:StoreD}{l:List (Nat×ByteArray)}(h:Pow S.disk)(hf:FitsH S.disk.blocks.length S.head)(hp:∀p∈l,p.1<S.head.pages/\p.2.size<=256):
  (Y1n S l).2=0/\∃D',(Y1n S l).1= { S with disk:=D',head:=Z1i S.head 0}/\PowAs S.disk D'/\∀n,n<S.head.pages->Z0y D' (2+S.head.room+n)=Z2y n (l.map fun p=>(p.1,padB p.2)) (Z0y S.disk (2+S.head.room+n)):=by
 have hfi:=hf.fits;have hpg:=hf.pages;have hw:=Z8o (atH S l) S.disk h (by
  intro q hq;obtain⟨p,hpl,rfl⟩:=List.mem_map.1 hq;have:=hp p hpl;dsimp only;exact⟨by omega,this.2⟩)
 have hP1:Pow { S.disk with late:=S.disk.late++(atH S l).map (fun p=>(p.1,padB p.2))}:=⟨h.live,h.left⟩;have hfl:=Z8i hP1 (by dsimp only;omega);obtain⟨D2,hD2⟩:∃D2,(Z0v { S.disk with late:=S.disk.late++(atH S l).map (fun p=>(p.1,padB p.2))}).1=D2:=⟨_,rfl⟩;have hz:(Z0v { S.disk with late:=S.disk.late++(atH S l).map (fun p=>(p.1,padB p.2))}).2=0:=by rw[hfl]
 have hP2:Pow D2:=by rw[<-hD2,hfl];exact⟨h.live,h.left⟩
 have hL2:D2.blocks.length=S.disk.blocks.length:=by rw[<-hD2,Z4u]
 obtain⟨hq,hA,hB⟩:=X4g hP2 (by omega) (Z1i S.head 0);have e:Y1n S l=(Z7a { S with disk:=D2} 0,0):=by unfold Y1n;rw[hw];dsimp only;rw[if_neg (fun q=>q rfl),if_neg (fun q=>q hz),hD2,hq]
 have e2:Z7a { S with disk:=D2} 0= { S with disk:=(putD D2 (Z1i S.head 0)).1,head:=Z1i S.head 0}:=by unfold Z7a;dsimp only;rw[if_pos hq]
 rw[e];refine⟨rfl,_,e2,⟨hA.pow,hA.len.trans hL2,hA.late⟩,fun n hn=> ?_⟩;rw[hB _ (by omega) (by omega),<-hD2,Z7r hP1 (by dsimp only;omega),Z9d];generalize Z0y S.disk (2+S.head.room+n)=s;unfold atH;clear e e2 hw hfl hD2 hz hP1 hP2 hL2 hA hB hq hp
 induction l generalizing s with
 | nil=>rfl
 | cons p r ih=>
   have e1:∀(k:Nat) (q:Nat×ByteArray) (m:List (Nat×ByteArray)) (s:ByteArray),Z2y k (q::m) s=Z2y k m (if q.1=k then q.2 else s):=fun _ _ _ _=>rfl;simp only[List.map_cons,e1];have e2:(if 2+S.head.room+p.1=2+S.head.room+n then padB p.2 else s)=(if p.1=n then padB p.2 else s):=by
    by_cases q:p.1=n
    ·rw[if_pos q,if_pos (by omega)]
    ·rw[if_neg q,if_neg (by omega)]
   rw[e2];exact ih _
theorem X7b{l:List (Nat×ByteArray)}(hp:∀p∈l,p.2.size<=256):∀b∈Z2e l,b.size=256:=by
 intro b hb;unfold Z2e Y4w at hb;rcases List.mem_append.1 hb with hb | hb
 ·obtain⟨i,_,rfl⟩:=List.mem_map.1 hb;exact Z7d _ (by rw[Z0h,aD];omega)
 ·obtain⟨p,hpl,rfl⟩:=List.mem_map.1 hb;exact Z7d _ (hp p hpl)
theorem V7b{l:List ByteArray}{q:Nat×ByteArray}(h:q∈jnlB l):q.1<2+l.length/\q.2∈l:=by obtain⟨i,hi,rfl⟩:=List.mem_map.1 h;have hi:=List.mem_range.1 hi;refine⟨by dsimp only;omega,?_⟩;dsimp only;rw[aB hi];exact List.getElem_mem hi
theorem X2t{S:StoreD}{l:List (Nat×ByteArray)}(h:Pow S.disk)(hf:FitsH S.disk.blocks.length S.head)(hp:∀p∈l,p.1<S.head.pages/\p.2.size<=256)(hroom:hdsN l.length+l.length<=S.head.room)(hsq:S.head.seq+1<18446744073709551616):
  (Z2k S l).2=0/\∃D',(Z2k S l).1= { S with disk:=D',head:=Z1i (Z1i S.head (Z2e l).length) 0}/\PowAs S.disk D'/\∀n,n<S.head.pages->Z0y D' (2+S.head.room+n)=Z2y n (l.map fun p=>(p.1,padB p.2)) (Z0y S.disk (2+S.head.room+n)):=by
 have hfi:=hf.fits;have hpg:=hf.pages;have hlen:=Y4b l;have hmem:∀q∈jnlB (Z2e l),q.1<2+S.head.room/\q.2.size<=256:=fun q hq=>by have h1:=V7b hq;have h2:=X7b (fun p q=>(hp p q).2) _ h1.2;omega
 have hw:=Z8o (jnlB (Z2e l)) S.disk h (fun q hq=>by have:=hmem q hq;omega);have hP1:Pow { S.disk with late:=S.disk.late++(jnlB (Z2e l)).map (fun p=>(p.1,padB p.2))}:=⟨h.live,h.left⟩;have hfl:=Z8i hP1 (by dsimp only;omega);obtain⟨D2,hD2⟩:∃D2,(Z0v { S.disk with late:=S.disk.late++(jnlB (Z2e l)).map (fun p=>(p.1,padB p.2))}).1=D2:=⟨_,rfl⟩;have hz:(Z0v { S.disk with late:=S.disk.late++(jnlB (Z2e l)).map (fun p=>(p.1,padB p.2))}).2=0:=by rw[hfl]
 have hP2:Pow D2:=by rw[<-hD2,hfl];exact⟨h.live,h.left⟩
 have hL2:D2.blocks.length=S.disk.blocks.length:=by rw[<-hD2,Z4u]
 obtain⟨hq,hA,hB⟩:=X4g hP2 (by omega) (Z1i S.head (Z2e l).length);obtain⟨D3,hD3⟩:∃D3,(putD D2 (Z1i S.head (Z2e l).length)).1=D3:=⟨_,rfl⟩;rw[hD3]at hA hB;have e2:Z7a { S with disk:=D2} (Z2e l).length= { S with disk:=D3,head:=Z1i S.head (Z2e l).length}:=by unfold Z7a;dsimp only;rw[if_pos hq,hD3]
 have e:Z2k S l=Y1n { S with disk:=D3,head:=Z1i S.head (Z2e l).length} l:=by unfold Z2k;rw[hw];dsimp only;rw[if_neg (fun q=>q rfl),if_neg (fun q=>q hz),hD2,if_neg (fun q=>q hq),e2]
 have hL3:=hA.len.trans hL2;obtain⟨h1,D',h2,h3,h4⟩:=V2o (S:= { S with disk:=D3,head:=Z1i S.head (Z2e l).length}) (l:=l) hA.pow
  (by dsimp only;rw[hL3];exact⟨⟨hsq,by have:=hf.ok.room;simp[Z1i];omega,hf.ok.room,hf.ok.pages⟩,hf.room,hf.pages,hf.most,by simp[Z1i];omega,hf.fits⟩) hp
 rw[e];refine⟨h1,D',h2,⟨h3.pow,h3.len.trans hL3,h3.late⟩,fun n hn=> ?_⟩;have h5:=h4 n hn;dsimp only[Z1i]at h5;rw[h5,hB _ (by omega) (by omega),<-hD2,Z7r hP1 (by dsimp only;omega),Z9d]
 congr 1
 refine Z5w _ _ _ (fun p hp=> ?_);obtain⟨q,hq,rfl⟩:=List.mem_map.1 hp;have:=(hmem q hq).1;dsimp only;omega
theorem X0k(n:Nat)(b:ByteArray):∀(l:List (Nat×ByteArray)) (s:ByteArray),(∀p∈l,p.1=n->p.2=b)->(∃p∈l,p.1=n)->Z2y n l s=b
 | [],_,_,h=>by obtain⟨p,hp,_⟩:=h;cases hp
 | p::r,s,h,hx=>by
   have e:Z2y n (p::r) s=Z2y n r (if p.1=n then p.2 else s):=rfl;rw[e];by_cases q:∃p∈r,p.1=n
   ·exact X0k n b r _ (fun x hx=>h x (by simp[hx])) q
   ·rw[Z5w n r _ (fun x hx e=>q ⟨x,hx,e⟩)];obtain⟨y,hy,e2⟩:=hx;rcases List.mem_cons.1 hy with rfl | hy
    ·rw[if_pos e2];exact h y (by simp) e2
    ·exact absurd ⟨y,hy,e2⟩ q
def U1z(S:StoreD)(l:List (Nat×ByteArray)):Prop:=∀(n:Nat) b,(n,b)∈l↔S.dirty (n:Int)=some b
structure Cmtd (S S':StoreD):Prop where
 pages:S'.head.pages=S.head.pages
 room:S'.head.room=S.head.room
 seq:S'.head.seq<=S.head.seq+2
 clean:∀n:Nat,S'.dirty (n:Int)=none
 dead:S'.dead=false
 pow:Pow S'.disk
 late:S'.disk.late= []
 len:S'.disk.blocks.length=S.disk.blocks.length
 view:∀n,n<S.head.pages->Z1a S' n=Z1a S n
theorem V4c{S:StoreD}(hl:Live S)(hp:Pow S.disk)(h0:S.disk.late= [])(hd:∀n:Nat,S.dirty (n:Int)=none):Cmtd S S:=
 ⟨rfl,rfl,by omega,hd,hl.1,hp,h0,rfl,fun _ _=>rfl⟩
theorem V5y{b:ByteArray}(h:b.size=256):padB b=b:=by
 unfold padB;have e:zeroB.extract b.size 256=⟨#[]⟩:=by rw[ByteArray.ext_iff,ByteArray.data_extract,h];simp;omega
 rw[e,ByteArray.ext_iff,ByteArray.data_append];simp
theorem V4b{S:StoreD}{l:List (Nat×ByteArray)}(hp:Pow S.disk)(hf:FitsH S.disk.blocks.length S.head)(hw:∀x b,S.dirty x=some b->0<=x/\x<S.head.pages/\b.size=256)(hl:U1z S l)
 (hroom:hdsN l.length+l.length<=S.head.room)(hsq:S.head.seq+2<18446744073709551616):
  (Z2k { S with dirty:=X0c} l).2=0/\Cmtd S { (Z2k { S with dirty:=X0c} l).1 with dead:=false}:=by
 have hpl:∀p∈l,p.1<S.head.pages/\p.2.size<=256:=fun p hpm=>by obtain⟨n,b⟩:=p;have:=hw _ _ ((hl n b).1 hpm);dsimp only;omega
 obtain⟨h1,D',h2,h3,h4⟩:=X2t (S:= { S with dirty:=X0c}) (l:=l) hp hf hpl hroom (by dsimp only;omega);refine⟨h1,?_⟩;rw[h2];dsimp only at h4 ⊢;refine⟨rfl,rfl,?_,fun n=>rfl,rfl,h3.pow,?_,h3.len,fun n hn=> ?_⟩
 ·dsimp only[Z1i];omega
 ·exact h3.late
 ·have h5:=h4 n hn;show Z0y D' (2+S.head.room+n)=(S.dirty n).getD (Z0y S.disk (2+S.head.room+n));rw[h5];cases hd:S.dirty (n:Int)with
  | none=>
    refine Z5w _ _ _ (fun p hpm=> ?_);obtain⟨q,hq,rfl⟩:=List.mem_map.1 hpm;dsimp only;intro e;have:=(hl q.1 q.2).1 hq;rw[e,hd]at this;cases this
  | some b=>
    have hb:padB b=b:=V5y (hw _ _ hd).2.2;refine X0k n b _ _ (fun p hpm e=> ?_) ⟨(n,padB b),List.mem_map.2 ⟨(n,b),(hl n b).2 hd,rfl⟩,rfl⟩;obtain⟨q,hq,rfl⟩:=List.mem_map.1 hpm;dsimp only at e ⊢;have:=(hl q.1 q.2).1 hq;rw[e,hd]at this;injection this with this;rw[<-this];exact hb
def BX(w wr:World)(b B:Nat)(t:TypeId)(cs:List Value)(l:List UInt8):Prop:=
 ∃F:Nat->Prop,BldAt wr b F l/\(∀i,F i->w.heap.size<=i/\i≠B)/\Ext w wr/\Row1 wr B t cs
theorem BX.bstep{w wr w':World}{b B:Nat}{t:TypeId}{cs:List Value}{l':List UInt8}{F F':Nat->Prop}(hF:∀i,F i->w.heap.size<=i/\i≠B)(hx:Ext w wr)(hr:Row1 wr B t cs)(hb:BldAt w' b F' l')(hk:Keeps F F' wr w'):BX w w' b B t cs l':=by
 have hs:=hx.size;refine⟨F',hb,fun i q=> ?_,?_,hk.only.row hr (fun q=>(hF _ q).2 rfl)⟩
 ·rcases hk.new i q with q | q
  ·exact hF i q
  ·have:=hr.lt;omega
 ·refine Only.toExt (F:=fun i=>w.heap.size<=i) ?_ (fun i q=>q);exact(Only.of hx).trans' (hk.only.mono (fun i q=> .inl (hF i q).1))
theorem BX.ext{w W W':World}{b B:Nat}{t:TypeId}{cs:List Value}{l:List UInt8}(h:BX w W b B t cs l)(hx:Ext W W'):BX w W' b B t cs l:=by obtain⟨F,h1,h2,h3,h4⟩:=h;exact⟨F,h1.ext hx,h2,h3.trans hx,h4.ext hx h4.lt⟩
theorem V8l{w W:World}{b B:Nat}{t:TypeId}{cs:List Value}{l:List UInt8}(s:ByteArray)(hs:s.size<=1000000)(h:BX w W b B t cs l)(hl:l.length<=100000000):
  Calls Tryz.prog 47 #[.pointer (some ⟨b,0,none⟩),.string s] W fun e w'=>e= .returned (.tuple #[.int .i64 s.size,.nilIface])/\BX w w' b B t cs (l++s.data.toList):=by
 obtain⟨F,h1,h2,h3,h4⟩:=h;refine(Z6m s h1 (by omega)).mono ?_;rintro e w' ⟨rfl,F',q1,q2⟩;exact⟨rfl,BX.bstep h2 h3 h4 q1 q2⟩
theorem U1v{w W:World}{b B:Nat}{t:TypeId}{cs:List Value}{l:List UInt8}(h:BX w W b B t cs l)(h0:l≠ []):
  Calls Tryz.prog 49 #[.pointer (some ⟨b,0,none⟩)] W fun e w'=>e= .returned (.string (bts l))/\Ext w w':=by
 obtain⟨F,h1,h2,h3,h4⟩:=h;refine(Z9e h1 h0).mono ?_;rintro e w' ⟨rfl,q2⟩;refine⟨rfl,Only.toExt (F:=fun i=>w.heap.size<=i) ?_ (fun i q=>q)⟩;exact(Only.of h3).trans' (q2.mono (fun i q=> .inl (h2 i q).1))
def opP(o:OpD)(k:Nat):List UInt8:=((opV o).take k).flatMap (fun n=>varL n.toNat)
theorem V6i(o:OpD)(k:Nat)(n:Int)(h:(opV o)[k]? =some n):opP o (k+1)=opP o k++varL n.toNat:=by unfold opP;rw[List.take_add_one,h,aH];simp
theorem V1e{o:OpD}(h:OpIn o)(k:Nat):(opP o k).length<=100:=by
 have h1:=Y2c ((opV o).take k) (fun n hn=>h.nums n (List.mem_of_mem_take hn));have h2:((opV o).take k).length<=8:=by rw[aD];exact Nat.min_le_right _ _
 unfold opP;omega
theorem Z7f(o:OpD)(w:World)(hr: -9223372036854775808<=o.result/\o.result<=9223372036854775807):
  Calls Tryz.prog 131 #[o.val] w fun e w'=>e= .returned (.tuple #[.string (if Z1s o=0 then bts (opL o)else⟨#[]⟩),.int .i64 (Z1s o)])/\Ext w w':=by
 have cC:Hid (∀W,Calls Tryz.prog 147 #[.agg #[.int .i64 o.id,.int .i64 o.proc,.int .i64 o.object,.int .i64 o.kind,.int .i64 o.method,.int .i64 o.arg,.int .i64 o.second,.bool o.done,.int .i64 o.result,.int .i64 o.invoke,.int .i64 o.ret]] W fun e w'=>e= .returned (.int .i64 (Z1s o))/\Ext W w'):=fun W=>Y4e o W hr;have HBX:Hid (∀W:World,Ext (w.alloc (.cells #[.int .i64 o.id,.int .i64 o.proc,.int .i64 o.object,.int .i64 o.kind,.int .i64 o.method,.int .i64 o.arg,.int .i64 o.second,.bool o.done,.int .i64 o.result,.int .i64 o.invoke,.int .i64 o.ret] 73)) W->At11 W w.heap.size o):=fun W h=>(At11.row (Row1.made w 73 o.cells)).ext h (by simp);have HIN:Hid (Z1s o=0->OpIn o):=OpIn.of;obtain⟨c,hc⟩:∃c,Z1s o=c:=⟨_,rfl⟩;rw[hc]at cC HIN;rw[hc];clear hc hr;by_cases h0:c=0
 ·subst h0;rw[if_pos rfl];have HI:=hD (HIN.out rfl);clear HIN;go_enter Tryz.func131,Tryz.ntmps131;go_upto_region 5 with (go_at_call 147;(with_reducible refine(cC.out _).mono ?_);clear cC;rintro e w1 ⟨rfl,hb1⟩;have HB1:=hD hb1;clear hb1);obtain⟨d0,d1,d2,d3,d4,d5,d6,d7,d8,d9,d10⟩:=HBX.out (w1.alloc (.cells #[.pointer none,.slice none 0 0] 108)) (HB1.out.trans (Ext.alloc _ _));have HBB:Hid (BX w1 ((w1.alloc (.cells #[.pointer none,.slice none 0 0] 108)).alloc (.cells #[.int .i64 o.id,.int .i64 o.proc,.int .i64 o.object,.int .i64 o.kind,.int .i64 o.method,.int .i64 o.arg,.int .i64 o.second,.int .i64 o.invoke] 3)) w1.heap.size (w1.heap.size+1) 3 ((opV o).map (fun n=>Value.int .i64 n)) (opP o 0)):=
   ⟨fun i=>i=w1.heap.size,(BldAt.made w1).ext (Ext.alloc _ _),fun i q=>by omega,(Ext.alloc _ _).trans (Ext.alloc _ _),Row1.made' (by simp) _ _⟩
  have cS:Hid (∀(s:ByteArray) (l:List UInt8) W,s.size<=1000000->BX w1 W w1.heap.size (w1.heap.size+1) 3 ((opV o).map (fun n=>Value.int .i64 n)) l->l.length<=100000000->Calls Tryz.prog 47 #[.pointer (some ⟨w1.heap.size,0,none⟩),.string s] W fun e w'=>e= .returned (.tuple #[.int .i64 s.size,.nilIface])/\BX w1 w' w1.heap.size (w1.heap.size+1) 3 ((opV o).map (fun n=>Value.int .i64 n)) (l++s.data.toList)):=fun s l W hs hb hl=>V8l s hs hb hl;have cV:Hid (∀(n:Nat) W,n<18446744073709551616->Calls Tryz.prog 39 #[.int .u64 n] W fun e w'=>e= .returned (.string (bts (varL n)))/\Ext W w'):=fun n W hn=>V9j n W hn;have HVS:Hid (∀n,(bts (varL n)).size<=1000000):=fun n=>by have:=(Z7u n).2;rw[Z0h];omega
  go_wp2_with fail;clear d0 d1 d2 d3 d4 d5 d6 d7 d8 d9 d10
  go_loopw [31] (fun i wr=>∃k:Nat,k<=8/\i= .int .i64 k/\BX w1 wr w1.heap.size (w1.heap.size+1) 3 ((opV o).map (fun n=>Value.int .i64 n)) (opP o k)) (fun i _=>8-(intOf i).toNat)
  case atStart=>exact⟨0,by omega,rfl,HBB.out⟩
  case round=>
   obtain⟨k,hk,rfl,hbw⟩:=hrel;have HBW:=hD hbw;have hx1:Ext w1 wr:=hbw.choose_spec.2.2.1;have hrow:Row1 wr (w1.heap.size+1) 3 ((opV o).map (fun n=>Value.int .i64 n)):=hbw.choose_spec.2.2.2;clear hbw;by_cases hkl:k<8
   ·have q1:decide ((k:Int)<8)=true:=aN;have hkv:k<(opV o).length:=hkl;have c0:wr.cell? ⟨w1.heap.size+1,k,none⟩=some (.int .i64 (opV o)[k]):=by rw[hrow.cell k,List.getElem?_map,aB hkv];rfl
    have hin:=HI.out.nums _ (List.getElem_mem hkv);have HST:=hD (V6i o k _ (aB hkv));have hpl:=V1e HI.out k;have HROW:=hD hrow;have hgl:=hrow.lt;generalize (opV o)[k]=n at *;obtain⟨m,rfl⟩:∃m:Nat,n=m:=⟨n.toNat,by omega⟩;have hu:IntKind.u64.wrap (m:Int)=m:=by rw[IntKind.wrap_u64];omega
    have cV1:=cV.out m wr (by omega);have cS1:Hid (∀W,Ext wr W->Calls Tryz.prog 47 #[.pointer (some ⟨w1.heap.size,0,none⟩),.string (bts (varL m))] W fun e w'=>e= .returned (.tuple #[.int .i64 (bts (varL m)).size,.nilIface])/\BX w1 w' w1.heap.size (w1.heap.size+1) 3 ((opV o).map (fun n=>Value.int .i64 n)) (opP o (k+1))):=fun W hW=>by have h1:=cS.out (bts (varL m)) (opP o k) W (HVS.out m) (HBW.out.ext hW) (by omega);rw[Z1p]at h1;rw[HST.out];exact h1
    generalize bts (varL m)=bx at *;clear hx1 hrow hin HST cS;go_wp2_with (first
     | (go_at_call 39;(with_reducible refine cV1.mono ?_);clear cV1;rintro e w2 ⟨rfl,hb2⟩)
     | (go_at_call 47;(with_reducible refine(cS1.out _ hb2).mono ?_);clear cS1;rintro e w3 ⟨rfl,hb3⟩;have HB3:=hD hb3;clear hb3))
    go_roundw
    case rel=>exact⟨k+1,by omega,by go_num,HB3.out⟩
    case measure=>simp[intOf];omega
   ·obtain rfl:k=8:=by omega
    obtain⟨d0,d1,d2,d3,d4,d5,d6,d7,d8,d9,d10⟩:=HBX.out wr (HB1.out.trans hx1);have HX1:=hD hx1;have HE:Hid (opP o 8=(opV o).flatMap (fun n=>varL n.toNat)):=rfl;have cT:Hid (∀(l:List UInt8) W,BX w1 W w1.heap.size (w1.heap.size+1) 3 ((opV o).map (fun n=>Value.int .i64 n)) l->l=opL o->Calls Tryz.prog 49 #[.pointer (some ⟨w1.heap.size,0,none⟩)] W fun e w'=>e= .returned (.string (bts (opL o)))/\Ext w1 w'):=fun l W hb hl=>by subst hl;exact U1v hb (U0g o)
    have hpl:=V1e HI.out 8;clear hx1 hrow d0 d1 d2 d3 d4 d5 d6;cases hd:o.done with
    | false=>
      rw[hd]at d7;have cT1:=cT.out _ _ HBW.out (by unfold opL;rw[if_neg (by rw[hd];simp),List.append_nil];rfl);generalize hbx:bts (opL o)=bx at cT1;go_wp2_with (go_at_call 49;(with_reducible refine cT1.mono ?_);clear cT1;rintro e w4 ⟨rfl,hb4⟩;have HB4:=hD hb4;clear hb4)
      go_ret2
      subst hbx;exact⟨rfl,((Ext.alloc _ _).trans HB1.out).trans HB4.out⟩
    | true=>
      rw[hd]at d7;have hy:=HI.out.yes hd;have hiv:=HI.out.invoke;have hre:=HI.out.result;obtain⟨m,hm⟩:∃m:Nat,o.ret-o.invoke=m:=⟨(o.ret-o.invoke).toNat,by omega⟩;have hu1:IntKind.i64.wrap (o.ret-o.invoke)=o.ret-o.invoke:=by rw[IntKind.wrap_i64];omega
      have hu:IntKind.u64.wrap (m:Int)=m:=by rw[IntKind.wrap_u64];omega
      have HEND:Hid (opL o=opP o 8++varL m++varL (Z4h o.result)):=by unfold Hid opL;rw[if_pos hd,HE.out,hm,aG];rfl
      have cV1:=cV.out m wr (by omega);have cV2:Hid (∀W,Calls Tryz.prog 39 #[.int .u64 (Z4h o.result)] W fun e w'=>e= .returned (.string (bts (varL (Z4h o.result))))/\Ext W w'):=fun W=>cV.out _ W (V7r (by omega) (by omega));have cF:Hid (∀W,Calls Tryz.prog 40 #[.int .i64 o.result] W fun e w'=>e= .returned (.int .u64 (Z4h o.result))/\W=w'):=fun W=>V7q o.result W (by omega) (by omega);have HQ8:Hid ((opP o 8).length<=100):=hpl;have cS1:Hid (∀W,Ext wr W->Calls Tryz.prog 47 #[.pointer (some ⟨w1.heap.size,0,none⟩),.string (bts (varL m))] W fun e w'=>e= .returned (.tuple #[.int .i64 (bts (varL m)).size,.nilIface])/\BX w1 w' w1.heap.size (w1.heap.size+1) 3 ((opV o).map (fun n=>Value.int .i64 n)) (opP o 8++varL m)):=fun W hW=>by have h1:=cS.out (bts (varL m)) (opP o 8) W (HVS.out m) (HBW.out.ext hW) (by have:=HQ8.out;omega);rw[Z1p]at h1;exact h1
      have cS2:Hid (∀W,BX w1 W w1.heap.size (w1.heap.size+1) 3 ((opV o).map (fun n=>Value.int .i64 n)) (opP o 8++varL m)->Calls Tryz.prog 47 #[.pointer (some ⟨w1.heap.size,0,none⟩),.string (bts (varL (Z4h o.result)))] W fun e w'=>e= .returned (.tuple #[.int .i64 (bts (varL (Z4h o.result))).size,.nilIface])/\BX w1 w' w1.heap.size (w1.heap.size+1) 3 ((opV o).map (fun n=>Value.int .i64 n)) (opL o)):=fun W hW=>by have h1:=cS.out (bts (varL (Z4h o.result))) (opP o 8++varL m) W (HVS.out _) hW (by have:=HQ8.out;have:=(Z7u m).2;rw[aA];omega);rw[Z1p]at h1;rw[HEND.out];exact h1
      have cT1:Hid (∀W,BX w1 W w1.heap.size (w1.heap.size+1) 3 ((opV o).map (fun n=>Value.int .i64 n)) (opL o)->Calls Tryz.prog 49 #[.pointer (some ⟨w1.heap.size,0,none⟩)] W fun e w'=>e= .returned (.string (bts (opL o)))/\Ext w1 w'):=fun W hW=>cT.out _ W hW rfl;have HAX:Hid (∀(W:World) (l:List UInt8),BX w1 W w1.heap.size (w1.heap.size+1) 3 ((opV o).map (fun n=>Value.int .i64 n)) l->W.cell? ⟨w.heap.size,8,none⟩=some (.int .i64 o.result)):=fun W l ⟨_,_,_,hx,_⟩=>(HBX.out W (HB1.out.trans hx)).2.2.2.2.2.2.2.2.1;generalize hbx:bts (opL o)=bx at cT1;generalize bts (varL (Z4h o.result))=by2 at *;generalize Z4h o.result=fr at *;generalize bts (varL m)=by1 at *;obtain⟨hy1,hy2⟩:=hy;have hu:IntKind.u64.wrap (o.ret-o.invoke)=m:=by rw[hm];exact hu
      clear cT cS cV HEND;go_wp2_with (first
       | (go_at_call 39;(with_reducible refine cV1.mono ?_);clear cV1;rintro e w2 ⟨rfl,hb2⟩)
       | (go_at_call 47;(with_reducible refine(cS1.out _ hb2).mono ?_);clear cS1;rintro e w3 ⟨rfl,hb3⟩;have e8:=HAX.out _ _ hb3)
       | (go_at_call 40;(with_reducible refine(cF.out _).mono ?_);clear cF;rintro e w4 ⟨rfl,rfl⟩)
       | (go_at_call 39;(with_reducible refine(cV2.out _).mono ?_);clear cV2;rintro e w5 ⟨rfl,hb5⟩;have hb6:=hb3.ext hb5)
       | (go_at_call 47;(with_reducible refine(cS2.out _ hb6).mono ?_);clear cS2;rintro e w7 ⟨rfl,hb7⟩)
       | (go_at_call 49;(with_reducible refine(cT1.out _ hb7).mono ?_);clear cT1;rintro e w8 ⟨rfl,hb8⟩;have HB4:=hD hb8))
      go_ret2
      subst hbx;exact⟨rfl,((Ext.alloc _ _).trans HB1.out).trans HB4.out⟩
 ·rw[if_neg h0];have q1:decide (c=0)=false:=decide_eq_false h0;go_enter Tryz.func131,Tryz.ntmps131;go_wp2_with (go_at_call 147;(with_reducible refine(cC.out _).mono ?_);clear cC;rintro e w1 ⟨rfl,hb1⟩;have HB1:=hD hb1;clear hb1)
  go_ret2
  exact⟨rfl,(Ext.alloc _ _).trans HB1.out⟩
abbrev U1i(w:World)(r:Nat)(s:ByteArray)(ok:Bool):Prop:=Row1 w r 242 [.string s,.bool ok]
theorem V8n(a b:List UInt8):(bts (a++b)).extract a.length (bts (a++b)).size=bts b:=by rw[ByteArray.ext_iff,ByteArray.data_extract,Z0h];apply Array.ext';simp[bts]
theorem Y6f{r:Nat}(n:Nat)(t:List UInt8)(w:World)(h:U1i w r (bts (varL n++t)) true)(hn:n<=1099511627776)(ht:t.length<=1000000):
  Calls Tryz.prog 146 #[.pointer (some ⟨r,0,none⟩)] w fun e w'=>e= .returned (.int .i64 n)/\U1i w' r (bts t) true/\Only (fun i=>i=r) w w':=by
 have hv:=Z7u n;have hsz:(bts (varL n++t)).size=(varL n).length+t.length:=by rw[Z0h,aA]
 have cU:=X9e (bts (varL n++t)) (by omega) w;rw[Z1p,X6c (by omega) t]at cU;have hex:=V8n (varL n) t;generalize bts (varL n++t)=s at *;generalize (varL n).length=k at *;have c0:w.cell? ⟨r,0,none⟩=some (.string s):=h.cell 0;have c1:w.cell? ⟨r,1,none⟩=some (.bool true):=h.cell 1;have f0:w.frozen? ⟨r,0,none⟩=false:=h.soft 0;have f1:w.frozen? ⟨r,1,none⟩=false:=h.soft 1;have HR:=hD h;clear h;have q1:decide ((0:Int)<(k:Int))=true:=aN;have q2:decide ((n:Int)<=1099511627776)=true:=aN;have hks:k<=s.size:=by omega
 have hu:IntKind.i64.wrap (n:Int)=n:=by rw[IntKind.wrap_i64];omega
 have HO:Hid (∀(o9:Bool) (s9:ByteArray),Only (fun i=>i=r) w ((w.setCell ⟨r,1,none⟩ (.bool o9)).setCell ⟨r,0,none⟩ (.string s9))):=fun o9 s9=>(Only.setCell (F:=fun i=>i=r) (p:=⟨r,1,none⟩) Only.refl (.inl rfl) _).setCell (p:=⟨r,0,none⟩) (.inl rfl) _;have HEX:=hD hex;clear hex hsz;go_enter Tryz.func146,Tryz.ntmps146;go_wp2_with (go_at_call 100;(with_reducible refine cU.mono ?_);clear cU;rintro e w1 ⟨rfl,rfl⟩);go_ret;refine⟨rfl,?_,HO.out _ _⟩;have h9:=(HR.out.set 1 (.bool true)).set 0 (.string (s.extract k s.size));rw[<-HEX.out];exact h9
theorem X3x{fn:Func}{x y:Nat}(h:fn.results= #[.cell x 73,.tmp y])(tmps:Array Value)(w:World)(B:Nat)(o:OpD)(v:Value)(hB:tmps.getD x undef= .pointer (some ⟨B,0,none⟩))(hv:tmps.getD y undef=v)(hr:Row1 w B 73 o.cells):
  (results fn tmps).run Tryz.prog w= .ok (.tuple #[o.val,v]) w:=by
 rw[results_cell_tmp h,hB,hv];have c0:w.cell? ⟨B,0,none⟩=_:=hr.cell 0;have c1:w.cell? ⟨B,1,none⟩=_:=hr.cell 1;have c2:w.cell? ⟨B,2,none⟩=_:=hr.cell 2;have c3:w.cell? ⟨B,3,none⟩=_:=hr.cell 3;have c4:w.cell? ⟨B,4,none⟩=_:=hr.cell 4;have c5:w.cell? ⟨B,5,none⟩=_:=hr.cell 5;have c6:w.cell? ⟨B,6,none⟩=_:=hr.cell 6;have c7:w.cell? ⟨B,7,none⟩=_:=hr.cell 7;have c8:w.cell? ⟨B,8,none⟩=_:=hr.cell 8;have c9:w.cell? ⟨B,9,none⟩=_:=hr.cell 9;have c10:w.cell? ⟨B,10,none⟩=_:=hr.cell 10;unfold OpD.cells at c0 c1 c2 c3 c4 c5 c6 c7 c8 c9 c10
 go_simp
structure DW (w wx:World) (s:ByteArray):Prop where
 ext:Ext w wx
 res:Row1 wx w.heap.size 73 opZero.cells
 rd:U1i wx (w.heap.size+1) s true
theorem DW.next{w W:World}{n:Nat}{t:List UInt8}(h:DW w W (bts (varL n++t)))(hn:n<=1099511627776)(ht:t.length<=1000000):
  Calls Tryz.prog 146 #[.pointer (some ⟨w.heap.size+1,0,none⟩)] W fun e w'=>e= .returned (.int .i64 n)/\DW w w' (bts t):=by
 refine(Y6f n t W h.rd hn ht).mono ?_;rintro e w' ⟨rfl,h1,h2⟩;exact⟨rfl,⟨((Only.of h.ext).trans h2 (F:=fun i=>w.heap.size<=i) (fun i q=> .inl (by omega))).toExt (fun i q=>q),h2.row h.res (by omega),h1⟩⟩
structure DO (w wx:World) (s:ByteArray) (G:Nat) (cs:List Value):Prop where
 dw:DW w wx s
 row:Row1 wx G 73 cs
 far:w.heap.size+1<G
theorem DO.next{w W:World}{n:Nat}{t:List UInt8}{G:Nat}{cs:List Value}(h:DO w W (bts (varL n++t)) G cs)(hn:n<=1099511627776)(ht:t.length<=1000000):
  Calls Tryz.prog 146 #[.pointer (some ⟨w.heap.size+1,0,none⟩)] W fun e w'=>e= .returned (.int .i64 n)/\DO w w' (bts t) G cs:=by
 have hf:=h.far;refine(Y6f n t W h.dw.rd hn ht).mono ?_;rintro e w' ⟨rfl,h1,h2⟩;exact⟨rfl,⟨((Only.of h.dw.ext).trans h2 (F:=fun i=>w.heap.size<=i) (fun i q=> .inl (by omega))).toExt (fun i q=>q),h2.row h.dw.res (by omega),h1⟩,h2.row h.row (by omega),hf⟩
theorem DO.ext{w W W':World}{s:ByteArray}{G:Nat}{cs:List Value}(h:DO w W s G cs)(hx:Ext W W'):DO w W' s G cs:=
 ⟨⟨h.dw.ext.trans hx,h.dw.res.ext hx h.dw.res.lt,h.dw.rd.ext hx h.dw.rd.lt⟩,h.row.ext hx h.row.lt,h.far⟩
theorem DO.set{w W:World}{s:ByteArray}{G:Nat}{cs:List Value}(h:DO w W s G cs)(i:Nat)(v:Value):DO w (W.setCell ⟨G,i,none⟩ v) s G (cs.set i v):=by have hf:=h.far;exact⟨⟨((Only.of h.dw.ext (F:=fun i=>w.heap.size<=i)).setCell (p:=⟨G,i,none⟩) (.inl (by show _<=G;omega)) v).toExt (fun i q=>q),h.dw.res.setFar (p:=⟨G,i,none⟩) (by show _≠G;omega) _,h.dw.rd.setFar (p:=⟨G,i,none⟩) (by show _≠G;omega) _⟩,h.row.set i v,hf⟩
theorem DO.read{w W:World}{s:ByteArray}{G:Nat}{cs:List Value}(h:DO w W s G cs):W.cell? ⟨w.heap.size+1,0,none⟩=some (.string s)/\W.cell? ⟨w.heap.size+1,1,none⟩=some (.bool true):=⟨h.dw.rd.cell 0,h.dw.rd.cell 1⟩
theorem Z1l{w:World}{B:Nat}{t:TypeId}{v0 v1 v2 v3 v4 v5 v6 v7 v8 v9 v10:Value}(h:Row1 w B t [v0,v1,v2,v3,v4,v5,v6,v7,v8,v9,v10]):w.cell? ⟨B,0,none⟩=some v0/\w.cell? ⟨B,1,none⟩=some v1/\w.cell? ⟨B,2,none⟩=some v2/\w.cell? ⟨B,3,none⟩=some v3/\w.cell? ⟨B,4,none⟩=some v4/\w.cell? ⟨B,5,none⟩=some v5/\w.cell? ⟨B,6,none⟩=some v6/\w.cell? ⟨B,7,none⟩=some v7/\w.cell? ⟨B,8,none⟩=some v8/\w.cell? ⟨B,9,none⟩=some v9/\w.cell? ⟨B,10,none⟩=some v10:=
 ⟨h.cell 0,h.cell 1,h.cell 2,h.cell 3,h.cell 4,h.cell 5,h.cell 6,h.cell 7,h.cell 8,h.cell 9,h.cell 10⟩
theorem Z3o{w:World}{B:Nat}{t:TypeId}{cs:List Value}(h:Row1 w B t cs):w.frozen? ⟨B,0,none⟩=false/\w.frozen? ⟨B,1,none⟩=false/\w.frozen? ⟨B,2,none⟩=false/\w.frozen? ⟨B,3,none⟩=false/\w.frozen? ⟨B,4,none⟩=false/\w.frozen? ⟨B,5,none⟩=false/\w.frozen? ⟨B,6,none⟩=false/\w.frozen? ⟨B,7,none⟩=false/\w.frozen? ⟨B,8,none⟩=false/\w.frozen? ⟨B,9,none⟩=false/\w.frozen? ⟨B,10,none⟩=false:=
 ⟨h.soft 0,h.soft 1,h.soft 2,h.soft 3,h.soft 4,h.soft 5,h.soft 6,h.soft 7,h.soft 8,h.soft 9,h.soft 10⟩
theorem Z5r{w:World}{B:Nat}{t:TypeId}{c0 c1 c2 c3 c4 c5 c6 c7 c8 c9 c10:Value}(h:Row1 w B t [c0,c1,c2,c3,c4,c5,c6,c7,c8,c9,c10])(v0 v1 v2 v3 v4 v5 v6 v7 v8 v9 v10:Value):Row1 (((((((((((w.setCell ⟨B,0,none⟩ v0).setCell ⟨B,1,none⟩ v1).setCell ⟨B,2,none⟩ v2).setCell ⟨B,3,none⟩ v3).setCell ⟨B,4,none⟩ v4).setCell ⟨B,5,none⟩ v5).setCell ⟨B,6,none⟩ v6).setCell ⟨B,7,none⟩ v7).setCell ⟨B,8,none⟩ v8).setCell ⟨B,9,none⟩ v9).setCell ⟨B,10,none⟩ v10) B t [v0,v1,v2,v3,v4,v5,v6,v7,v8,v9,v10]:=(((((((((((h.set 0 v0).set 1 v1).set 2 v2).set 3 v3).set 4 v4).set 5 v5).set 6 v6).set 7 v7).set 8 v8).set 9 v9).set 10 v10)
theorem Y0g{w0 w:World}{B:Nat}(h:Ext w0 w)(hB:w0.heap.size<=B)(v0 v1 v2 v3 v4 v5 v6 v7 v8 v9 v10:Value):Ext w0 (((((((((((w.setCell ⟨B,0,none⟩ v0).setCell ⟨B,1,none⟩ v1).setCell ⟨B,2,none⟩ v2).setCell ⟨B,3,none⟩ v3).setCell ⟨B,4,none⟩ v4).setCell ⟨B,5,none⟩ v5).setCell ⟨B,6,none⟩ v6).setCell ⟨B,7,none⟩ v7).setCell ⟨B,8,none⟩ v8).setCell ⟨B,9,none⟩ v9).setCell ⟨B,10,none⟩ v10):=Only.toExt ((((((((((((Only.of h).setCell (F:=fun i=>w0.heap.size<=i) (p:=⟨B,0,none⟩) (.inl hB) v0).setCell (F:=fun i=>w0.heap.size<=i) (p:=⟨B,1,none⟩) (.inl hB) v1).setCell (F:=fun i=>w0.heap.size<=i) (p:=⟨B,2,none⟩) (.inl hB) v2).setCell (F:=fun i=>w0.heap.size<=i) (p:=⟨B,3,none⟩) (.inl hB) v3).setCell (F:=fun i=>w0.heap.size<=i) (p:=⟨B,4,none⟩) (.inl hB) v4).setCell (F:=fun i=>w0.heap.size<=i) (p:=⟨B,5,none⟩) (.inl hB) v5).setCell (F:=fun i=>w0.heap.size<=i) (p:=⟨B,6,none⟩) (.inl hB) v6).setCell (F:=fun i=>w0.heap.size<=i) (p:=⟨B,7,none⟩) (.inl hB) v7).setCell (F:=fun i=>w0.heap.size<=i) (p:=⟨B,8,none⟩) (.inl hB) v8).setCell (F:=fun i=>w0.heap.size<=i) (p:=⟨B,9,none⟩) (.inl hB) v9).setCell (F:=fun i=>w0.heap.size<=i) (p:=⟨B,10,none⟩) (.inl hB) v10) (fun i q=>q)
theorem Z7g(o:OpD)(w:World)(ho:Z1s o=0):
  Calls Tryz.prog 88 #[.string (bts (opL o))] w fun e w'=>e= .returned (.tuple #[o.val,.int .i64 0])/\Ext w w':=by
 have hin:=OpIn.of ho;have cC:Hid (∀W,Calls Tryz.prog 147 #[.agg #[.int .i64 o.id,.int .i64 o.proc,.int .i64 o.object,.int .i64 o.kind,.int .i64 o.method,.int .i64 o.arg,.int .i64 o.second,.bool o.done,.int .i64 o.result,.int .i64 o.invoke,.int .i64 o.ret]] W fun e w'=>e= .returned (.int .i64 0)/\Ext W w'):=fun W=>by have h1:=Y4e o W (by have:=hin.result;omega);rwa [ho]at h1
 have hlen:=V1f hin;have HIN:=hD hin;obtain⟨T8,hT8⟩:∃T8,(if o.done=true then varL (o.ret-o.invoke).toNat++varL (Z4h o.result)else [])=T8:=⟨_,rfl⟩;have hT:opL o=(opV o).flatMap (fun n=>varL n.toNat)++T8:=by rw[<-hT8];rfl
 have hT:opL o=varL o.id.toNat++(varL o.proc.toNat++(varL o.object.toNat++(varL o.kind.toNat++(varL o.method.toNat++(varL o.arg.toNat++(varL o.second.toNat++(varL o.invoke.toNat++(T8)))))))):=by rw[hT];simp[opV,aG]
 obtain⟨T7,hT7⟩:∃T7,varL o.invoke.toNat++T8=T7:=⟨_,rfl⟩;obtain⟨T6,hT6⟩:∃T6,varL o.second.toNat++T7=T6:=⟨_,rfl⟩;obtain⟨T5,hT5⟩:∃T5,varL o.arg.toNat++T6=T5:=⟨_,rfl⟩;obtain⟨T4,hT4⟩:∃T4,varL o.method.toNat++T5=T4:=⟨_,rfl⟩;obtain⟨T3,hT3⟩:∃T3,varL o.kind.toNat++T4=T3:=⟨_,rfl⟩;obtain⟨T2,hT2⟩:∃T2,varL o.object.toNat++T3=T2:=⟨_,rfl⟩;obtain⟨T1,hT1⟩:∃T1,varL o.proc.toNat++T2=T1:=⟨_,rfl⟩;rw[hT7,hT6,hT5,hT4,hT3,hT2,hT1]at hT;obtain⟨T0,hT0⟩:∃T0,opL o=T0:=⟨_,rfl⟩;rw[hT0]at hT hlen ⊢;have l0:T0.length<=1000:=by omega
 have l1:T1.length<=1000:=by rw[hT,aA]at l0;omega
 have l2:T2.length<=1000:=by rw[<-hT1,aA]at l1;omega
 have l3:T3.length<=1000:=by rw[<-hT2,aA]at l2;omega
 have l4:T4.length<=1000:=by rw[<-hT3,aA]at l3;omega
 have l5:T5.length<=1000:=by rw[<-hT4,aA]at l4;omega
 have l6:T6.length<=1000:=by rw[<-hT5,aA]at l5;omega
 have l7:T7.length<=1000:=by rw[<-hT6,aA]at l6;omega
 have l8:T8.length<=1000:=by rw[<-hT7,aA]at l7;omega
 have cN:Hid (∀(n:Int) t W,DW w W (bts (varL n.toNat++t))->0<=n/\n<=1099511627776->t.length<=1000->Calls Tryz.prog 146 #[.pointer (some ⟨w.heap.size+1,0,none⟩)] W fun e w'=>e= .returned (.int .i64 n)/\DW w w' (bts t)):=fun n t W h hn ht=>by have h1:=h.next (by omega) (by omega);rwa [Int.toNat_of_nonneg hn.1]at h1
 have c0:Hid (∀W,DW w W (bts T0)->Calls Tryz.prog 146 #[.pointer (some ⟨w.heap.size+1,0,none⟩)] W fun e w'=>e= .returned (.int .i64 o.id)/\DW w w' (bts T1)):=fun W hW=>cN.out o.id T1 W (by rw[<-hT];exact hW) (hin.nums _ (by simp[opV])) l1;have c1:Hid (∀W,DW w W (bts T1)->Calls Tryz.prog 146 #[.pointer (some ⟨w.heap.size+1,0,none⟩)] W fun e w'=>e= .returned (.int .i64 o.proc)/\DW w w' (bts T2)):=fun W hW=>cN.out o.proc T2 W (by rw[hT1];exact hW) (hin.nums _ (by simp[opV])) l2;have c2:Hid (∀W,DW w W (bts T2)->Calls Tryz.prog 146 #[.pointer (some ⟨w.heap.size+1,0,none⟩)] W fun e w'=>e= .returned (.int .i64 o.object)/\DW w w' (bts T3)):=fun W hW=>cN.out o.object T3 W (by rw[hT2];exact hW) (hin.nums _ (by simp[opV])) l3;have c3:Hid (∀W,DW w W (bts T3)->Calls Tryz.prog 146 #[.pointer (some ⟨w.heap.size+1,0,none⟩)] W fun e w'=>e= .returned (.int .i64 o.kind)/\DW w w' (bts T4)):=fun W hW=>cN.out o.kind T4 W (by rw[hT3];exact hW) (hin.nums _ (by simp[opV])) l4;have c4:Hid (∀W,DW w W (bts T4)->Calls Tryz.prog 146 #[.pointer (some ⟨w.heap.size+1,0,none⟩)] W fun e w'=>e= .returned (.int .i64 o.method)/\DW w w' (bts T5)):=fun W hW=>cN.out o.method T5 W (by rw[hT4];exact hW) (hin.nums _ (by simp[opV])) l5;have c5:Hid (∀W,DW w W (bts T5)->Calls Tryz.prog 146 #[.pointer (some ⟨w.heap.size+1,0,none⟩)] W fun e w'=>e= .returned (.int .i64 o.arg)/\DW w w' (bts T6)):=fun W hW=>cN.out o.arg T6 W (by rw[hT5];exact hW) (hin.nums _ (by simp[opV])) l6;have c6:Hid (∀W,DW w W (bts T6)->Calls Tryz.prog 146 #[.pointer (some ⟨w.heap.size+1,0,none⟩)] W fun e w'=>e= .returned (.int .i64 o.second)/\DW w w' (bts T7)):=fun W hW=>cN.out o.second T7 W (by rw[hT6];exact hW) (hin.nums _ (by simp[opV])) l7;have c7:Hid (∀W,DW w W (bts T7)->Calls Tryz.prog 146 #[.pointer (some ⟨w.heap.size+1,0,none⟩)] W fun e w'=>e= .returned (.int .i64 o.invoke)/\DW w w' (bts T8)):=fun W hW=>cN.out o.invoke T8 W (by rw[hT7];exact hW) (hin.nums _ (by simp[opV])) l8;have HW0:Hid (DW w ((w.alloc (.cells #[.int .i64 0,.int .i64 0,.int .i64 0,.int .i64 0,.int .i64 0,.int .i64 0,.int .i64 0,.bool false,.int .i64 0,.int .i64 0,.int .i64 0] 73)).alloc (.cells #[.string (bts T0),.bool true] 242)) (bts T0)):=⟨(Ext.alloc _ _).trans (Ext.alloc _ _),(Row1.made w _ opZero.cells).alloc _,Row1.made' (by simp) _ [.string (bts T0),.bool true]⟩;have HT8:=hD hT8;clear hT hT0 hT8 hlen l0 l1 l2 l3 l4 l5 l6 l7 hT1 hT2 hT3 hT4 hT5 hT6 hT7;go_enter Tryz.func88,Tryz.ntmps88;go_upto_region 3 with (first
  | (go_at_call 146;(with_reducible refine(c0.out _ HW0.out).mono ?_);clear c0;rintro e w1 ⟨rfl,hd1⟩)
  | (go_at_call 146;(with_reducible refine(c1.out _ hd1).mono ?_);clear c1;rintro e w2 ⟨rfl,hd2⟩)
  | (go_at_call 146;(with_reducible refine(c2.out _ hd2).mono ?_);clear c2;rintro e w3 ⟨rfl,hd3⟩)
  | (go_at_call 146;(with_reducible refine(c3.out _ hd3).mono ?_);clear c3;rintro e w4 ⟨rfl,hd4⟩)
  | (go_at_call 146;(with_reducible refine(c4.out _ hd4).mono ?_);clear c4;rintro e w5 ⟨rfl,hd5⟩)
  | (go_at_call 146;(with_reducible refine(c5.out _ hd5).mono ?_);clear c5;rintro e w6 ⟨rfl,hd6⟩)
  | (go_at_call 146;(with_reducible refine(c6.out _ hd6).mono ?_);clear c6;rintro e w7 ⟨rfl,hd7⟩)
  | (go_at_call 146;(with_reducible refine(c7.out _ hd7).mono ?_);clear c7;rintro e w8 ⟨rfl,hd8⟩))
 have HD9:Hid (DO w (w8.alloc (.cells #[.int .i64 o.id,.int .i64 o.proc,.int .i64 o.object,.int .i64 o.kind,.int .i64 o.method,.int .i64 o.arg,.int .i64 o.second,.bool false,.int .i64 0,.int .i64 o.invoke,.int .i64 0] 73)) (bts T8) w8.heap.size [.int .i64 o.id,.int .i64 o.proc,.int .i64 o.object,.int .i64 o.kind,.int .i64 o.method,.int .i64 o.arg,.int .i64 o.second,.bool false,.int .i64 0,.int .i64 o.invoke,.int .i64 0]):=
  ⟨⟨hd8.ext.trans (Ext.alloc _ _),hd8.res.alloc _,hd8.rd.alloc _⟩,Row1.made w8 _ _,hd8.rd.lt⟩
 generalize hW9:w8.alloc _=W9 at *;clear hW9 hd1 hd2 hd3 hd4 hd5 hd6 hd7 hd8;generalize w8.heap.size=G at *;obtain⟨r0,r1⟩:=HD9.out.read;cases hd:o.done with
 | false=>
   obtain⟨hr1,hr2⟩:=HIN.out.no hd;have h8:T8= []:=by rw[<-HT8.out,hd];rfl
   subst h8;rw[hd,hr1,hr2]at cC;have hE:(bts ([]:List UInt8)).toList.isEmpty=true:=by rw[ByteArray.toList_eq];rfl
   have hE2:(bts ([]:List UInt8)).toList= []:=by rw[ByteArray.toList_eq];rfl
   obtain⟨g0,g1,g2,g3,g4,g5,g6,g7,g8,g9,g10⟩:=Z1l HD9.out.row;have HO:Hid (o.cells= [.int .i64 o.id,.int .i64 o.proc,.int .i64 o.object,.int .i64 o.kind,.int .i64 o.method,.int .i64 o.arg,.int .i64 o.second,.bool false,.int .i64 0,.int .i64 o.invoke,.int .i64 0]):=by unfold Hid OpD.cells;rw[hd,hr1,hr2]
   go_upto_region 9 with (go_at_call 147;(with_reducible refine(cC.out _).mono ?_);clear cC;rintro e w10 ⟨rfl,hb10⟩;have HB10:=hD hb10;clear hb10);have HD10:=hD (HD9.out.ext HB10.out);clear g0 g1 g2 g3 g4 g5 g6 g7 g8 g9 g10 r0 r1;obtain⟨g0,g1,g2,g3,g4,g5,g6,g7,g8,g9,g10⟩:=Z1l HD10.out.row;obtain⟨a0,a1,a2,a3,a4,a5,a6,a7,a8,a9,a10⟩:=Z1l HD10.out.dw.res;obtain⟨f0,f1,f2,f3,f4,f5,f6,f7,f8,f9,f10⟩:=Z3o HD10.out.dw.res;go_wp2_with fail;refine bodyPost_ret (X3x rfl _ _ w.heap.size o _ rfl rfl ?_) rfl ⟨rfl,?_⟩
   ·rw[HO.out];exact Z5r HD10.out.dw.res _ _ _ _ _ _ _ _ _ _ _
   ·exact Y0g HD10.out.dw.ext (aF _) _ _ _ _ _ _ _ _ _ _ _
 | true=>
   obtain⟨hy1,hy2⟩:=HIN.out.yes hd;have hre:=HIN.out.result;have hiv:=HIN.out.invoke;obtain⟨m,hm⟩:∃m:Nat,o.ret-o.invoke=m:=⟨(o.ret-o.invoke).toNat,by omega⟩;have hfu:Y0r (Z4h o.result)=o.result:=X1e _;have hfl:Z4h o.result<=1099511627776:=by unfold Z4h;split<;>omega
   obtain⟨fr,hfr⟩:∃fr,Z4h o.result=fr:=⟨_,rfl⟩;have h8:T8=varL m++(varL fr++ []):=by rw[<-HT8.out,hd,if_pos rfl,hm,hfr,List.append_nil];rfl
   have hfz:(varL fr++ []).length<=1000:=by rw[List.append_nil];have:=(Z7u fr).2;omega
   rw[hfr]at hfu hfl;have hE:(bts T8).toList.isEmpty=false:=by
    rw[ByteArray.toList_eq,h8];have:=(Z7u m).1;cases hq:varL m with
    | nil=>rw[hq]at this;simp at this
    | cons a b=>rfl
   have hne:¬(bts T8).toList= []:=by intro q;rw[q]at hE;simp at hE
   have cM:Hid (∀W cs,DO w W (bts T8) G cs->Calls Tryz.prog 146 #[.pointer (some ⟨w.heap.size+1,0,none⟩)] W fun e w'=>e= .returned (.int .i64 (m:Nat))/\DO w w' (bts (varL fr++ [])) G cs):=fun W cs hW=>(h8▸hW:DO w W (bts (varL m++(varL fr++ []))) G cs).next (by omega) (by omega);have cR:Hid (∀W cs,DO w W (bts (varL fr++ [])) G cs->Calls Tryz.prog 146 #[.pointer (some ⟨w.heap.size+1,0,none⟩)] W fun e w'=>e= .returned (.int .i64 (fr:Nat))/\DO w w' (bts []) G cs):=fun W cs hW=>hW.next hfl (by simp);have cU:Hid (∀W,Calls Tryz.prog 101 #[.int .u64 (fr:Nat)] W fun e w'=>e= .returned (.int .i64 o.result)/\W=w'):=fun W=>by have h1:=X6e fr W (by omega);rwa [hfu]at h1
   have f7:=HD9.out.row.soft 7;have g7:W9.cell? ⟨G,7,none⟩=some (.bool false):=HD9.out.row.cell 7;have HO:Hid (o.cells= [.int .i64 o.id,.int .i64 o.proc,.int .i64 o.object,.int .i64 o.kind,.int .i64 o.method,.int .i64 o.arg,.int .i64 o.second,.bool true,.int .i64 o.result,.int .i64 o.invoke,.int .i64 o.ret]):=by unfold Hid OpD.cells;rw[hd]
   rw[hd]at cC;clear h8 hfr hd hre;go_upto_region 5 with fail;have HDA:=hD (HD9.out.set 7 (.bool true));generalize hWA:World.setCell _ _ _=WA at *;clear hWA r0 r1 f7 g7;have hs1:o.invoke+(m:Int)=o.ret:=by omega
   have hs2:IntKind.i64.wrap o.ret=o.ret:=by rw[IntKind.wrap_i64];omega
   refine wp_region_held_drew (S:=fun W=>W.cell? ⟨G,9,none⟩=some (.int .i64 o.invoke)) (by kernel_rfl) ((HDA.out.ext (by exact Xt)).row.cell 9) (fun hHeld=> ?_);refine' tk 0 ?_;refine' tk 1 ?_;refine' tk 2 ?_;refine stp 3 (fun K hK=> ?_);go_simp
   (with_reducible refine(cM.out _ _ (HDA.out.ext ?_)).mono ?_)
   ·exact Xt
   rintro e w10 ⟨rfl,hdb⟩;have HDB:=hD hdb;clear hdb
   (try dsimp only)
   (try go_simp)
   refine hK.out _ _ ((HDB.out.ext (by exact Xt)).row.cell 9) (fun hHeld=> ?_);clear hK K;refine pt ?_;refine' tk 4 ?_;refine' tk 5 ?_;have g10:w10.cell? ⟨G,10,none⟩=some (.int .i64 0):=HDB.out.row.cell 10;have f10:w10.frozen? ⟨G,10,none⟩=false:=HDB.out.row.soft 10;have g10':w10.drew.cell? ⟨G,10,none⟩=some (.int .i64 0):=HDB.out.row.cell 10;have f10':w10.drew.frozen? ⟨G,10,none⟩=false:=HDB.out.row.soft 10;refine stp 6 (fun K hK=> ?_);go_simp;refine hK.out _ _ ((HDB.out.set 10 _).row.cell 9) (fun hHeld=> ?_);clear hK K;refine pt ?_;refine wpAnyH_done (by kernel_rfl) ?_ _;have HDC:=hD (HDB.out.set 10 (.int .i64 o.ret));generalize hWC:World.setCell _ _ _=w11 at *;clear hWC g10 f10 g10' f10' hHeld;have hfw:IntKind.u64.wrap (fr:Int)=fr:=by rw[IntKind.wrap_u64];omega
   go_upto_region 7 with (first
    | (go_at_call 146;(with_reducible refine(cR.out _ _ HDC.out).mono ?_);clear cR;rintro e w12 ⟨rfl,hdd⟩;have HDD:=hD hdd;have g8:w12.cell? ⟨G,8,none⟩=some (.int .i64 0):=hdd.row.cell 8;have f8:w12.frozen? ⟨G,8,none⟩=false:=hdd.row.soft 8;clear hdd)
    | (go_at_call 101;(with_reducible refine(cU.out _).mono ?_);clear cU;rintro e w13 ⟨rfl,rfl⟩))
   have HDE:=hD (HDD.out.set 8 (.int .i64 o.result));generalize hWE:World.setCell _ _ _=w14 at *;clear hWE g8 f8;have hE1:(bts ([]:List UInt8)).toList.isEmpty=true:=by rw[ByteArray.toList_eq];rfl
   have hE2:(bts ([]:List UInt8)).toList= []:=by rw[ByteArray.toList_eq];rfl
   obtain⟨r0,r1⟩:=HDE.out.read;obtain⟨g0,g1,g2,g3,g4,g5,g6,g7,g8,g9,g10⟩:=Z1l (show Row1 w14 G 73 [.int .i64 o.id,.int .i64 o.proc,.int .i64 o.object,.int .i64 o.kind,.int .i64 o.method,.int .i64 o.arg,.int .i64 o.second,.bool true,.int .i64 o.result,.int .i64 o.invoke,.int .i64 o.ret]from HDE.out.row);go_upto_region 9 with (go_at_call 147;(with_reducible refine(cC.out _).mono ?_);clear cC;rintro e w10 ⟨rfl,hb10⟩;have HB10:=hD hb10;clear hb10);have HD10:=hD (HDE.out.ext HB10.out);clear g0 g1 g2 g3 g4 g5 g6 g7 g8 g9 g10 r0 r1;obtain⟨g0,g1,g2,g3,g4,g5,g6,g7,g8,g9,g10⟩:=Z1l (show Row1 _ G 73 [.int .i64 o.id,.int .i64 o.proc,.int .i64 o.object,.int .i64 o.kind,.int .i64 o.method,.int .i64 o.arg,.int .i64 o.second,.bool true,.int .i64 o.result,.int .i64 o.invoke,.int .i64 o.ret]from HD10.out.row);obtain⟨a0,a1,a2,a3,a4,a5,a6,a7,a8,a9,a10⟩:=Z1l HD10.out.dw.res;obtain⟨f0,f1,f2,f3,f4,f5,f6,f7,f8,f9,f10⟩:=Z3o HD10.out.dw.res;go_wp2_with fail;refine bodyPost_ret (X3x rfl _ _ w.heap.size o _ rfl rfl ?_) rfl ⟨rfl,?_⟩
   ·rw[HO.out];exact Z5r HD10.out.dw.res _ _ _ _ _ _ _ _ _ _ _
   ·exact Y0g HD10.out.dw.ext (aF _) _ _ _ _ _ _ _ _ _ _ _
end Go.Proofs.YtohaldfnmgcofaaGreat
