/- Conditions that lie in blocks which a call leaves be; slices.ContainsFunc at conditions' kids, by a closure that may turn other memory. Conditions: that all can be read. -/
import Derived.Test.YtmiolpfanlpfnaaGreatV05
import Derived.Test.YtmiolpfanlpfnaaGreatV07
set_option maxRecDepth 100000
set_option maxHeartbeats 2000000
set_option linter.unusedSimpArgs false
set_option linter.unusedVariables false
namespace Go.Proofs.YtmiolpfanlpfnaaGreat
section
open Go.RowKit
theorem Sl.only{α:Type}{w w':World}{sz:Nat}{R:α→List Value→Prop}{v:Value}{xs:List α}{G:Nat→Prop}(h:Sl w sz R v xs)(ho:Only G w w')(hv:∀b,0<xs.length→v.ownBlock=some b→¬G b):Sl w' sz R v xs:=by
 obtain⟨A,c,rfl,h1,h2,h3⟩:=h
 refine⟨A,c,rfl,h1,h2,fun hn=> ?_⟩
 obtain⟨b,off,rfl,hb,hx⟩:=h3 hn
 refine⟨b,off,rfl,Nat.lt_of_lt_of_le hb ho.size,fun i x hi=> ?_⟩
 obtain⟨cs,hr,hl,hcs⟩:=hx i x hi
 exact⟨cs,hr,hl,fun j u hu=>(ho.cell hb (hv b hn rfl)).trans (hcs j u hu)⟩
def NdB(B:Nat→Prop)(w:World):Nat→ND→NCell→Prop
 | 0,_,_=>False
 | d+1,t,n=>n.kind=t.kind∧n.field=t.field∧n.sign=t.sign∧n.value=t.value∧∃ks:List NCell,Sl w 5 RN n.kids ks∧(∀b,0<ks.length→n.kids.ownBlock=some b→B b)∧ks.length=t.kids.length∧∀(i:Nat) (x:ND) (y:NCell),t.kids[i]? =some x→ks[i]? =some y→NdB B w d x y
theorem NdB.of{w:World}:∀(d:Nat) (t:ND) (n:NCell),Nd w d t n→NdB (fun i=>i<w.heap.size) w d t n
 | 0,_,_,h=>h
 | d +1,_,_,⟨h1,h2,h3,h4,ks,h5,h6,h7⟩=>⟨h1,h2,h3,h4,ks,h5,fun b hb e=>by
     obtain⟨A,c,hv,_,_,h8⟩:=h5
     obtain⟨b',off,rfl,hlt,_⟩:=h8 hb
     rw[hv]at e
     cases e
     exact hlt,h6,fun i x y hx hy=>NdB.of d x y (h7 i x y hx hy)⟩
theorem NdB.nd{B:Nat→Prop}{w:World}:∀(d:Nat) (t:ND) (n:NCell),NdB B w d t n→Nd w d t n
 | 0,_,_,h=>h
 | d+1,_,_,⟨h1,h2,h3,h4,ks,h5,_,h6,h7⟩=>⟨h1,h2,h3,h4,ks,h5,h6,fun i x y hx hy=>NdB.nd d x y (h7 i x y hx hy)⟩
theorem NdB.only{B G:Nat→Prop}{w w':World}(ho:Only G w w')(hB:∀i,B i→¬G i):∀(d:Nat) (t:ND) (n:NCell),NdB B w d t n→NdB B w' d t n
 | 0,_,_,h=>h
 | d+1,_,_,⟨h1,h2,h3,h4,ks,h5,h5b,h6,h7⟩=>⟨h1,h2,h3,h4,ks,h5.only ho (fun b hb e=>hB b (h5b b hb e)),h5b,h6,fun i x y hx hy=>NdB.only ho hB d x y (h7 i x y hx hy)⟩
theorem NdB.mono{B B':Nat→Prop}{w:World}(hB:∀i,B i→B' i):∀(d:Nat) (t:ND) (n:NCell),NdB B w d t n→NdB B' w d t n
 | 0,_,_,h=>h
 | d+1,_,_,⟨h1,h2,h3,h4,ks,h5,h5b,h6,h7⟩=>⟨h1,h2,h3,h4,ks,h5,fun b hb e=>hB b (h5b b hb e),h6,fun i x y hx hy=>NdB.mono hB d x y (h7 i x y hx hy)⟩
theorem NdB.ext{B:Nat→Prop}{w w':World}(hb:Ext w w')(d:Nat)(t:ND)(n:NCell)(h:NdB B w d t n):NdB B w' d t n:=NdB.only (G:=fun _=>False) (Only.of hb) (fun _ _ q=>q) d t n h
theorem NdB.more{B:Nat→Prop}{w:World}:∀(d:Nat) (t:ND) (n:NCell),NdB B w d t n→NdB B w (d+1) t n
 | 0,_,_,h=>h.elim
 | d+1,_,_,⟨h1,h2,h3,h4,ks,h5,h5b,h6,h7⟩=>⟨h1,h2,h3,h4,ks,h5,h5b,h6,fun i x y hx hy=>NdB.more d x y (h7 i x y hx hy)⟩
def BF(B F:Nat→Prop)(W:World):Prop:=∀i,B i→i<W.heap.size∧¬F i
theorem BF.ext{B F:Nat→Prop}{W W':World}(h:BF B F W)(hx:Ext W W'):BF B F W':=fun i q=>⟨Nat.lt_of_lt_of_le (h i q).1 hx.size,(h i q).2⟩
theorem BF.keeps{B F F':Nat→Prop}{W W':World}(h:BF B F W)(hk:Keeps F F' W W'):BF B F' W':=fun i q=>⟨Nat.lt_of_lt_of_le (h i q).1 hk.only.size,hk.out (h i q).1 (h i q).2⟩
section
variable (fid:FuncId) (pr:ND→Bool) (B:Nat→Prop) (d:Nat) (pa po:Value) (KA:Option Addr) (Kc:Nat) (ks:List NCell) (kids:List ND) (I:World→Prop)
theorem Y4f(efid:∀args w,(callFunc fid args).run Tryz.prog w= .ok (.enter fid args) w)(w:World)(hI:∀W W',I W→Ext W W'→I W')(h0:I w)
 (hcl:∀(x:ND) (n:NCell) (W:World),I W→RN n n.cells→NdB B W d x n→Calls Tryz.prog fid #[.agg #[.int .i64 n.kind,n.kids,.string n.field,.string n.sign,.int .i64 n.value],pa,po] W fun e w'=>e= .returned (.bool (pr x))∧I w')
 (hks:∀W,I W→Sl W 5 RN (.slice KA ks.length Kc) ks)(hlen:ks.length=kids.length)(hnd:∀W,I W→∀(i:Nat) (x:ND) (y:NCell),kids[i]? =some x→ks[i]? =some y→NdB B W d x y):
  Calls Tryz.prog 200 #[.slice KA ks.length Kc,.func (.func fid) #[] #[pa,po]] w fun e w'=>(∃r:Int,e= .returned (.int .i64 r)∧decide (0≤r)=kids.any pr)∧I w':=by
 have HCL:=hD hcl
 have HND:=hD hnd
 have HLEN:=hD hlen
 have HII:=hD hI
 have H0:=hD h0
 obtain⟨_,hc1,hc2,_⟩:=(hks w h0).at
 have HKS:=hD hks
 clear hcl hnd hlen hks h0 hI
 go_enter Tryz.func200,Tryz.ntmps200
 go_wp2_with fail
 go_loopw [8] (fun i wr=>∃j:Nat,j≤ks.length∧i= .int .i64 j∧I wr∧∀(m:Nat) (x:ND),m<j→kids[m]? =some x→pr x=false)
  (fun i _=>ks.length-(intOf i).toNat)
 case atStart=>exact⟨0,by omega,rfl,H0.out,fun m x h=>absurd h (by omega)⟩
 case round=>
  obtain⟨j,hj,rfl,hb,hall⟩:=hrel
  have HB:=hD hb
  have HF:=hD hall
  clear hb hall
  by_cases hlt:j<ks.length
  ·have hd:decide ((j:Int)<(ks.length:Int))=true:=by simp;omega
   obtain⟨x,hx⟩:∃x,kids[j]? =some x:=⟨_,List.getElem?_eq_getElem (by have:=HLEN.out;omega)⟩
   have HX:=hD hx
   have HY:=hD (HND.out wr HB.out j x ks[j] hx (List.getElem?_eq_getElem hlt))
   clear hx
   obtain⟨_,_,_,hA⟩:=(HKS.out wr HB.out).at
   obtain⟨b,off,rfl,hbl,hcell⟩:=hA (by omega)
   obtain⟨cs,⟨rfl,hrn⟩,_,hcs⟩:=hcell j hlt
   have HRN:=hD (show RN ks[j] ks[j].cells from⟨rfl,hrn⟩)
   have k0:=hcs 0 _ rfl
   have k1:=hcs 1 _ rfl
   have k2:=hcs 2 _ rfl
   have k3:=hcs 3 _ rfl
   have k4:=hcs 4 _ rfl
   simp only[Nat.add_zero]at k0
   clear hcell hcs hrn hA
   obtain⟨kA,kn,kc,hkk⟩:=HRN.out.2.2.2
   generalize ks[j]=n at *
   obtain⟨nk,nkids,nf,ns,nv⟩:=n
   dsimp only at *
   subst hkk
   go_wp2_with fail
   refine(HCL.out x ⟨nk,.slice kA kn kc,nf,ns,nv⟩ _ HB.out HRN.out HY.out).mono ?_
   rintro e w1 ⟨rfl,hb1⟩
   have HB1:=hD hb1
   clear hb1 k0 k1 k2 k3 k4
   cases hv:pr x with
   | true=>
     have HV:Hid (kids.any pr=true):=List.any_eq_true.2 ⟨x,List.mem_of_getElem? HX.out,hv⟩
     clear hv
     go_wp2_with fail
     go_ret
     exact⟨⟨_,rfl,by rw[HV.out];simp⟩,HB1.out⟩
   | false=>
     have HV:=hD hv
     clear hv
     go_wp2_with fail
     go_roundw
     case rel=>
      refine⟨j+1,by omega,by go_num,HB1.out,fun m y hm hy=> ?_⟩
      by_cases e:m=j
      ·subst e
       have e2:=hy.symm.trans HX.out
       injection e2 with e2
       subst e2
       exact HV.out
      ·exact HF.out m y (by omega) hy
     case measure=>simp[intOf];omega
  ·have hd:decide ((j:Int)<(ks.length:Int))=false:=by simp;omega
   have HV:Hid (kids.any pr=false):=by
    refine List.any_eq_false.2 (fun x hx=> ?_)
    obtain⟨i,hi,rfl⟩:=List.mem_iff_getElem.1 hx
    have:=HF.out i _ (by have:=HLEN.out;omega) (List.getElem?_eq_getElem hi)
    simp[this]
   go_wp2_with fail
   go_ret
   exact⟨⟨_,rfl,by rw[HV.out];simp⟩,HB.out⟩
theorem Z5e(efid:∀args w,(callFunc fid args).run Tryz.prog w= .ok (.enter fid args) w)(w:World)(hI:∀W W',I W→Ext W W'→I W')(h0:I w)
 (hcl:∀(x:ND) (n:NCell) (W:World),I W→RN n n.cells→NdB B W d x n→Calls Tryz.prog fid #[.agg #[.int .i64 n.kind,n.kids,.string n.field,.string n.sign,.int .i64 n.value],pa,po] W fun e w'=>e= .returned (.bool (pr x))∧I w')
 (hks:∀W,I W→Sl W 5 RN (.slice KA ks.length Kc) ks)(hlen:ks.length=kids.length)(hnd:∀W,I W→∀(i:Nat) (x:ND) (y:NCell),kids[i]? =some x→ks[i]? =some y→NdB B W d x y):
  Calls Tryz.prog 146 #[.slice KA ks.length Kc,.func (.func fid) #[] #[pa,po]] w fun e w'=>e= .returned (.bool (kids.any pr))∧I w':=by
 have HI:=hD (Y4f fid pr B d pa po KA Kc ks kids I efid w hI h0 hcl hks hlen hnd)
 clear hcl hks hlen hnd efid hI h0
 go_enter Tryz.func146,Tryz.ntmps146
 go_wp2_with fail
 refine HI.out.mono ?_
 rintro e w1 ⟨⟨r,rfl,hr⟩,hb1⟩
 have HB1:=hD hb1
 clear hb1
 go_wp2_with fail
 go_ret
 exact⟨rfl,HB1.out⟩
end
def GetW(g:FuncId)(cp:Value)(l:List OpD)(St:(Nat→Prop)→World→Prop):Prop:=∀(id:Int) (F:Nat→Prop) (W:World),-9223372036854775808≤id→id≤9223372036854775807→St F W→
 Calls Tryz.prog g #[.int .i64 id,cp] W fun e w'=>(∃p:OpD,e= .returned (.tuple #[p.val,.bool (getL l id).isSome])∧∀q,getL l id=some q→p=q)∧∃F',St F' w'∧Keeps F F' W w'
structure StOk (St:(Nat→Prop)→World→Prop):Prop where
 ext:∀F W W',St F W→Ext W W'→St F W'
 low:∀F W i,St F W→F i→i<W.heap.size
def Y5w(g:FuncId)(cp:Value)(l:List OpD)(St:(Nat→Prop)→World→Prop)(B:Nat→Prop)(o:OpD)(d:Nat):Prop:=∀(t:ND) (n:NCell) (F:Nat→Prop) (w:World),RN n n.cells→NdB B w d t n→St F w→BF B F w→
 Calls Tryz.prog 91 #[.agg #[.func (.func g) #[] #[cp]],.agg #[.int .i64 n.kind,n.kids,.string n.field,.string n.sign,.int .i64 n.value],o.val] w fun e w'=>e= .returned (.bool (Z0n l o t))∧∃F',St F' w'∧Keeps F F' w w'
theorem Y7t{St:(Nat→Prop)→World→Prop}(hS:StOk St){F:Nat→Prop}{W:World}(h:St F W){i:Nat}(hi:W.heap.size≤i):¬F i:=fun q=>by
 have:=hS.low F W i h q;omega
section
variable (g:FuncId) (cp:Value) (l:List OpD) (St:(Nat→Prop)→World→Prop) (B:Nat→Prop) (hS:StOk St) (o:OpD) (t:ND) (kids:Value) (field sign:ByteArray) (value:Int) (F:Nat→Prop) (w:World)
include hS
theorem U0a(d:Nat)(ih:Y5w g cp l St B o d)(x:ND)(n:NCell)(W:World)(hn:RN n n.cells)(hd:NdB B W d x n)(hg:St F W)(hbf:BF B F W)(ba bo:Nat)(hc:W.cell? ⟨ba,0,none⟩=some (.func (.func g) #[] #[cp]))(ho:At11 W bo o):
  Calls Tryz.prog 147 #[.agg #[.int .i64 n.kind,n.kids,.string n.field,.string n.sign,.int .i64 n.value],.pointer (some ⟨ba,0,none⟩),.pointer (some ⟨bo,0,none⟩)] W fun e w'=>e= .returned (.bool (Z0n l o x))∧∃F',St F' w'∧Keeps F F' W w':=by
 obtain⟨kA,kn,kc,hkk⟩:=hn.2.2.2
 have HRN:=hD hn
 have HC:Hid (∀W',Ext W W'→Calls Tryz.prog 91 #[.agg #[.func (.func g) #[] #[cp]],.agg #[.int .i64 n.kind,n.kids,.string n.field,.string n.sign,.int .i64 n.value],o.val] W' fun e w'=>e= .returned (.bool (Z0n l o x))∧∃F',St F' w'∧Keeps F F' W w'):=fun W' hx=>(ih x n F W' hn (hd.ext hx) (hS.ext _ _ _ hg hx) (hbf.ext hx)).mono (fun e w' h=>⟨h.1,h.2.elim (fun F' q=>⟨F',q.1,(Keeps.of hx).trans q.2⟩)⟩)
 have l0:=World.block_lt_of_cell? _ _ hc
 have l1:=World.block_lt_of_cell? _ _ ho.1
 simp only[]at l0 l1
 clear hn hd hg hbf ih
 obtain⟨nk,nkids,nf,ns,nv⟩:=n
 dsimp only at *
 subst hkk
 obtain⟨a0,a1,a2,a3,a4,a5,a6,a7,a8,a9,a10⟩:=ho
 go_enter Tryz.func147,Tryz.ntmps147
 go_wp2_with fail
 refine(HC.out _ (by exact Xt)).mono ?_
 rintro e w1 ⟨rfl,hb1⟩
 have K1:=hD hb1
 clear hb1
 go_wp2_with fail
 go_ret
 exact⟨rfl,K1.out⟩
theorem V7g(d:Nat)(ih:Y5w g cp l St B o d)(x:ND)(n:NCell)(W:World)(hn:RN n n.cells)(hd:NdB B W d x n)(hg:St F W)(hbf:BF B F W)(ba bo:Nat)(hc:W.cell? ⟨ba,0,none⟩=some (.func (.func g) #[] #[cp]))(ho:At11 W bo o):
  Calls Tryz.prog 148 #[.agg #[.int .i64 n.kind,n.kids,.string n.field,.string n.sign,.int .i64 n.value],.pointer (some ⟨ba,0,none⟩),.pointer (some ⟨bo,0,none⟩)] W fun e w'=>e= .returned (.bool (!Z0n l o x))∧∃F',St F' w'∧Keeps F F' W w':=by
 obtain⟨kA,kn,kc,hkk⟩:=hn.2.2.2
 have HRN:=hD hn
 have HC:Hid (∀W',Ext W W'→Calls Tryz.prog 91 #[.agg #[.func (.func g) #[] #[cp]],.agg #[.int .i64 n.kind,n.kids,.string n.field,.string n.sign,.int .i64 n.value],o.val] W' fun e w'=>e= .returned (.bool (Z0n l o x))∧∃F',St F' w'∧Keeps F F' W w'):=fun W' hx=>(ih x n F W' hn (hd.ext hx) (hS.ext _ _ _ hg hx) (hbf.ext hx)).mono (fun e w' h=>⟨h.1,h.2.elim (fun F' q=>⟨F',q.1,(Keeps.of hx).trans q.2⟩)⟩)
 have l0:=World.block_lt_of_cell? _ _ hc
 have l1:=World.block_lt_of_cell? _ _ ho.1
 simp only[]at l0 l1
 clear hn hd hg hbf ih
 obtain⟨nk,nkids,nf,ns,nv⟩:=n
 dsimp only at *
 subst hkk
 obtain⟨a0,a1,a2,a3,a4,a5,a6,a7,a8,a9,a10⟩:=ho
 go_enter Tryz.func148,Tryz.ntmps148
 go_wp2_with fail
 refine(HC.out _ (by exact Xt)).mono ?_
 rintro e w1 ⟨rfl,hb1⟩
 have K1:=hD hb1
 clear hb1
 go_wp2_with fail
 go_ret
 exact⟨rfl,K1.out⟩
theorem V1b(d:Nat)(ih:Y5w g cp l St B o d)(hg:St F w)(hbf:BF B F w)(ht:t.kind=1)(KA:Option Addr)(Kc:Nat)(ks:List NCell)(hks:Sl w 5 RN (.slice KA ks.length Kc) ks)(hkb:∀b,0<ks.length→(Value.slice KA ks.length Kc).ownBlock=some b→B b)(hlen:ks.length=t.kids.length)
 (hnd:∀(i:Nat) (x:ND) (y:NCell),t.kids[i]? =some x→ks[i]? =some y→NdB B w d x y):
  Calls Tryz.prog 91 #[.agg #[.func (.func g) #[] #[cp]],.agg #[.int .i64 1,.slice KA ks.length Kc,.string field,.string sign,.int .i64 value],o.val] w fun e w'=>e= .returned (.bool (Z0n l o t))∧∃F',St F' w'∧Keeps F F' w w':=by
 have HT:Hid (Z0n l o t=t.kids.any (fun x=>Z0n l o x)):=by unfold Hid;rw[Y6h l o t ht]
 have hmf:∀(fn:Fn) (first cap:Array Value) (w:World),(Instr.makeFunc fn first cap).run Tryz.prog w= .ok (.func fn first cap) w:=fun _ _ _ _=>rfl
 have HQ:Hid (Ext w (((w.alloc (.cells #[.func (.func g) #[] #[cp]] 143)).alloc (.cells #[.int .i64 1,.slice KA ks.length Kc,.string field,.string sign,.int .i64 value] 50)).alloc (.cells #[.int .i64 o.id,.int .i64 o.proc,.int .i64 o.object,.int .i64 o.kind,.int .i64 o.method,.int .i64 o.arg,.int .i64 o.second,.bool o.done,.int .i64 o.result,.int .i64 o.invoke,.int .i64 o.ret] 32))):=by unfold Hid;exact Xt
 have HB0:Hid (Row1 (((w.alloc (.cells #[.func (.func g) #[] #[cp]] 143)).alloc (.cells #[.int .i64 1,.slice KA ks.length Kc,.string field,.string sign,.int .i64 value] 50)).alloc (.cells #[.int .i64 o.id,.int .i64 o.proc,.int .i64 o.object,.int .i64 o.kind,.int .i64 o.method,.int .i64 o.arg,.int .i64 o.second,.bool o.done,.int .i64 o.result,.int .i64 o.invoke,.int .i64 o.ret] 32)) (w.heap.size+1+1) 32 o.cells):=Row1.made' (w:=((w.alloc (.cells #[.func (.func g) #[] #[cp]] 143)).alloc (.cells #[.int .i64 1,.slice KA ks.length Kc,.string field,.string sign,.int .i64 value] 50))) (n:=w.heap.size+1+1) (by simp) 32 o.cells
 have HB1:Hid (Row1 (((w.alloc (.cells #[.func (.func g) #[] #[cp]] 143)).alloc (.cells #[.int .i64 1,.slice KA ks.length Kc,.string field,.string sign,.int .i64 value] 50)).alloc (.cells #[.int .i64 o.id,.int .i64 o.proc,.int .i64 o.object,.int .i64 o.kind,.int .i64 o.method,.int .i64 o.arg,.int .i64 o.second,.bool o.done,.int .i64 o.result,.int .i64 o.invoke,.int .i64 o.ret] 32)) w.heap.size 143 [.func (.func g) #[] #[cp]]):=((Row1.made w _ _).alloc _).alloc _
 have hnF:∀i,w.heap.size≤i→¬F i:=fun i q=>Y7t hS hg q
 obtain⟨w3,hw3⟩:∃w3,(((w.alloc (.cells #[.func (.func g) #[] #[cp]] 143)).alloc (.cells #[.int .i64 1,.slice KA ks.length Kc,.string field,.string sign,.int .i64 value] 50)).alloc (.cells #[.int .i64 o.id,.int .i64 o.proc,.int .i64 o.object,.int .i64 o.kind,.int .i64 o.method,.int .i64 o.arg,.int .i64 o.second,.bool o.done,.int .i64 o.result,.int .i64 o.invoke,.int .i64 o.ret] 32))=w3:=⟨_,rfl⟩
 have HI:Hid (∀W,(∃F',St F' W∧Keeps F F' w3 W)→∃F',St F' W∧Keeps F F' w3 W∧BF B F' W∧Row1 W (w.heap.size+1+1) 32 o.cells∧Row1 W w.heap.size 143 [.func (.func g) #[] #[cp]]∧(∀i,B i→¬F i)):=fun W ⟨F',q1,q2⟩=>
  ⟨F',q1,q2,(hbf.ext (hw3▸HQ.out)).keeps q2,q2.only.row (hw3▸HB0.out) (hnF _ (by omega)),q2.only.row (hw3▸HB1.out) (hnF _ (by omega)),fun i q=>(hbf i q).2⟩
 have HCL:Hid (∀(x:ND) (n:NCell) (W:World),(∃F',St F' W∧Keeps F F' w3 W)→RN n n.cells→NdB B W d x n→Calls Tryz.prog 147 #[.agg #[.int .i64 n.kind,n.kids,.string n.field,.string n.sign,.int .i64 n.value],.pointer (some ⟨w.heap.size,0,none⟩),.pointer (some ⟨w.heap.size+1+1,0,none⟩)] W fun e w'=>e= .returned (.bool (Z0n l o x))∧∃F',St F' w'∧Keeps F F' w3 w'):=
  fun x n W hI hn hd=>by
   obtain⟨F1,q1,q2,q3,q4,q5,_⟩:=HI.out W hI
   exact(U0a g cp l St B hS o F1 d ih x n W hn hd q1 q3 _ _ (q5.cell 0) (At11.row q4)).mono (fun e w' h=>⟨h.1,h.2.elim (fun F' q=>⟨F',q.1,q2.trans q.2⟩)⟩)
 have HKS:Hid (∀W,(∃F',St F' W∧Keeps F F' w3 W)→Sl W 5 RN (.slice KA ks.length Kc) ks):=fun W hI=>by
  obtain⟨F1,q1,q2,q3,q4,q5,q6⟩:=HI.out W hI
  exact Sl.only (hks.ext (hw3▸HQ.out)) q2.only (fun b hb e=>q6 b (hkb b hb e))
 have HND:Hid (∀W,(∃F',St F' W∧Keeps F F' w3 W)→∀(i:Nat) (x:ND) (y:NCell),t.kids[i]? =some x→ks[i]? =some y→NdB B W d x y):=fun W hI i x y h1 h2=>by
  obtain⟨F1,q1,q2,q3,q4,q5,q6⟩:=HI.out W hI
  exact NdB.only q2.only q6 d x y ((hnd i x y h1 h2).ext (hw3▸HQ.out))
 have H0:Hid (∃F',St F' w3∧Keeps F F' w3 w3):=⟨F,hS.ext _ _ _ hg (hw3▸HQ.out),Keeps.refl⟩
 have HX:Hid (∀W W',(∃F',St F' W∧Keeps F F' w3 W)→Ext W W'→∃F',St F' W'∧Keeps F F' w3 W'):=fun W W' ⟨F',q1,q2⟩ hx=>⟨F',hS.ext _ _ _ q1 hx,q2.ext hx⟩
 have HE:Hid (Ext w w3):=hw3▸HQ.out
 have HLEN:=hD hlen
 clear ih hg ht hks hkb hlen hnd HB0 HB1 hnF hbf HI HQ
 subst hw3
 go_enter Tryz.func91,Tryz.ntmps91
 go_wp2_with fail
 refine(Z5e 147 (fun x=>(Z0n l o x)) B d _ _ KA Kc ks t.kids (fun W=>∃F',St F' W∧Keeps F F' (((w.alloc (.cells #[.func (.func g) #[] #[cp]] 143)).alloc (.cells #[.int .i64 1,.slice KA ks.length Kc,.string field,.string sign,.int .i64 value] 50)).alloc (.cells #[.int .i64 o.id,.int .i64 o.proc,.int .i64 o.object,.int .i64 o.kind,.int .i64 o.method,.int .i64 o.arg,.int .i64 o.second,.bool o.done,.int .i64 o.result,.int .i64 o.invoke,.int .i64 o.ret] 32)) W) (Go.Proofs.enters_of Tryz.func147 (by kernel_rfl) rfl) _ HX.out H0.out HCL.out HKS.out HLEN.out HND.out).mono ?_
 rintro e w1 ⟨rfl,hb1⟩
 have K1:=hD hb1
 clear hb1
 go_wp2_with fail
 go_ret
 obtain⟨F',q1,q2⟩:=K1.out
 exact⟨by rw[HT.out];rfl,F',q1,(Keeps.of HE.out).trans q2⟩
theorem X6i(d:Nat)(ih:Y5w g cp l St B o d)(hg:St F w)(hbf:BF B F w)(ht:t.kind=2)(KA:Option Addr)(Kc:Nat)(ks:List NCell)(hks:Sl w 5 RN (.slice KA ks.length Kc) ks)(hkb:∀b,0<ks.length→(Value.slice KA ks.length Kc).ownBlock=some b→B b)(hlen:ks.length=t.kids.length)
 (hnd:∀(i:Nat) (x:ND) (y:NCell),t.kids[i]? =some x→ks[i]? =some y→NdB B w d x y):
  Calls Tryz.prog 91 #[.agg #[.func (.func g) #[] #[cp]],.agg #[.int .i64 2,.slice KA ks.length Kc,.string field,.string sign,.int .i64 value],o.val] w fun e w'=>e= .returned (.bool (Z0n l o t))∧∃F',St F' w'∧Keeps F F' w w':=by
 have HT:Hid (Z0n l o t= !t.kids.any (fun x=> !Z0n l o x)):=by unfold Hid;rw[Z6d l o t ht,List.all_eq_not_any_not]
 have hmf:∀(fn:Fn) (first cap:Array Value) (w:World),(Instr.makeFunc fn first cap).run Tryz.prog w= .ok (.func fn first cap) w:=fun _ _ _ _=>rfl
 have HQ:Hid (Ext w (((w.alloc (.cells #[.func (.func g) #[] #[cp]] 143)).alloc (.cells #[.int .i64 2,.slice KA ks.length Kc,.string field,.string sign,.int .i64 value] 50)).alloc (.cells #[.int .i64 o.id,.int .i64 o.proc,.int .i64 o.object,.int .i64 o.kind,.int .i64 o.method,.int .i64 o.arg,.int .i64 o.second,.bool o.done,.int .i64 o.result,.int .i64 o.invoke,.int .i64 o.ret] 32))):=by unfold Hid;exact Xt
 have HB0:Hid (Row1 (((w.alloc (.cells #[.func (.func g) #[] #[cp]] 143)).alloc (.cells #[.int .i64 2,.slice KA ks.length Kc,.string field,.string sign,.int .i64 value] 50)).alloc (.cells #[.int .i64 o.id,.int .i64 o.proc,.int .i64 o.object,.int .i64 o.kind,.int .i64 o.method,.int .i64 o.arg,.int .i64 o.second,.bool o.done,.int .i64 o.result,.int .i64 o.invoke,.int .i64 o.ret] 32)) (w.heap.size+1+1) 32 o.cells):=Row1.made' (w:=((w.alloc (.cells #[.func (.func g) #[] #[cp]] 143)).alloc (.cells #[.int .i64 2,.slice KA ks.length Kc,.string field,.string sign,.int .i64 value] 50))) (n:=w.heap.size+1+1) (by simp) 32 o.cells
 have HB1:Hid (Row1 (((w.alloc (.cells #[.func (.func g) #[] #[cp]] 143)).alloc (.cells #[.int .i64 2,.slice KA ks.length Kc,.string field,.string sign,.int .i64 value] 50)).alloc (.cells #[.int .i64 o.id,.int .i64 o.proc,.int .i64 o.object,.int .i64 o.kind,.int .i64 o.method,.int .i64 o.arg,.int .i64 o.second,.bool o.done,.int .i64 o.result,.int .i64 o.invoke,.int .i64 o.ret] 32)) w.heap.size 143 [.func (.func g) #[] #[cp]]):=((Row1.made w _ _).alloc _).alloc _
 have hnF:∀i,w.heap.size≤i→¬F i:=fun i q=>Y7t hS hg q
 obtain⟨w3,hw3⟩:∃w3,(((w.alloc (.cells #[.func (.func g) #[] #[cp]] 143)).alloc (.cells #[.int .i64 2,.slice KA ks.length Kc,.string field,.string sign,.int .i64 value] 50)).alloc (.cells #[.int .i64 o.id,.int .i64 o.proc,.int .i64 o.object,.int .i64 o.kind,.int .i64 o.method,.int .i64 o.arg,.int .i64 o.second,.bool o.done,.int .i64 o.result,.int .i64 o.invoke,.int .i64 o.ret] 32))=w3:=⟨_,rfl⟩
 have HI:Hid (∀W,(∃F',St F' W∧Keeps F F' w3 W)→∃F',St F' W∧Keeps F F' w3 W∧BF B F' W∧Row1 W (w.heap.size+1+1) 32 o.cells∧Row1 W w.heap.size 143 [.func (.func g) #[] #[cp]]∧(∀i,B i→¬F i)):=fun W ⟨F',q1,q2⟩=>
  ⟨F',q1,q2,(hbf.ext (hw3▸HQ.out)).keeps q2,q2.only.row (hw3▸HB0.out) (hnF _ (by omega)),q2.only.row (hw3▸HB1.out) (hnF _ (by omega)),fun i q=>(hbf i q).2⟩
 have HCL:Hid (∀(x:ND) (n:NCell) (W:World),(∃F',St F' W∧Keeps F F' w3 W)→RN n n.cells→NdB B W d x n→Calls Tryz.prog 148 #[.agg #[.int .i64 n.kind,n.kids,.string n.field,.string n.sign,.int .i64 n.value],.pointer (some ⟨w.heap.size,0,none⟩),.pointer (some ⟨w.heap.size+1+1,0,none⟩)] W fun e w'=>e= .returned (.bool (!Z0n l o x))∧∃F',St F' w'∧Keeps F F' w3 w'):=
  fun x n W hI hn hd=>by
   obtain⟨F1,q1,q2,q3,q4,q5,_⟩:=HI.out W hI
   exact(V7g g cp l St B hS o F1 d ih x n W hn hd q1 q3 _ _ (q5.cell 0) (At11.row q4)).mono (fun e w' h=>⟨h.1,h.2.elim (fun F' q=>⟨F',q.1,q2.trans q.2⟩)⟩)
 have HKS:Hid (∀W,(∃F',St F' W∧Keeps F F' w3 W)→Sl W 5 RN (.slice KA ks.length Kc) ks):=fun W hI=>by
  obtain⟨F1,q1,q2,q3,q4,q5,q6⟩:=HI.out W hI
  exact Sl.only (hks.ext (hw3▸HQ.out)) q2.only (fun b hb e=>q6 b (hkb b hb e))
 have HND:Hid (∀W,(∃F',St F' W∧Keeps F F' w3 W)→∀(i:Nat) (x:ND) (y:NCell),t.kids[i]? =some x→ks[i]? =some y→NdB B W d x y):=fun W hI i x y h1 h2=>by
  obtain⟨F1,q1,q2,q3,q4,q5,q6⟩:=HI.out W hI
  exact NdB.only q2.only q6 d x y ((hnd i x y h1 h2).ext (hw3▸HQ.out))
 have H0:Hid (∃F',St F' w3∧Keeps F F' w3 w3):=⟨F,hS.ext _ _ _ hg (hw3▸HQ.out),Keeps.refl⟩
 have HX:Hid (∀W W',(∃F',St F' W∧Keeps F F' w3 W)→Ext W W'→∃F',St F' W'∧Keeps F F' w3 W'):=fun W W' ⟨F',q1,q2⟩ hx=>⟨F',hS.ext _ _ _ q1 hx,q2.ext hx⟩
 have HE:Hid (Ext w w3):=hw3▸HQ.out
 have HLEN:=hD hlen
 clear ih hg ht hks hkb hlen hnd HB0 HB1 hnF hbf HI HQ
 subst hw3
 go_enter Tryz.func91,Tryz.ntmps91
 go_wp2_with fail
 refine(Z5e 148 (fun x=>(!Z0n l o x)) B d _ _ KA Kc ks t.kids (fun W=>∃F',St F' W∧Keeps F F' (((w.alloc (.cells #[.func (.func g) #[] #[cp]] 143)).alloc (.cells #[.int .i64 2,.slice KA ks.length Kc,.string field,.string sign,.int .i64 value] 50)).alloc (.cells #[.int .i64 o.id,.int .i64 o.proc,.int .i64 o.object,.int .i64 o.kind,.int .i64 o.method,.int .i64 o.arg,.int .i64 o.second,.bool o.done,.int .i64 o.result,.int .i64 o.invoke,.int .i64 o.ret] 32)) W) (Go.Proofs.enters_of Tryz.func148 (by kernel_rfl) rfl) _ HX.out H0.out HCL.out HKS.out HLEN.out HND.out).mono ?_
 rintro e w1 ⟨rfl,hb1⟩
 have K1:=hD hb1
 clear hb1
 go_wp2_with fail
 go_ret
 obtain⟨F',q1,q2⟩:=K1.out
 exact⟨by rw[HT.out];rfl,F',q1,(Keeps.of HE.out).trans q2⟩
end
section
variable (g:FuncId) (cp:Value) (l:List OpD) (St:(Nat→Prop)→World→Prop) (B:Nat→Prop) (hS:StOk St) (o:OpD) (t:ND) (kids:Value) (field sign:ByteArray) (value:Int) (F:Nat→Prop) (w:World)
include hS
theorem X6h(d:Nat)(ih:Y5w g cp l St B o d)(hg:St F w)(hbf:BF B F w)(ht:t.kind=3)(KA:Option Addr)(Kc:Nat)(ks:List NCell)(hks:Sl w 5 RN (.slice KA ks.length Kc) ks)(hkb:∀b,0<ks.length→(Value.slice KA ks.length Kc).ownBlock=some b→B b)(hlen:ks.length=t.kids.length)
 (hnd:∀(i:Nat) (x:ND) (y:NCell),t.kids[i]? =some x→ks[i]? =some y→NdB B w d x y):
  Calls Tryz.prog 91 #[.agg #[.func (.func g) #[] #[cp]],.agg #[.int .i64 3,.slice KA ks.length Kc,.string field,.string sign,.int .i64 value],o.val] w fun e w'=>e= .returned (.bool (Z0n l o t))∧∃F',St F' w'∧Keeps F F' w w':=by
 have HQ:Hid (Ext w (((w.alloc (.cells #[.func (.func g) #[] #[cp]] 143)).alloc (.cells #[.int .i64 3,.slice KA ks.length Kc,.string field,.string sign,.int .i64 value] 50)).alloc (.cells #[.int .i64 o.id,.int .i64 o.proc,.int .i64 o.object,.int .i64 o.kind,.int .i64 o.method,.int .i64 o.arg,.int .i64 o.second,.bool o.done,.int .i64 o.result,.int .i64 o.invoke,.int .i64 o.ret] 32))):=by unfold Hid;exact Xt
 have HG:=hD hg
 have HBF:=hD hbf
 by_cases h1:ks.length=1
 ·obtain⟨x,hx⟩:∃x,t.kids= [x]:=by
   have h2:t.kids.length=1:=by omega
   match hk:t.kids,h2 with
   | [x],_=>exact⟨x,rfl⟩
  have HT:=hD (Y2a l o t ht x hx)
  have IH:=hD ih
  obtain⟨_,hc1,hc2,hA⟩:=hks.at
  obtain⟨b,off,rfl,hbl,hcell⟩:=hA (by omega)
  have hbB:¬F b:=(hbf b (hkb b (by omega) rfl)).2
  have hnF:∀i,w.heap.size≤i→¬F i:=fun i q=>Y7t hS hg q
  obtain⟨cs,⟨rfl,hrn⟩,_,hcs⟩:=hcell 0 (by omega)
  have HY:=hD (hnd 0 x ks[0] (by rw[hx];rfl) (List.getElem?_eq_getElem (by omega)))
  have HRN:=hD (show RN ks[0] ks[0].cells from⟨rfl,hrn⟩)
  have HKID:Hid (∀(F':Nat→Prop) (W:World),Keeps F F' w W→W.cell? ⟨b,off,none⟩=some (.int .i64 ks[0].kind)∧W.cell? ⟨b,off+1,none⟩=some ks[0].kids∧W.cell? ⟨b,off+2,none⟩=some (.string ks[0].field)∧W.cell? ⟨b,off+3,none⟩=some (.string ks[0].sign)∧W.cell? ⟨b,off+4,none⟩=some (.int .i64 ks[0].value)):=by
   intro F' W hb
   have g:=fun j u hu=>(hb.only.cell (o:=off+0*5+j) hbl hbB).trans (hcs j u hu)
   have g0:=g 0 _ rfl
   have g1:=g 1 _ rfl
   have g2:=g 2 _ rfl
   have g3:=g 3 _ rfl
   have g4:=g 4 _ rfl
   simp only[Nat.zero_mul,Nat.add_zero]at g0 g1 g2 g3 g4
   exact⟨g0,g1,g2,g3,g4⟩
  obtain⟨kA,kn,kc,hkk⟩:=HRN.out.2.2.2
  clear hcell hcs hrn hA hks hnd ih ht hx
  generalize ks[0]=n at *
  obtain⟨nk,nkids,nf,ns,nv⟩:=n
  dsimp only at *
  subst hkk
  rw[h1]
  rw[h1]at HQ
  clear h1 hlen
  have HBA:Hid (Row1 (((w.alloc (.cells #[.func (.func g) #[] #[cp]] 143)).alloc (.cells #[.int .i64 3,.slice (some ⟨b,off,none⟩) 1 Kc,.string field,.string sign,.int .i64 value] 50)).alloc (.cells #[.int .i64 o.id,.int .i64 o.proc,.int .i64 o.object,.int .i64 o.kind,.int .i64 o.method,.int .i64 o.arg,.int .i64 o.second,.bool o.done,.int .i64 o.result,.int .i64 o.invoke,.int .i64 o.ret] 32)) w.heap.size 143 [.func (.func g) #[] #[cp]]):=((Row1.made w _ _).alloc _).alloc _
  have HBN:Hid (Row1 (((w.alloc (.cells #[.func (.func g) #[] #[cp]] 143)).alloc (.cells #[.int .i64 3,.slice (some ⟨b,off,none⟩) 1 Kc,.string field,.string sign,.int .i64 value] 50)).alloc (.cells #[.int .i64 o.id,.int .i64 o.proc,.int .i64 o.object,.int .i64 o.kind,.int .i64 o.method,.int .i64 o.arg,.int .i64 o.second,.bool o.done,.int .i64 o.result,.int .i64 o.invoke,.int .i64 o.ret] 32)) (w.heap.size+1) 50 [.int .i64 3,.slice (some ⟨b,off,none⟩) 1 Kc,.string field,.string sign,.int .i64 value]):=(Row1.made' (by simp) _ [.int .i64 3,.slice (some ⟨b,off,none⟩) 1 Kc,.string field,.string sign,.int .i64 value]).alloc _
  have HB0:=hD ((Row1.made' (w:=(w.alloc (.cells #[.func (.func g) #[] #[cp]] 143)).alloc (.cells #[.int .i64 3,.slice (some ⟨b,off,none⟩) 1 Kc,.string field,.string sign,.int .i64 value] 50)) (n:=w.heap.size+1+1) (by simp) 32 o.cells))
  have HKK:Hid (∀(F':Nat→Prop) (W:World),Keeps F F' (((w.alloc (.cells #[.func (.func g) #[] #[cp]] 143)).alloc (.cells #[.int .i64 3,.slice (some ⟨b,off,none⟩) 1 Kc,.string field,.string sign,.int .i64 value] 50)).alloc (.cells #[.int .i64 o.id,.int .i64 o.proc,.int .i64 o.object,.int .i64 o.kind,.int .i64 o.method,.int .i64 o.arg,.int .i64 o.second,.bool o.done,.int .i64 o.result,.int .i64 o.invoke,.int .i64 o.ret] 32)) W→(W.cell? ⟨w.heap.size,0,none⟩=some (.func (.func g) #[] #[cp])∧W.cell? ⟨w.heap.size+1,1,none⟩=some (.slice (some ⟨b,off,none⟩) 1 Kc)∧W.cell? ⟨b,off,none⟩=some (.int .i64 nk)∧W.cell? ⟨b,off+1,none⟩=some (.slice kA kn kc)∧W.cell? ⟨b,off+2,none⟩=some (.string nf)∧W.cell? ⟨b,off+3,none⟩=some (.string ns)∧W.cell? ⟨b,off+4,none⟩=some (.int .i64 nv)∧(W.cell? ⟨(w.heap.size+1+1),0,none⟩=some (.int .i64 o.id)∧W.cell? ⟨(w.heap.size+1+1),1,none⟩=some (.int .i64 o.proc)∧W.cell? ⟨(w.heap.size+1+1),2,none⟩=some (.int .i64 o.object)∧W.cell? ⟨(w.heap.size+1+1),3,none⟩=some (.int .i64 o.kind)∧W.cell? ⟨(w.heap.size+1+1),4,none⟩=some (.int .i64 o.method)∧W.cell? ⟨(w.heap.size+1+1),5,none⟩=some (.int .i64 o.arg)∧W.cell? ⟨(w.heap.size+1+1),6,none⟩=some (.int .i64 o.second)∧W.cell? ⟨(w.heap.size+1+1),7,none⟩=some (.bool o.done)∧W.cell? ⟨(w.heap.size+1+1),8,none⟩=some (.int .i64 o.result)∧W.cell? ⟨(w.heap.size+1+1),9,none⟩=some (.int .i64 o.invoke)∧W.cell? ⟨(w.heap.size+1+1),10,none⟩=some (.int .i64 o.ret)))):=
   fun F' W hb=>by
    obtain⟨x0,x1,x2,x3,x4⟩:=HKID.out F' W ((Keeps.of HQ.out).trans hb)
    exact⟨(hb.only.row HBA.out (hnF _ (by omega))).cell 0,(hb.only.row HBN.out (hnF _ (by omega))).cell 1,x0,x1,x2,x3,x4,At11.row (hb.only.row HB0.out (hnF _ (by omega)))⟩
  clear HB0 HBA HBN hnF hbB hg hbf hkb
  have hbw:b<w.heap.size+1:=by omega
  have hbw1:b<w.heap.size+1+1:=by omega
  obtain⟨k0,k1,k2,k3,k4⟩:=HKID.out F w Keeps.refl
  go_enter Tryz.func91,Tryz.ntmps91
  go_wp2_with fail
  go_region_held3 (fun w'=>(w'.cell? ⟨w.heap.size,0,none⟩=some (.func (.func g) #[] #[cp])∧w'.cell? ⟨w.heap.size+1,1,none⟩=some (.slice (some ⟨b,off,none⟩) 1 Kc)∧w'.cell? ⟨b,off,none⟩=some (.int .i64 nk)∧w'.cell? ⟨b,off+1,none⟩=some (.slice kA kn kc)∧w'.cell? ⟨b,off+2,none⟩=some (.string nf)∧w'.cell? ⟨b,off+3,none⟩=some (.string ns)∧w'.cell? ⟨b,off+4,none⟩=some (.int .i64 nv)∧(w'.cell? ⟨(w.heap.size+1+1),0,none⟩=some (.int .i64 o.id)∧w'.cell? ⟨(w.heap.size+1+1),1,none⟩=some (.int .i64 o.proc)∧w'.cell? ⟨(w.heap.size+1+1),2,none⟩=some (.int .i64 o.object)∧w'.cell? ⟨(w.heap.size+1+1),3,none⟩=some (.int .i64 o.kind)∧w'.cell? ⟨(w.heap.size+1+1),4,none⟩=some (.int .i64 o.method)∧w'.cell? ⟨(w.heap.size+1+1),5,none⟩=some (.int .i64 o.arg)∧w'.cell? ⟨(w.heap.size+1+1),6,none⟩=some (.int .i64 o.second)∧w'.cell? ⟨(w.heap.size+1+1),7,none⟩=some (.bool o.done)∧w'.cell? ⟨(w.heap.size+1+1),8,none⟩=some (.int .i64 o.result)∧w'.cell? ⟨(w.heap.size+1+1),9,none⟩=some (.int .i64 o.invoke)∧w'.cell? ⟨(w.heap.size+1+1),10,none⟩=some (.int .i64 o.ret))))
   (first | (refine HKK.out F1 _ (K1.out.2.ext ?_);(exact Xx (Ext.refl _));done) | (refine HKK.out F _ (Keeps.of ?_);(exact Xx (Ext.refl _));done))
   ((go_at_call 91;refine(IH.out x ⟨nk,.slice kA kn kc,nf,ns,nv⟩ F _ HRN.out (HY.out.ext (Ext.trans HQ.out (by exact Xx (Ext.refl _)))) (hS.ext _ _ _ HG.out (Ext.trans HQ.out (by exact Xx (Ext.refl _)))) (HBF.out.ext (Ext.trans HQ.out (by exact Xx (Ext.refl _))))).mono ?_;rintro e w1 ⟨rfl,F1,hs1,hb1⟩;have K1:=hD (And.intro hs1 ((Keeps.of (by exact Xx (Ext.refl _):Ext (((w.alloc (.cells #[.func (.func g) #[] #[cp]] 143)).alloc (.cells #[.int .i64 3,.slice (some ⟨b,off,none⟩) 1 Kc,.string field,.string sign,.int .i64 value] 50)).alloc (.cells #[.int .i64 o.id,.int .i64 o.proc,.int .i64 o.object,.int .i64 o.kind,.int .i64 o.method,.int .i64 o.arg,.int .i64 o.second,.bool o.done,.int .i64 o.result,.int .i64 o.invoke,.int .i64 o.ret] 32)) _)).trans hb1));clear hb1 hs1))
  all_goals
   go_wp2_with fail
   go_ret
   exact⟨by rw[HT.out];rfl,F1,hS.ext _ _ _ K1.out.1 (by exact Xx (Ext.refl _)),(Keeps.of HQ.out).trans (K1.out.2.ext (by exact Xx (Ext.refl _)))⟩
 ·have HT:=hD (Y4t l o t ht (by omega))
  have q1:((ks.length:Int)==1)=false:=by simp;omega
  clear ih hg hks hnd hlen h1 hbf hkb
  go_enter Tryz.func91,Tryz.ntmps91
  go_wp2_with fail
  all_goals (try go_quiet (fail))
  all_goals (try go_wp2_with fail)
  go_ret
  exact⟨by rw[HT.out];rfl,F,hS.ext _ _ _ HG.out (by exact Xx (HQ.out)),Keeps.of (by exact Xx (HQ.out))⟩
theorem X1o(eg:∀args w,(callFunc g args).run Tryz.prog w= .ok (.enter g args) w)(hgw:GetW g cp l St)(hv6: -9223372036854775808≤value∧value≤9223372036854775807)(hg:St F w)(ht:t.kind=5)(hf:t.field=field)(hv:t.value=value):
  Calls Tryz.prog 91 #[.agg #[.func (.func g) #[] #[cp]],.agg #[.int .i64 5,kids,.string field,.string sign,.int .i64 value],o.val] w fun e w'=>e= .returned (.bool (Z0n l o t))∧∃F',St F' w'∧Keeps F F' w w':=by
 have HT:=hD (Y4u l o t ht)
 rw[hf,hv]at HT
 have HC:Hid (V5n l o field.toList value=(match getL l value with | some p=>Z4w o p field.toList | none=>false)):=rfl
 have HG:=hD hgw
 have HST:=hD hg
 have hnF:∀i,w.heap.size≤i→¬F i:=fun i q=>Y7t hS hg q
 clear hgw hg ht hf hv
 have HN:Hid (Row1 (((w.alloc (.cells #[.func (.func g) #[] #[cp]] 143)).alloc (.cells #[.int .i64 5,kids,.string field,.string sign,.int .i64 value] 50)).alloc (.cells #[.int .i64 o.id,.int .i64 o.proc,.int .i64 o.object,.int .i64 o.kind,.int .i64 o.method,.int .i64 o.arg,.int .i64 o.second,.bool o.done,.int .i64 o.result,.int .i64 o.invoke,.int .i64 o.ret] 32)) (w.heap.size+1) 50 [.int .i64 5,kids,.string field,.string sign,.int .i64 value]):=(Row1.made' (by simp) _ [.int .i64 5,kids,.string field,.string sign,.int .i64 value]).alloc _
 have HA:=hD ((Row1.made' (w:=(w.alloc (.cells #[.func (.func g) #[] #[cp]] 143)).alloc (.cells #[.int .i64 5,kids,.string field,.string sign,.int .i64 value] 50)) (n:=w.heap.size+1+1) (by simp) 32 o.cells))
 have HKS:Hid (∀(F':Nat→Prop) (W:World),Keeps F F' (((w.alloc (.cells #[.func (.func g) #[] #[cp]] 143)).alloc (.cells #[.int .i64 5,kids,.string field,.string sign,.int .i64 value] 50)).alloc (.cells #[.int .i64 o.id,.int .i64 o.proc,.int .i64 o.object,.int .i64 o.kind,.int .i64 o.method,.int .i64 o.arg,.int .i64 o.second,.bool o.done,.int .i64 o.result,.int .i64 o.invoke,.int .i64 o.ret] 32)) W→At11 W (w.heap.size+1+1) o∧W.cell? ⟨w.heap.size+1,2,none⟩=some (.string field)):=
  fun F' W hb=>⟨At11.row (hb.only.row HA.out (hnF _ (by omega))),(hb.only.row HN.out (hnF _ (by omega))).cell 2⟩
 have HQ:Hid (Ext w (((w.alloc (.cells #[.func (.func g) #[] #[cp]] 143)).alloc (.cells #[.int .i64 5,kids,.string field,.string sign,.int .i64 value] 50)).alloc (.cells #[.int .i64 o.id,.int .i64 o.proc,.int .i64 o.object,.int .i64 o.kind,.int .i64 o.method,.int .i64 o.arg,.int .i64 o.second,.bool o.done,.int .i64 o.result,.int .i64 o.invoke,.int .i64 o.ret] 32))):=by unfold Hid;exact Xt
 clear HA HN hnF
 go_enter Tryz.func91,Tryz.ntmps91
 go_wp2_with fail
 refine(HG.out value F _ hv6.1 hv6.2 (hS.ext _ _ _ HST.out HQ.out)).mono ?_
 rintro e w1 ⟨⟨p,rfl,hp⟩,F1,hs1,hk1⟩
 have HFIN:Hid (∀W,Ext w1 W→∃F',St F' W∧Keeps F F' w W):=fun W hx=>⟨F1,hS.ext _ _ _ hs1 hx,((Keeps.of HQ.out).trans hk1).ext hx⟩
 obtain⟨⟨a0,a1,a2,a3,a4,a5,a6,a7,a8,a9,a10⟩,b2⟩:=HKS.out _ _ hk1
 have hz1:=hk1.only.size
 simp at hz1
 have hlt0:w.heap.size<w1.heap.size:=by omega
 have hlt1:w.heap.size+1<w1.heap.size:=by omega
 have hlt2:w.heap.size+1+1<w1.heap.size:=by omega
 have HP:=hD hp
 clear hk1 hs1 HG HKS hp HQ HST
 cases hgl:getL l value with
 | none=>
   have HV:=hD hgl
   have HN:Hid (Z0n l o t=false):=by unfold Hid;rw[HT.out,HC.out];simp[HV.out]
   simp only[Option.isSome_none]
   clear hgl HT HC HV HP
   by_cases f1:field.toList= [98,101,102,111,114,101]
   ·go_wp2_with fail
    go_ret
    exact⟨by rw[HN.out];rfl,HFIN.out _ (by exact Xt)⟩
   ·have g1:(field.toList== [98,101,102,111,114,101])=false:=by simpa using f1
    clear f1
    by_cases f2:field.toList= [97,102,116,101,114]
    ·go_wp2_with fail
     go_ret
     exact⟨by rw[HN.out];rfl,HFIN.out _ (by exact Xt)⟩
    ·have g2:(field.toList== [97,102,116,101,114])=false:=by simpa using f2
     clear f2
     by_cases f3:field.toList= [111,118,101,114,108,97,112,115]
     ·go_wp2_with fail
      go_ret
      exact⟨by rw[HN.out];rfl,HFIN.out _ (by exact Xt)⟩
     ·have g3:(field.toList== [111,118,101,114,108,97,112,115])=false:=by simpa using f3
      clear f3
      go_wp2_with fail
      go_ret
      exact⟨by rw[HN.out];rfl,HFIN.out _ (by exact Xt)⟩
 | some q=>
   obtain rfl:=HP.out q hgl
   have HV:=hD hgl
   have HN:Hid (Z0n l o t=Z4w o p field.toList):=by unfold Hid;rw[HT.out,HC.out];simp[HV.out]
   simp only[Option.isSome_some]
   clear hgl HT HC HV HP
   by_cases f1:field.toList= [98,101,102,111,114,101]
   ·have HF:Hid (Z4w o p field.toList=Z1k o p):=by unfold Hid Z4w;rw[if_pos f1]
    go_wp2_with fail
    refine(Z4q o p _).mono ?_
    rintro e w2 ⟨rfl,hb2⟩
    have hb2':=hD (Ext.trans (by exact Xt:Ext w1 _) hb2)
    clear hb2
    go_wp2_with fail
    go_ret
    exact⟨by rw[HN.out,HF.out];rfl,HFIN.out _ hb2'.out⟩
   ·have g1:(field.toList== [98,101,102,111,114,101])=false:=by simpa using f1
    by_cases f2:field.toList= [97,102,116,101,114]
    ·have HF:Hid (Z4w o p field.toList=Z1k p o):=by unfold Hid Z4w;rw[if_neg f1,if_pos f2]
     go_wp2_with fail
     refine(Z4q p o _).mono ?_
     rintro e w2 ⟨rfl,hb2⟩
     have hb2':=hD (Ext.trans (by exact Xt:Ext w1 _) hb2)
     clear hb2
     go_wp2_with fail
     go_ret
     exact⟨by rw[HN.out,HF.out];rfl,HFIN.out _ hb2'.out⟩
    ·have g2:(field.toList== [97,102,116,101,114])=false:=by simpa using f2
     by_cases f3:field.toList= [111,118,101,114,108,97,112,115]
     ·have HF:Hid (Z4w o p field.toList=(!Z1k o p&& !Z1k p o)):=by unfold Hid Z4w;rw[if_neg f1,if_neg f2,if_pos f3]
      go_wp2_with fail
      refine(Y6x o p _).mono ?_
      rintro e w2 ⟨rfl,hb2⟩
      have hb2':=hD (Ext.trans (by exact Xt:Ext w1 _) hb2)
      clear hb2
      go_wp2_with fail
      go_ret
      exact⟨by rw[HN.out,HF.out];rfl,HFIN.out _ hb2'.out⟩
     ·have HF:Hid (Z4w o p field.toList=false):=by unfold Hid Z4w;rw[if_neg f1,if_neg f2,if_neg f3]
      have g3:(field.toList== [111,118,101,114,108,97,112,115])=false:=by simpa using f3
      clear f1 f2 f3
      go_wp2_with fail
      go_ret
      exact⟨by rw[HN.out,HF.out];rfl,HFIN.out _ (by exact Xt)⟩
end
theorem Y7v(g:FuncId)(eg:∀args w,(callFunc g args).run Tryz.prog w= .ok (.enter g args) w)(cp:Value)(l:List OpD)(St:(Nat→Prop)→World→Prop)(B:Nat→Prop)(hS:StOk St)(hgw:GetW g cp l St)(o:OpD)(d:Nat):Y5w g cp l St B o d:=by
 induction d with
 | zero=>intro _ _ _ _ _ h;exact h.elim
 | succ d ih=>
   intro t n F w hn hd hg hbf
   obtain⟨h1,h2,h3,h4,ks,h5,h5b,h6,h7⟩:=hd
   obtain⟨nk,nkids,nf,ns,nv⟩:=n
   dsimp only at *
   obtain⟨kA,kc,rfl⟩:=h5.form
   have hE:∀(e:Ending) (w':World),e= .returned (.bool (Z0n l o t))∧Ext w w'→e= .returned (.bool (Z0n l o t))∧∃F',St F' w'∧Keeps F F' w w':=fun e w' q=>⟨q.1,F,hS.ext _ _ _ hg q.2,Keeps.of q.2⟩
   by_cases e1:nk=1
   ·subst e1;exact V1b g cp l St B hS o t nf ns nv F w d ih hg hbf h1.symm kA kc ks h5 h5b h6 h7
   by_cases e2:nk=2
   ·subst e2;exact X6i g cp l St B hS o t nf ns nv F w d ih hg hbf h1.symm kA kc ks h5 h5b h6 h7
   by_cases e3:nk=3
   ·subst e3;exact X6h g cp l St B hS o t nf ns nv F w d ih hg hbf h1.symm kA kc ks h5 h5b h6 h7
   by_cases e4:nk=4
   ·subst e4;exact(V1a g cp l o t _ nf ns nv w h1.symm h2.symm h3.symm h4.symm).mono hE
   by_cases e5:nk=5
   ·subst e5;exact X1o g cp l St hS o t _ nf ns nv F w eg hgw ⟨hn.2.1,hn.2.2.1⟩ hg h1.symm h2.symm h4.symm
   exact(X6g g cp l o t _ nf ns nv w nk e1 e2 e3 e4 e5 h1.symm).mono hE
end
end Go.Proofs.YtmiolpfanlpfnaaGreat
