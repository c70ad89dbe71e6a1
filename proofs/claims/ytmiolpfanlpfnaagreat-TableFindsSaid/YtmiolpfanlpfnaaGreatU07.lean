/- journal.ReadHead, at a block. Conditions: at least 40 bytes. -/
import Derived.Test.YtmiolpfanlpfnaaGreatU06
set_option maxRecDepth 100000
set_option maxHeartbeats 4000000
set_option linter.unusedSimpArgs false
set_option linter.unusedVariables false
namespace Go.Proofs.YtmiolpfanlpfnaaGreat
section
open Go.RowKit
def Z2s(b:ByteArray)(i j:Nat):Nat:=Z3r (b.extract i j).data.toList
theorem X0z(l:List UInt8):Z3r l<2 ^ (8*l.length):=X8n l l.length
theorem X3t(b:ByteArray)(i:Nat)(h:i+4≤b.size):Z2s b i (i+4)<4294967296:=by
 have h1:=X0z (b.extract i (i+4)).data.toList
 have h2:(b.extract i (i+4)).data.toList.length=4:=by
  rw[Array.length_toList]
  show(b.extract i (i+4)).size=4
  rw[ByteArray.size_extract];omega
 rw[h2]at h1
 exact h1
theorem X6g(b:ByteArray)(f B:Nat)(w:World)(h:w.cell? ⟨B,0,none⟩=some (.string b))(hf:f+4≤b.size)(hb:b.size≤1000000):
  Calls Tryz.prog 205 #[.int .i64 f,.pointer (some ⟨B,0,none⟩)] w fun e w'=>e= .returned (.int .i64 (Z2s b f (f+4)))∧w=w':=by
 have q1:(f:Int)+4≤b.size:=by omega
 have q2:((f:Int)+4).toNat=f+4:=by omega
 have q3:(0:Int)≤(f:Int)+4:=by omega
 have q4:(f:Int)≤(f:Int)+4:=by omega
 have hs:(b.extract f (f+4)).size≤8:=by rw[ByteArray.size_extract];omega
 have cU:=Z8i (b.extract f (f+4)) hs w
 have hlt:=X3t b f hf
 have hw:wrap64 (Z2s b f (f+4):Int)=(Z2s b f (f+4):Int):=by unfold wrap64;omega
 change Calls _ _ _ _ (fun e w'=>e= .returned (.int .u64 (Z2s b f (f+4)))∧w=w')at cU
 generalize Z2s b f (f+4)=n at *
 clear hs
 go_enter Tryz.func205,Tryz.ntmps205
 go_wp2_with (go_at_call 162;refine cU.mono ?_;clear cU;rintro e w1 ⟨rfl,rfl⟩)
 go_ret
 first | exact⟨rfl,rfl⟩ | exact⟨by rw[←hw];rfl,rfl⟩
theorem Y2b{fn:Func}(h:fn.results= #[.cell 2 170,.tmp 3])(tmps:Array Value)(w:World)(B:Nat)(hd:HeadD)(v:Value)(hB:tmps.getD 2 undef= .pointer (some ⟨B,0,none⟩))(hv:tmps.getD 3 undef=v)(hr:Row1 w B 170 hd.cells):
  (results fn tmps).run Tryz.prog w= .ok (.tuple #[hd.val,v]) w:=by
 rw[results_cell_tmp h,hB,hv]
 have c0:w.cell? ⟨B,0,none⟩=some (.int .u64 hd.seq):=hr.cell 0
 have c1:w.cell? ⟨B,1,none⟩=some (.int .i64 hd.used):=hr.cell 1
 have c2:w.cell? ⟨B,2,none⟩=some (.int .i64 hd.room):=hr.cell 2
 have c3:w.cell? ⟨B,3,none⟩=some (.int .i64 hd.pages):=hr.cell 3
 unfold HeadD.val HeadD.cells
 go_simp
def Z4e(b:ByteArray):HeadD×Bool:=
 if(bts (notL (b.extract 0 20).data.toList)).toList==(b.extract 20 40).toList then(⟨Z2s b 0 8,Z2s b 8 12,Z2s b 12 16,Z2s b 16 20⟩,true)else(⟨0,0,0,0⟩,false)
theorem Y9f(b:ByteArray)(w:World)(hb1:40≤b.size)(hb2:b.size≤1000000):
  Calls Tryz.prog 161 #[.string b] w fun e w'=>e= .returned (.tuple #[(Z4e b).1.val,.bool (Z4e b).2])∧Ext w w':=by
 have q1:decide ((b.size:Int)<40)=false:=decide_eq_false (by omega)
 have q2:(20:Int)≤b.size:=by omega
 have q3:(40:Int)≤b.size:=by omega
 have q4:(8:Int)≤b.size:=by omega
 have cN:Hid (∀W,Calls Tryz.prog 204 #[.string (b.extract 0 20)] W fun e w'=>e= .returned (.string (bts (notL (b.extract 0 20).data.toList)))∧Ext W w'):=fun W=>V0p (b.extract 0 20) W (by rw[ByteArray.size_extract];omega)
 have HKS:Hid (∀W,Ext (w.alloc (.cells #[.string b] 9)) W→W.cell? ⟨w.heap.size,0,none⟩=some (.string b)):=fun W hW=>((Row1.made w 9 [.string b]).ext hW (by simp)).cell 0
 have HA:Hid (∀(f:Nat) (W:World),W.cell? ⟨w.heap.size,0,none⟩=some (.string b)→f+4≤b.size→Calls Tryz.prog 205 #[.int .i64 f,.pointer (some ⟨w.heap.size,0,none⟩)] W fun e w'=>e= .returned (.int .i64 (Z2s b f (f+4)))∧W=w'):=fun f W h1 h2=>X6g b f _ W h1 h2 hb2
 have cU:Hid (∀W,Calls Tryz.prog 162 #[.string (b.extract 0 8)] W fun e w'=>e= .returned (.int .u64 (Z2s b 0 8))∧W=w'):=fun W=>Z8i (b.extract 0 8) (by rw[ByteArray.size_extract];omega) W
 have HRH:Hid (Z4e b=if(bts (notL (b.extract 0 20).data.toList)).toList==(b.extract 20 40).toList then(⟨Z2s b 0 8,Z2s b 8 12,Z2s b 12 16,Z2s b 16 20⟩,true)else(⟨0,0,0,0⟩,false)):=rfl
 obtain⟨N,hN⟩:∃N,bts (notL (b.extract 0 20).data.toList)=N:=⟨_,rfl⟩
 rw[hN]at cN HRH
 obtain⟨bb,hbb⟩:∃bb,(N.toList==(b.extract 20 40).toList)=bb:=⟨_,rfl⟩
 rw[hbb]at HRH
 obtain⟨R,hR⟩:∃R,Z4e b=R:=⟨_,rfl⟩
 rw[hR]at HRH ⊢
 clear hR hN
 obtain⟨W0,hW0⟩:∃W0,(w.alloc (.cells #[.string b] 9)).alloc (.cells #[.int .u64 0,.int .i64 0,.int .i64 0,.int .i64 0] 170)=W0:=⟨_,rfl⟩
 have HW0:Hid (Ext (w.alloc (.cells #[.string b] 9)) W0∧Row1 W0 (w.heap.size+1) 170 (⟨0,0,0,0⟩:HeadD).cells∧W0.heap.size=w.heap.size+2):=by
  subst hW0
  exact⟨by exact Xt,Row1.made' (by simp) _ _,by simp⟩
 go_enter Tryz.func161,Tryz.ntmps161
 go_upto_region 1 with fail
 clear hW0
 refine wp_region_held_drew (S:=fun W=>W.cell? ⟨w.heap.size,0,none⟩=some (.string b)) (by kernel_rfl) (HKS.out _ (Ext.trans HW0.out.1 (by exact Xt))) (fun hHeld=> ?_)
 refine' tk 0 ?_
 refine' tk 1 ?_
 refine' tk 2 ?_
 refine' tk 3 ?_
 refine' tk 4 ?_
 refine' tk 5 ?_
 refine' tk 7 ?_
 refine' tk 8 ?_
 refine stp 6 (fun K hK=> ?_);go_simp
 refine(cN.out _).mono ?_
 rintro e w1 ⟨rfl,hb1⟩
 have HB:Hid (Ext W0 w1):=Ext.trans (by exact Xt) hb1
 clear hb1
 (try dsimp only)
 (try go_simp)
 refine hK.out _ _ (HKS.out _ (Ext.trans HW0.out.1 HB.out)) (fun hHeld=> ?_)
 clear hK K
 refine pt ?_
 refine' tk 9 ?_
 refine' tk 10 ?_
 refine wpAnyH_done (by kernel_rfl) ?_ _
 have hz0:=HW0.out.2.2
 have hlt:w.heap.size+1<W0.heap.size:=by omega
 have HR1:Hid (Row1 w1 (w.heap.size+1) 170 (⟨0,0,0,0⟩:HeadD).cells):=HW0.out.2.1.ext HB.out hlt
 have k0:w1.cell? ⟨w.heap.size,0,none⟩=some (.string b):=HKS.out _ (Ext.trans HW0.out.1 HB.out)
 have b0:w1.cell? ⟨w.heap.size+1,0,none⟩=some (.int .u64 0):=HR1.out.cell 0
 have b1:w1.cell? ⟨w.heap.size+1,1,none⟩=some (.int .i64 0):=HR1.out.cell 1
 have b2:w1.cell? ⟨w.heap.size+1,2,none⟩=some (.int .i64 0):=HR1.out.cell 2
 have b3:w1.cell? ⟨w.heap.size+1,3,none⟩=some (.int .i64 0):=HR1.out.cell 3
 have f0:=HR1.out.soft 0
 have f1:=HR1.out.soft 1
 have f2:=HR1.out.soft 2
 have f3:=HR1.out.soft 3
 have HXF:Hid (Ext w w1):=Ext.trans (Ext.trans (by exact Xt) HW0.out.1) HB.out
 have hb0:=HR1.out.lt
 cases bb
 ·rw[if_neg (by decide)]at HRH
  go_wp2_with fail
  refine bodyPost_ret (Y2b rfl _ _ (w.heap.size+1) ⟨0,0,0,0⟩ _ rfl rfl ((((HR1.out.set 0 _).set 1 _).set 2 _).set 3 _)) rfl ?_
  rw[HRH.out]
  exact⟨rfl,by exact Xx (HXF.out)⟩
 ·rw[if_pos rfl]at HRH
  have a1:Calls Tryz.prog 205 #[.int .i64 8,.pointer (some ⟨w.heap.size,0,none⟩)] w1 fun e w'=>e= .returned (.int .i64 (Z2s b 8 12))∧w1=w':=HA.out 8 w1 k0 (by omega)
  have a2:Calls Tryz.prog 205 #[.int .i64 12,.pointer (some ⟨w.heap.size,0,none⟩)] w1 fun e w'=>e= .returned (.int .i64 (Z2s b 12 16))∧w1=w':=HA.out 12 w1 k0 (by omega)
  have a3:Calls Tryz.prog 205 #[.int .i64 16,.pointer (some ⟨w.heap.size,0,none⟩)] w1 fun e w'=>e= .returned (.int .i64 (Z2s b 16 20))∧w1=w':=HA.out 16 w1 k0 (by omega)
  go_wp2_with fail
  refine(cU.out _).mono ?_
  rintro e w2 ⟨rfl,rfl⟩
  go_wp2_with fail
  refine a1.mono ?_
  rintro e w2 ⟨rfl,rfl⟩
  go_wp2_with fail
  refine a2.mono ?_
  rintro e w2 ⟨rfl,rfl⟩
  go_wp2_with fail
  refine a3.mono ?_
  rintro e w2 ⟨rfl,rfl⟩
  go_wp2_with fail
  refine bodyPost_ret (Y2b rfl _ _ (w.heap.size+1) ⟨Z2s b 0 8,Z2s b 8 12,Z2s b 12 16,Z2s b 16 20⟩ _ rfl rfl ((((HR1.out.set 0 _).set 1 _).set 2 _).set 3 _)) rfl ?_
  rw[HRH.out]
  exact⟨rfl,by exact Xx (HXF.out)⟩
theorem X4l(n:Nat)(h:n<4294967296):Z3r (Z0f n 4)=n:=by rw[Z8z];exact Nat.mod_eq_of_lt (by simpa using h)
theorem Z6u(l a m r:List UInt8)(i j:Nat)(hl:l=a++m++r)(hi:a.length=i)(hj:i+m.length=j):Z2s (bts l) i j=Z3r m:=by
 unfold Z2s
 have e:((bts l).extract i j).data.toList=m:=by
  subst hl hi hj
  simp[bts]
 rw[e]
theorem X6f(h:HeadD)(hh:HeadOk h)(r:List UInt8):Z4e (bts (Z1f h++notL (Z1f h)++r))=(h,true):=by
 have hl:=Z9m h
 have hn:(notL (Z1f h)).length=20:=by rw[Y7i,hl]
 have e1:((bts (Z1f h++notL (Z1f h)++r)).extract 0 20).data.toList=Z1f h:=by
  have:((bts (Z1f h++notL (Z1f h)++r)).extract 0 20).data.toList=(Z1f h++notL (Z1f h)++r).take 20:=by simp[bts]
  rw[this,List.append_assoc,List.take_left' hl]
 have e2:((bts (Z1f h++notL (Z1f h)++r)).extract 20 40).data.toList=notL (Z1f h):=by
  have:((bts (Z1f h++notL (Z1f h)++r)).extract 20 40).data.toList=((Z1f h++notL (Z1f h)++r).drop 20).take 20:=by simp[bts]
  rw[this,List.append_assoc,List.drop_left' hl,List.take_left' hn]
 unfold Z4e
 rw[e1,ByteArray.toList_eq,ByteArray.toList_eq,e2,Z1o,beq_self_eq_true,if_pos rfl]
 have p1:=Z6u (Z1f h++notL (Z1f h)++r) [] (Z0f h.seq 8) (Z0f h.used 4++Z0f h.room 4++Z0f h.pages 4++notL (Z1f h)++r) 0 8 (by simp[Z1f]) rfl (by simp[Z0l])
 have p2:=Z6u (Z1f h++notL (Z1f h)++r) (Z0f h.seq 8) (Z0f h.used 4) (Z0f h.room 4++Z0f h.pages 4++notL (Z1f h)++r) 8 12 (by simp[Z1f]) (Z0l _ _) (by simp[Z0l])
 have p3:=Z6u (Z1f h++notL (Z1f h)++r) (Z0f h.seq 8++Z0f h.used 4) (Z0f h.room 4) (Z0f h.pages 4++notL (Z1f h)++r) 12 16 (by simp[Z1f]) (by simp[Z0l]) (by simp[Z0l])
 have p4:=Z6u (Z1f h++notL (Z1f h)++r) (Z0f h.seq 8++Z0f h.used 4++Z0f h.room 4) (Z0f h.pages 4) (notL (Z1f h)++r) 16 20 (by simp[Z1f]) (by simp[Z0l]) (by simp[Z0l])
 rw[p1,p2,p3,p4,X4l _ hh.used,X4l _ hh.room,X4l _ hh.pages,Z8z,Nat.mod_eq_of_lt (by simpa using hh.seq)]
theorem X6e:(Z4e zeroB).2=false:=by
 rw[←Z8a]
 unfold Z4e
 rw[if_neg]
 decide +kernel
theorem V2v(l:List ByteArray)(j:Nat)(hj:j<l.length):(l.flatMap encS)[j]? =some (.string l[j]):=by
 have:=Z3d encS 1 Z0d l j _ (List.getElem?_eq_getElem hj) 0 _ rfl
 simpa using this
theorem Z6w{w:World}{base:Nat}{e:TypeId}{v:Value}{l:List ByteArray}(h:OwnL w base e 1 encS v l):∃A c,v= .slice A l.length c∧l.length≤c∧c≤9223372036854775807∧
  (0<l.length→∃b,A=some ⟨b,0,none⟩∧base≤b∧b<w.heap.size∧(∀i,w.frozen? ⟨b,i,none⟩=false)∧∀i (hi:i<l.length),w.cell? ⟨b,i,none⟩=some (.string l[i])):=by
 have h':w.ownsRow base e 1 v l.length (l.flatMap encS):=h
 obtain⟨A,c,rfl,h1,h2,h3⟩:=Z2x h'
 exact⟨A,c,rfl,h1,h2,fun h0=>by
  obtain⟨b,q1,q2,q3,q4,q5⟩:=h3 h0
  exact⟨b,q1,q2,q3,q4,fun i hi=>q5 i _ (V2v l i hi)⟩⟩
theorem V2w(l:List (Nat×ByteArray))(j:Nat)(hj:j<l.length):(l.flatMap encP)[j*2]? =some (.int .i64 l[j].1)∧(l.flatMap encP)[j*2+1]? =some (.string l[j].2):=
 ⟨Z3d encP 2 Y2h l j _ (List.getElem?_eq_getElem hj) 0 _ rfl,Z3d encP 2 Y2h l j _ (List.getElem?_eq_getElem hj) 1 _ rfl⟩
theorem Y3j{w:World}{base:Nat}{e:TypeId}{v:Value}{l:List (Nat×ByteArray)}(h:OwnL w base e 2 encP v l):∃A c,v= .slice A l.length c∧l.length≤c∧c≤9223372036854775807∧
  (0<l.length→∃b,A=some ⟨b,0,none⟩∧base≤b∧b<w.heap.size∧(∀i,w.frozen? ⟨b,i,none⟩=false)∧∀i (hi:i<l.length),w.cell? ⟨b,i*2,none⟩=some (.int .i64 l[i].1)∧w.cell? ⟨b,i*2+1,none⟩=some (.string l[i].2)):=by
 have h':w.ownsRow base e 2 v l.length (l.flatMap encP):=h
 obtain⟨A,c,rfl,h1,h2,h3⟩:=Z2x h'
 exact⟨A,c,rfl,h1,h2,fun h0=>by
  obtain⟨b,q1,q2,q3,q4,q5⟩:=h3 h0
  exact⟨b,q1,q2,q3,q4,fun i hi=>⟨q5 _ _ (V2w l i hi).1,q5 _ _ (V2w l i hi).2⟩⟩⟩
theorem DiskAs.open{w:World}{g:Nat}{F:Nat→Prop}{D:DiskD}{bv lv:Value}(h:DiskAs w g F D bv lv):∃b c,bv= .slice (some ⟨b,0,none⟩) D.blocks.length c∧D.blocks.length≤c∧c≤9223372036854775807∧F b∧b<w.heap.size∧
  (∀i,w.frozen? ⟨b,i,none⟩=false)∧∀i (hi:i<D.blocks.length),w.cell? ⟨b,i,none⟩=some (.string D.blocks[i]):=by
 obtain⟨A,c,rfl,h1,h2,h3⟩:=Z6w h.blocks
 obtain⟨b,rfl,_,hlt,hf,hc⟩:=h3 (by have:=h.wf.one;omega)
 exact⟨b,c,rfl,h1,h2,h.fb b rfl,hlt,hf,hc⟩
theorem Y2y{g:Nat}{F:Nat→Prop}{D:DiskD}(n:Int)(w:World)(h:DiskAt w g F D):
  Calls Tryz.prog 157 #[.pointer (some ⟨g,0,none⟩),.int .i64 n] w fun e w'=>e= .returned (.int .i64 (Z4c D n))∧w=w':=by
 obtain⟨bv,lv,h⟩:=h
 obtain⟨b,c,rfl,hc1,hc2,_,_,_,_⟩:=h.open
 have c0:w.cell? ⟨g,0,none⟩=_:=h.row.cell 0
 obtain⟨dd,hd⟩:∃dd,D.dead=dd:=⟨_,rfl⟩
 have c3:w.cell? ⟨g,3,none⟩=some (.bool dd):=by rw[←hd];exact h.row.cell 3
 obtain⟨N,hN⟩:∃N,D.blocks.length=N:=⟨_,rfl⟩
 have hw:=h.wf
 have h1:=hw.one
 have h2:=hw.many
 clear h hw
 rw[hN]at c0 hc1 h1 h2
 have HR:Hid (Z4c D n=if dd=true then 11 else if n<0∨(N:Int)≤n then 10 else 0):=by unfold Hid Z4c;rw[hd,hN]
 rw[HR.out]
 clear hd hN HR
 cases dd
 ·by_cases hn:n<0
  ·have q1:decide (n<0)=true:=decide_eq_true hn
   go_enter Tryz.func157,Tryz.ntmps157
   go_wp2_with fail;(try (rw [X4n _ _ _ _ _ _ Tryz.underlying85];simp only[Result.andThen];rw[Oper.upon_value]))
   go_wp2_with fail
   go_ret
   exact⟨by simp[hn],rfl⟩
  ·have q1:decide (n<0)=false:=decide_eq_false hn
   by_cases hm:(N:Int)≤n
   ·have q2:decide ((N:Int)≤n)=true:=decide_eq_true hm
    go_enter Tryz.func157,Tryz.ntmps157
    go_wp2_with fail;(try (rw [X4n _ _ _ _ _ _ Tryz.underlying85];simp only[Result.andThen];rw[Oper.upon_value]))
    go_wp2_with fail
    go_ret
    exact⟨by simp[hm],rfl⟩
   ·have q2:decide ((N:Int)≤n)=false:=decide_eq_false hm
    go_enter Tryz.func157,Tryz.ntmps157
    go_wp2_with fail;(try (rw [X4n _ _ _ _ _ _ Tryz.underlying85];simp only[Result.andThen];rw[Oper.upon_value]))
    go_wp2_with fail
    go_ret
    exact⟨by simp[hn,hm],rfl⟩
 ·go_enter Tryz.func157,Tryz.ntmps157
  go_wp2_with fail;(try (rw [X4n _ _ _ _ _ _ Tryz.underlying85];simp only[Result.andThen];rw[Oper.upon_value]))
  go_wp2_with fail
  go_ret
  exact⟨by simp,rfl⟩
theorem Y4d{g:Nat}{F:Nat→Prop}{D:DiskD}(w:World)(h:DiskAt w g F D):
  Calls Tryz.prog 103 #[.pointer (some ⟨g,0,none⟩)] w fun e w'=>e= .returned (.int .i64 D.blocks.length)∧w=w':=by
 obtain⟨bv,lv,h⟩:=h
 obtain⟨b,c,rfl,hc1,hc2,_,_,_,_⟩:=h.open
 have c0:w.cell? ⟨g,0,none⟩=_:=h.row.cell 0
 clear h
 go_enter Tryz.func103,Tryz.ntmps103
 go_wp2_with fail
 go_ret
 exact⟨rfl,rfl⟩
theorem X6t(n:Nat)(late:List (Nat×ByteArray))(k:Nat)(hk:k<late.length)(s:ByteArray):Z2v n (late.take (k+1)) s=if late[k].1=n then late[k].2 else Z2v n (late.take k) s:=by
 unfold Z2v
 rw[List.take_add_one,List.getElem?_eq_getElem hk,List.foldl_append]
 rfl
theorem Z8p{g:Nat}{F:Nat→Prop}{D:DiskD}(n:Nat)(w:World)(h:DiskAt w g F D)(hd:D.dead=false)(hn:n<D.blocks.length):
  Calls Tryz.prog 104 #[.pointer (some ⟨g,0,none⟩),.int .i64 n] w fun e w'=>e= .returned (.tuple #[.string (Z0x D n),.int .i64 0])∧Ext w w':=by
 have hr:=Y2y (n:Int) w h
 have hr0:Z4c D n=0:=by unfold Z4c;rw[hd,if_neg (by simp),if_neg (by omega)]
 rw[hr0]at hr
 clear hr0
 obtain⟨bv,lv,h⟩:=h
 obtain⟨b,c,rfl,hc1,hc2,_,_,_,hcb⟩:=h.open
 obtain⟨lA,lc,rfl,hl1,hl2,hlx⟩:=Y3j h.late
 have c0:w.cell? ⟨g,0,none⟩=_:=h.row.cell 0
 have c1:w.cell? ⟨g,1,none⟩=_:=h.row.cell 1
 have cn:=hcb n hn
 have hm:=h.wf.many
 have HL:=hD hlx
 obtain⟨s0,hs0⟩:∃s,D.blocks[n]=s:=⟨_,rfl⟩
 rw[hs0]at cn
 have HB:Hid (Z0x D n=Z2v n D.late s0):=by unfold Hid Z0x;rw[List.getElem?_eq_getElem hn,hs0];rfl
 rw[HB.out]
 clear HB hs0 hlx hcb h hd
 go_enter Tryz.func104,Tryz.ntmps104
 go_wp2_with (go_at_call 157;refine hr.mono ?_;clear hr;rintro e w1 ⟨rfl,rfl⟩)
 go_loopw [7,28] (fun s i wr=>∃k:Nat,k≤D.late.length∧i= .int .i64 k∧s= .string (Z2v n (D.late.take k) s0)∧Ext w wr) (fun _ i _=>D.late.length-(intOf i).toNat)
 case atStart=>exact⟨0,by omega,rfl,rfl,Ext.refl _⟩
 case round=>
  obtain⟨k,hk,rfl,rfl,hx⟩:=hrel
  have HX:=hD hx
  have hz:=hx.size
  clear hx
  by_cases hkl:k<D.late.length
  ·obtain⟨lb,rfl,_,hlb,_,hlc⟩:=HL.out (by omega)
   have d0:wr.cell? ⟨lb,k*2,none⟩=_:=(HX.out.cell (p:=⟨lb,k*2,none⟩) hlb).trans (hlc k hkl).1
   have d1:wr.cell? ⟨lb,k*2+1,none⟩=_:=(HX.out.cell (p:=⟨lb,k*2+1,none⟩) hlb).trans (hlc k hkl).2
   have HS:=hD (X6t n D.late k hkl s0)
   obtain⟨a,ha⟩:∃a,D.late[k].1=a:=⟨_,rfl⟩
   obtain⟨t,ht⟩:∃t,D.late[k].2=t:=⟨_,rfl⟩
   rw[ha]at d0
   rw[ht]at d1
   have HS:Hid (Z2v n (D.late.take (k+1)) s0=if a=n then t else Z2v n (D.late.take k) s0):=by rw[←ha,←ht];exact HS.out
   obtain⟨s,hs⟩:∃s,Z2v n (D.late.take k) s0=s:=⟨_,rfl⟩
   rw[hs]at HS ⊢
   clear hs
   clear ha ht hlc hlb
   by_cases hq:a=n
   ·have q1:decide ((a:Int)=n)=true:=decide_eq_true (by omega)
    go_wp2_with fail
    go_roundw
    case rel=>exact⟨k+1,by omega,by go_num,by rw[HS.out,if_pos hq],by exact Xx (HX.out)⟩
    case measure=>simp[intOf];omega
   ·have q1:decide ((a:Int)=n)=false:=decide_eq_false (by omega)
    go_wp2_with fail
    go_roundw
    case rel=>exact⟨k+1,by omega,by go_num,by rw[HS.out,if_neg hq],by exact Xx (HX.out)⟩
    case measure=>simp[intOf];omega
  ·obtain rfl:k=D.late.length:=by omega
   go_wp2_with fail
   go_ret2
   rw[List.take_length]
   exact⟨rfl,HX.out⟩
end
section
open Go.RowKit Go.Maps
def Z2i{α:Type}(N:Nat)(f:Int→Option α):List Nat:=(List.range N).filter fun(i:Nat)=>(f (i:Int)).isSome
theorem Z7s{α:Type}{N:Nat}{f:Int→Option α}{i:Nat}:i∈Z2i N f↔i<N∧(f (i:Int)).isSome=true:=by simp[Z2i]
theorem Y1n{α:Type}(N:Nat)(f:Int→Option α):(Z2i N f).Nodup:=List.nodup_range.sublist List.filter_sublist
theorem X6v{α:Type}(N:Nat)(f:Int→Option α):(Z2i N f).length≤N:=by
 have:=(List.filter_sublist (l:=List.range N) (p:=fun(i:Nat)=>(f (i:Int)).isSome)).length_le
 simpa [Z2i]using this
def Small{α:Type}(N:Nat)(f:Int→Option α):Prop:=∀x,(f x).isSome=true→0≤x∧x<N
theorem Y0u{k:TypeId}(hk:Tryz.prog.underlying k=some (.int .i64)){l:Lit}(h:KeysOf Tryz.prog k l):∃a,l= .int .i64 a:=by
 obtain⟨v,hv⟩:=h
 cases v<;>simp[keyOf,hk,mapKey]at hv
 rename_i q a
 obtain⟨⟨rfl,_⟩,rfl⟩:=hv
 exact⟨a,rfl⟩
theorem MapI.count{α:Type}{enc:α→Value}{f:Int→Option α}{w:World}{k:TypeId}{b n:Nat}(h:MapI w k b n enc f)(hk:Tryz.prog.underlying k=some (.int .i64)){N:Nat}(hf:Small N f):
  ∃D:DataW Value,w.ownsMap Tryz.prog k Rv b (Z2i N f).length D∧MapD enc f D∧Maps.size D=(Z2i N f).length:=by
 obtain⟨D,⟨es,clock,hb,F,hs,rfl⟩,h2⟩:=h
 have hap:=fit_apart (int_keyed hk) F
 have hke:=fit_keys F
 have hsz:(es.toList.map (WideElems.rg Tryz.prog k Rv)).length=es.size:=by simp
 have hh:∀x:Int,Maps.has (DataW.map ((es.toList.map (WideElems.rg Tryz.prog k Rv)).foldr DataW.insert [])) (.int .i64 x)=(f x).isSome:=h2.has
 generalize hL:es.toList.map (WideElems.rg Tryz.prog k Rv)=L at *
 have hmem:∀x:Int,(∃p∈L,p.1=Lit.int .i64 x)↔(f x).isSome=true:=fun x=>by
  rw[←hh x,has_eq,List.any_eq_true]
  constructor
  ·rintro⟨p,hp,he⟩
   exact⟨p,mem_sorted.2 hp,by rw[he];simp[Lit.sameKey]⟩
  ·rintro⟨p,hp,he⟩
   exact⟨p,mem_sorted.1 hp,WideAt.sameKey_eq he⟩
 have hlen:L.length=(Z2i N f).length:=by
  obtain⟨g,hg⟩:∃g:Lit×DataW Value→Nat,∀p a,p.1=Lit.int .i64 a→g p=a.toNat:=⟨fun p=>match p.1 with | .int _ a=>a.toNat | _=>0,fun p a h=>by simp[h]⟩
  have hnd:(L.map g).Nodup:=by
   rw[List.nodup_iff_pairwise_ne,List.pairwise_map]
   refine List.Pairwise.imp_of_mem ?_ hap
   intro p q hp hq hne e
   obtain⟨a,ha⟩:=Y0u hk (hke p hp)
   obtain⟨c,hc⟩:=Y0u hk (hke q hq)
   rw[hg p a ha,hg q c hc]at e
   have h1:=hf a ((hmem a).1 ⟨p,hp,ha⟩)
   have h2:=hf c ((hmem c).1 ⟨q,hq,hc⟩)
   exact hne (by rw[ha,hc,show a=c by omega])
  have hp:(L.map g).Perm (Z2i N f):=by
   rw[List.perm_ext_iff_of_nodup hnd (Y1n N f)]
   intro i
   rw[List.mem_map,Z7s]
   constructor
   ·rintro⟨p,hp,rfl⟩
    obtain⟨a,ha⟩:=Y0u hk (hke p hp)
    have h1:=(hmem a).1 ⟨p,hp,ha⟩
    have h2:=hf a h1
    rw[hg p a ha,show((a.toNat:Nat):Int)=a by omega]
    exact⟨by omega,h1⟩
   ·rintro⟨_,h1⟩
    obtain⟨p,hp,he⟩:=(hmem i).2 h1
    exact⟨p,hp,by rw[hg p _ he];simp⟩
  have:=hp.length_eq
  simpa using this
 refine⟨_,⟨es,clock,hb,F,by omega,by rw[hL]⟩,h2,?_⟩
 rw[size_eq,length_sorted,hlen]
theorem MapI.tight{α:Type}{enc:α→Value}{f:Int→Option α}{w:World}{k:TypeId}{b n:Nat}(h:MapI w k b n enc f)(hk:Tryz.prog.underlying k=some (.int .i64)){N:Nat}(hf:Small N f):MapI w k b N enc f:=by
 obtain⟨D,h1,h2,_⟩:=h.count hk hf
 exact⟨D,h1.mono (X6v N f),h2⟩
theorem MapI.len{α:Type}{enc:α→Value}{f:Int→Option α}{w:World}{k t e:TypeId}{b n:Nat}(h:MapI w k b n enc f)(hk:Tryz.prog.underlying k=some (.int .i64))(ht:Tryz.prog.underlying t=some (.map k e)){N:Nat}(hf:Small N f)(ty:TypeId):
  (Builtin.len_ #[t] ty #[.map (some b)]).run Tryz.prog w= .ok (.int .i64 ((Z2i N f).length:Int)) w:=by
 obtain⟨D,h1,h2,h3⟩:=h.count hk hf
 rw[←h3]
 exact h1.len ht ty
theorem MapI.clear{α:Type}{enc:α→Value}{f:Int→Option α}{w:World}{k t e:TypeId}{b n:Nat}(h:MapI w k b n enc f)(ht:Tryz.prog.underlying t=some (.map k e)):
  ∃w',(∀ty,(Builtin.clear_ #[t] ty #[.map (some b)]).run Tryz.prog w= .ok (.tuple #[]) w')∧MapI w' k b 0 enc (fun _=>none)∧But b w w':=by
 obtain⟨D,⟨es,clock,hb,F,hs,jH⟩,h2⟩:=h
 refine⟨ChangeMaps.setBlock w b (.map #[] clock),fun ty=>by simp[Builtin.clear_,run_underlying ht,MapKept.run_getObj_map hb,MapKept.run_setObj_map _ hb,Result.andThen,ChangeMaps.setBlock],?_,?_⟩
 ·exact⟨_,⟨#[],clock,ChangeMaps.heap_setBlock_same hb _,⟨by simp,MapKept.stamped_empty clock,by simp⟩,Nat.le_refl _,rfl⟩,MapD.start⟩
 ·exact X0s hb _
end
section
open Go.RowKit
section
variable {P:Program} {α:Type} {t e:TypeId} {size bytes:Nat} {enc:α→List Value}
theorem V3x(el:Elem P t e size bytes)(henc:∀x,(enc x).length=size)(h1:∀x,∀u∈enc x,u.oneCell'=true){o:Oper}{a:Act}{w:World}{K:Act→World→Prop}{Q:Exit→Act→World→Prop}(s x:Operand)
 (ho:o.op= .call { callee:= .builtin .append,args:=#[s,x],argTypes:=#[t,t]})
 {base:Nat}(v:Value)(xs:List α)(hs:a.eval s=v)(hown:OwnL w base e size enc v xs)(hbase:base≤w.heap.size)
 (A:Option Addr)(m c:Nat)(ys:List α)(hx:a.eval x= .slice A m c)(hm:m=ys.length)(hsrc:Src w A m size (ys.flatMap enc))
 (h63:xs.length+ys.length≤1000000000)(hbytes:bytes≤100000)
 (h:∀A' c' w',OwnL w' base e size enc (.slice A' (xs++ys).length c') (xs++ys)→w.grownBy w' v.ownBlock→(∀k,(Value.slice A' (xs++ys).length c').ownBlock=some k→v.ownBlock=some k∨w.heap.size≤k)→K (a.put o.dst (.slice A' (xs++ys).length c')) w'):o.wp P a w K Q:=by
 subst hm
 obtain⟨i,z,hi,hz,hsize,hby,hzs⟩:=el.hi
 have h1':∀u∈ys.flatMap enc,u.oneCell'=true:=fun u hu=>by
  obtain⟨y,_,hy⟩:=List.mem_flatMap.1 hu
  exact h1 y u hy
 have hb:(xs.length+ys.length)*bytes≤140737488355328:=Nat.le_trans (Nat.mul_le_mul h63 hbytes) (by omega)
 have go:∀v' w',(Builtin.append_ #[t,t] o.type #[v,.slice A ys.length c]).run P w= .ok v' w'→w'.ownsRow base e size v' (xs.length+ys.length) (xs.flatMap enc++ys.flatMap enc)→w.grownBy w' v.ownBlock→(∀k,v'.ownBlock=some k→v.ownBlock=some k∨w.heap.size≤k)→o.wp P a w K Q:=fun v' w' hr h2 h3 h4=>by
  have hown2:OwnL w' base e size enc v' (xs++ys):=by
   unfold OwnL
   rw[List.length_append,List.flatMap_append]
   exact h2
  obtain⟨A',c',rfl⟩:=hown2.form
  unfold Oper.wp execOp
  simp only[ho,resolve,invoke,builtin,Sem.run_bind,Sem.run_pure,Result.andThen_ok,List.map_toArray,List.map_cons,List.map_nil,hs,hx,hr]
  exact h A' c' w' hown2 h3 h4
 by_cases hm:0<ys.length
 ·obtain⟨b,off,rfl,_,hc⟩:=hsrc.2 hm
  obtain⟨v',w',hr,h2,h3,h4⟩:=Z7k (P:=P) w base t o.type e i z size bytes el.ht hi hz hsize hby hzs el.pos v xs.length (xs.flatMap enc) hown ⟨b,off,none⟩ ys.length c (ys.flatMap enc) hsrc.1 (fun j u hu=>by rw[Addr.add_lit];exact hc j u hu) h1' (by simp[maxLen];omega) hb hbase
  exact go v' w' hr h2 h3 h4
 ·obtain rfl:ys= []:=List.eq_nil_of_length_eq_zero (by omega)
  cases A with
  | some ad=>
    obtain⟨v',w',hr,h2,h3,h4⟩:=Z7k (P:=P) w base t o.type e i z size bytes el.ht hi hz hsize hby hzs el.pos v xs.length (xs.flatMap enc) hown ad 0 c [] (by simp) (by simp) (by simp) (by simp[maxLen];omega) hb hbase
    exact go v' w' hr (by simpa using h2) h3 h4
  | none=>
    have hr:=Z4y (P:=P) w base t o.type e i size el.ht hi v xs.length (xs.flatMap enc) hown c
    exact go v w hr (by simpa [OwnL]using hown) (World.grownBy.refl _ _) (fun k q=> .inl q)
theorem Y8l(el:Elem P t e size bytes)(henc:∀x,(enc x).length=size)(h1:∀x,∀u∈enc x,u.oneCell'=true){ops:Array Oper}{rest:List Oper}{o:Oper}{a:Act}{w:World}{Q:Exit→Act→World→Prop}(hgd:o.guard=none)(s x:Operand)
 (ho:o.op= .call { callee:= .builtin .append,args:=#[s,x],argTypes:=#[t,t]})
 {base:Nat}(v:Value)(xs:List α)(hs:a.eval s=v)(hown:OwnL w base e size enc v xs)(hbase:base≤w.heap.size)
 (A:Option Addr)(m c:Nat)(ys:List α)(hx:a.eval x= .slice A m c)(hm:m=ys.length)(hsrc:Src w A m size (ys.flatMap enc))
 (h63:xs.length+ys.length≤1000000000)(hbytes:bytes≤100000)
 (h:∀A' c' w',OwnL w' base e size enc (.slice A' (xs++ys).length c') (xs++ys)→w.grownBy w' v.ownBlock→(∀k,(Value.slice A' (xs++ys).length c').ownBlock=some k→v.ownBlock=some k∨w.heap.size≤k)→wpList P ops Q rest (a.put o.dst (.slice A' (xs++ys).length c')) w'):wpList P ops Q (o::rest) a w:=
 wpList_plain hgd fun _ hK=>V3x el henc h1 s x ho v xs hs hown hbase A m c ys hx hm hsrc h63 hbytes fun A' c' w' h2 h3 h4=>hK _ _ (h A' c' w' h2 h3 h4)
end
end
end Go.Proofs.YtmiolpfanlpfnaaGreat
