/- journal.WriteHead. Conditions: numbers that their places hold. -/
import Derived.Test.YtohaldfnmgcofaaGreatT05
set_option maxRecDepth 100000
set_option maxHeartbeats 4000000
set_option linter.unusedSimpArgs false
set_option linter.unusedVariables false
namespace Go.Proofs.YtohaldfnmgcofaaGreat
section
open Go.RowKit
structure HeadD where
 seq:Nat
 used:Nat
 room:Nat
 pages:Nat
structure HeadOk (h:HeadD):Prop where
 seq:h.seq<18446744073709551616
 used:h.used<4294967296
 room:h.room<4294967296
 pages:h.pages<4294967296
def HeadD.cells(h:HeadD):List Value:= [.int .u64 h.seq,.int .i64 h.used,.int .i64 h.room,.int .i64 h.pages]
def HeadD.val(h:HeadD):Value:= .agg h.cells.toArray
def Z1g(h:HeadD):List UInt8:=Z0g h.seq 8++Z0g h.used 4++Z0g h.room 4++Z0g h.pages 4
def notL(l:List UInt8):List UInt8:=l.map fun b=>UInt8.ofNat (255-b.toNat)
theorem Y0g(h:HeadD):(Z1g h).length=20:=by simp[Z1g,Z0m]
theorem Y8e(l:List UInt8):(notL l).length=l.length:=by simp[notL]
theorem notA(l:List UInt8)(w:World)(hs:l.length<=1000000000):cQ 199 #[.string (bts l)] w fun e w'=>e= .returned (.string (bts (notL l)))/\Ext w w':=by have:=V1u (bts l) w (by rw[Z0e];exact hs);rwa [Z1r]at this
theorem Y7d(h:HeadD)(w:World)(hh:HeadOk h):cQ 159 #[.agg #[.int .u64 h.seq,.int .i64 h.used,.int .i64 h.room,.int .i64 h.pages]] w fun e w'=>e= .returned (.string (bts (Z1g h++notL (Z1g h))))/\Ext w w':=by
 obtain⟨h1,h2,h3,h4⟩:=hh;have b1:bts (Z0g h.seq 8)++bts (Z0g h.used 4)=bts (Z0g h.seq 8++Z0g h.used 4):=Z7y _ _;have b2:bts (Z0g h.seq 8++Z0g h.used 4)++bts (Z0g h.room 4)=bts (Z0g h.seq 8++Z0g h.used 4++Z0g h.room 4):=Z7y _ _;have b3:bts (Z0g h.seq 8++Z0g h.used 4++Z0g h.room 4)++bts (Z0g h.pages 4)=bts (Z1g h):=Z7y _ _;have b4:bts (Z1g h)++bts (notL (Z1g h))=bts (Z1g h++notL (Z1g h)):=Z7y _ _;have s1:¬9223372036854775807<(bts (Z0g h.seq 8)).size+(bts (Z0g h.used 4)).size:=by rw[Z0e,Z0e,Z0m,Z0m];omega
 have s2:¬9223372036854775807<(bts (Z0g h.seq 8++Z0g h.used 4)).size+(bts (Z0g h.room 4)).size:=by rw[Z0e,Z0e,aA,Z0m,Z0m,Z0m];omega
 have s3:¬9223372036854775807<(bts (Z0g h.seq 8++Z0g h.used 4++Z0g h.room 4)).size+(bts (Z0g h.pages 4)).size:=by rw[Z0e,Z0e,aA,aA,Z0m,Z0m,Z0m,Z0m];omega
 have s4:¬9223372036854775807<(bts (Z1g h)).size+(bts (notL (Z1g h))).size:=by rw[Z0e,Z0e,Y8e,Y0g];omega
 have c1:Hid (∀W,cQ 144 #[.int .u64 h.seq,.int .i64 8] W fun e w'=>e= .returned (.string (bts (Z0g h.seq 8)))/\Ext W w'):=fun W=>Z5d h.seq 8 (by omega) h1 W;have c2:Hid (∀W,cQ 144 #[.int .u64 h.used,.int .i64 4] W fun e w'=>e= .returned (.string (bts (Z0g h.used 4)))/\Ext W w'):=fun W=>Z5d h.used 4 (by omega) (by omega) W;have c3:Hid (∀W,cQ 144 #[.int .u64 h.room,.int .i64 4] W fun e w'=>e= .returned (.string (bts (Z0g h.room 4)))/\Ext W w'):=fun W=>Z5d h.room 4 (by omega) (by omega) W;have c4:Hid (∀W,cQ 144 #[.int .u64 h.pages,.int .i64 4] W fun e w'=>e= .returned (.string (bts (Z0g h.pages 4)))/\Ext W w'):=fun W=>Z5d h.pages 4 (by omega) (by omega) W;have c5:=hD (fun W=>notA (Z1g h) W (by rw[Y0g];omega));obtain⟨f1,hf1⟩:∃f,bts (Z0g h.seq 8)=f:=⟨_,rfl⟩;obtain⟨f2,hf2⟩:∃f,bts (Z0g h.used 4)=f:=⟨_,rfl⟩;obtain⟨f3,hf3⟩:∃f,bts (Z0g h.room 4)=f:=⟨_,rfl⟩;obtain⟨f4,hf4⟩:∃f,bts (Z0g h.pages 4)=f:=⟨_,rfl⟩;obtain⟨f12,hf12⟩:∃f,bts (Z0g h.seq 8++Z0g h.used 4)=f:=⟨_,rfl⟩;obtain⟨f123,hf123⟩:∃f,bts (Z0g h.seq 8++Z0g h.used 4++Z0g h.room 4)=f:=⟨_,rfl⟩;obtain⟨fh,hfh⟩:∃f,bts (Z1g h)=f:=⟨_,rfl⟩;obtain⟨fn,hfn⟩:∃f,bts (notL (Z1g h))=f:=⟨_,rfl⟩;obtain⟨fz,hfz⟩:∃f,bts (Z1g h++notL (Z1g h))=f:=⟨_,rfl⟩;rw[hf1]at b1 s1 c1;rw[hf2]at b1 s1 c2;rw[hf3]at b2 s2 c3;rw[hf4]at b3 s3 c4;rw[hf12]at b1 b2 s2;rw[hf123]at b2 b3 s3;rw[hfh]at b3 b4 s4 c5;rw[hfn]at b4 s4 c5;rw[hfz]at b4 ⊢;clear hf1 hf2 hf3 hf4 hf12 hf123 hfh hfn hfz;obtain⟨sq,us,ro,pa⟩:=h;dsimp only at *;have u2:IntKind.u64.wrap (us:Int)=(us:Int):=by rw[IntKind.wrap_u64];omega
 have u3:IntKind.u64.wrap (ro:Int)=(ro:Int):=by rw[IntKind.wrap_u64];omega
 have u4:IntKind.u64.wrap (pa:Int)=(pa:Int):=by rw[IntKind.wrap_u64];omega
 have HKS:Hid (∀W,Ext (w.alloc (.cells #[.int .u64 sq,.int .i64 us,.int .i64 ro,.int .i64 pa] 207)) W->W.cell? ⟨w.heap.size,0,none⟩=some (.int .u64 sq)/\W.cell? ⟨w.heap.size,1,none⟩=some (.int .i64 us)/\W.cell? ⟨w.heap.size,2,none⟩=some (.int .i64 ro)/\W.cell? ⟨w.heap.size,3,none⟩=some (.int .i64 pa)):=fun W hW=>by have hr:=(Row1.made w 207 [.int .u64 sq,.int .i64 us,.int .i64 ro,.int .i64 pa]).ext hW (by simp);exact⟨hr.cell 0,hr.cell 1,hr.cell 2,hr.cell 3⟩
 have HX0:Hid (Ext (w.alloc (.cells #[.int .u64 sq,.int .i64 us,.int .i64 ro,.int .i64 pa] 207)) (w.alloc (.cells #[.int .u64 sq,.int .i64 us,.int .i64 ro,.int .i64 pa] 207))):=Ext.refl _;go_enter Tryz.func159,Tryz.ntmps159;go_upto_region 1 with fail;refine wp_region_held_drew (S:=fun W=>W.cell? ⟨w.heap.size,0,none⟩=some (.int .u64 sq)/\W.cell? ⟨w.heap.size,1,none⟩=some (.int .i64 us)/\W.cell? ⟨w.heap.size,2,none⟩=some (.int .i64 ro)/\W.cell? ⟨w.heap.size,3,none⟩=some (.int .i64 pa)) (by kernel_rfl) (HKS.out _ (by exact Xx (HX0.out))) (fun hHeld=> ?_);refine' tk 0 ?_;refine' tk 1 ?_;refine' tk 3 ?_;refine' tk 4 ?_;refine' tk 5 ?_;refine' tk 8 ?_;refine' tk 9 ?_;refine' tk 10 ?_;refine' tk 13 ?_;refine' tk 14 ?_;refine' tk 15 ?_;refine stp 2 (fun K hK=> ?_);go_simp;refine(c1.out _).mono ?_;rintro e w1 ⟨rfl,hb1⟩;have HB:Hid (Ext (w.alloc (.cells #[.int .u64 sq,.int .i64 us,.int .i64 ro,.int .i64 pa] 207)) w1):=Ext.trans (by exact Xx (HX0.out)) hb1;clear hb1
 (try dsimp only)
 (try go_simp)
 refine hK.out _ _ (HKS.out _ HB.out) (fun hHeld=> ?_);clear hK K;refine pt ?_;refine stp 6 (fun K hK=> ?_);go_simp;refine(c2.out _).mono ?_;rintro e w2 ⟨rfl,hb2⟩;have HB:Hid (Ext (w.alloc (.cells #[.int .u64 sq,.int .i64 us,.int .i64 ro,.int .i64 pa] 207)) w2):=Ext.trans (by exact Xx (HB.out)) hb2;clear hb2
 (try dsimp only)
 (try go_simp)
 refine hK.out _ _ (HKS.out _ HB.out) (fun hHeld=> ?_);clear hK K;refine pt ?_;refine' tk 7 ?_;refine stp 11 (fun K hK=> ?_);go_simp;refine(c3.out _).mono ?_;rintro e w3 ⟨rfl,hb3⟩;have HB:Hid (Ext (w.alloc (.cells #[.int .u64 sq,.int .i64 us,.int .i64 ro,.int .i64 pa] 207)) w3):=Ext.trans (by exact Xx (HB.out)) hb3;clear hb3
 (try dsimp only)
 (try go_simp)
 refine hK.out _ _ (HKS.out _ HB.out) (fun hHeld=> ?_);clear hK K;refine pt ?_;refine' tk 12 ?_;refine stp 16 (fun K hK=> ?_);go_simp;refine(c4.out _).mono ?_;rintro e w4 ⟨rfl,hb4⟩;have HB:Hid (Ext (w.alloc (.cells #[.int .u64 sq,.int .i64 us,.int .i64 ro,.int .i64 pa] 207)) w4):=Ext.trans (by exact Xx (HB.out)) hb4;clear hb4
 (try dsimp only)
 (try go_simp)
 refine hK.out _ _ (HKS.out _ HB.out) (fun hHeld=> ?_);clear hK K;refine pt ?_;refine' tk 17 ?_;refine' tk 18 ?_;refine wpAnyH_done (by kernel_rfl) ?_ _;go_wp2_with (go_at_call 199;refine(c5.out _).mono ?_;rintro e w5 ⟨rfl,hb5⟩);go_ret;exact⟨rfl,Ext.trans (Ext.trans (by exact Xt) HB.out) (Ext.trans (by exact Xt) hb5)⟩
def Z2w(b:ByteArray)(i j:Nat):Nat:=Z3x (b.extract i j).data.toList
theorem X1r(l:List UInt8):Z3x l<2 ^ (8*l.length):=X9n l l.length
theorem X4s(b:ByteArray)(i:Nat)(h:i+4<=b.size):Z2w b i (i+4)<4294967296:=by
 have h1:=X1r (b.extract i (i+4)).data.toList;have h2:(b.extract i (i+4)).data.toList.length=4:=by rw[Array.length_toList];show(b.extract i (i+4)).size=4;rw[ByteArray.size_extract];omega
 rw[h2]at h1;exact h1
theorem X7f(b:ByteArray)(f B:Nat)(w:World)(h:w.cell? ⟨B,0,none⟩=some (.string b))(hf:f+4<=b.size)(hb:b.size<=1000000):
  cQ 200 #[.int .i64 f,tp B] w fun e w'=>e= .returned (.int .i64 (Z2w b f (f+4)))/\w=w':=by
 have q1:(f:Int)+4<=b.size:=by omega
 have q2:((f:Int)+4).toNat=f+4:=by omega
 have q3:(0:Int)<=(f:Int)+4:=by omega
 have q4:(f:Int)<=(f:Int)+4:=by omega
 have hs:(b.extract f (f+4)).size<=8:=by rw[ByteArray.size_extract];omega
 have cU:=Z8z (b.extract f (f+4)) hs w;have hlt:=X4s b f hf;have hw:wrap64 (Z2w b f (f+4):Int)=(Z2w b f (f+4):Int):=by unfold wrap64;omega
 change Calls _ _ _ _ (fun e w'=>e= .returned (.int .u64 (Z2w b f (f+4)))/\w=w')at cU;generalize Z2w b f (f+4)=n at *;clear hs;go_enter Tryz.func200,Tryz.ntmps200;go_wp2_with (go_at_call 136;refine cU.mono ?_;clear cU;rintro e w1 ⟨rfl,rfl⟩);go_ret
 first | exact⟨rfl,rfl⟩ | exact⟨by rw[<-hw];rfl,rfl⟩
theorem Y2s{fn:Func}(h:fn.results= #[.cell 2 207,.tmp 3])(tmps:Array Value)(w:World)(B:Nat)(hd:HeadD)(v:Value)(hB:tmps.getD 2 undef= tp B)(hv:tmps.getD 3 undef=v)(hr:Row1 w B 207 hd.cells):
  (results fn tmps).run Tryz.prog w= .ok (.tuple #[hd.val,v]) w:=by
 rw[results_cell_tmp h,hB,hv];have c0:w.cell? ⟨B,0,none⟩=some (.int .u64 hd.seq):=hr.cell 0;have c1:w.cell? ⟨B,1,none⟩=some (.int .i64 hd.used):=hr.cell 1;have c2:w.cell? ⟨B,2,none⟩=some (.int .i64 hd.room):=hr.cell 2;have c3:w.cell? ⟨B,3,none⟩=some (.int .i64 hd.pages):=hr.cell 3;unfold HeadD.val HeadD.cells
 go_simp
def Z4l(b:ByteArray):HeadD×Bool:=
 if(bts (notL (b.extract 0 20).data.toList)).toList==(b.extract 20 40).toList then(⟨Z2w b 0 8,Z2w b 8 12,Z2w b 12 16,Z2w b 16 20⟩,true)else(⟨0,0,0,0⟩,false)
theorem Y9y(b:ByteArray)(w:World)(hb1:40<=b.size)(hb2:b.size<=1000000):
  cQ 161 #[.string b] w fun e w'=>e= .returned (.tuple #[(Z4l b).1.val,.bool (Z4l b).2])/\Ext w w':=by
 have q1:decide ((b.size:Int)<40)=false:=aM;have q2:(20:Int)<=b.size:=by omega
 have q3:(40:Int)<=b.size:=by omega
 have q4:(8:Int)<=b.size:=by omega
 have cN:Hid (∀W,cQ 199 #[.string (b.extract 0 20)] W fun e w'=>e= .returned (.string (bts (notL (b.extract 0 20).data.toList)))/\Ext W w'):=fun W=>V1u (b.extract 0 20) W (by rw[ByteArray.size_extract];omega);have HKS:Hid (∀W,Ext (w.alloc (.cells #[.string b] 9)) W->W.cell? ⟨w.heap.size,0,none⟩=some (.string b)):=fun W hW=>((Row1.made w 9 [.string b]).ext hW (by simp)).cell 0;have HA:Hid (∀(f:Nat) (W:World),W.cell? ⟨w.heap.size,0,none⟩=some (.string b)->f+4<=b.size->cQ 200 #[.int .i64 f,tp w.heap.size] W fun e w'=>e= .returned (.int .i64 (Z2w b f (f+4)))/\W=w'):=fun f W h1 h2=>X7f b f _ W h1 h2 hb2;have cU:Hid (∀W,cQ 136 #[.string (b.extract 0 8)] W fun e w'=>e= .returned (.int .u64 (Z2w b 0 8))/\W=w'):=fun W=>Z8z (b.extract 0 8) (by rw[ByteArray.size_extract];omega) W;have HRH:Hid (Z4l b=if(bts (notL (b.extract 0 20).data.toList)).toList==(b.extract 20 40).toList then(⟨Z2w b 0 8,Z2w b 8 12,Z2w b 12 16,Z2w b 16 20⟩,true)else(⟨0,0,0,0⟩,false)):=rfl;obtain⟨N,hN⟩:∃N,bts (notL (b.extract 0 20).data.toList)=N:=⟨_,rfl⟩;rw[hN]at cN HRH;obtain⟨bb,hbb⟩:∃bb,(N.toList==(b.extract 20 40).toList)=bb:=⟨_,rfl⟩;rw[hbb]at HRH;obtain⟨R,hR⟩:∃R,Z4l b=R:=⟨_,rfl⟩;rw[hR]at HRH ⊢;clear hR hN;obtain⟨W0,hW0⟩:∃W0,(w.alloc (.cells #[.string b] 9)).alloc (.cells #[.int .u64 0,.int .i64 0,.int .i64 0,.int .i64 0] 207)=W0:=⟨_,rfl⟩;have HW0:Hid (Ext (w.alloc (.cells #[.string b] 9)) W0/\Row1 W0 (w.heap.size+1) 207 (⟨0,0,0,0⟩:HeadD).cells/\W0.heap.size=w.heap.size+2):=by subst hW0;exact⟨by exact Xt,Row1.made' (by simp) _ _,by simp⟩
 go_enter Tryz.func161,Tryz.ntmps161;go_upto_region 1 with fail;clear hW0;refine wp_region_held_drew (S:=fun W=>W.cell? ⟨w.heap.size,0,none⟩=some (.string b)) (by kernel_rfl) (HKS.out _ (Ext.trans HW0.out.1 (by exact Xt))) (fun hHeld=> ?_);refine' tk 0 ?_;refine' tk 1 ?_;refine' tk 2 ?_;refine' tk 3 ?_;refine' tk 4 ?_;refine' tk 5 ?_;refine' tk 7 ?_;refine' tk 8 ?_;refine stp 6 (fun K hK=> ?_);go_simp;refine(cN.out _).mono ?_;rintro e w1 ⟨rfl,hb1⟩;have HB:Hid (Ext W0 w1):=Ext.trans (by exact Xt) hb1;clear hb1
 (try dsimp only)
 (try go_simp)
 refine hK.out _ _ (HKS.out _ (Ext.trans HW0.out.1 HB.out)) (fun hHeld=> ?_);clear hK K;refine pt ?_;refine' tk 9 ?_;refine' tk 10 ?_;refine wpAnyH_done (by kernel_rfl) ?_ _;have hz0:=HW0.out.2.2;have hlt:w.heap.size+1<W0.heap.size:=by omega
 have HR1:Hid (Row1 w1 (w.heap.size+1) 207 (⟨0,0,0,0⟩:HeadD).cells):=HW0.out.2.1.ext HB.out hlt;have k0:w1.cell? ⟨w.heap.size,0,none⟩=some (.string b):=HKS.out _ (Ext.trans HW0.out.1 HB.out);have b0:w1.cell? ⟨w.heap.size+1,0,none⟩=some (.int .u64 0):=HR1.out.cell 0;have b1:w1.cell? ⟨w.heap.size+1,1,none⟩=some (.int .i64 0):=HR1.out.cell 1;have b2:w1.cell? ⟨w.heap.size+1,2,none⟩=some (.int .i64 0):=HR1.out.cell 2;have b3:w1.cell? ⟨w.heap.size+1,3,none⟩=some (.int .i64 0):=HR1.out.cell 3;have f0:=HR1.out.soft 0;have f1:=HR1.out.soft 1;have f2:=HR1.out.soft 2;have f3:=HR1.out.soft 3;have HXF:Hid (Ext w w1):=Ext.trans (Ext.trans (by exact Xt) HW0.out.1) HB.out;have hb0:=HR1.out.lt;cases bb
 ·rw[if_neg (by decide)]at HRH;go_wp2_with fail;refine bodyPost_ret (Y2s rfl _ _ (w.heap.size+1) ⟨0,0,0,0⟩ _ rfl rfl ((((HR1.out.set 0 _).set 1 _).set 2 _).set 3 _)) rfl ?_;rw[HRH.out];exact⟨rfl,by exact Xx (HXF.out)⟩
 ·rw[if_pos rfl]at HRH;have a1:cQ 200 #[.int .i64 8,tp w.heap.size] w1 fun e w'=>e= .returned (.int .i64 (Z2w b 8 12))/\w1=w':=HA.out 8 w1 k0 (by omega);have a2:cQ 200 #[.int .i64 12,tp w.heap.size] w1 fun e w'=>e= .returned (.int .i64 (Z2w b 12 16))/\w1=w':=HA.out 12 w1 k0 (by omega);have a3:cQ 200 #[.int .i64 16,tp w.heap.size] w1 fun e w'=>e= .returned (.int .i64 (Z2w b 16 20))/\w1=w':=HA.out 16 w1 k0 (by omega);go_wp2_with fail;refine(cU.out _).mono ?_;rintro e w2 ⟨rfl,rfl⟩;go_wp2_with fail;refine a1.mono ?_;rintro e w2 ⟨rfl,rfl⟩;go_wp2_with fail;refine a2.mono ?_;rintro e w2 ⟨rfl,rfl⟩;go_wp2_with fail;refine a3.mono ?_;rintro e w2 ⟨rfl,rfl⟩;go_wp2_with fail;refine bodyPost_ret (Y2s rfl _ _ (w.heap.size+1) ⟨Z2w b 0 8,Z2w b 8 12,Z2w b 12 16,Z2w b 16 20⟩ _ rfl rfl ((((HR1.out.set 0 _).set 1 _).set 2 _).set 3 _)) rfl ?_;rw[HRH.out];exact⟨rfl,by exact Xx (HXF.out)⟩
theorem X5l(n:Nat)(h:n<4294967296):Z3x (Z0g n 4)=n:=by rw[Z9r];exact Nat.mod_eq_of_lt (by simpa using h)
theorem Z7g(l a m r:List UInt8)(i j:Nat)(hl:l=a++m++r)(hi:a.length=i)(hj:i+m.length=j):Z2w (bts l) i j=Z3x m:=by
 unfold Z2w;have e:((bts l).extract i j).data.toList=m:=by subst hl hi hj;simp[bts]
 rw[e]
theorem X7e(h:HeadD)(hh:HeadOk h)(r:List UInt8):Z4l (bts (Z1g h++notL (Z1g h)++r))=(h,true):=by
 have hl:=Y0g h;have hn:(notL (Z1g h)).length=20:=by rw[Y8e,hl]
 have e1:((bts (Z1g h++notL (Z1g h)++r)).extract 0 20).data.toList=Z1g h:=by
  have:((bts (Z1g h++notL (Z1g h)++r)).extract 0 20).data.toList=(Z1g h++notL (Z1g h)++r).take 20:=by simp[bts]
  rw[this,aG,List.take_left' hl]
 have e2:((bts (Z1g h++notL (Z1g h)++r)).extract 20 40).data.toList=notL (Z1g h):=by
  have:((bts (Z1g h++notL (Z1g h)++r)).extract 20 40).data.toList=((Z1g h++notL (Z1g h)++r).drop 20).take 20:=by simp[bts]
  rw[this,aG,List.drop_left' hl,List.take_left' hn]
 unfold Z4l;rw[e1,ByteArray.toList_eq,ByteArray.toList_eq,e2,Z1r,beq_self_eq_true,if_pos rfl];have p1:=Z7g (Z1g h++notL (Z1g h)++r) [] (Z0g h.seq 8) (Z0g h.used 4++Z0g h.room 4++Z0g h.pages 4++notL (Z1g h)++r) 0 8 (by simp[Z1g]) rfl (by simp[Z0m]);have p2:=Z7g (Z1g h++notL (Z1g h)++r) (Z0g h.seq 8) (Z0g h.used 4) (Z0g h.room 4++Z0g h.pages 4++notL (Z1g h)++r) 8 12 (by simp[Z1g]) (Z0m _ _) (by simp[Z0m]);have p3:=Z7g (Z1g h++notL (Z1g h)++r) (Z0g h.seq 8++Z0g h.used 4) (Z0g h.room 4) (Z0g h.pages 4++notL (Z1g h)++r) 12 16 (by simp[Z1g]) (by simp[Z0m]) (by simp[Z0m]);have p4:=Z7g (Z1g h++notL (Z1g h)++r) (Z0g h.seq 8++Z0g h.used 4++Z0g h.room 4) (Z0g h.pages 4) (notL (Z1g h)++r) 16 20 (by simp[Z1g]) (by simp[Z0m]) (by simp[Z0m]);rw[p1,p2,p3,p4,X5l _ hh.used,X5l _ hh.room,X5l _ hh.pages,Z9r,Nat.mod_eq_of_lt (by simpa using hh.seq)]
theorem X7d:(Z4l zeroB).2=false:=by rw[<-Z8q];unfold Z4l;rw[if_neg];decide +kernel
theorem V4a(l:List ByteArray)(j:Nat)(hj:j<l.length):(l.flatMap encS)[j]? =some (.string l[j]):=by have:=Z3j encS 1 Z0d l j _ (aB hj) 0 _ rfl;simpa using this
theorem Z7i{w:World}{base:Nat}{e:TypeId}{v:Value}{l:List ByteArray}(h:OwnL w base e 1 encS v l):∃A c,v= .slice A l.length c/\l.length<=c/\c<=9223372036854775807/\
  (0<l.length->∃b,A=some ⟨b,0,none⟩/\base<=b/\b<w.heap.size/\(∀i,w.frozen? ⟨b,i,none⟩=false)/\∀i (hi:i<l.length),w.cell? ⟨b,i,none⟩=some (.string l[i])):=by
 have h':w.ownsRow base e 1 v l.length (l.flatMap encS):=h;obtain⟨A,c,rfl,h1,h2,h3⟩:=Z3c h';exact⟨A,c,rfl,h1,h2,fun h0=>by
  obtain⟨b,q1,q2,q3,q4,q5⟩:=h3 h0;exact⟨b,q1,q2,q3,q4,fun i hi=>q5 i _ (V4a l i hi)⟩⟩
theorem V4b(l:List (Nat×ByteArray))(j:Nat)(hj:j<l.length):(l.flatMap encP)[j*2]? =some (.int .i64 l[j].1)/\(l.flatMap encP)[j*2+1]? =some (.string l[j].2):=
 ⟨Z3j encP 2 Y2y l j _ (aB hj) 0 _ rfl,Z3j encP 2 Y2y l j _ (aB hj) 1 _ rfl⟩
theorem Y4e{w:World}{base:Nat}{e:TypeId}{v:Value}{l:List (Nat×ByteArray)}(h:OwnL w base e 2 encP v l):∃A c,v= .slice A l.length c/\l.length<=c/\c<=9223372036854775807/\
  (0<l.length->∃b,A=some ⟨b,0,none⟩/\base<=b/\b<w.heap.size/\(∀i,w.frozen? ⟨b,i,none⟩=false)/\∀i (hi:i<l.length),w.cell? ⟨b,i*2,none⟩=some (.int .i64 l[i].1)/\w.cell? ⟨b,i*2+1,none⟩=some (.string l[i].2)):=by
 have h':w.ownsRow base e 2 v l.length (l.flatMap encP):=h;obtain⟨A,c,rfl,h1,h2,h3⟩:=Z3c h';exact⟨A,c,rfl,h1,h2,fun h0=>by
  obtain⟨b,q1,q2,q3,q4,q5⟩:=h3 h0;exact⟨b,q1,q2,q3,q4,fun i hi=>⟨q5 _ _ (V4b l i hi).1,q5 _ _ (V4b l i hi).2⟩⟩⟩
theorem DiskAs.open{w:World}{g:Nat}{F:Nat->Prop}{D:DiskD}{bv lv:Value}(h:DiskAs w g F D bv lv):∃b c,bv= .slice (some ⟨b,0,none⟩) D.blocks.length c/\D.blocks.length<=c/\c<=9223372036854775807/\F b/\b<w.heap.size/\
  (∀i,w.frozen? ⟨b,i,none⟩=false)/\∀i (hi:i<D.blocks.length),w.cell? ⟨b,i,none⟩=some (.string D.blocks[i]):=by
 obtain⟨A,c,rfl,h1,h2,h3⟩:=Z7i h.blocks;obtain⟨b,rfl,_,hlt,hf,hc⟩:=h3 (by have:=h.wf.one;omega);exact⟨b,c,rfl,h1,h2,h.fb b rfl,hlt,hf,hc⟩
theorem Y3t{g:Nat}{F:Nat->Prop}{D:DiskD}(n:Int)(w:World)(h:DiskAt w g F D):
  cQ 157 #[tp g,.int .i64 n] w fun e w'=>e= .returned (.int .i64 (Z4j D n))/\w=w':=by
 obtain⟨bv,lv,h⟩:=h;obtain⟨b,c,rfl,hc1,hc2,_,_,_,_⟩:=h.open;have c0:w.cell? ⟨g,0,none⟩=_:=h.row.cell 0;obtain⟨dd,hd⟩:∃dd,D.dead=dd:=⟨_,rfl⟩;have c3:w.cell? ⟨g,3,none⟩=some (.bool dd):=by rw[<-hd];exact h.row.cell 3
 obtain⟨N,hN⟩:∃N,D.blocks.length=N:=⟨_,rfl⟩;have hw:=h.wf;have h1:=hw.one;have h2:=hw.many;clear h hw;rw[hN]at c0 hc1 h1 h2;have HR:Hid (Z4j D n=if dd=true then 11 else if n<0\/(N:Int)<=n then 10 else 0):=by unfold Hid Z4j;rw[hd,hN]
 rw[HR.out];clear hd hN HR;cases dd
 ·by_cases hn:n<0
  ·have q1:decide (n<0)=true:=decide_eq_true hn;go_enter Tryz.func157,Tryz.ntmps157;go_wp2_with fail;(try (rw [X5m _ _ _ _ _ _ Tryz.underlying164];simp only[Result.andThen];rw[Oper.upon_value]));go_wp2_with fail;go_ret;exact⟨by simp[hn],rfl⟩
  ·have q1:decide (n<0)=false:=decide_eq_false hn;by_cases hm:(N:Int)<=n
   ·have q2:decide ((N:Int)<=n)=true:=decide_eq_true hm;go_enter Tryz.func157,Tryz.ntmps157;go_wp2_with fail;(try (rw [X5m _ _ _ _ _ _ Tryz.underlying164];simp only[Result.andThen];rw[Oper.upon_value]));go_wp2_with fail;go_ret;exact⟨by simp[hm],rfl⟩
   ·have q2:decide ((N:Int)<=n)=false:=decide_eq_false hm;go_enter Tryz.func157,Tryz.ntmps157;go_wp2_with fail;(try (rw [X5m _ _ _ _ _ _ Tryz.underlying164];simp only[Result.andThen];rw[Oper.upon_value]));go_wp2_with fail;go_ret;exact⟨by simp[hn,hm],rfl⟩
 ·go_enter Tryz.func157,Tryz.ntmps157;go_wp2_with fail;(try (rw [X5m _ _ _ _ _ _ Tryz.underlying164];simp only[Result.andThen];rw[Oper.upon_value]));go_wp2_with fail;go_ret;exact⟨by simp,rfl⟩
theorem Y4w{g:Nat}{F:Nat->Prop}{D:DiskD}(w:World)(h:DiskAt w g F D):
  cQ 112 #[tp g] w fun e w'=>e= .returned (.int .i64 D.blocks.length)/\w=w':=by
 obtain⟨bv,lv,h⟩:=h;obtain⟨b,c,rfl,hc1,hc2,_,_,_,_⟩:=h.open;have c0:w.cell? ⟨g,0,none⟩=_:=h.row.cell 0;clear h;go_enter Tryz.func112,Tryz.ntmps112;go_wp2_with fail;go_ret;exact⟨rfl,rfl⟩
theorem X7t(n:Nat)(late:List (Nat×ByteArray))(k:Nat)(hk:k<late.length)(s:ByteArray):Z2z n (late.take (k+1)) s=if late[k].1=n then late[k].2 else Z2z n (late.take k) s:=by unfold Z2z;rw[List.take_add_one,aB hk,List.foldl_append];rfl
theorem Z9h{g:Nat}{F:Nat->Prop}{D:DiskD}(n:Nat)(w:World)(h:DiskAt w g F D)(hd:D.dead=false)(hn:n<D.blocks.length):
  cQ 113 #[tp g,.int .i64 n] w fun e w'=>e= .returned (.tuple #[.string (Z0x D n),.int .i64 0])/\Ext w w':=by
 have hr:=Y3t (n:Int) w h;have hr0:Z4j D n=0:=by unfold Z4j;rw[hd,if_neg (by simp),if_neg (by omega)]
 rw[hr0]at hr;clear hr0;obtain⟨bv,lv,h⟩:=h;obtain⟨b,c,rfl,hc1,hc2,_,_,_,hcb⟩:=h.open;obtain⟨lA,lc,rfl,hl1,hl2,hlx⟩:=Y4e h.late;have c0:w.cell? ⟨g,0,none⟩=_:=h.row.cell 0;have c1:w.cell? ⟨g,1,none⟩=_:=h.row.cell 1;have cn:=hcb n hn;have hm:=h.wf.many;have HL:=hD hlx;obtain⟨s0,hs0⟩:∃s,D.blocks[n]=s:=⟨_,rfl⟩;rw[hs0]at cn;have HB:Hid (Z0x D n=Z2z n D.late s0):=by unfold Hid Z0x;rw[aB hn,hs0];rfl
 rw[HB.out];clear HB hs0 hlx hcb h hd;go_enter Tryz.func113,Tryz.ntmps113;go_wp2_with (go_at_call 157;refine hr.mono ?_;clear hr;rintro e w1 ⟨rfl,rfl⟩)
 go_loopw [7,28] (fun s i wr=>∃k:Nat,k<=D.late.length/\i= .int .i64 k/\s= .string (Z2z n (D.late.take k) s0)/\Ext w wr) (fun _ i _=>D.late.length-(intOf i).toNat)
 case atStart=>exact⟨0,by omega,rfl,rfl,Ext.refl _⟩
 case round=>
  obtain⟨k,hk,rfl,rfl,hx⟩:=hrel;have HX:=hD hx;have hz:=hx.size;clear hx;by_cases hkl:k<D.late.length
  ·obtain⟨lb,rfl,_,hlb,_,hlc⟩:=HL.out (by omega);have d0:wr.cell? ⟨lb,k*2,none⟩=_:=(HX.out.cell (p:=⟨lb,k*2,none⟩) hlb).trans (hlc k hkl).1;have d1:wr.cell? ⟨lb,k*2+1,none⟩=_:=(HX.out.cell (p:=⟨lb,k*2+1,none⟩) hlb).trans (hlc k hkl).2;have HS:=hD (X7t n D.late k hkl s0);obtain⟨a,ha⟩:∃a,D.late[k].1=a:=⟨_,rfl⟩;obtain⟨t,ht⟩:∃t,D.late[k].2=t:=⟨_,rfl⟩;rw[ha]at d0;rw[ht]at d1;have HS:Hid (Z2z n (D.late.take (k+1)) s0=if a=n then t else Z2z n (D.late.take k) s0):=by rw[<-ha,<-ht];exact HS.out
   obtain⟨s,hs⟩:∃s,Z2z n (D.late.take k) s0=s:=⟨_,rfl⟩;rw[hs]at HS ⊢;clear hs;clear ha ht hlc hlb;by_cases hq:a=n
   ·have q1:decide ((a:Int)=n)=true:=aN;go_wp2_with fail
    go_roundw
    case rel=>exact⟨k+1,by omega,by go_num,by rw[HS.out,if_pos hq],by exact Xx (HX.out)⟩
    case measure=>simp[intOf];omega
   ·have q1:decide ((a:Int)=n)=false:=aM;go_wp2_with fail
    go_roundw
    case rel=>exact⟨k+1,by omega,by go_num,by rw[HS.out,if_neg hq],by exact Xx (HX.out)⟩
    case measure=>simp[intOf];omega
  ·obtain rfl:k=D.late.length:=by omega
   go_wp2_with fail
   go_ret2
   rw[List.take_length];exact⟨rfl,HX.out⟩
end
section
open Go.RowKit Go.Maps
def Z2h{α:Type}(N:Nat)(f:Int->Option α):List Nat:=(List.range N).filter fun(i:Nat)=>(f (i:Int)).isSome
theorem Z8i{α:Type}{N:Nat}{f:Int->Option α}{i:Nat}:i∈Z2h N f↔i<N/\(f (i:Int)).isSome=true:=by simp[Z2h]
theorem Y2i{α:Type}(N:Nat)(f:Int->Option α):(Z2h N f).Nodup:=List.nodup_range.sublist List.filter_sublist
theorem X7v{α:Type}(N:Nat)(f:Int->Option α):(Z2h N f).length<=N:=by have:=(List.filter_sublist (l:=List.range N) (p:=fun(i:Nat)=>(f (i:Int)).isSome)).length_le;simpa [Z2h]using this
def Small{α:Type}(N:Nat)(f:Int->Option α):Prop:=∀x,(f x).isSome=true->0<=x/\x<N
theorem Y1r{k:TypeId}(hk:Tryz.prog.underlying k=some (.int .i64)){l:Lit}(h:KeysOf Tryz.prog k l):∃a,l= .int .i64 a:=by
 obtain⟨v,hv⟩:=h;cases v<;>simp[keyOf,hk,mapKey]at hv
 rename_i q a
 obtain⟨⟨rfl,_⟩,rfl⟩:=hv;exact⟨a,rfl⟩
theorem MapI.count{α:Type}{enc:α->Value}{f:Int->Option α}{w:World}{k:TypeId}{b n:Nat}(h:MapI w k b n enc f)(hk:Tryz.prog.underlying k=some (.int .i64)){N:Nat}(hf:Small N f):
  ∃D:DataW Value,w.ownsMap Tryz.prog k Rv b (Z2h N f).length D/\MapD enc f D/\Maps.size D=(Z2h N f).length:=by
 obtain⟨D,⟨es,clock,hb,F,hs,rfl⟩,h2⟩:=h;have hap:=fit_apart (int_keyed hk) F;have hke:=fit_keys F;have hsz:(es.toList.map (WideElems.rg Tryz.prog k Rv)).length=es.size:=by simp
 have hh:∀x:Int,Maps.has (DataW.map ((es.toList.map (WideElems.rg Tryz.prog k Rv)).foldr DataW.insert [])) (.int .i64 x)=(f x).isSome:=h2.has;generalize hL:es.toList.map (WideElems.rg Tryz.prog k Rv)=L at *;have hmem:∀x:Int,(∃p∈L,p.1=Lit.int .i64 x)↔(f x).isSome=true:=fun x=>by
  rw[<-hh x,has_eq,List.any_eq_true];constructor
  ·rintro⟨p,hp,he⟩;exact⟨p,mem_sorted.2 hp,by rw[he];simp[Lit.sameKey]⟩
  ·rintro⟨p,hp,he⟩;exact⟨p,mem_sorted.1 hp,WideAt.sameKey_eq he⟩
 have hlen:L.length=(Z2h N f).length:=by
  obtain⟨g,hg⟩:∃g:Lit×DataW Value->Nat,∀p a,p.1=Lit.int .i64 a->g p=a.toNat:=⟨fun p=>match p.1 with | .int _ a=>a.toNat | _=>0,fun p a h=>by simp[h]⟩;have hnd:(L.map g).Nodup:=by rw[List.nodup_iff_pairwise_ne,List.pairwise_map];refine List.Pairwise.imp_of_mem ?_ hap;intro p q hp hq hne e;obtain⟨a,ha⟩:=Y1r hk (hke p hp);obtain⟨c,hc⟩:=Y1r hk (hke q hq);rw[hg p a ha,hg q c hc]at e;have h1:=hf a ((hmem a).1 ⟨p,hp,ha⟩);have h2:=hf c ((hmem c).1 ⟨q,hq,hc⟩);exact hne (by rw[ha,hc,show a=c by omega])
  have hp:(L.map g).Perm (Z2h N f):=by
   rw[List.perm_ext_iff_of_nodup hnd (Y2i N f)];intro i;rw[List.mem_map,Z8i];constructor
   ·rintro⟨p,hp,rfl⟩;obtain⟨a,ha⟩:=Y1r hk (hke p hp);have h1:=(hmem a).1 ⟨p,hp,ha⟩;have h2:=hf a h1;rw[hg p a ha,show((a.toNat:Nat):Int)=a by omega];exact⟨by omega,h1⟩
   ·rintro⟨_,h1⟩;obtain⟨p,hp,he⟩:=(hmem i).2 h1;exact⟨p,hp,by rw[hg p _ he];simp⟩
  have:=hp.length_eq;simpa using this
 refine⟨_,⟨es,clock,hb,F,by omega,by rw[hL]⟩,h2,?_⟩;rw[size_eq,length_sorted,hlen]
theorem MapI.tight{α:Type}{enc:α->Value}{f:Int->Option α}{w:World}{k:TypeId}{b n:Nat}(h:MapI w k b n enc f)(hk:Tryz.prog.underlying k=some (.int .i64)){N:Nat}(hf:Small N f):MapI w k b N enc f:=by obtain⟨D,h1,h2,_⟩:=h.count hk hf;exact⟨D,h1.mono (X7v N f),h2⟩
theorem MapI.len{α:Type}{enc:α->Value}{f:Int->Option α}{w:World}{k t e:TypeId}{b n:Nat}(h:MapI w k b n enc f)(hk:Tryz.prog.underlying k=some (.int .i64))(ht:Tryz.prog.underlying t=some (.map k e)){N:Nat}(hf:Small N f)(ty:TypeId):
  (Builtin.len_ #[t] ty #[.map (some b)]).run Tryz.prog w= .ok (.int .i64 ((Z2h N f).length:Int)) w:=by
 obtain⟨D,h1,h2,h3⟩:=h.count hk hf;rw[<-h3];exact h1.len ht ty
theorem MapI.clear{α:Type}{enc:α->Value}{f:Int->Option α}{w:World}{k t e:TypeId}{b n:Nat}(h:MapI w k b n enc f)(ht:Tryz.prog.underlying t=some (.map k e)):
  ∃w',(∀ty,(Builtin.clear_ #[t] ty #[.map (some b)]).run Tryz.prog w= .ok (.tuple #[]) w')/\MapI w' k b 0 enc (fun _=>none)/\But b w w':=by
 obtain⟨D,⟨es,clock,hb,F,hs,jH⟩,h2⟩:=h;refine⟨ChangeMaps.setBlock w b (.map #[] clock),fun ty=>by simp[Builtin.clear_,run_underlying ht,MapKept.run_getObj_map hb,MapKept.run_setObj_map _ hb,Result.andThen,ChangeMaps.setBlock],?_,?_⟩
 ·exact⟨_,⟨#[],clock,ChangeMaps.heap_setBlock_same hb _,⟨by simp,MapKept.stamped_empty clock,by simp⟩,aF _,rfl⟩,MapD.start⟩
 ·exact X1k hb _
end
section
open Go.RowKit
section
variable {P:Program} {α:Type} {t e:TypeId} {size bytes:Nat} {enc:α->List Value}
theorem V5c(el:Elem P t e size bytes)(henc:∀x,(enc x).length=size)(h1:∀x,∀u∈enc x,u.oneCell'=true){o:Oper}{a:Act}{w:World}{K:Act->World->Prop}{Q:Exit->Act->World->Prop}(s x:Operand)
 (ho:o.op= .call { callee:= .builtin .append,args:=#[s,x],argTypes:=#[t,t]})
 {base:Nat}(v:Value)(xs:List α)(hs:a.eval s=v)(hown:OwnL w base e size enc v xs)(hbase:base<=w.heap.size)
 (A:Option Addr)(m c:Nat)(ys:List α)(hx:a.eval x= .slice A m c)(hm:m=ys.length)(hsrc:Src w A m size (ys.flatMap enc))
 (h63:xs.length+ys.length<=1000000000)(hbytes:bytes<=100000)
 (h:∀A' c' w',OwnL w' base e size enc (.slice A' (xs++ys).length c') (xs++ys)->w.grownBy w' v.ownBlock->(∀k,(Value.slice A' (xs++ys).length c').ownBlock=some k->v.ownBlock=some k\/w.heap.size<=k)->K (a.put o.dst (.slice A' (xs++ys).length c')) w'):o.wp P a w K Q:=by
 subst hm;obtain⟨i,z,hi,hz,hsize,hby,hzs⟩:=el.hi;have h1':∀u∈ys.flatMap enc,u.oneCell'=true:=fun u hu=>by obtain⟨y,_,hy⟩:=List.mem_flatMap.1 hu;exact h1 y u hy
 have hb:(xs.length+ys.length)*bytes<=140737488355328:=Nat.le_trans (Nat.mul_le_mul h63 hbytes) (by omega);have go:∀v' w',(Builtin.append_ #[t,t] o.type #[v,.slice A ys.length c]).run P w= .ok v' w'->w'.ownsRow base e size v' (xs.length+ys.length) (xs.flatMap enc++ys.flatMap enc)->w.grownBy w' v.ownBlock->(∀k,v'.ownBlock=some k->v.ownBlock=some k\/w.heap.size<=k)->o.wp P a w K Q:=fun v' w' hr h2 h3 h4=>by
  have hown2:OwnL w' base e size enc v' (xs++ys):=by unfold OwnL;rw[aA,aH];exact h2
  obtain⟨A',c',rfl⟩:=hown2.form;unfold Oper.wp execOp;simp only[ho,resolve,invoke,builtin,Sem.run_bind,Sem.run_pure,Result.andThen_ok,List.map_toArray,List.map_cons,List.map_nil,hs,hx,hr];exact h A' c' w' hown2 h3 h4
 by_cases hm:0<ys.length
 ·obtain⟨b,off,rfl,_,hc⟩:=hsrc.2 hm;obtain⟨v',w',hr,h2,h3,h4⟩:=Z5m (P:=P) w base t o.type e i z size bytes el.ht hi hz hsize hby hzs el.pos v xs.length (xs.flatMap enc) hown ⟨b,off,none⟩ ys.length c (ys.flatMap enc) hsrc.1 (fun j u hu=>by rw[Addr.add_lit];exact hc j u hu) h1' (by simp[maxLen];omega) hb hbase;exact go v' w' hr h2 h3 h4
 ·obtain rfl:ys= []:=List.eq_nil_of_length_eq_zero (by omega);cases A with
  | some ad=>
    obtain⟨v',w',hr,h2,h3,h4⟩:=Z5m (P:=P) w base t o.type e i z size bytes el.ht hi hz hsize hby hzs el.pos v xs.length (xs.flatMap enc) hown ad 0 c [] (by simp) (by simp) (by simp) (by simp[maxLen];omega) hb hbase;exact go v' w' hr (by simpa using h2) h3 h4
  | none=>
    have hr:=Z5h (P:=P) w base t o.type e i size el.ht hi v xs.length (xs.flatMap enc) hown c;exact go v w hr (by simpa [OwnL]using hown) (World.grownBy.refl _ _) (fun k q=> .inl q)
theorem Y9d(el:Elem P t e size bytes)(henc:∀x,(enc x).length=size)(h1:∀x,∀u∈enc x,u.oneCell'=true){ops:Array Oper}{rest:List Oper}{o:Oper}{a:Act}{w:World}{Q:Exit->Act->World->Prop}(hgd:o.guard=none)(s x:Operand)
 (ho:o.op= .call { callee:= .builtin .append,args:=#[s,x],argTypes:=#[t,t]})
 {base:Nat}(v:Value)(xs:List α)(hs:a.eval s=v)(hown:OwnL w base e size enc v xs)(hbase:base<=w.heap.size)
 (A:Option Addr)(m c:Nat)(ys:List α)(hx:a.eval x= .slice A m c)(hm:m=ys.length)(hsrc:Src w A m size (ys.flatMap enc))
 (h63:xs.length+ys.length<=1000000000)(hbytes:bytes<=100000)
 (h:∀A' c' w',OwnL w' base e size enc (.slice A' (xs++ys).length c') (xs++ys)->w.grownBy w' v.ownBlock->(∀k,(Value.slice A' (xs++ys).length c').ownBlock=some k->v.ownBlock=some k\/w.heap.size<=k)->wpList P ops Q rest (a.put o.dst (.slice A' (xs++ys).length c')) w'):wpList P ops Q (o::rest) a w:=
 wpList_plain hgd fun _ hK=>V5c el henc h1 s x ho v xs hs hown hbase A m c ys hx hm hsrc h63 hbytes fun A' c' w' h2 h3 h4=>hK _ _ (h A' c' w' h2 h3 h4)
end
end
section
open Go.RowKit Go.Maps
theorem V7p{a b:ByteArray}(h:a≠b):(Lit.string a.data.toList)≠ .string b.data.toList:=fun e=>h (by
 injection e with e;rw[ByteArray.ext_iff];exact Array.toList_inj.1 e)
def updS(f:ByteArray->Option Int)(x:ByteArray)(v:Option Int):ByteArray->Option Int:=fun y=>if y=x then v else f y
structure MapDS (f:ByteArray->Option Int) (D:DataW Value):Prop where
 tidy:Tidy D
 has:∀x:ByteArray,Maps.has D (.string x.data.toList)=(f x).isSome
 hit:∀(x:ByteArray) a,f x=some a->∀z,D.atKey (.string x.data.toList) z= .held (.int .i64 a)
def MapS(w:World)(k:TypeId)(b n:Nat)(f:ByteArray->Option Int):Prop:=∃D:DataW Value,w.ownsMap Tryz.prog k Rv b n D/\MapDS f D
section
variable {f:ByteArray->Option Int} {w w':World} {k t e:TypeId} {b n:Nat}
theorem MapS.made(w:World)(k:TypeId):MapS (w.alloc (.map #[] 0)) k w.heap.size 0 (fun _=>none):=⟨_,World.ownsMap_made _ _ _ _,tidy_empty,fun _=>rfl,fun _ _ h=>by cases h⟩
theorem MapS.lt(h:MapS w k b n f):b<w.heap.size:=let ⟨_,h,_⟩:=h;h.lt
theorem MapS.block(h:MapS w k b n f)(hb:w'.heap[b]? =w.heap[b]?):MapS w' k b n f:=let ⟨D,⟨es,clock,h1,h2⟩,h3⟩:=h;⟨D,⟨es,clock,hb.trans h1,h2⟩,h3⟩
theorem MapS.ext(h:MapS w k b n f)(hb:Ext w w'):MapS w' k b n f:=h.block (hb.block b h.lt)
theorem MapS.look(h:MapS w k b n f)(hk:Tryz.prog.underlying k=some .string)(ht:Tryz.prog.underlying t=some (.map k e))(hz:(zeroValue e).run Tryz.prog w= .ok (.int .i64 0) w){x:ByteArray}(hx:x.size<=maxLen):
  (Instr.lookup t (.map (some b)) (.string x) true).run Tryz.prog w= .ok (.tuple #[.int .i64 ((f x).getD 0),.bool (f x).isSome]) w:=by
 obtain⟨D,h1,h2⟩:=h;obtain⟨v,ps,hr,hv⟩:=h1.look_ok (string_keyed hk) ht hz (zd:= .held (.int .i64 0)) (zp:= []) rfl (WideMaps.keyOf_string_mk hk hx);have hv2:v= .int .i64 ((f x).getD 0):=by
  unfold Rv at hv;injection hv with hv;injection hv with hv _;cases hf:f x with
  | none=>rw[atKey_of_not_has (by rw[h2.has,hf];rfl)]at hv;injection hv with hv
  | some a=>rw[h2.hit x a hf]at hv;injection hv with hv
 subst hv2;rw[h2.has]at hr;exact hr
theorem MapS.store(h:MapS w k b n f)(hk:Tryz.prog.underlying k=some .string)(ht:Tryz.prog.underlying t=some (.map k e))(hn:n<=1000000000){x:ByteArray}(hx:x.size<=maxLen)(a:Int):
  ∃w',(Instr.mapUpdate t (.map (some b)) (.string x) (.int .i64 a)).run Tryz.prog w= .ok () w'/\MapS w' k b (n+1) (updS f x (some a))/\w.mapTurned w' b:=by
 obtain⟨D,h1,h2⟩:=h;obtain⟨w',hr,h3,h4⟩:=h1.store (string_keyed hk) ht (by simp[maxLen];omega) (WideMaps.keyOf_string_mk hk hx) (d:= .held (.int .i64 a)) (ps:= []) rfl;have hkl:WideAt.IsKeyLit (Lit.string x.data.toList):=trivial;refine⟨w',hr,⟨_,h3,h2.tidy.put hkl _,fun y=> ?_,fun y c hy z=> ?_⟩,h4⟩
 ·unfold updS;by_cases e:y=x
  ·subst e;rw[if_pos rfl,has_put_same h2.tidy.isMap hkl];rfl
  ·rw[if_neg e,has_put_other (V7p e),h2.has]
 ·unfold updS at hy;by_cases e:y=x
  ·subst e;rw[if_pos rfl]at hy;injection hy with hy;subst hy;exact atKey_put_same h2.tidy.isMap hkl _ _
  ·rw[if_neg e]at hy;rw[atKey_put_other (V7p e)];exact h2.hit y c hy z
theorem MapS.drop(h:MapS w k b n f)(hk:Tryz.prog.underlying k=some .string)(ht:Tryz.prog.underlying t=some (.map k e)){x:ByteArray}(hx:x.size<=maxLen)(ty:TypeId):
  ∃w',(Builtin.delete_ #[t,k] ty #[.map (some b),.string x]).run Tryz.prog w= .ok (.tuple #[]) w'/\MapS w' k b n (updS f x none)/\w.mapTurned w' b:=by
 obtain⟨D,h1,h2⟩:=h;obtain⟨w',hr,h3,h4⟩:=h1.drop (string_keyed hk) ht (WideMaps.keyOf_string_mk hk hx) ty;refine⟨w',hr,⟨_,h3,h2.tidy.del _,fun y=> ?_,fun y c hy z=> ?_⟩,h4⟩
 ·unfold updS;by_cases e:y=x
  ·subst e;rw[if_pos rfl,has_del_same];rfl
  ·rw[if_neg e,has_del_other (V7p e),h2.has]
 ·unfold updS at hy;by_cases e:y=x
  ·subst e;rw[if_pos rfl]at hy;cases hy
  ·rw[if_neg e]at hy;rw[atKey_del_other (V7p e)];exact h2.hit y c hy z
end
theorem Only.mapS{F:Nat->Prop}{a w:World}{f:ByteArray->Option Int}{k:TypeId}{b n:Nat}(h:Only F a w)(hm:MapS a k b n f)(hb:¬F b):MapS w k b n f:=hm.block (h.block b hm.lt hb)
end
end Go.Proofs.YtohaldfnmgcofaaGreat
