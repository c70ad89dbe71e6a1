/- slices.Insert of one string at a place. Conditions: sizes. -/
import Derived.Test.YtohaldfnmgcofaaGreatT10
set_option maxRecDepth 100000
set_option maxHeartbeats 4000000
set_option linter.unusedSimpArgs false
set_option linter.unusedVariables false
namespace Go.Proofs.YtohaldfnmgcofaaGreat
open Go.RowKit
theorem V7u{base:Nat}{v:Value}{l:List ByteArray}(x:ByteArray)(G n:Nat)(w:World)(h:OwnL w base 9 1 encS v l)(hn:l.length=n)(hG:Row1 w G 9 (encS x))(hne:v.ownBlock≠some G)(hb:base<=w.heap.size)(hl:l.length<=100000):
  cQ 152 #[v,.int .i64 n,.slice (some ⟨G,0,none⟩) 1 1] w fun e w'=>∃v',e= .returned v'/\OwnL w' base 9 1 encS v' (l++ [x])/\(∀k,v'.ownBlock=some k->v.ownBlock=some k\/w.heap.size<=k)/\Only (fun j=>v.ownBlock=some j) w w':=by
 obtain⟨A,c,rfl,hc1,hc2,_⟩:=Z3c (show w.ownsRow base 9 1 v l.length (l.flatMap encS)from h);have HH:Hid (OwnL w base 9 1 encS (.slice A n c) l):=by rw[<-hn];exact h
 have HG:=hD hG;have HL:Hid (l.length<=100000):=hl;have HN:=hD hn;rw[hn]at hc1 ⊢;have h1:(0:Int)<=n:=by omega
 have h2:(n:Int)<=c:=by omega
 clear h hG hn hl;by_cases hcn:c=n
 ·subst hcn;go_enter Tryz.func152,Tryz.ntmps152;go_wp2_with (at_builtin;refine Z0u elStr Z0d Z1n rfl (.tmp 23) (.tmp 24) rfl (.slice A c c) l rfl HH.out hb G 1 x rfl HG.out (by have:=HL.out;omega) (by decide) ?_;intro A' c' w2 hown2 hgr hwh);go_ret;rw[aA,aK]at hown2 hwh;exact⟨_,rfl,hown2,hwh,Only.grown hgr⟩
 ·have h3:¬c=n:=hcn;go_enter Tryz.func152,Tryz.ntmps152;go_wp2_with (at_builtin;refine Z0u elStr Z0d Z1n rfl (.tmp 23) (.tmp 24) rfl (.slice A n c) l rfl HH.out hb G 1 x rfl HG.out (by have:=HL.out;omega) (by decide) ?_;intro A' c' w2 hown2 hgr hwh);go_ret;rw[aA,aK]at hown2 hwh;exact⟨_,rfl,hown2,hwh,Only.grown hgr⟩
theorem V2w{base:Nat}{b cap G:Nat}{l:List ByteArray}{spare:List Value}(x:ByteArray)(i:Nat)(w:World)(hr:Row1 w b 9 (l.flatMap encS++spare))(hbb:base<=b)(hi:i<l.length)(hroom:l.length+1<=cap)(hcap:cap<=9223372036854775807)(htot:(l.flatMap encS++spare).length=cap*1)
 (hG:Row1 w G 9 (encS x))(hne:G≠b):
  cQ 152 #[.slice (some ⟨b,0,none⟩) l.length cap,.int .i64 i,.slice (some ⟨G,0,none⟩) 1 1] w fun e w'=>∃v',e= .returned v'/\OwnL w' base 9 1 encS v' (insL l i x)/\v'.ownBlock=some b/\Only (fun j=>j=b) w w':=by
 have hfl:=Z0t Z0d l;have hsp:1<=spare.length:=by rw[aA,hfl]at htot;omega
 have HROW:=hD (X5g (l.flatMap encS) spare (encS x) i (by rw[hfl];omega) hsp (Z0d x));have hsa:w.shape? G=some (9,1):=by unfold World.shape?;rw[show w.heap[G]? =_ from hG];rfl
 have hsb:w.shape? b=some (9,cap):=by unfold World.shape?;rw[show w.heap[b]? =_ from hr];show some (_,_)=_;rw[List.size_toArray,htot,Nat.mul_one]
 have hov:∀lb cb,(callFunc 194 #[.slice (some ⟨G,0,none⟩) 1 1,.slice (some ⟨b,i+1,none⟩) lb cb]).run Tryz.prog w= .ok (.value (.bool false)) w:=fun lb cb=>by
  rw[run_callFunc_extern Tryz.func194 (by kernel_rfl) (by kernel_rfl) (by kernel_rfl) (e:=Extern.SlicesOverlaps.overlaps #[164,164] #[4]) (by kernel_rfl),
   Lib.run_overlaps_apart w 164 4 9 Tryz.underlying164 1 (fun w=>by kernel_rfl) ⟨G,0,none⟩ ⟨b,i+1,none⟩ 1 1 lb cb hne _ _ 1 cap hsa hsb (by omega) (hG.soft 0) (hG.soft 1)]
  rfl
 obtain⟨n,hnn⟩:∃n,l.length=n:=⟨_,rfl⟩;have HR:=hD hr;have HG:=hD hG;have HN:=hD hnn;have HFL:Hid ((l.flatMap encS).length=n):=by unfold Hid;rw[hfl,hnn]
 have HTOT:=hD htot;rw[hnn]at hi hroom ⊢;have hw1:¬((i:Int)=(n:Int)):=by omega
 have hw2:¬(cap:Int)<(n:Int)+1:=by omega
 have hw3:(n:Int)+1<=cap:=by omega
 have hw5:((n:Int)+1).toNat=n+1:=by omega
 have hw6:(0:Int)<=(n:Int)+1:=by omega
 have hw8:¬cap=i:=by omega
 have hw8':¬cap=i+1:=by omega
 have hw9:IntKind.i64.wrap ((i:Int)+1)=i+1:=by rw[IntKind.wrap_i64];omega
 have hw10:(0:Int)<=n:=by omega
 have hw11:(0:Int)<=i:=by omega
 have hw12:(i:Int)<=n:=by omega
 have hw13:(i:Int)+1<=n+1:=by omega
 have hw14:((i:Int)+1).toNat=i+1:=by omega
 have hw15:(0:Int)<=(i:Int)+1:=by omega
 have hw16:(i:Int)<=n+1:=by omega
 have HMI:Hid (n-i=Nat.min (n+1-i) (n-i)):=by unfold Hid;show n-i=min (n+1-i) (n-i);omega
 have HDL:Hid (((l.flatMap encS).drop i).length=(n-i)*1):=by unfold Hid;rw[aJ,HFL.out];omega
 have HFIT:Hid (i+1+((l.flatMap encS).drop i).length<=(l.flatMap encS++spare).length):=by unfold Hid;rw[aA,HDL.out,HFL.out];omega
 have HFIN:Hid (∀w',Row1 w' b 9 ((l.flatMap encS).take i++encS x++(l.flatMap encS).drop i++spare.drop 1)->OwnL w' base 9 1 encS (.slice (some ⟨b,0,none⟩) (n+1) cap) (insL l i x)):=fun w' h1=>by
  rw[<-Y0f Z0d]at h1;have h2:=OwnL.ofRow (k:=1) (base:=base) h1 hbb (cap:=cap) (by rw[Z1b,HN.out];exact hroom) hcap (by
   have h3:=HTOT.out;rw[aA]at h3;rw[aA,Z0t Z0d,Z1b,aJ];have:=HFL.out;have:=HN.out;omega) Z0d
  rwa [Z1b,HN.out]at h2
 have hbw:=hr.lt;have HRX:Hid (∀W,Ext w W->Row1 W b 9 (l.flatMap encS++spare)):=fun W hW=>HR.out.ext hW hbw;have HSRC:Hid (∀W,Ext w W->∀j v,((l.flatMap encS).drop i)[j]? =some v->W.cell? ((⟨b,i,none⟩:Addr).add j)=some v):=fun W hW j v hj=>by rw[List.getElem?_drop]at hj;rw[Addr.add_lit,(HRX.out W hW).cell,aL (aC.1 hj).1,hj]
 have HM1:Hid (1=Nat.min 1 (n+1-i)):=by unfold Hid;show 1=min 1 (n+1-i);omega
 have HFIT2:Hid (i+(encS x).length<=((l.flatMap encS++spare).take (i+1)++(l.flatMap encS).drop i++(l.flatMap encS++spare).drop (i+1+((l.flatMap encS).drop i).length)).length):=by unfold Hid;simp only[aA,aD,aJ,Z0d,HFL.out];omega
 clear hr hG htot hfl hnn hsa hsb;go_enter Tryz.func152,Tryz.ntmps152;go_upto_region 15 with (simp only[hov]);go_region_law (refine Z5o rfl (Z5e (.tmp 73) (.tmp 76) 164 164 rfl 9 1 Tryz.underlying164 Y7u b (i+1) (n-i) (cap-(i+1)) ⟨b,i,none⟩ (n+1-i) (cap-i) (by simp[Act.eval,Act.put]) (by simp[Act.eval,Act.put]) (l.flatMap encS++spare) 9 (HRX.out _ (by exact Xt)) ((l.flatMap encS).drop i) (n-i) HMI.out HDL.out (HSRC.out _ (by exact Xt)) HFIT.out (fun v hv=>Z6d Z1n l v (List.mem_of_mem_drop hv)) ?_);intro w2 hr2 hb2)
 all_goals
  have HG2:Hid (Row1 w2 G 9 (encS x)):=Row1.same HG.out (hb2.block G HG.out.lt (fun e=>hne (by injection e)));have HR2:=hD hr2;have HO2:Hid (Only (fun j=>j=b) w w2):=Only.turn (Only.of (by exact Xt)) hb2 (.inl rfl);clear hr2 hb2 hov;go_wp2_with (with_reducible show wpList _ _ _ (({ dst:=_,op:=Op.call { callee:=Callee.builtin Builtin.copy,args:=_,argTypes:=_},type:=_,pos:=_,after:=_,guard:=_}:Oper)::_) _ _;go_loud (refine Z2x rfl (.tmp 80) (.tmp 81) 164 164 rfl 9 1 Tryz.underlying164 Y7u b i (n+1-i) (cap-i) ⟨G,0,none⟩ 1 1 (by simp[Act.eval,Act.put]) (by simp[Act.eval,Act.put]) _ 9 HR2.out (encS x) 1 HM1.out rfl (Y0z HG2.out) HFIT2.out (Z1n x) ?_;intro w3 hr3 hb3));rw[HROW.out]at hr3;have HW:=hD (HFIN.out w3 hr3);have HO3:Hid (Only (fun j=>j=b) w w3):=Only.turn HO2.out hb3 (.inl rfl);clear hr3 hb3;go_wp2_with fail;go_ret;exact⟨_,rfl,HW.out,rfl,HO3.out⟩
theorem X7y(w:World)(b n i:Nat)(cs:List Value)(hcs:cs.length=i)(hsrc:∀j v,cs[j]? =some v->w.cell? ((⟨b,0,none⟩:Addr).add j)=some v)(hi:i<n)(hb:n<=1000000):∃(Gc:Nat) (w1:World) (zs:List Value),Hid (∀ty,(Builtin.append_ #[164,3] ty #[.slice (some ⟨b,0,none⟩) i n,.int .i64 ((n:Int)+1-i)]).run Tryz.prog w= .ok (.slice (some ⟨w.heap.size,0,none⟩) (n+1) Gc) w1)/\
  Row1 w1 w.heap.size 9 (cs++zs)/\(cs++zs).length=Gc*1/\n+1<=Gc/\Gc<=9223372036854775807/\Ext w w1:=by
 obtain⟨i0,z,hi0,hz,hsize,hby,hzs⟩:=elStr.hi;have hold:(Builtin.firstCells i0.size i (.slice (some ⟨b,0,none⟩) i n)).run Tryz.prog w.drew= .ok cs.toArray w.drew:=run_firstCells_some (P:=Tryz.prog) w.drew i0.size i ⟨b,0,none⟩ i n cs (by rw[hsize,hcs];omega) hsrc;have e0:i+(n+1-i)=n+1:=by omega
 have h:=fun ty=>Lib.run_append_grow_zeros (P:=Tryz.prog) w 164 3 ty 9 i0 z .i64 .i64 Tryz.underlying164 Tryz.underlying3 hi0 hz (some ⟨b,0,none⟩) i n cs hold (n+1-i) (by omega) (by rw[hsize];omega) (by omega) (by omega) (by rw[hby];omega) (growslice_fits (by omega) (by rw[hby];omega));have e:((n+1-i:Nat):Int)=(n:Int)+1-i:=by omega
 have hg:=grownCap_ge w (i+(n+1-i)) n 9;have hm:=grownCap_le_maxLen w (i+(n+1-i)) n 9 (by unfold maxLen;omega);obtain⟨Gc,hG⟩:∃Gc,grownCap w (i+(n+1-i)) n 9=Gc:=⟨_,rfl⟩;rw[hG]at h hg hm;obtain⟨R,hR⟩:∃R:Array Value,Builtin.zeroCells z.cells (n+1-i)++Builtin.zeroCells z.cells (Gc-(i+(n+1-i)))=R:=⟨_,rfl⟩;have hRs:R.size=(Gc-i)*1:=by rw[<-hR];simp[size_zeroCells,hzs];omega
 simp only[Array.append_assoc,hR]at h;refine⟨Gc,_,R.toList,fun ty=> ?_,Row1.made w.drew 9 (cs++R.toList),by rw[aA,hcs,Array.length_toList,hRs];omega,by omega,by simpa [maxLen]using hm,Below.alloc (Below.drew (Ext.refl w)) (aF _) _⟩;have h2:=h ty;have e3:cs.toArray++R=(cs++R.toList).toArray:=by apply Array.ext';simp
 rw[e,e0,e3]at h2;rw[h2]
theorem V2x{base:Nat}{b cap G:Nat}{l:List ByteArray}{spare:List Value}(x:ByteArray)(i:Nat)(w:World)(hr:Row1 w b 9 (l.flatMap encS++spare))(hi:i<l.length)(hfull:l.length=cap)(hlim:l.length<=100000)(hbw:base<=w.heap.size)
 (hG:Row1 w G 9 (encS x)):
  cQ 152 #[.slice (some ⟨b,0,none⟩) l.length cap,.int .i64 i,.slice (some ⟨G,0,none⟩) 1 1] w fun e w'=>∃v',e= .returned v'/\OwnL w' base 9 1 encS v' (insL l i x)/\v'.ownBlock=some w.heap.size/\Ext w w':=by
 subst hfull;have hfl:=Z0t Z0d l;have hct:((l.flatMap encS).take i).length=i:=by rw[aD,hfl];omega
 obtain⟨Gc,w1,zs,hz,hzr,hzl,hg1,hg2,hx1⟩:=X7y w b l.length i ((l.flatMap encS).take i) hct (fun j v hj=>by
  have hj2:=(aC.1 hj).1;rw[List.getElem?_take,if_pos (by omega)]at hj;rw[Addr.add_lit,Nat.zero_add,hr.cell,aL (by rw[hfl];omega),hj]) hi (by omega)
 obtain⟨n,hnn⟩:∃n,l.length=n:=⟨_,rfl⟩;have hzs:=hx1.size;have HR1:Hid (Row1 w1 b 9 (l.flatMap encS++spare)):=hr.ext hx1 hr.lt;have HG1:Hid (Row1 w1 G 9 (encS x)):=hG.ext hx1 hG.lt;have hbl:=hr.lt;have hGl:=hG.lt;have HX1:=hD hx1;have HN:=hD hnn;have HFL:Hid ((l.flatMap encS).length=n):=by unfold Hid;rw[hfl,hnn]
 have HROW:=hD (X5h (l.flatMap encS) zs (encS x) i (by rw[hfl];omega) (by rw[hzl,hfl];omega) (Z0d x));rw[hnn]at hi hlim hz hg1 ⊢;obtain⟨N,hN⟩:∃N,w.heap.size=N:=⟨_,rfl⟩;rw[hN]at hz hzr hbl hGl ⊢;have HZR:=hD hzr;have HZL:=hD hzl;have hbN:b≠N:=by omega
 have hGN:G≠N:=by omega
 have hw1:¬((i:Int)=(n:Int)):=by omega
 have hw2:(n:Int)<(n:Int)+1:=by omega
 have hw4:¬Gc=i:=by omega
 have hw4':¬Gc=i+1:=by omega
 have hw5:((n:Int)+1).toNat=n+1:=by omega
 have hw6:(0:Int)<=(n:Int)+1:=by omega
 have hw8:¬n=i:=by omega
 have hw9:IntKind.i64.wrap ((i:Int)+1)=i+1:=by rw[IntKind.wrap_i64];omega
 have hw10:(0:Int)<=n:=by omega
 have hw11:(0:Int)<=i:=by omega
 have hw12:(i:Int)<=n:=by omega
 have hw13:(i:Int)+1<=n+1:=by omega
 have hw14:((i:Int)+1).toNat=i+1:=by omega
 have hw15:(0:Int)<=(i:Int)+1:=by omega
 have hw16:(i:Int)<=n+1:=by omega
 have HMI:Hid (n-i=Nat.min (n-i) (n-i)):=by unfold Hid;show n-i=min (n-i) (n-i);omega
 have HM1:Hid (1=Nat.min 1 (n+1-i)):=by unfold Hid;show 1=min 1 (n+1-i);omega
 have HDL:Hid (((l.flatMap encS).drop i).length=(n-i)*1):=by unfold Hid;rw[aJ,HFL.out];omega
 have HF1:Hid (i+(encS x).length<=((l.flatMap encS).take i++zs).length):=by unfold Hid;rw[Z0d,HZL.out];omega
 have HF2:Hid (i+1+((l.flatMap encS).drop i).length<=(((l.flatMap encS).take i++zs).take i++encS x++((l.flatMap encS).take i++zs).drop (i+(encS x).length)).length):=by unfold Hid;have h3:=HZL.out;simp only[aA,aD,aJ,Z0d,HFL.out]at h3 ⊢;omega
 have HFIN:Hid (∀w',Row1 w' N 9 ((l.flatMap encS).take i++encS x++(l.flatMap encS).drop i++zs.drop ((l.flatMap encS).length+1-i))->OwnL w' base 9 1 encS (.slice (some ⟨N,0,none⟩) (n+1) Gc) (insL l i x)):=fun w' h1=>by
  rw[<-Y0f Z0d]at h1;have h2:=OwnL.ofRow (k:=1) (base:=base) h1 (by omega) (cap:=Gc) (by rw[Z1b,HN.out];exact hg1) hg2 (by
   have h3:=HZL.out;rw[aA,hct]at h3;rw[aA,Z0t Z0d,Z1b,aJ,hfl];have:=HN.out;omega) Z0d
  rwa [Z1b,HN.out]at h2
 have HSRC:Hid (∀W,Row1 W b 9 (l.flatMap encS++spare)->∀j v,((l.flatMap encS).drop i)[j]? =some v->W.cell? ((⟨b,i,none⟩:Addr).add j)=some v):=fun W hW j v hj=>by rw[List.getElem?_drop]at hj;rw[Addr.add_lit,hW.cell,aL (aC.1 hj).1,hj]
 clear hr hG hfl hnn hzr hx1 hzl hct;go_enter Tryz.func152,Tryz.ntmps152;go_upto_region 11 with (first
  | (at_builtin;go_loud (refine Z2b rfl (.tmp 34) (.tmp 39) 164 3 rfl (.slice (some ⟨b,0,none⟩) i n) (.int .i64 ((n:Int)+1-i)) (by simp[Act.eval,Act.put]) (by simp[Act.eval,Act.put]) (hz.out _) ?_))
  | (with_reducible show wpList _ _ _ (({ dst:=_,op:=Op.call { callee:=Callee.builtin Builtin.copy,args:=_,argTypes:=_},type:=_,pos:=_,after:=_,guard:=_}:Oper)::_) _ _;go_loud (refine Z2x rfl (.tmp 43) (.tmp 44) 164 164 rfl 9 1 Tryz.underlying164 Y7u N i (n+1-i) (Gc-i) ⟨G,0,none⟩ 1 1 (by simp[Act.eval,Act.put]) (by simp[Act.eval,Act.put]) _ 9 HZR.out (encS x) 1 HM1.out rfl (Y0z HG1.out) HF1.out (Z1n x) ?_;intro w2 hr2 hb2)))
 have HR2:=hD hr2;have HRb:Hid (Row1 w2 b 9 (l.flatMap encS++spare)):=HR1.out.same (hb2.block b HR1.out.lt (fun e=>hbN (by injection e)));have HX2:Hid (Ext w w2):=(But.trans (But.of HX1.out) hb2).fresh (by omega);have hsz2:=HX2.out.size;have hb2w:=HRb.out.lt;have hN2w:=HR2.out.lt;have HRbX:Hid (∀W,Ext w2 W->Row1 W b 9 (l.flatMap encS++spare)):=fun W hW=>HRb.out.ext hW HRb.out.lt;have HRNX:Hid (∀W,Ext w2 W->Row1 W N 9 (((l.flatMap encS).take i++zs).take i++encS x++((l.flatMap encS).take i++zs).drop (i+(encS x).length))):=fun W hW=>HR2.out.ext hW HR2.out.lt;clear hr2 hb2;go_region_law (refine Z5o rfl (Z5e (.tmp 50) (.tmp 53) 164 164 rfl 9 1 Tryz.underlying164 Y7u N (i+1) (n-i) (Gc-(i+1)) ⟨b,i,none⟩ (n-i) (n-i) (by simp[Act.eval,Act.put]) (by simp[Act.eval,Act.put]) _ 9 (HRNX.out _ (by exact Xt)) ((l.flatMap encS).drop i) (n-i) HMI.out HDL.out (HSRC.out _ (HRbX.out _ (by exact Xt))) HF2.out (fun v hv=>Z6d Z1n l v (List.mem_of_mem_drop hv)) ?_);intro w3 hr3 hb3)
 all_goals
  rw[HROW.out]at hr3;have HW:=hD (HFIN.out w3 hr3);have HX3:Hid (Ext w w3):=(But.trans (But.of (Ext.trans HX2.out (by exact Xt))) hb3).fresh (by omega);clear hr3 hb3;go_wp2_with fail;go_ret;exact⟨_,rfl,HW.out,rfl,HX3.out⟩
theorem Y8m{v:Value}{l:List ByteArray}(x:ByteArray)(G i:Nat)(w:World)(h:OwnL w 0 9 1 encS v l)(hi:i<=l.length)(hG:Row1 w G 9 (encS x))(hne:v.ownBlock≠some G)(hl:l.length<=100000):
  cQ 152 #[v,.int .i64 i,.slice (some ⟨G,0,none⟩) 1 1] w fun e w'=>∃v',e= .returned v'/\OwnL w' 0 9 1 encS v' (insL l i x)/\(∀k,v'.ownBlock=some k->v.ownBlock=some k\/w.heap.size<=k)/\Only (fun j=>v.ownBlock=some j) w w':=by
 by_cases h0:i=l.length
 ·refine(V7u x G i w h h0.symm hG hne (Nat.zero_le _) hl).mono ?_;rintro e w' ⟨v',h1,h2,h3,h4⟩;refine⟨v',h1,?_,h3,h4⟩;unfold insL;rw[h0,List.take_length,List.drop_length];exact h2
 ·obtain⟨b,cap,spare,rfl,hb0,hr,hc1,hc2,hs,hfl⟩:=h.row (by omega);by_cases hroom:l.length+1<=cap
  ·refine(V2w (base:=0) x i w hr (Nat.zero_le _) (by omega) hroom hc2 hs hG (fun e=>hne (by rw[e];rfl))).mono ?_;rintro e w' ⟨v',h1,h2,h3,h4⟩;exact⟨v',h1,h2,fun k hk=> .inl (by rw[<-hk,h3];rfl),h4.mono (fun i q=> .inl (by rw[q];rfl))⟩
  ·refine(V2x (base:=0) x i w hr (by omega) (by omega) hl (Nat.zero_le _) hG).mono ?_;rintro e w' ⟨v',h1,h2,h3,h4⟩;exact⟨v',h1,h2,fun k hk=> .inr (by rw[h3]at hk;injection hk with hk;omega),Only.of h4⟩
theorem V7v{base:Nat}{v:Value}{l:List Int}(x:Int)(G n:Nat)(w:World)(h:OwnL w base 3 1 encN v l)(hn:l.length=n)(hG:Row1 w G 3 (encN x))(hne:v.ownBlock≠some G)(hb:base<=w.heap.size)(hl:l.length<=100000):
  cQ 154 #[v,.int .i64 n,.slice (some ⟨G,0,none⟩) 1 1] w fun e w'=>∃v',e= .returned v'/\OwnL w' base 3 1 encN v' (l++ [x])/\(∀k,v'.ownBlock=some k->v.ownBlock=some k\/w.heap.size<=k)/\Only (fun j=>v.ownBlock=some j) w w':=by
 obtain⟨A,c,rfl,hc1,hc2,_⟩:=Z3c (show w.ownsRow base 3 1 v l.length (l.flatMap encN)from h);have HH:Hid (OwnL w base 3 1 encN (.slice A n c) l):=by rw[<-hn];exact h
 have HG:=hD hG;have HL:Hid (l.length<=100000):=hl;have HN:=hD hn;rw[hn]at hc1 ⊢;have h1:(0:Int)<=n:=by omega
 have h2:(n:Int)<=c:=by omega
 clear h hG hn hl;by_cases hcn:c=n
 ·subst hcn;go_enter Tryz.func154,Tryz.ntmps154;go_wp2_with (at_builtin;refine Z0u elInt Z0j Z2s rfl (.tmp 23) (.tmp 24) rfl (.slice A c c) l rfl HH.out hb G 1 x rfl HG.out (by have:=HL.out;omega) (by decide) ?_;intro A' c' w2 hown2 hgr hwh);go_ret;rw[aA,aK]at hown2 hwh;exact⟨_,rfl,hown2,hwh,Only.grown hgr⟩
 ·have h3:¬c=n:=hcn;go_enter Tryz.func154,Tryz.ntmps154;go_wp2_with (at_builtin;refine Z0u elInt Z0j Z2s rfl (.tmp 23) (.tmp 24) rfl (.slice A n c) l rfl HH.out hb G 1 x rfl HG.out (by have:=HL.out;omega) (by decide) ?_;intro A' c' w2 hown2 hgr hwh);go_ret;rw[aA,aK]at hown2 hwh;exact⟨_,rfl,hown2,hwh,Only.grown hgr⟩
theorem V2y{base:Nat}{b cap G:Nat}{l:List Int}{spare:List Value}(x:Int)(i:Nat)(w:World)(hr:Row1 w b 3 (l.flatMap encN++spare))(hbb:base<=b)(hi:i<l.length)(hroom:l.length+1<=cap)(hcap:cap<=9223372036854775807)(htot:(l.flatMap encN++spare).length=cap*1)
 (hG:Row1 w G 3 (encN x))(hne:G≠b):
  cQ 154 #[.slice (some ⟨b,0,none⟩) l.length cap,.int .i64 i,.slice (some ⟨G,0,none⟩) 1 1] w fun e w'=>∃v',e= .returned v'/\OwnL w' base 3 1 encN v' (insL l i x)/\v'.ownBlock=some b/\Only (fun j=>j=b) w w':=by
 have hfl:=Z0t Z0j l;have hsp:1<=spare.length:=by rw[aA,hfl]at htot;omega
 have HROW:=hD (X5g (l.flatMap encN) spare (encN x) i (by rw[hfl];omega) hsp (Z0j x));have hsa:w.shape? G=some (3,1):=by unfold World.shape?;rw[show w.heap[G]? =_ from hG];rfl
 have hsb:w.shape? b=some (3,cap):=by unfold World.shape?;rw[show w.heap[b]? =_ from hr];show some (_,_)=_;rw[List.size_toArray,htot,Nat.mul_one]
 have hov:∀lb cb,(callFunc 197 #[.slice (some ⟨G,0,none⟩) 1 1,.slice (some ⟨b,i+1,none⟩) lb cb]).run Tryz.prog w= .ok (.value (.bool false)) w:=fun lb cb=>by
  rw[run_callFunc_extern Tryz.func197 (by kernel_rfl) (by kernel_rfl) (by kernel_rfl) (e:=Extern.SlicesOverlaps.overlaps #[80,80] #[4]) (by kernel_rfl),
   Lib.run_overlaps_apart w 80 4 3 Tryz.underlying80 1 (fun w=>by kernel_rfl) ⟨G,0,none⟩ ⟨b,i+1,none⟩ 1 1 lb cb hne _ _ 1 cap hsa hsb (by omega) (hG.soft 0) (hG.soft 1)]
  rfl
 obtain⟨n,hnn⟩:∃n,l.length=n:=⟨_,rfl⟩;have HR:=hD hr;have HG:=hD hG;have HN:=hD hnn;have HFL:Hid ((l.flatMap encN).length=n):=by unfold Hid;rw[hfl,hnn]
 have HTOT:=hD htot;rw[hnn]at hi hroom ⊢;have hw1:¬((i:Int)=(n:Int)):=by omega
 have hw2:¬(cap:Int)<(n:Int)+1:=by omega
 have hw3:(n:Int)+1<=cap:=by omega
 have hw5:((n:Int)+1).toNat=n+1:=by omega
 have hw6:(0:Int)<=(n:Int)+1:=by omega
 have hw8:¬cap=i:=by omega
 have hw8':¬cap=i+1:=by omega
 have hw9:IntKind.i64.wrap ((i:Int)+1)=i+1:=by rw[IntKind.wrap_i64];omega
 have hw10:(0:Int)<=n:=by omega
 have hw11:(0:Int)<=i:=by omega
 have hw12:(i:Int)<=n:=by omega
 have hw13:(i:Int)+1<=n+1:=by omega
 have hw14:((i:Int)+1).toNat=i+1:=by omega
 have hw15:(0:Int)<=(i:Int)+1:=by omega
 have hw16:(i:Int)<=n+1:=by omega
 have HMI:Hid (n-i=Nat.min (n+1-i) (n-i)):=by unfold Hid;show n-i=min (n+1-i) (n-i);omega
 have HDL:Hid (((l.flatMap encN).drop i).length=(n-i)*1):=by unfold Hid;rw[aJ,HFL.out];omega
 have HFIT:Hid (i+1+((l.flatMap encN).drop i).length<=(l.flatMap encN++spare).length):=by unfold Hid;rw[aA,HDL.out,HFL.out];omega
 have HFIN:Hid (∀w',Row1 w' b 3 ((l.flatMap encN).take i++encN x++(l.flatMap encN).drop i++spare.drop 1)->OwnL w' base 3 1 encN (.slice (some ⟨b,0,none⟩) (n+1) cap) (insL l i x)):=fun w' h1=>by
  rw[<-Y0f Z0j]at h1;have h2:=OwnL.ofRow (k:=1) (base:=base) h1 hbb (cap:=cap) (by rw[Z1b,HN.out];exact hroom) hcap (by
   have h3:=HTOT.out;rw[aA]at h3;rw[aA,Z0t Z0j,Z1b,aJ];have:=HFL.out;have:=HN.out;omega) Z0j
  rwa [Z1b,HN.out]at h2
 have hbw:=hr.lt;have HRX:Hid (∀W,Ext w W->Row1 W b 3 (l.flatMap encN++spare)):=fun W hW=>HR.out.ext hW hbw;have HSRC:Hid (∀W,Ext w W->∀j v,((l.flatMap encN).drop i)[j]? =some v->W.cell? ((⟨b,i,none⟩:Addr).add j)=some v):=fun W hW j v hj=>by rw[List.getElem?_drop]at hj;rw[Addr.add_lit,(HRX.out W hW).cell,aL (aC.1 hj).1,hj]
 have HM1:Hid (1=Nat.min 1 (n+1-i)):=by unfold Hid;show 1=min 1 (n+1-i);omega
 have HFIT2:Hid (i+(encN x).length<=((l.flatMap encN++spare).take (i+1)++(l.flatMap encN).drop i++(l.flatMap encN++spare).drop (i+1+((l.flatMap encN).drop i).length)).length):=by unfold Hid;simp only[aA,aD,aJ,Z0j,HFL.out];omega
 clear hr hG htot hfl hnn hsa hsb;go_enter Tryz.func154,Tryz.ntmps154;go_upto_region 15 with (simp only[hov]);go_region_law (refine Z5o rfl (Z5e (.tmp 73) (.tmp 76) 80 80 rfl 3 1 Tryz.underlying80 Y7v b (i+1) (n-i) (cap-(i+1)) ⟨b,i,none⟩ (n+1-i) (cap-i) (by simp[Act.eval,Act.put]) (by simp[Act.eval,Act.put]) (l.flatMap encN++spare) 3 (HRX.out _ (by exact Xt)) ((l.flatMap encN).drop i) (n-i) HMI.out HDL.out (HSRC.out _ (by exact Xt)) HFIT.out (fun v hv=>Z6d Z2s l v (List.mem_of_mem_drop hv)) ?_);intro w2 hr2 hb2)
 all_goals
  have HG2:Hid (Row1 w2 G 3 (encN x)):=Row1.same HG.out (hb2.block G HG.out.lt (fun e=>hne (by injection e)));have HR2:=hD hr2;have HO2:Hid (Only (fun j=>j=b) w w2):=Only.turn (Only.of (by exact Xt)) hb2 (.inl rfl);clear hr2 hb2 hov;go_wp2_with (with_reducible show wpList _ _ _ (({ dst:=_,op:=Op.call { callee:=Callee.builtin Builtin.copy,args:=_,argTypes:=_},type:=_,pos:=_,after:=_,guard:=_}:Oper)::_) _ _;go_loud (refine Z2x rfl (.tmp 80) (.tmp 81) 80 80 rfl 3 1 Tryz.underlying80 Y7v b i (n+1-i) (cap-i) ⟨G,0,none⟩ 1 1 (by simp[Act.eval,Act.put]) (by simp[Act.eval,Act.put]) _ 3 HR2.out (encN x) 1 HM1.out rfl (Y0z HG2.out) HFIT2.out (Z2s x) ?_;intro w3 hr3 hb3));rw[HROW.out]at hr3;have HW:=hD (HFIN.out w3 hr3);have HO3:Hid (Only (fun j=>j=b) w w3):=Only.turn HO2.out hb3 (.inl rfl);clear hr3 hb3;go_wp2_with fail;go_ret;exact⟨_,rfl,HW.out,rfl,HO3.out⟩
theorem X7z(w:World)(b n i:Nat)(cs:List Value)(hcs:cs.length=i)(hsrc:∀j v,cs[j]? =some v->w.cell? ((⟨b,0,none⟩:Addr).add j)=some v)(hi:i<n)(hb:n<=1000000):∃(Gc:Nat) (w1:World) (zs:List Value),Hid (∀ty,(Builtin.append_ #[80,3] ty #[.slice (some ⟨b,0,none⟩) i n,.int .i64 ((n:Int)+1-i)]).run Tryz.prog w= .ok (.slice (some ⟨w.heap.size,0,none⟩) (n+1) Gc) w1)/\
  Row1 w1 w.heap.size 3 (cs++zs)/\(cs++zs).length=Gc*1/\n+1<=Gc/\Gc<=9223372036854775807/\Ext w w1:=by
 obtain⟨i0,z,hi0,hz,hsize,hby,hzs⟩:=elInt.hi;have hold:(Builtin.firstCells i0.size i (.slice (some ⟨b,0,none⟩) i n)).run Tryz.prog w.drew= .ok cs.toArray w.drew:=run_firstCells_some (P:=Tryz.prog) w.drew i0.size i ⟨b,0,none⟩ i n cs (by rw[hsize,hcs];omega) hsrc;have e0:i+(n+1-i)=n+1:=by omega
 have h:=fun ty=>Lib.run_append_grow_zeros (P:=Tryz.prog) w 80 3 ty 3 i0 z .i64 .i64 Tryz.underlying80 Tryz.underlying3 hi0 hz (some ⟨b,0,none⟩) i n cs hold (n+1-i) (by omega) (by rw[hsize];omega) (by omega) (by omega) (by rw[hby];omega) (growslice_fits (by omega) (by rw[hby];omega));have e:((n+1-i:Nat):Int)=(n:Int)+1-i:=by omega
 have hg:=grownCap_ge w (i+(n+1-i)) n 3;have hm:=grownCap_le_maxLen w (i+(n+1-i)) n 3 (by unfold maxLen;omega);obtain⟨Gc,hG⟩:∃Gc,grownCap w (i+(n+1-i)) n 3=Gc:=⟨_,rfl⟩;rw[hG]at h hg hm;obtain⟨R,hR⟩:∃R:Array Value,Builtin.zeroCells z.cells (n+1-i)++Builtin.zeroCells z.cells (Gc-(i+(n+1-i)))=R:=⟨_,rfl⟩;have hRs:R.size=(Gc-i)*1:=by rw[<-hR];simp[size_zeroCells,hzs];omega
 simp only[Array.append_assoc,hR]at h;refine⟨Gc,_,R.toList,fun ty=> ?_,Row1.made w.drew 3 (cs++R.toList),by rw[aA,hcs,Array.length_toList,hRs];omega,by omega,by simpa [maxLen]using hm,Below.alloc (Below.drew (Ext.refl w)) (aF _) _⟩;have h2:=h ty;have e3:cs.toArray++R=(cs++R.toList).toArray:=by apply Array.ext';simp
 rw[e,e0,e3]at h2;rw[h2]
theorem V2z{base:Nat}{b cap G:Nat}{l:List Int}{spare:List Value}(x:Int)(i:Nat)(w:World)(hr:Row1 w b 3 (l.flatMap encN++spare))(hi:i<l.length)(hfull:l.length=cap)(hlim:l.length<=100000)(hbw:base<=w.heap.size)
 (hG:Row1 w G 3 (encN x)):
  cQ 154 #[.slice (some ⟨b,0,none⟩) l.length cap,.int .i64 i,.slice (some ⟨G,0,none⟩) 1 1] w fun e w'=>∃v',e= .returned v'/\OwnL w' base 3 1 encN v' (insL l i x)/\v'.ownBlock=some w.heap.size/\Ext w w':=by
 subst hfull;have hfl:=Z0t Z0j l;have hct:((l.flatMap encN).take i).length=i:=by rw[aD,hfl];omega
 obtain⟨Gc,w1,zs,hz,hzr,hzl,hg1,hg2,hx1⟩:=X7z w b l.length i ((l.flatMap encN).take i) hct (fun j v hj=>by
  have hj2:=(aC.1 hj).1;rw[List.getElem?_take,if_pos (by omega)]at hj;rw[Addr.add_lit,Nat.zero_add,hr.cell,aL (by rw[hfl];omega),hj]) hi (by omega)
 obtain⟨n,hnn⟩:∃n,l.length=n:=⟨_,rfl⟩;have hzs:=hx1.size;have HR1:Hid (Row1 w1 b 3 (l.flatMap encN++spare)):=hr.ext hx1 hr.lt;have HG1:Hid (Row1 w1 G 3 (encN x)):=hG.ext hx1 hG.lt;have hbl:=hr.lt;have hGl:=hG.lt;have HX1:=hD hx1;have HN:=hD hnn;have HFL:Hid ((l.flatMap encN).length=n):=by unfold Hid;rw[hfl,hnn]
 have HROW:=hD (X5h (l.flatMap encN) zs (encN x) i (by rw[hfl];omega) (by rw[hzl,hfl];omega) (Z0j x));rw[hnn]at hi hlim hz hg1 ⊢;obtain⟨N,hN⟩:∃N,w.heap.size=N:=⟨_,rfl⟩;rw[hN]at hz hzr hbl hGl ⊢;have HZR:=hD hzr;have HZL:=hD hzl;have hbN:b≠N:=by omega
 have hGN:G≠N:=by omega
 have hw1:¬((i:Int)=(n:Int)):=by omega
 have hw2:(n:Int)<(n:Int)+1:=by omega
 have hw4:¬Gc=i:=by omega
 have hw4':¬Gc=i+1:=by omega
 have hw5:((n:Int)+1).toNat=n+1:=by omega
 have hw6:(0:Int)<=(n:Int)+1:=by omega
 have hw8:¬n=i:=by omega
 have hw9:IntKind.i64.wrap ((i:Int)+1)=i+1:=by rw[IntKind.wrap_i64];omega
 have hw10:(0:Int)<=n:=by omega
 have hw11:(0:Int)<=i:=by omega
 have hw12:(i:Int)<=n:=by omega
 have hw13:(i:Int)+1<=n+1:=by omega
 have hw14:((i:Int)+1).toNat=i+1:=by omega
 have hw15:(0:Int)<=(i:Int)+1:=by omega
 have hw16:(i:Int)<=n+1:=by omega
 have HMI:Hid (n-i=Nat.min (n-i) (n-i)):=by unfold Hid;show n-i=min (n-i) (n-i);omega
 have HM1:Hid (1=Nat.min 1 (n+1-i)):=by unfold Hid;show 1=min 1 (n+1-i);omega
 have HDL:Hid (((l.flatMap encN).drop i).length=(n-i)*1):=by unfold Hid;rw[aJ,HFL.out];omega
 have HF1:Hid (i+(encN x).length<=((l.flatMap encN).take i++zs).length):=by unfold Hid;rw[Z0j,HZL.out];omega
 have HF2:Hid (i+1+((l.flatMap encN).drop i).length<=(((l.flatMap encN).take i++zs).take i++encN x++((l.flatMap encN).take i++zs).drop (i+(encN x).length)).length):=by unfold Hid;have h3:=HZL.out;simp only[aA,aD,aJ,Z0j,HFL.out]at h3 ⊢;omega
 have HFIN:Hid (∀w',Row1 w' N 3 ((l.flatMap encN).take i++encN x++(l.flatMap encN).drop i++zs.drop ((l.flatMap encN).length+1-i))->OwnL w' base 3 1 encN (.slice (some ⟨N,0,none⟩) (n+1) Gc) (insL l i x)):=fun w' h1=>by
  rw[<-Y0f Z0j]at h1;have h2:=OwnL.ofRow (k:=1) (base:=base) h1 (by omega) (cap:=Gc) (by rw[Z1b,HN.out];exact hg1) hg2 (by
   have h3:=HZL.out;rw[aA,hct]at h3;rw[aA,Z0t Z0j,Z1b,aJ,hfl];have:=HN.out;omega) Z0j
  rwa [Z1b,HN.out]at h2
 have HSRC:Hid (∀W,Row1 W b 3 (l.flatMap encN++spare)->∀j v,((l.flatMap encN).drop i)[j]? =some v->W.cell? ((⟨b,i,none⟩:Addr).add j)=some v):=fun W hW j v hj=>by rw[List.getElem?_drop]at hj;rw[Addr.add_lit,hW.cell,aL (aC.1 hj).1,hj]
 clear hr hG hfl hnn hzr hx1 hzl hct;go_enter Tryz.func154,Tryz.ntmps154;go_upto_region 11 with (first
  | (at_builtin;go_loud (refine Z2b rfl (.tmp 34) (.tmp 39) 80 3 rfl (.slice (some ⟨b,0,none⟩) i n) (.int .i64 ((n:Int)+1-i)) (by simp[Act.eval,Act.put]) (by simp[Act.eval,Act.put]) (hz.out _) ?_))
  | (with_reducible show wpList _ _ _ (({ dst:=_,op:=Op.call { callee:=Callee.builtin Builtin.copy,args:=_,argTypes:=_},type:=_,pos:=_,after:=_,guard:=_}:Oper)::_) _ _;go_loud (refine Z2x rfl (.tmp 43) (.tmp 44) 80 80 rfl 3 1 Tryz.underlying80 Y7v N i (n+1-i) (Gc-i) ⟨G,0,none⟩ 1 1 (by simp[Act.eval,Act.put]) (by simp[Act.eval,Act.put]) _ 3 HZR.out (encN x) 1 HM1.out rfl (Y0z HG1.out) HF1.out (Z2s x) ?_;intro w2 hr2 hb2)))
 have HR2:=hD hr2;have HRb:Hid (Row1 w2 b 3 (l.flatMap encN++spare)):=HR1.out.same (hb2.block b HR1.out.lt (fun e=>hbN (by injection e)));have HX2:Hid (Ext w w2):=(But.trans (But.of HX1.out) hb2).fresh (by omega);have hsz2:=HX2.out.size;have hb2w:=HRb.out.lt;have hN2w:=HR2.out.lt;have HRbX:Hid (∀W,Ext w2 W->Row1 W b 3 (l.flatMap encN++spare)):=fun W hW=>HRb.out.ext hW HRb.out.lt;have HRNX:Hid (∀W,Ext w2 W->Row1 W N 3 (((l.flatMap encN).take i++zs).take i++encN x++((l.flatMap encN).take i++zs).drop (i+(encN x).length))):=fun W hW=>HR2.out.ext hW HR2.out.lt;clear hr2 hb2;go_region_law (refine Z5o rfl (Z5e (.tmp 50) (.tmp 53) 80 80 rfl 3 1 Tryz.underlying80 Y7v N (i+1) (n-i) (Gc-(i+1)) ⟨b,i,none⟩ (n-i) (n-i) (by simp[Act.eval,Act.put]) (by simp[Act.eval,Act.put]) _ 3 (HRNX.out _ (by exact Xt)) ((l.flatMap encN).drop i) (n-i) HMI.out HDL.out (HSRC.out _ (HRbX.out _ (by exact Xt))) HF2.out (fun v hv=>Z6d Z2s l v (List.mem_of_mem_drop hv)) ?_);intro w3 hr3 hb3)
 all_goals
  rw[HROW.out]at hr3;have HW:=hD (HFIN.out w3 hr3);have HX3:Hid (Ext w w3):=(But.trans (But.of (Ext.trans HX2.out (by exact Xt))) hb3).fresh (by omega);clear hr3 hb3;go_wp2_with fail;go_ret;exact⟨_,rfl,HW.out,rfl,HX3.out⟩
theorem V7w{v:Value}{l:List Int}(x:Int)(G i:Nat)(w:World)(h:OwnL w 0 3 1 encN v l)(hi:i<=l.length)(hG:Row1 w G 3 (encN x))(hne:v.ownBlock≠some G)(hl:l.length<=100000):
  cQ 154 #[v,.int .i64 i,.slice (some ⟨G,0,none⟩) 1 1] w fun e w'=>∃v',e= .returned v'/\OwnL w' 0 3 1 encN v' (insL l i x)/\(∀k,v'.ownBlock=some k->v.ownBlock=some k\/w.heap.size<=k)/\Only (fun j=>v.ownBlock=some j) w w':=by
 by_cases h0:i=l.length
 ·refine(V7v x G i w h h0.symm hG hne (Nat.zero_le _) hl).mono ?_;rintro e w' ⟨v',h1,h2,h3,h4⟩;refine⟨v',h1,?_,h3,h4⟩;unfold insL;rw[h0,List.take_length,List.drop_length];exact h2
 ·obtain⟨b,cap,spare,rfl,hb0,hr,hc1,hc2,hs,hfl⟩:=h.row (by omega);by_cases hroom:l.length+1<=cap
  ·refine(V2y (base:=0) x i w hr (Nat.zero_le _) (by omega) hroom hc2 hs hG (fun e=>hne (by rw[e];rfl))).mono ?_;rintro e w' ⟨v',h1,h2,h3,h4⟩;exact⟨v',h1,h2,fun k hk=> .inl (by rw[<-hk,h3];rfl),h4.mono (fun i q=> .inl (by rw[q];rfl))⟩
  ·refine(V2z (base:=0) x i w hr (by omega) (by omega) hl (Nat.zero_le _) hG).mono ?_;rintro e w' ⟨v',h1,h2,h3,h4⟩;exact⟨v',h1,h2,fun k hk=> .inr (by rw[h3]at hk;injection hk with hk;omega),Only.of h4⟩
theorem X8n{b:Nat}{v:Value}{l:List ByteArray}(w:World)(h:OwnL w b 9 1 encS v l)(hl:l.length<=100000):
  cQ 183 #[v] w fun e w'=>∃v',e= .returned v'/\OwnL w' w.heap.size 9 1 encS v' l/\Ext w w':=by
 have hs:=OwnL.sl (R:=fun x cs=>cs=encS x) Z0d (fun _=>rfl) h;obtain⟨A,c,rfl⟩:=h.form;obtain⟨_,_,_,hA⟩:=hs.at;have HS:=hD hs;have hq:=fun(A:Option Addr) (n c:Nat) (W:World)=>V3x (P:=Tryz.prog) W 164 9 A n c Tryz.underlying164;cases A with
 | none=>
   have hl0:l= []:=by
    rcases Nat.eq_zero_or_pos l.length with e | e
    ·exact List.eq_nil_of_length_eq_zero e
    ·obtain⟨_,_,h,_⟩:=hA e;cases h
   clear hA h;go_enter Tryz.func183,Tryz.ntmps183;go_wp2_with fail;go_ret;exact⟨_,rfl,OwnL.nil _ _ _ _ _,Ext.refl w⟩
 | some ad=>
   clear hA h;go_enter Tryz.func183,Tryz.ntmps183;go_wp2_with (at_builtin;go_loud (refine Z4x elStr Z0d Z1n rfl (.tmp 5) (.tmp 6) rfl _ [] rfl (OwnL.made _ _ _ _) (by first | (simp;done) | (simp;omega) | omega) _ _ _ l rfl rfl ?la2 (by simp;omega) (by decide) ?_))
   case la2=>exact Src.sl Z0d (by decide) (fun _ _ h=>h) (HS.out.ext (by exact Xt))
   intro pA pc wp hp1 hgp;have X1:=hD ((OwnL.made w 9 1 encS).grown (a:=w) (by exact Xt) hgp (by simp));have O1:=hD hp1;clear hp1 hgp;go_wp2_with fail;go_ret;exact⟨_,rfl,O1.out,X1.out⟩
theorem X2v(w:World)(n:Nat)(h0:0<n)(hn:n<=1000000):∃(Gc:Nat) (w1:World) (zs:List Value),Hid (∀ty,(Builtin.append_ #[164,3] ty #[.slice none 0 0,.int .i64 (n:Int)]).run Tryz.prog w= .ok (.slice (some ⟨w.heap.size,0,none⟩) n Gc) w1)/\
  Row1 w1 w.heap.size 9 zs/\zs.length=Gc*1/\n<=Gc/\Gc<=9223372036854775807/\Ext w w1:=by
 obtain⟨i0,z,hi0,hz,hsize,hby,hzs⟩:=elStr.hi;have hold:(Builtin.firstCells i0.size 0 (.slice none 0 0)).run Tryz.prog w.drew= .ok (#[]:Array Value) w.drew:=by simp[Builtin.firstCells]
 have h:=fun ty=>Lib.run_append_grow_zeros (P:=Tryz.prog) w 164 3 ty 9 i0 z .i64 .i64 Tryz.underlying164 Tryz.underlying3 hi0 hz none 0 0 [] hold n h0 (by rw[hsize];omega) (by omega) (by omega) (by rw[hby];omega) (growslice_fits (by omega) (by rw[hby];omega));have hg:=grownCap_ge w (0+n) 0 9;have hm:=grownCap_le_maxLen w (0+n) 0 9 (by unfold maxLen;omega);obtain⟨Gc,hG⟩:∃Gc,grownCap w (0+n) 0 9=Gc:=⟨_,rfl⟩;rw[hG]at h hg hm;obtain⟨R,hR⟩:∃R:Array Value,(#[]:Array Value)++Builtin.zeroCells z.cells n++Builtin.zeroCells z.cells (Gc-(0+n))=R:=⟨_,rfl⟩;have hRs:R.size=Gc*1:=by rw[<-hR];simp[size_zeroCells,hzs];omega
 rw[show ([]:List Value).toArray= #[]from rfl,hR]at h;refine⟨Gc,_,R.toList,fun ty=> ?_,Row1.made w.drew 9 R.toList,by rw[Array.length_toList];exact hRs,by omega,by simpa [maxLen]using hm,Below.alloc (Below.drew (Ext.refl w)) (aF _) _⟩;have h2:=h ty;rw[Nat.zero_add]at h2;rw[h2]
theorem V3g(n:Nat)(w:World)(hn:n<=1000000):cQ 214 #[.slice none 0 0,.int .i64 n] w fun e w'=>∃A c,e= .returned (.slice A 0 c)/\OwnL w' w.heap.size 9 1 encS (.slice A 0 c) []/\Ext w w':=by
 by_cases h0:n=0
 ·subst h0;go_enter Tryz.func214,Tryz.ntmps214;go_wp2_with fail;go_ret;exact⟨none,0,rfl,OwnL.nil _ _ _ _ _,Ext.refl w⟩
 ·obtain⟨Gc,w1,zs,hrun,hrow,hlen,hge,hle,hx⟩:=X2v w n (by omega) hn;have q1:decide ((n:Int)<0)=false:=aM;have q2:decide ((0:Int)<(n:Int))=true:=aN;have q3:0<n:=by omega
  have HRUN:=hrun;have HROW:=hD hrow;have HX:=hD hx;have HLEN:=hD hlen;clear hrow hx hlen h0;go_enter Tryz.func214,Tryz.ntmps214;go_wp2_with (at_builtin;go_loud (refine Z2b rfl (.tmp 20) (.tmp 21) 164 3 rfl (.slice none 0 0) (.int .i64 (n:Int)) (by simp[Act.eval,Act.put]) (by simp[Act.eval,Act.put]) (HRUN.out _) ?_));go_ret;refine⟨_,_,rfl,OwnL.ofRow (k:=1) (l:= []) (spare:=zs) HROW.out (aF _) (Nat.zero_le _) hle HLEN.out Z0d,HX.out⟩
theorem X5u{w:World}{v:Value}{l:List ByteArray}{base:Nat}(h:OwnL w base 9 1 encS v l):∃A c,v= .slice A l.length c/\∀W,Ext w W->Src W A l.length 1 (l.flatMap encS):=by obtain⟨A,c,rfl⟩:=h.form;exact⟨A,c,rfl,fun W hW=>Src.sl Z0d (by decide) (fun _ _ q=>q) (OwnL.sl (R:=fun x cs=>cs=encS x) Z0d (fun _=>rfl) (h.ext hW))⟩
def V9a(l0 l1:List ByteArray)(q:Nat):List ByteArray:=if q=0 then []else if q=1 then l0 else l0++l1
theorem V8y{v0 v1:Value}{l0 l1:List ByteArray}{b0 b1:Nat}(G:Nat)(w:World)(h0:OwnL w b0 9 1 encS v0 l0)(h1:OwnL w b1 9 1 encS v1 l1)(hG:Row1 w G 164 [v0,v1])(hl:l0.length+l1.length<=100000):
  cQ 184 #[.slice (some ⟨G,0,none⟩) 2 2] w fun e w'=>∃v',e= .returned v'/\OwnL w' w.heap.size 9 1 encS v' (l0++l1)/\Ext w w':=by
 obtain⟨A0,c0,rfl,hs0⟩:=X5u h0;obtain⟨A1,c1,rfl,hs1⟩:=X5u h1;have HS0:=hD hs0;have HS1:=hD hs1;have HG:=hD hG;obtain⟨n0,hn0⟩:∃n,l0.length=n:=⟨_,rfl⟩;obtain⟨n1,hn1⟩:∃n,l1.length=n:=⟨_,rfl⟩;have HN0:=hD hn0;have HN1:=hD hn1;rw[hn0]at HS0 HG hl;rw[hn1]at HS1 HG hl;have HGR:Hid (∀W,Ext w W->W.cell? ⟨G,0,none⟩=some (.slice A0 n0 c0)/\W.cell? ⟨G,1,none⟩=some (.slice A1 n1 c1)):=fun W hW=>⟨(HG.out.ext hW HG.out.lt).cell 0,(HG.out.ext hW HG.out.lt).cell 1⟩;clear h0 h1 hG hs0 hs1 hn0 hn1;go_enter Tryz.func184,Tryz.ntmps184;go_wp2_with fail;obtain⟨x0,x1⟩:=HGR.out w (Ext.refl w)
 go_loop [3,11] (fun s x=>(s= .int .i64 0/\x= .int .i64 0)\/(s= .int .i64 n0/\x= .int .i64 1)\/(s= .int .i64 ((n0:Int)+n1)/\x= .int .i64 2)) (fun _ x=>2-(intOf x).toNat)
 case atStart=>exact .inl ⟨rfl,rfl⟩
 case round=>
  rcases hrel with ⟨rfl,rfl⟩ | ⟨rfl,rfl⟩ | ⟨rfl,rfl⟩
  ·go_wp2_with fail
   go_round
   case rel=>exact .inr (.inl ⟨by simp,rfl⟩)
   case measure=>simp[intOf]
  ·have q1:decide (((n0:Int)+n1)<0)=false:=aM;go_wp2_with fail
   go_round
   case rel=>exact .inr (.inr ⟨rfl,rfl⟩)
   case measure=>simp[intOf]
  ·have cG:=V3g (n0+n1) w (by omega);rw[Int.natCast_add]at cG;have hlb:n0+n1<=100000:=hl;go_wp2_with (go_at_call 214;(with_reducible refine cG.mono ?_);clear cG;rintro e w2 ⟨A2,c2,rfl,ho2,hx2⟩;have HO2:=hD ho2;have HX2:=hD hx2;clear ho2 hx2)
   go_loopw [6,27] (fun v x wr=>∃q:Nat,q<=2/\x= .int .i64 q/\Hid (OwnL wr w.heap.size 9 1 encS v (V9a l0 l1 q))/\Hid (Ext w wr)) (fun _ x _=>2-(intOf x).toNat)
   case atStart=>exact⟨0,by omega,rfl,HO2,HX2⟩
   case round=>
    obtain⟨q,hq,rfl,ho,hx⟩:=hrel;obtain⟨y0,y1⟩:=HGR.out _ hx.out;obtain⟨A3,c3,hv3⟩:=OwnL.form ho.out;subst hv3;have hz:=hx.out.size
    match q,hq with
    | 0,_=>
      have hk0:V9a l0 l1 0= []:=rfl;rw[hk0]at ho;have q5:((0:Nat):Int)=0:=rfl;rw[q5,hk0];have e0:([]:List ByteArray).length=0:=rfl;rw[e0];have HO:=hD ho.out;clear ho;go_wp2_with (at_builtin;go_loud (refine Z4x elStr Z0d Z1n rfl (.tmp 31) (.tmp 32) rfl (.slice A3 0 c3) [] rfl HO.out hz A0 n0 c0 l0 rfl HN0.out.symm (HS0.out _ hx.out) (by have:=HN0.out;simp;omega) (by decide) ?_;intro A' c' w3 h2 h3));have HO3:=hD h2;have HX3:Hid (Ext w w3):=HO.out.grown hx.out h3 (aF _);clear h2 h3
      go_roundw
      case rel=>exact⟨1,by omega,rfl,hD (by have:=HO3.out;rwa [List.nil_append]at this),HX3⟩
      case measure=>simp[intOf]
    | 1,_=>
      have hk0:V9a l0 l1 1=l0:=rfl;rw[hk0]at ho;have q5:((1:Nat):Int)=1:=rfl;rw[q5,hk0,HN0.out];have HO:=hD ho.out;rw[HN0.out]at HO;clear ho;go_wp2_with (at_builtin;go_loud (refine Z4x elStr Z0d Z1n rfl (.tmp 31) (.tmp 32) rfl (.slice A3 n0 c3) l0 rfl HO.out hz A1 n1 c1 l1 rfl HN1.out.symm (HS1.out _ hx.out) (by have:=HN0.out;have:=HN1.out;omega) (by decide) ?_;intro A' c' w3 h2 h3));have HO3:=hD h2;have HX3:Hid (Ext w w3):=HO.out.grown hx.out h3 (aF _);clear h2 h3
      go_roundw
      case rel=>exact⟨2,by omega,rfl,hD (by have:=HO3.out;rwa [aA]at this),HX3⟩
      case measure=>simp[intOf]
    | 2,_=>
      have hk0:V9a l0 l1 2=l0++l1:=rfl;rw[hk0]at ho;have q5:((2:Nat):Int)=2:=rfl;rw[q5,hk0];have HO:=hD ho.out;clear ho;go_wp2_with fail;go_ret;exact⟨_,rfl,HO.out,hx.out⟩
theorem X2w(w:World)(n:Nat)(h0:0<n)(hn:n<=1000000):∃(Gc:Nat) (w1:World) (zs:List Value),Hid (∀ty,(Builtin.append_ #[80,3] ty #[.slice none 0 0,.int .i64 (n:Int)]).run Tryz.prog w= .ok (.slice (some ⟨w.heap.size,0,none⟩) n Gc) w1)/\
  Row1 w1 w.heap.size 3 zs/\zs.length=Gc*1/\n<=Gc/\Gc<=9223372036854775807/\Ext w w1:=by
 obtain⟨i0,z,hi0,hz,hsize,hby,hzs⟩:=elInt.hi;have hold:(Builtin.firstCells i0.size 0 (.slice none 0 0)).run Tryz.prog w.drew= .ok (#[]:Array Value) w.drew:=by simp[Builtin.firstCells]
 have h:=fun ty=>Lib.run_append_grow_zeros (P:=Tryz.prog) w 80 3 ty 3 i0 z .i64 .i64 Tryz.underlying80 Tryz.underlying3 hi0 hz none 0 0 [] hold n h0 (by rw[hsize];omega) (by omega) (by omega) (by rw[hby];omega) (growslice_fits (by omega) (by rw[hby];omega));have hg:=grownCap_ge w (0+n) 0 3;have hm:=grownCap_le_maxLen w (0+n) 0 3 (by unfold maxLen;omega);obtain⟨Gc,hG⟩:∃Gc,grownCap w (0+n) 0 3=Gc:=⟨_,rfl⟩;rw[hG]at h hg hm;obtain⟨R,hR⟩:∃R:Array Value,(#[]:Array Value)++Builtin.zeroCells z.cells n++Builtin.zeroCells z.cells (Gc-(0+n))=R:=⟨_,rfl⟩;have hRs:R.size=Gc*1:=by rw[<-hR];simp[size_zeroCells,hzs];omega
 rw[show ([]:List Value).toArray= #[]from rfl,hR]at h;refine⟨Gc,_,R.toList,fun ty=> ?_,Row1.made w.drew 3 R.toList,by rw[Array.length_toList];exact hRs,by omega,by simpa [maxLen]using hm,Below.alloc (Below.drew (Ext.refl w)) (aF _) _⟩;have h2:=h ty;rw[Nat.zero_add]at h2;rw[h2]
theorem V3h(n:Nat)(w:World)(hn:n<=1000000):cQ 215 #[.slice none 0 0,.int .i64 n] w fun e w'=>∃A c,e= .returned (.slice A 0 c)/\OwnL w' w.heap.size 3 1 encN (.slice A 0 c) []/\Ext w w':=by
 by_cases h0:n=0
 ·subst h0;go_enter Tryz.func215,Tryz.ntmps215;go_wp2_with fail;go_ret;exact⟨none,0,rfl,OwnL.nil _ _ _ _ _,Ext.refl w⟩
 ·obtain⟨Gc,w1,zs,hrun,hrow,hlen,hge,hle,hx⟩:=X2w w n (by omega) hn;have q1:decide ((n:Int)<0)=false:=aM;have q2:decide ((0:Int)<(n:Int))=true:=aN;have q3:0<n:=by omega
  have HRUN:=hrun;have HROW:=hD hrow;have HX:=hD hx;have HLEN:=hD hlen;clear hrow hx hlen h0;go_enter Tryz.func215,Tryz.ntmps215;go_wp2_with (at_builtin;go_loud (refine Z2b rfl (.tmp 20) (.tmp 21) 80 3 rfl (.slice none 0 0) (.int .i64 (n:Int)) (by simp[Act.eval,Act.put]) (by simp[Act.eval,Act.put]) (HRUN.out _) ?_));go_ret;refine⟨_,_,rfl,OwnL.ofRow (k:=1) (l:= []) (spare:=zs) HROW.out (aF _) (Nat.zero_le _) hle HLEN.out Z0j,HX.out⟩
theorem X5v{w:World}{v:Value}{l:List Int}{base:Nat}(h:OwnL w base 3 1 encN v l):∃A c,v= .slice A l.length c/\∀W,Ext w W->Src W A l.length 1 (l.flatMap encN):=by obtain⟨A,c,rfl⟩:=h.form;exact⟨A,c,rfl,fun W hW=>Src.sl Z0j (by decide) (fun _ _ q=>q) (OwnL.sl (R:=fun x cs=>cs=encN x) Z0j (fun _=>rfl) (h.ext hW))⟩
def V9b(l0 l1:List Int)(q:Nat):List Int:=if q=0 then []else if q=1 then l0 else l0++l1
theorem V8z{v0 v1:Value}{l0 l1:List Int}{b0 b1:Nat}(G:Nat)(w:World)(h0:OwnL w b0 3 1 encN v0 l0)(h1:OwnL w b1 3 1 encN v1 l1)(hG:Row1 w G 80 [v0,v1])(hl:l0.length+l1.length<=100000):
  cQ 185 #[.slice (some ⟨G,0,none⟩) 2 2] w fun e w'=>∃v',e= .returned v'/\OwnL w' w.heap.size 3 1 encN v' (l0++l1)/\Ext w w':=by
 obtain⟨A0,c0,rfl,hs0⟩:=X5v h0;obtain⟨A1,c1,rfl,hs1⟩:=X5v h1;have HS0:=hD hs0;have HS1:=hD hs1;have HG:=hD hG;obtain⟨n0,hn0⟩:∃n,l0.length=n:=⟨_,rfl⟩;obtain⟨n1,hn1⟩:∃n,l1.length=n:=⟨_,rfl⟩;have HN0:=hD hn0;have HN1:=hD hn1;rw[hn0]at HS0 HG hl;rw[hn1]at HS1 HG hl;have HGR:Hid (∀W,Ext w W->W.cell? ⟨G,0,none⟩=some (.slice A0 n0 c0)/\W.cell? ⟨G,1,none⟩=some (.slice A1 n1 c1)):=fun W hW=>⟨(HG.out.ext hW HG.out.lt).cell 0,(HG.out.ext hW HG.out.lt).cell 1⟩;clear h0 h1 hG hs0 hs1 hn0 hn1;go_enter Tryz.func185,Tryz.ntmps185;go_wp2_with fail;obtain⟨x0,x1⟩:=HGR.out w (Ext.refl w)
 go_loop [3,11] (fun s x=>(s= .int .i64 0/\x= .int .i64 0)\/(s= .int .i64 n0/\x= .int .i64 1)\/(s= .int .i64 ((n0:Int)+n1)/\x= .int .i64 2)) (fun _ x=>2-(intOf x).toNat)
 case atStart=>exact .inl ⟨rfl,rfl⟩
 case round=>
  rcases hrel with ⟨rfl,rfl⟩ | ⟨rfl,rfl⟩ | ⟨rfl,rfl⟩
  ·go_wp2_with fail
   go_round
   case rel=>exact .inr (.inl ⟨by simp,rfl⟩)
   case measure=>simp[intOf]
  ·have q1:decide (((n0:Int)+n1)<0)=false:=aM;go_wp2_with fail
   go_round
   case rel=>exact .inr (.inr ⟨rfl,rfl⟩)
   case measure=>simp[intOf]
  ·have cG:=V3h (n0+n1) w (by omega);rw[Int.natCast_add]at cG;have hlb:n0+n1<=100000:=hl;go_wp2_with (go_at_call 215;(with_reducible refine cG.mono ?_);clear cG;rintro e w2 ⟨A2,c2,rfl,ho2,hx2⟩;have HO2:=hD ho2;have HX2:=hD hx2;clear ho2 hx2)
   go_loopw [6,27] (fun v x wr=>∃q:Nat,q<=2/\x= .int .i64 q/\Hid (OwnL wr w.heap.size 3 1 encN v (V9b l0 l1 q))/\Hid (Ext w wr)) (fun _ x _=>2-(intOf x).toNat)
   case atStart=>exact⟨0,by omega,rfl,HO2,HX2⟩
   case round=>
    obtain⟨q,hq,rfl,ho,hx⟩:=hrel;obtain⟨y0,y1⟩:=HGR.out _ hx.out;obtain⟨A3,c3,hv3⟩:=OwnL.form ho.out;subst hv3;have hz:=hx.out.size
    match q,hq with
    | 0,_=>
      have hk0:V9b l0 l1 0= []:=rfl;rw[hk0]at ho;have q5:((0:Nat):Int)=0:=rfl;rw[q5,hk0];have e0:([]:List Int).length=0:=rfl;rw[e0];have HO:=hD ho.out;clear ho;go_wp2_with (at_builtin;go_loud (refine Z4x elInt Z0j Z2s rfl (.tmp 31) (.tmp 32) rfl (.slice A3 0 c3) [] rfl HO.out hz A0 n0 c0 l0 rfl HN0.out.symm (HS0.out _ hx.out) (by have:=HN0.out;simp;omega) (by decide) ?_;intro A' c' w3 h2 h3));have HO3:=hD h2;have HX3:Hid (Ext w w3):=HO.out.grown hx.out h3 (aF _);clear h2 h3
      go_roundw
      case rel=>exact⟨1,by omega,rfl,hD (by have:=HO3.out;rwa [List.nil_append]at this),HX3⟩
      case measure=>simp[intOf]
    | 1,_=>
      have hk0:V9b l0 l1 1=l0:=rfl;rw[hk0]at ho;have q5:((1:Nat):Int)=1:=rfl;rw[q5,hk0,HN0.out];have HO:=hD ho.out;rw[HN0.out]at HO;clear ho;go_wp2_with (at_builtin;go_loud (refine Z4x elInt Z0j Z2s rfl (.tmp 31) (.tmp 32) rfl (.slice A3 n0 c3) l0 rfl HO.out hz A1 n1 c1 l1 rfl HN1.out.symm (HS1.out _ hx.out) (by have:=HN0.out;have:=HN1.out;omega) (by decide) ?_;intro A' c' w3 h2 h3));have HO3:=hD h2;have HX3:Hid (Ext w w3):=HO.out.grown hx.out h3 (aF _);clear h2 h3
      go_roundw
      case rel=>exact⟨2,by omega,rfl,hD (by have:=HO3.out;rwa [aA]at this),HX3⟩
      case measure=>simp[intOf]
    | 2,_=>
      have hk0:V9b l0 l1 2=l0++l1:=rfl;rw[hk0]at ho;have q5:((2:Nat):Int)=2:=rfl;rw[q5,hk0];have HO:=hD ho.out;clear ho;go_wp2_with fail;go_ret;exact⟨_,rfl,HO.out,hx.out⟩
end Go.Proofs.YtohaldfnmgcofaaGreat
