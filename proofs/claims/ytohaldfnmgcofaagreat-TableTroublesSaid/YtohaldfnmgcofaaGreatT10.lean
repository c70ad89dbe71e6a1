/- slices.Insert of one item ahead of all others. Conditions: sizes. -/
import Derived.Test.YtohaldfnmgcofaaGreatT09
import Derived.Test.YtohaldfnmgcofaaGreatT07
import Derived.Lib.Overlaps
import Derived.Lib.AppendZerosOnto
set_option maxRecDepth 100000
set_option maxHeartbeats 4000000
set_option linter.unusedSimpArgs false
set_option linter.unusedVariables false
namespace Go.Proofs.YtohaldfnmgcofaaGreat
open Go.RowKit
theorem U1g(l:List (Int×ByteArray))(x:Int×ByteArray)(spare:List Value)(h3:3<=spare.length):
  ((l.flatMap encI++spare).take 3++l.flatMap encI++(l.flatMap encI++spare).drop (3+(l.flatMap encI).length)).take 0++encI x++((l.flatMap encI++spare).take 3++l.flatMap encI++(l.flatMap encI++spare).drop (3+(l.flatMap encI).length)).drop (0+(encI x).length)=(x::l).flatMap encI++spare.drop 3:=by
 have e1:((l.flatMap encI++spare).take 3).length=3:=by rw[aD,aA];omega
 have e2:(l.flatMap encI++spare).drop (3+(l.flatMap encI).length)=spare.drop 3:=by rw[Nat.add_comm,<-List.drop_drop,List.drop_left]
 rw[e2,List.take_zero,List.nil_append,Nat.zero_add,Z1v,aG,List.drop_left' e1,aI,aG]
theorem V0c{W:World}{b:Nat}{t:TypeId}{l:List (Int×ByteArray)}{spare:List Value}(h:Row1 W b t (l.flatMap encI++spare)):∀j v,(l.flatMap encI)[j]? =some v->W.cell? ((⟨b,0,none⟩:Addr).add j)=some v:=fun j v hj=>by rw[Addr.add_lit,Nat.zero_add,h.cell j,aL (aC.1 hj).1,hj]
theorem Y0z{W:World}{b:Nat}{t:TypeId}{cs:List Value}(h:Row1 W b t cs):∀j v,cs[j]? =some v->W.cell? ((⟨b,0,none⟩:Addr).add j)=some v:=fun j v hj=>by rw[Addr.add_lit,Nat.zero_add,h.cell j,hj]
theorem X2t{base:Nat}{v:Value}(x:Int×ByteArray)(G:Nat)(w:World)(h:OwnL w base 293 3 encI v [])(hG:Row1 w G 293 (encI x))(hb:base<=w.heap.size):
  cQ 212 #[v,.int .i64 0,.slice (some ⟨G,0,none⟩) 1 1] w fun e w'=>∃v',e= .returned v'/\OwnL w' base 293 3 encI v' [x]/\(∀k,v'.ownBlock=some k->v.ownBlock=some k\/w.heap.size<=k)/\Only (fun j=>v.ownBlock=some j) w w':=by
 obtain⟨A,c,rfl⟩:=h.form;have HH:=hD h;have HG:=hD hG;clear h hG;go_enter Tryz.func212,Tryz.ntmps212;go_wp2_with (at_builtin;refine Z0u elItem Z1v Y2z rfl (.tmp 23) (.tmp 24) rfl (.slice A 0 c) [] rfl HH.out hb G 1 x rfl HG.out (by simp) (by decide) ?_;intro A' c' w2 hown2 hgr hwh);go_ret;rw[List.nil_append,aK]at hown2;rw[List.nil_append,aK]at hwh;exact⟨_,rfl,hown2,hwh,Only.grown hgr⟩
theorem X2r{base:Nat}{b cap G:Nat}{l:List (Int×ByteArray)}{spare:List Value}(x:Int×ByteArray)(w:World)(hr:Row1 w b 293 (l.flatMap encI++spare))(hbb:base<=b)(hn:0<l.length)(hroom:l.length+1<=cap)(hcap:cap<=9223372036854775807)(htot:(l.flatMap encI++spare).length=cap*3)
 (hG:Row1 w G 293 (encI x))(hne:G≠b):
  cQ 212 #[.slice (some ⟨b,0,none⟩) l.length cap,.int .i64 0,.slice (some ⟨G,0,none⟩) 1 1] w fun e w'=>∃v',e= .returned v'/\OwnL w' base 293 3 encI v' (x::l)/\v'.ownBlock=some b/\Only (fun j=>j=b) w w':=by
 have hfl:=Z1x l;have hsp:3<=spare.length:=by rw[aA,hfl]at htot;omega
 have HROW:=hD (U1g l x spare hsp);have hsa:w.shape? G=some (293,3):=by unfold World.shape?;rw[show w.heap[G]? =_ from hG];rfl
 have hsb:w.shape? b=some (293,cap*3):=by unfold World.shape?;rw[show w.heap[b]? =_ from hr];simp[<-htot]
 have hov:∀lb cb,(callFunc 234 #[.slice (some ⟨G,0,none⟩) 1 1,.slice (some ⟨b,3,none⟩) lb cb]).run Tryz.prog w= .ok (.value (.bool false)) w:=fun lb cb=>by
  rw[run_callFunc_extern Tryz.func234 (by kernel_rfl) (by kernel_rfl) (by kernel_rfl) (e:=Extern.SlicesOverlaps.overlaps #[260,260] #[4]) (by kernel_rfl),
   Lib.run_overlaps_apart w 260 4 293 Tryz.underlying260 3 (fun w=>by kernel_rfl) ⟨G,0,none⟩ ⟨b,3,none⟩ 1 1 lb cb hne _ _ 3 (cap*3) hsa hsb (by omega) (hG.soft 0) (hG.soft 3)]
  rfl
 obtain⟨n,hnn⟩:∃n,l.length=n:=⟨_,rfl⟩;have HR:=hD hr;have HG:=hD hG;have HN:=hD hnn;have HFL:Hid ((l.flatMap encI).length=n*3):=by unfold Hid;rw[hfl,hnn]
 have HTOT:=hD htot;rw[hnn]at hn hroom ⊢;have hw1:¬((0:Int)=(n:Int)):=by omega
 have hw2:¬(cap:Int)<(n:Int)+1:=by omega
 have hw3:(n:Int)+1<=cap:=by omega
 have hw4:¬cap=1:=by omega
 have hw5:((n:Int)+1).toNat=n+1:=by omega
 have hw6:(0:Int)<=(n:Int)+1:=by omega
 have hw7:(1:Int)<=(n:Int)+1:=by omega
 have hw8:¬cap=0:=by omega
 have hw9:IntKind.i64.wrap 1=1:=by decide
 have hw10:(0:Int)<=n:=by omega
 have HMI:Hid (n=Nat.min (n+1) n):=by unfold Hid;show n=min (n+1) n;omega
 have HFIT:Hid (3+(l.flatMap encI).length<=(l.flatMap encI++spare).length):=by unfold Hid;rw[aA];omega
 have HFIN:Hid (∀w',Row1 w' b 293 ((x::l).flatMap encI++spare.drop 3)->OwnL w' base 293 3 encI (.slice (some ⟨b,0,none⟩) (n+1) cap) (x::l)):=fun w' h1=>by
  have h2:=OwnL.ofRow (k:=3) (base:=base) h1 hbb (cap:=cap) (by rw[List.length_cons,HN.out];exact hroom) hcap (by
   have h3:=HTOT.out;rw[aA]at h3;rw[aA,Z1x,List.length_cons,aJ];have:=HFL.out;have:=HN.out;omega) Z1v
  rwa [List.length_cons,HN.out]at h2
 have hbw:=hr.lt;have HRX:Hid (∀W,Ext w W->Row1 W b 293 (l.flatMap encI++spare)):=fun W hW=>HR.out.ext hW hbw;have HM1:Hid (1=Nat.min 1 (n+1)):=by unfold Hid;show 1=min 1 (n+1);omega
 have HFIT2:Hid (0+(encI x).length<=((l.flatMap encI++spare).take 3++l.flatMap encI++(l.flatMap encI++spare).drop (3+(l.flatMap encI).length)).length):=by unfold Hid;simp only[aA,aD,aJ,Z1v];omega
 clear hr hG htot hfl hnn hsa hsb;go_enter Tryz.func212,Tryz.ntmps212;go_upto_region 15 with (simp only[hov]);go_region_law (refine Z5o rfl (Z5e (.tmp 73) (.tmp 76) 260 260 rfl 293 3 Tryz.underlying260 Z9v b 3 n (cap-1) ⟨b,0,none⟩ (n+1) cap (by simp[Act.eval,Act.put]) (by simp[Act.eval,Act.put]) (l.flatMap encI++spare) 293 (HRX.out _ (by exact Xt)) (l.flatMap encI) n HMI.out HFL.out (V0c (HRX.out _ (by exact Xt))) HFIT.out (Y0k _) ?_);intro w2 hr2 hb2)
 all_goals
  have HG2:Hid (Row1 w2 G 293 (encI x)):=Row1.same HG.out (hb2.block G HG.out.lt (fun e=>hne (by injection e)));have HR2:=hD hr2;have HO2:Hid (Only (fun j=>j=b) w w2):=Only.turn (Only.of (by exact Xt)) hb2 (.inl rfl);clear hr2 hb2 hov;go_wp2_with (with_reducible show wpList _ _ _ (({ dst:=_,op:=Op.call { callee:=Callee.builtin Builtin.copy,args:=_,argTypes:=_},type:=_,pos:=_,after:=_,guard:=_}:Oper)::_) _ _;refine Z2x rfl (.tmp 80) (.tmp 81) 260 260 rfl 293 3 Tryz.underlying260 Z9v b 0 (n+1) cap ⟨G,0,none⟩ 1 1 (by simp[Act.eval,Act.put]) (by simp[Act.eval,Act.put]) _ 293 HR2.out (encI x) 1 HM1.out rfl (Y0z HG2.out) HFIT2.out (Y2z x) ?_;intro w3 hr3 hb3);rw[HROW.out]at hr3;have HW:=hD (HFIN.out w3 hr3);have HO3:Hid (Only (fun j=>j=b) w w3):=Only.turn HO2.out hb3 (.inl rfl);clear hr3 hb3;go_wp2_with fail;go_ret;exact⟨_,rfl,HW.out,rfl,HO3.out⟩
section
variable {P:Program}
theorem Z2b{ops:Array Oper}{rest:List Oper}{o:Oper}{a:Act}{w:World}{Q:Exit->Act->World->Prop}(hgd:o.guard=none)(d s:Operand)(t t':TypeId)
 (ho:o.op= .call { callee:= .builtin .append,args:=#[d,s],argTypes:=#[t,t']})(v u:Value)(hd:a.eval d=v)(hs:a.eval s=u){v':Value}{w':World}
 (hr:(Builtin.append_ #[t,t'] o.type #[v,u]).run P w= .ok v' w')(h:wpList P ops Q rest (a.put o.dst v') w'):wpList P ops Q (o::rest) a w:=
 wpList_plain hgd fun K hK=>by unfold Oper.wp execOp;simp only[ho,resolve,invoke,builtin,Sem.run_bind,Sem.run_pure,Result.andThen_ok,List.map_toArray,List.map_cons,List.map_nil,hd,hs,hr];exact hK _ _ h
end
theorem X8y(w:World)(b cap n:Nat)(hn:n=cap)(h0:0<n)(hb:n<=1000000):∃(Gc:Nat) (w1:World) (zs:List Value),Hid (∀ty,(Builtin.append_ #[260,3] ty #[.slice (some ⟨b,0,none⟩) 0 cap,.int .i64 ((n:Int)+1)]).run Tryz.prog w= .ok (.slice (some ⟨w.heap.size,0,none⟩) (n+1) Gc) w1)/\
  Row1 w1 w.heap.size 293 zs/\zs.length=Gc*3/\n+1<=Gc/\Gc<=9223372036854775807/\Ext w w1:=by
 subst hn;obtain⟨i0,z,hi,hz,hsize,hby,hzs⟩:=elItem.hi;have hold:(Builtin.firstCells i0.size 0 (.slice (some ⟨b,0,none⟩) 0 n)).run Tryz.prog w.drew= .ok ([]:List Value).toArray w.drew:=run_firstCells_some (P:=Tryz.prog) w.drew i0.size 0 ⟨b,0,none⟩ 0 n [] (by simp) (by simp);have h:=fun ty=>Lib.run_append_grow_zeros (P:=Tryz.prog) w 260 3 ty 293 i0 z .i64 .i64 Tryz.underlying260 Tryz.underlying3 hi hz (some ⟨b,0,none⟩) 0 n [] hold (n+1) (by omega) (by rw[hsize];omega) (by omega) (by omega) (by rw[hby];omega) (growslice_fits (by omega) (by rw[hby];omega));have e:((n+1:Nat):Int)=(n:Int)+1:=by omega
 have hg:=grownCap_ge w (0+(n+1)) n 293;have hm:=grownCap_le_maxLen w (0+(n+1)) n 293 (by unfold maxLen;omega);obtain⟨Gc,hG⟩:∃Gc,grownCap w (0+(n+1)) n 293=Gc:=⟨_,rfl⟩;rw[hG]at h hg hm;obtain⟨R,hR⟩:∃R:Array Value,([]:List Value).toArray++Builtin.zeroCells z.cells (n+1)++Builtin.zeroCells z.cells (Gc-(0+(n+1)))=R:=⟨_,rfl⟩;have hRs:R.size=Gc*3:=by rw[<-hR];simp[size_zeroCells,hzs];omega
 rw[hR]at h;refine⟨Gc,_,R.toList,fun ty=> ?_,Row1.made w.drew 293 R.toList,by simpa using hRs,by omega,by simpa [maxLen]using hm,Below.alloc (Below.drew (Ext.refl w)) (aF _) _⟩;have h2:=h ty;rw[e,Nat.zero_add]at h2;rw[h2]
theorem X2s{base:Nat}{b cap G:Nat}{l:List (Int×ByteArray)}{spare:List Value}(x:Int×ByteArray)(w:World)(hr:Row1 w b 293 (l.flatMap encI++spare))(hn:0<l.length)(hfull:l.length=cap)(hlim:l.length<=1000000)(hbw:base<=w.heap.size)
 (hG:Row1 w G 293 (encI x)):
  cQ 212 #[.slice (some ⟨b,0,none⟩) l.length cap,.int .i64 0,.slice (some ⟨G,0,none⟩) 1 1] w fun e w'=>∃v',e= .returned v'/\OwnL w' base 293 3 encI v' (x::l)/\v'.ownBlock=some w.heap.size/\Ext w w':=by
 subst hfull;obtain⟨Gc,w1,zs,hz,hzr,hzl,hg1,hg2,hx1⟩:=X8y w b l.length l.length rfl hn hlim;have hfl:=Z1x l;obtain⟨n,hnn⟩:∃n,l.length=n:=⟨_,rfl⟩;have hzs:=hx1.size;have HR1:Hid (Row1 w1 b 293 (l.flatMap encI++spare)):=hr.ext hx1 hr.lt;have HG1:Hid (Row1 w1 G 293 (encI x)):=hG.ext hx1 hG.lt;have hbl:=hr.lt;have hGl:=hG.lt;have HX1:=hD hx1;have HN:=hD hnn;have HFL:Hid ((l.flatMap encI).length=n*3):=by unfold Hid;rw[hfl,hnn]
 rw[hnn]at hn hlim hz hg1 ⊢;obtain⟨N,hN⟩:∃N,w.heap.size=N:=⟨_,rfl⟩;rw[hN]at hz hzr hbl hGl ⊢;have HZR:=hD hzr;have hbN:b≠N:=by omega
 have hGN:G≠N:=by omega
 have hw1:¬((0:Int)=(n:Int)):=by omega
 have hw2:(n:Int)<(n:Int)+1:=by omega
 have hw4:¬Gc=1:=by omega
 have hw5:((n:Int)+1).toNat=n+1:=by omega
 have hw6:(0:Int)<=(n:Int)+1:=by omega
 have hw7:(1:Int)<=(n:Int)+1:=by omega
 have hw8:¬n=0:=by omega
 have hw9:IntKind.i64.wrap 1=1:=by decide
 have hw10:(0:Int)<=n:=by omega
 have hw11:¬Gc=0:=by omega
 have HMI:Hid (n=Nat.min n n):=by unfold Hid;show n=min n n;omega
 have HM1:Hid (1=Nat.min 1 (n+1)):=by unfold Hid;show 1=min 1 (n+1);omega
 have HF1:Hid (0+(encI x).length<=zs.length):=by unfold Hid;rw[Z1v];omega
 have e0:zs.take 0++encI x++zs.drop (0+(encI x).length)=encI x++zs.drop 3:=by rw[Z1v];simp
 have HE0:=hD e0;have HF2:Hid (3+(l.flatMap encI).length<=(encI x++zs.drop 3).length):=by unfold Hid;rw[aA,Z1v,aJ,HFL.out];omega
 have HE1:Hid ((encI x++zs.drop 3).take 3++l.flatMap encI++(encI x++zs.drop 3).drop (3+(l.flatMap encI).length)=(x::l).flatMap encI++zs.drop (3+n*3)):=by unfold Hid;rw[List.take_left' (Z1v x),<-List.drop_drop,List.drop_left' (Z1v x),HFL.out,List.drop_drop,aI]
 have HFIN:Hid (∀w',Row1 w' N 293 ((x::l).flatMap encI++zs.drop (3+n*3))->OwnL w' base 293 3 encI (.slice (some ⟨N,0,none⟩) (n+1) Gc) (x::l)):=fun w' h1=>by
  have h2:=OwnL.ofRow (k:=3) (base:=base) h1 (by omega) (cap:=Gc) (by rw[List.length_cons,HN.out];exact hg1) hg2 (by
   rw[aA,Z1x,List.length_cons,aJ];have:=HN.out;omega) Z1v
  rwa [List.length_cons,HN.out]at h2
 clear hr hG hfl hnn hzr hx1 hzl e0;go_enter Tryz.func212,Tryz.ntmps212;go_upto_region 11 with (first
  | (at_builtin;go_loud (refine Z2b rfl (.tmp 34) (.tmp 39) 260 3 rfl (.slice (some ⟨b,0,none⟩) 0 n) (.int .i64 ((n:Int)+1)) (by simp[Act.eval,Act.put]) (by simp[Act.eval,Act.put]) (hz.out _) ?_))
  | (with_reducible show wpList _ _ _ (({ dst:=_,op:=Op.call { callee:=Callee.builtin Builtin.copy,args:=_,argTypes:=_},type:=_,pos:=_,after:=_,guard:=_}:Oper)::_) _ _;refine Z2x rfl (.tmp 43) (.tmp 44) 260 260 rfl 293 3 Tryz.underlying260 Z9v N 0 (n+1) Gc ⟨G,0,none⟩ 1 1 (by simp[Act.eval,Act.put]) (by simp[Act.eval,Act.put]) zs 293 HZR.out (encI x) 1 HM1.out rfl (Y0z HG1.out) HF1.out (Y2z x) ?_;intro w2 hr2 hb2))
 rw[HE0.out]at hr2;have HR2:=hD hr2;have HRb:Hid (Row1 w2 b 293 (l.flatMap encI++spare)):=HR1.out.same (hb2.block b HR1.out.lt (fun e=>hbN (by injection e)));have HX2:Hid (Ext w w2):=(But.trans (But.of HX1.out) hb2).fresh (by omega);have hsz2:=HX2.out.size;have hb2w:=HRb.out.lt;have hN2w:=HR2.out.lt;have HRbX:Hid (∀W,Ext w2 W->Row1 W b 293 (l.flatMap encI++spare)):=fun W hW=>HRb.out.ext hW HRb.out.lt;have HRNX:Hid (∀W,Ext w2 W->Row1 W N 293 (encI x++zs.drop 3)):=fun W hW=>HR2.out.ext hW HR2.out.lt;clear hr2 hb2;go_region_law (refine Z5o rfl (Z5e (.tmp 50) (.tmp 53) 260 260 rfl 293 3 Tryz.underlying260 Z9v N 3 n (Gc-1) ⟨b,0,none⟩ n n (by simp[Act.eval,Act.put]) (by simp[Act.eval,Act.put]) (encI x++zs.drop 3) 293 (HRNX.out _ (by exact Xt)) (l.flatMap encI) n HMI.out HFL.out (V0c (HRbX.out _ (by exact Xt))) HF2.out (Y0k _) ?_);intro w3 hr3 hb3)
 all_goals
  rw[HE1.out]at hr3;have HW:=hD (HFIN.out w3 hr3);have HX3:Hid (Ext w w3):=(But.trans (But.of (Ext.trans HX2.out (by exact Xt))) hb3).fresh (by omega);clear hr3 hb3;go_wp2_with fail;go_ret;exact⟨_,rfl,HW.out,rfl,HX3.out⟩
theorem Y4o{v:Value}{l:List (Int×ByteArray)}(x:Int×ByteArray)(G:Nat)(w:World)(h:OwnL w 0 293 3 encI v l)(hG:Row1 w G 293 (encI x))(hne:v.ownBlock≠some G)(hl:l.length<=100000):
  cQ 212 #[v,.int .i64 0,.slice (some ⟨G,0,none⟩) 1 1] w fun e w'=>∃v',e= .returned v'/\OwnL w' 0 293 3 encI v' (x::l)/\(∀k,v'.ownBlock=some k->v.ownBlock=some k\/w.heap.size<=k)/\Only (fun j=>v.ownBlock=some j) w w':=by
 by_cases h0:l.length=0
 ·obtain rfl:l= []:=List.eq_nil_of_length_eq_zero h0;exact X2t x G w h hG (Nat.zero_le _)
 ·obtain⟨b,cap,spare,rfl,hb0,hr,hc1,hc2,hs,hfl⟩:=h.row (by omega);by_cases hroom:l.length+1<=cap
  ·refine(X2r (base:=0) x w hr (Nat.zero_le _) (by omega) hroom hc2 hs hG (fun e=>hne (by rw[e];rfl))).mono ?_;rintro e w' ⟨v',h1,h2,h3,h4⟩;exact⟨v',h1,h2,fun k hk=> .inl (by rw[<-hk,h3];rfl),h4.mono (fun i q=> .inl (by rw[q];rfl))⟩
  ·refine(X2s (base:=0) x w hr (by omega) (by omega) (by omega) (Nat.zero_le _) hG).mono ?_;rintro e w' ⟨v',h1,h2,h3,h4⟩;exact⟨v',h1,h2,fun k hk=> .inr (by rw[h3]at hk;injection hk with hk;omega),Only.of h4⟩
def CacheAt(w:World)(c:Nat)(F:Nat->Prop)(l:List (Int×ByteArray)):Prop:=∃lv,CacheAs w c l lv/\F c/\∀b,lv.ownBlock=some b->F b
theorem CacheAt.ext{w w':World}{c:Nat}{F:Nat->Prop}{l:List (Int×ByteArray)}(h:CacheAt w c F l)(hb:Ext w w'):CacheAt w' c F l:=let ⟨lv,h1,h2,h3⟩:=h;⟨lv,h1.ext hb,h2,h3⟩
theorem CacheAt.only{w w':World}{c:Nat}{F G:Nat->Prop}{l:List (Int×ByteArray)}(h:CacheAt w c F l)(hb:Only G w w')(hG:∀i,F i->¬G i):CacheAt w' c F l:=
 let ⟨lv,h1,h2,h3⟩:=h;⟨lv,⟨hb.row h1.row (hG c h2),h1.own.only hb (fun k hk=>hG k (h3 k hk)),h1.len⟩,h2,h3⟩
theorem X1j(w:World):cQ 120 #[.int .i64 64] w fun e w'=>∃c F,e= .returned (.tuple #[tp c,.int .i64 0])/\CacheAt w' c F []/\Ext w w'/\∀i,F i->w.heap.size<=i:=by
 go_enter Tryz.func120,Tryz.ntmps120;go_wp2_with fail
 go_ret2
 exact⟨w.heap.size,fun i=>i=w.heap.size,rfl,⟨.slice none 0 0,⟨Row1.made w _ _,OwnL.nil _ _ _ _ _,by simp⟩,rfl,(fun b hb=>by cases hb)⟩,by exact Xt,fun i hi=>by rw[hi];exact aF _⟩
theorem V8f{c:Nat}{F:Nat->Prop}{l:List (Int×ByteArray)}(k:Int)(w:World)(h:CacheAt w c F l)(hk:idxI l k= -1):
  cQ 179 #[tp c,.int .i64 k] w fun e w'=>e= .returned (.tuple #[.string ⟨#[]⟩,.bool false])/\Ext w w':=by
 obtain⟨lv,h,_,_⟩:=h;have cP:=Z5t k w h;rw[hk]at cP;clear hk h;go_enter Tryz.func179,Tryz.ntmps179;go_wp2_with (go_at_call 202;refine cP.mono ?_;clear cP;rintro e w1 ⟨rfl,hb1⟩)
 go_ret2
 exact⟨rfl,hb1⟩
theorem U1i{c:Nat}{F:Nat->Prop}{l:List (Int×ByteArray)}(k:Int)(i:Nat)(w:World)(h:CacheAt w c F l)(hk:idxI l k=i)(hi:i<l.length):
  cQ 179 #[tp c,.int .i64 k] w fun e w'=>e= .returned (.tuple #[.string l[i].2,.bool true])/\CacheAt w' c F (Z7r l i l[i])/\Only F w w':=by
 obtain⟨lv,h,hF1,hF2⟩:=h;have cP:=Z5t k w h;rw[hk]at cP;have HH:=hD h;obtain⟨x,hx⟩:∃x,l[i]=x:=⟨_,rfl⟩;have HX:=hD hx;have hfl:=Z6c hi x;obtain⟨l',hl'⟩:∃l',Z7r l i x=l':=⟨_,rfl⟩;have HL':Hid (l'[0]? =some x):=by unfold Hid;rw[<-hl'];rfl
 rw[hl']at hfl;have HFL:=hD hfl;have HFR:Hid (∀W,Ext w W->cQ 211 #[tp c,.int .i64 i] W fun e w'=>e= .returned (.tuple #[])/\CacheAs w' c l' lv/\Only (fun j=>lv.ownBlock=some j) W w'):=fun W hW=>by have:=V3p i x W (HH.out.ext hW) hi hx;rwa [hl']at this
 have q1:¬(i:Int)<0:=by omega
 rw[hx];show Calls _ _ _ _ fun e w'=>_/\CacheAt w' c F (Z7r l i x)/\_;rw[hl'];have hil:=hi;clear hk h hx hl' hfl;go_enter Tryz.func179,Tryz.ntmps179;go_wp2_with (first | (go_at_call 202;refine cP.mono ?_;clear cP;rintro e w1 ⟨rfl,hb1⟩) | (go_at_call 211;refine(HFR.out _ hb1).mono ?_;rintro e w2 ⟨rfl,h2,hb2⟩;have k1:w2.cell? ⟨c,1,none⟩=some lv:=h2.row.cell 1;obtain⟨A,cc,hlv,_,_,hlx⟩:=Y4f h2.own;obtain⟨bb,rfl,_,hbb,_,hcc⟩:=hlx (by rw[HFL.out];omega);subst hlv;obtain⟨m0,m1,m2⟩:=hcc 0 (by rw[HFL.out];omega);obtain⟨_,hq⟩:=aC.1 HL'.out;rw[hq]at m0 m1;have hn0:(0:Int)<l'.length:=(by rw[HFL.out];omega);clear hcc hq hlx))
 go_ret2
 exact⟨rfl,⟨_,h2,hF1,hF2⟩,(Only.of hb1).trans hb2 (fun i q=> .inl (hF2 i q))⟩
theorem Y0o{w w1 w2:World}{c:Nat}{F:Nat->Prop}{l l':List (Int×ByteArray)}{lv v':Value}(h:CacheAs w c l lv)(hF1:F c)(hF2:∀b,lv.ownBlock=some b->F b)(hb1:Ext w w1)(hown:OwnL w2 0 293 3 encI v' l')(hw:∀k,v'.ownBlock=some k->lv.ownBlock=some k\/w1.heap.size<=k)(hb2:Only (fun j=>lv.ownBlock=some j) w1 w2)(hl:l'.length<=64):
  ∃F',CacheAt (w2.setCell ⟨c,1,none⟩ v') c F' l'/\Keeps F F' w (w2.setCell ⟨c,1,none⟩ v'):=by
 have h1:=h.ext hb1;have hcl:lv.ownBlock≠some c:=h1.own.apartRow h1.row (by decide);have hR2:=hb2.row h1.row hcl;have hvc:v'.ownBlock≠some c:=hown.apartRow hR2 (by decide);have ho:Only (fun i=>i=c) w2 (w2.setCell ⟨c,1,none⟩ v'):=Only.setCell (F:=fun i=>i=c) (p:=⟨c,1,none⟩) Only.refl (.inl rfl) v';refine⟨fun i=>F i\/v'.ownBlock=some i,⟨v',⟨hR2.set 1 v',hown.only ho (fun k hk q=>hvc (by rw[hk,q])),hl⟩,.inl hF1,fun b hb=> .inr hb⟩,⟨?_,fun i q=> ?_⟩⟩
 ·exact((Only.of hb1).trans hb2 (fun i q=> .inl (hF2 i q))).trans ho (fun i q=> .inl (by rw[q];exact hF1))
 ·rcases q with q | q
  ·exact .inl q
  ·rcases hw i q with q | q
   ·exact .inl (hF2 i q)
   ·exact .inr (Nat.le_trans hb1.size q)
theorem V4e{c:Nat}{F:Nat->Prop}{l:List (Int×ByteArray)}(k:Int)(w:World)(h:CacheAt w c F l)(hk:idxI l k= -1):
  cQ 167 #[tp c,.int .i64 k] w fun e w'=>e= .returned (.bool false)/\Ext w w':=by
 obtain⟨lv,h,_,_⟩:=h;have cP:=Z5t k w h;rw[hk]at cP;clear hk h;go_enter Tryz.func167,Tryz.ntmps167;go_wp2_with (go_at_call 202;refine cP.mono ?_;clear cP;rintro e w1 ⟨rfl,hb1⟩);go_ret;exact⟨rfl,hb1⟩
theorem V8p{c:Nat}{F:Nat->Prop}{l:List (Int×ByteArray)}(k:Int)(i:Nat)(w:World)(h:CacheAt w c F l)(hk:idxI l k=i)(hi:i<l.length):
  cQ 167 #[tp c,.int .i64 k] w fun e w'=>e= .returned (.bool true)/\∃F',CacheAt w' c F' (l.eraseIdx i)/\Keeps F F' w w':=by
 obtain⟨lv,h,hF1,hF2⟩:=h;have cP:=Z5t k w h;rw[hk]at cP;have hl64:=h.len;have HH:=hD h;have q1:(0:Int)<=(i:Int):=by omega
 have HLE:Hid ((l.eraseIdx i).length<=64):=by unfold Hid;rw[List.length_eraseIdx];split<;>omega
 have HD:Hid (∀W,Ext w W->cQ 203 #[lv,.int .i64 i,.int .i64 ((i:Int)+1)] W fun e w'=>∃v',e= .returned v'/\OwnL w' 0 293 3 encI v' (l.eraseIdx i)/\v'.ownBlock=lv.ownBlock/\Only (fun j=>lv.ownBlock=some j) W w'):=fun W hW=>Y4x i W (HH.out.ext hW).own hi (by omega);clear hk h;go_enter Tryz.func167,Tryz.ntmps167;go_wp2_with (first | (go_at_call 202;refine cP.mono ?_;clear cP;rintro e w1 ⟨rfl,hb1⟩;have k1:w1.cell? ⟨c,1,none⟩=some lv:=(HH.out.ext hb1).row.cell 1) | (go_at_call 203;refine(HD.out _ hb1).mono ?_;rintro e w2 ⟨v',rfl,h2,h3,hb2⟩;have hR2:=hb2.row (HH.out.ext hb1).row (HH.out.own.apartRow HH.out.row (by decide));have f2:w2.frozen? ⟨c,1,none⟩=false:=hR2.soft 1;have k2:w2.cell? ⟨c,1,none⟩=some lv:=hR2.cell 1;have HF:=hD (Y0o HH.out hF1 hF2 hb1 h2 (fun k hk=> .inl (h3▸hk)) hb2 HLE.out);obtain⟨A2,c2,rfl⟩:=h2.form;clear h2 h3 hb2 hR2 HD));go_ret;obtain⟨F',r1,r2⟩:=HF.out;exact⟨rfl,F',r1,r2⟩
theorem V6e{c:Nat}{F:Nat->Prop}{l:List (Int×ByteArray)}(k:Int)(s:ByteArray)(w:World)(h:CacheAt w c F l)(hk:idxI l k= -1)(hl:l.length<64):
  cQ 180 #[tp c,.int .i64 k,.string s] w fun e w'=>(∃g o,e= .returned (.tuple #[.int .i64 g,.bool o,.int .i64 0]))/\∃F',CacheAt w' c F' ((k,s)::l)/\Keeps F F' w w':=by
 obtain⟨lv,h,hF1,hF2⟩:=h;have cP:=Z5t k w h;rw[hk]at cP;have HH:=hD h;have k0:w.cell? ⟨c,0,none⟩=some (.int .i64 64):=h.row.cell 0;have HLEN:Hid (l.length<64):=hl;have hl64:decide ((64:Int)<=(l.length:Int))=false:=aM;obtain⟨A,cc,rfl⟩:=h.own.form;clear hk h;go_enter Tryz.func180,Tryz.ntmps180;go_upto_region 10 with (go_at_call 202;refine cP.mono ?_;clear cP;rintro e w1 ⟨rfl,hb1⟩);have k1:w1.cell? ⟨c,1,none⟩=_:=(HH.out.ext hb1).row.cell 1;have k2:w1.cell? ⟨c,0,none⟩=_:=(HH.out.ext hb1).row.cell 0;have H1:=hD (HH.out.ext hb1);have HB1:=hD hb1;have hcw:=H1.out.row.lt;clear hb1 k0
 go_quiet (fail)
 have HOWN:Hid (∀W,Ext w1 W->OwnL W 0 293 3 encI (.slice A l.length cc) l):=fun W hW=>H1.out.own.ext hW;have HNE:Hid (∀G,w1.heap.size<=G->(Value.slice A l.length cc).ownBlock≠some G):=fun G hG e=>by have:=(H1.out.own.lt G e).2;omega
 have HRC:Hid (∀W,Ext w1 W->Row1 W c 262 [.int .i64 64,.slice A l.length cc]):=fun W hW=>H1.out.row.ext hW hcw;have HCN:Hid ((Value.slice A l.length cc).ownBlock≠some c):=H1.out.own.apartRow H1.out.row (by decide);go_wp2_with (go_at_call 212;refine(Y4o (k,s) _ _ (HOWN.out _ (by exact Xt)) (Row1.made' (by simp) _ (encI (k,s))) (HNE.out _ (by simp)) (by have:=HLEN.out;omega)).mono ?_;rintro e w8 ⟨v8,rfl,h8,hw8,hb8⟩;have hR8:=hb8.row (HRC.out _ (by exact Xt)) HCN.out;have k8:=hR8.cell 1;have f8:=hR8.soft 1;have HF8:=hD (Y0o H1.out hF1 hF2 (by exact Xt) h8 hw8 hb8 (by rw[List.length_cons];have:=HLEN.out;omega));obtain⟨A8,c8,rfl⟩:=OwnL.form h8;clear h8 hw8 hb8 hR8)
 go_ret3
 obtain⟨F',r1,r2⟩:=HF8.out;exact⟨⟨_,_,rfl⟩,F',r1,Keeps.trans (Keeps.of HB1.out) r2⟩
theorem V6h{c:Nat}{F:Nat->Prop}{l:List (Int×ByteArray)}(k:Int)(s:ByteArray)(w:World)(h:CacheAt w c F l)(hk:idxI l k= -1)(hl:l.length=64):
  cQ 180 #[tp c,.int .i64 k,.string s] w fun e w'=>(∃g o,e= .returned (.tuple #[.int .i64 g,.bool o,.int .i64 0]))/\∃F',CacheAt w' c F' ((k,s)::l.eraseIdx 63)/\Keeps F F' w w':=by
 obtain⟨lv,h,hF1,hF2⟩:=h;have cP:=Z5t k w h;rw[hk]at cP;have HH:=hD h;have k0:w.cell? ⟨c,0,none⟩=some (.int .i64 64):=h.row.cell 0;obtain⟨A,cc,rfl,hc1,hc2,hx⟩:=Y4f h.own;obtain⟨b,rfl,_,hbw,_,hcc⟩:=hx (by omega);obtain⟨m0,m1,m2⟩:=hcc 63 (by omega);obtain⟨g0,hg0⟩:∃g0,(l[63]'(by omega)).1=g0:=⟨_,rfl⟩;rw[hg0]at m0;have HL0:Hid (l.length=64):=hl;clear hg0 hcc hx m1;rw[hl]at HH hF2 hc1;clear hk h hl;obtain⟨l3,hl3⟩:∃l3,l.eraseIdx 63=l3:=⟨_,rfl⟩;have HL3:=hD hl3;have HLE:Hid (l3.length=63):=by unfold Hid;rw[<-hl3,List.length_eraseIdx,if_pos (by rw[HL0.out];omega),HL0.out]
 rw[hl3];clear hl3;go_enter Tryz.func180,Tryz.ntmps180;go_upto_region 10 with (go_at_call 202;refine cP.mono ?_;clear cP;rintro e w1 ⟨rfl,hb1⟩);have k1:w1.cell? ⟨c,1,none⟩=_:=(HH.out.ext hb1).row.cell 1;have k2:w1.cell? ⟨c,0,none⟩=_:=(HH.out.ext hb1).row.cell 0;have n0:w1.cell? ⟨b,63*3,none⟩=_:=(hb1.cell (p:=⟨b,63*3,none⟩) hbw).trans m0;have n2:w1.cell? ⟨b,63*3+2,none⟩=_:=(hb1.cell (p:=⟨b,63*3+2,none⟩) hbw).trans m2;have HHH:=hD (HH.out.ext hb1);have HB1:=hD hb1;have hcw:=HHH.out.row.lt;clear hb1 k0 m0 m2
 go_quiet (fail)
 go_wp2_with fail;obtain⟨wq,hwq⟩:∃wq,w1.drewN nq=wq:=⟨_,rfl⟩;have HQ:Hid (Ext w1 wq):=by unfold Hid;rw[<-hwq];exact Xt
 have k1:wq.cell? ⟨c,1,none⟩=_:=(HQ.out.cell (p:=⟨c,1,none⟩) hcw).trans k1;have hbw1:b<w1.heap.size:=aE hbw HB1.out.size;have n0:wq.cell? ⟨b,63*3,none⟩=_:=(HQ.out.cell (p:=⟨b,63*3,none⟩) hbw1).trans n0;have n2:wq.cell? ⟨b,63*3+2,none⟩=_:=(HQ.out.cell (p:=⟨b,63*3+2,none⟩) hbw1).trans n2;have H1:Hid (CacheAs wq c l (.slice (some ⟨b,0,none⟩) 64 cc)):=HHH.out.ext HQ.out;have HBQ:Hid (Ext w wq):=Ext.trans HB1.out HQ.out;rw[hwq];clear hwq k2
 go_loopw [12] (fun i wr=>i= .int .i64 63/\wq=wr) (fun _ _=>0)
 case atStart=>exact⟨rfl,rfl⟩
 case round=>
  obtain⟨rfl,rfl⟩:=hrel;have HD:Hid (∀W,Ext wq W->cQ 203 #[.slice (some ⟨b,0,none⟩) 64 cc,.int .i64 63,.int .i64 64] W fun e w'=>∃v',e= .returned v'/\OwnL w' 0 293 3 encI v' l3/\v'.ownBlock=some b/\Only (fun j=>some b=some j) W w'):=fun W hW=>HL3.out▸Y4x 63 W (H1.out.ext hW).own (by rw[HL0.out];omega) (by rw[HL0.out];omega);go_wp2_with fail;refine(HD.out _ (Ext.refl _)).mono ?_;rintro e w2 ⟨v',rfl,h2,h3,hb2⟩;have hR2:=hb2.row H1.out.row (fun e=>H1.out.own.apartRow H1.out.row (by decide) e);have f2:w2.frozen? ⟨c,1,none⟩=false:=hR2.soft 1;have k2:w2.cell? ⟨c,1,none⟩=_:=hR2.cell 1;have HF:=hD (Y0o H1.out hF1 hF2 (Ext.refl _) h2 (fun k hk=> .inl (by rw[<-hk,h3];rfl)) hb2 (by rw[HLE.out];omega));obtain⟨A2,c2,rfl⟩:=OwnL.form h2;have HO2:Hid (CacheAs (w2.setCell ⟨c,1,none⟩ (.slice A2 l3.length c2)) c l3 (.slice A2 l3.length c2)):=by have hvc:(Value.slice A2 l3.length c2).ownBlock≠some c:=OwnL.apartRow h2 hR2 (by decide);exact⟨hR2.set 1 _,OwnL.only h2 (Only.setCell (F:=fun i=>i=c) (p:=⟨c,1,none⟩) Only.refl (.inl rfl) _) (fun k hk q=>hvc (by rw[hk,q])),by rw[HLE.out];omega⟩
  have hcw2:=hR2.lt;clear h2 h3 hb2 HD hR2;go_upto_region 18 with fail;obtain⟨w3,hw3⟩:∃w3,w2.setCell ⟨c,1,none⟩ (.slice A2 l3.length c2)=w3:=⟨_,rfl⟩;rw[hw3]at HO2 HF ⊢;have k3:w3.cell? ⟨c,1,none⟩=_:=HO2.out.row.cell 1;have hcw3:=HO2.out.row.lt;have HLEN:Hid (l3.length<64):=by unfold Hid;rw[HLE.out];omega
  have HOWN:Hid (∀W,Ext w3 W->OwnL W 0 293 3 encI (.slice A2 l3.length c2) l3):=fun W hW=>HO2.out.own.ext hW;have HNE:Hid (∀G,w3.heap.size<=G->(Value.slice A2 l3.length c2).ownBlock≠some G):=fun G hG e=>by have:=(HO2.out.own.lt G e).2;omega
  have HRC:Hid (∀W,Ext w3 W->Row1 W c 262 [.int .i64 64,.slice A2 l3.length c2]):=fun W hW=>HO2.out.row.ext hW hcw3;have HCN:Hid ((Value.slice A2 l3.length c2).ownBlock≠some c):=HO2.out.own.apartRow HO2.out.row (by decide);obtain⟨F3,r3,r4⟩:=HF.out;obtain⟨lv3,s1,s2,s3⟩:=r3;have hlv3:lv3= .slice A2 l3.length c2:=by have e:=s1.row.symm.trans (show w3.heap[c]? =_ from HO2.out.row);simpa using e
  subst hlv3;have hF1:=s2;have hF2:=s3;have HK:=hD r4;have H1:=HO2;clear hw3 r4 s1 s2 s3 k2 f2;go_wp2_with (go_at_call 212;refine(Y4o (k,s) _ _ (HOWN.out _ (by exact Xt)) (Row1.made' (by simp) _ (encI (k,s))) (HNE.out _ (by simp)) (by have:=HLEN.out;omega)).mono ?_;rintro e w8 ⟨v8,rfl,h8,hw8,hb8⟩;have hR8:=hb8.row (HRC.out _ (by exact Xt)) HCN.out;have k8:=hR8.cell 1;have f8:=hR8.soft 1;have HF8:=hD (Y0o H1.out hF1 hF2 (by exact Xt) h8 hw8 hb8 (by rw[List.length_cons];have:=HLEN.out;omega));obtain⟨A8,c8,rfl⟩:=OwnL.form h8;clear h8 hw8 hb8 hR8)
  go_ret3
  obtain⟨F',r1,r2⟩:=HF8.out;exact⟨⟨_,_,rfl⟩,F',r1,Keeps.trans (Keeps.trans (Keeps.of HBQ.out) HK.out) r2⟩
theorem Y6y{α:Type}{l:List α}{i:Nat}(hi:i<l.length):(l[i]::l.eraseIdx i).Perm l:=by
 rw[List.eraseIdx_eq_take_drop_succ];have h:l=l.take i++l[i]::l.drop (i+1):=by rw[List.getElem_cons_drop,List.take_append_drop]
 conv=>rhs;rw[h]
 exact List.perm_middle.symm
theorem Y6o(l:List (Int×ByteArray))(k:Int):(idxI l k= -1/\∀x∈l,x.1≠k)\/∃(i:Nat) (h:i<l.length),idxI l k=i/\l[i].1=k:=by
 unfold idxI;cases h:l.findIdx? (fun x=>x.1==k)with
 | none=>
   left;refine⟨rfl,fun x hx e=> ?_⟩;rw[List.findIdx?_eq_none_iff]at h;have:=h x hx;simp[e]at this
 | some i=>
   right;obtain⟨hi,h1,_⟩:=List.findIdx?_eq_some_iff_getElem.1 h;exact⟨i,hi,rfl,by simpa using h1⟩
def CGood(S:StoreD)(l:List (Int×ByteArray)):Prop:=(l.map (·.1)).Nodup/\∀x∈l,0<=x.1/\x.1<S.head.pages/\x.2=Z1a S x.1.toNat
theorem CGood.nil(S:StoreD):CGood S []:=⟨by simp,fun x hx=>by cases hx⟩
theorem CGood.perm{S:StoreD}{l l':List (Int×ByteArray)}(h:CGood S l)(hp:l'.Perm l):CGood S l':=⟨(hp.map _).nodup_iff.2 h.1,fun x hx=>h.2 x (hp.mem_iff.1 hx)⟩
theorem CGood.front{S:StoreD}{l:List (Int×ByteArray)}(h:CGood S l){i:Nat}(hi:i<l.length):CGood S (Z7r l i l[i]):=h.perm (Y6y hi)
theorem CGood.erase{S:StoreD}{l:List (Int×ByteArray)}(h:CGood S l)(i:Nat):CGood S (l.eraseIdx i):=
 ⟨h.1.sublist ((List.eraseIdx_sublist l i).map _),fun x hx=>h.2 x ((List.eraseIdx_sublist l i).subset hx)⟩
theorem CGood.cons{S:StoreD}{l:List (Int×ByteArray)}(h:CGood S l){k:Nat}(hk:∀x∈l,x.1≠k)(hp:k<S.head.pages):CGood S (((k:Int),Z1a S k)::l):=by
 refine⟨?_,fun x hx=> ?_⟩
 ·rw[List.map_cons,List.nodup_cons];refine⟨fun hm=> ?_,h.1⟩;obtain⟨x,hx,e⟩:=List.mem_map.1 hm;exact hk x hx e
 ·rcases List.mem_cons.1 hx with rfl | hx
  ·exact⟨by simp,by simpa using hp,by simp⟩
  ·exact h.2 x hx
theorem CGood.put{S:StoreD}{l:List (Int×ByteArray)}(h:CGood S l){n:Nat}{s:ByteArray}(hk:∀x∈l,x.1≠n):CGood (putP S n s) l:=
 ⟨h.1,fun x hx=>by
   obtain⟨h1,h2,h3⟩:=h.2 x hx;refine⟨h1,h2,?_⟩;rw[Z2d,if_neg (by have:=hk x hx;omega)];exact h3⟩
theorem CGood.erased{S:StoreD}{l:List (Int×ByteArray)}(h:CGood S l){i:Nat}(hi:i<l.length){k:Int}(hk:l[i].1=k):∀x∈l.eraseIdx i,x.1≠k:=by have hp:(l[i]::l.eraseIdx i).Perm l:=Y6y hi;have hn:=(hp.map (·.1)).nodup_iff.2 h.1;rw[List.map_cons,List.nodup_cons]at hn;intro x hx e;exact hn.1 (List.mem_map.2 ⟨x,hx,by rw[e,hk]⟩)
structure PagerAs (w:World) (p:Nat) (F:Nat->Prop) (S:StoreD) (s c:Nat) (Fs Fc:Nat->Prop) (l:List (Int×ByteArray)):Prop where
 row:Row1 w p 184 [tp s,tp c]
 store:StoreAt w s Fs S
 cache:CacheAt w c Fc l
 good:CGood S l
 live:Live S
 pages:2<S.head.pages
 sep:∀i,Fs i->¬Fc i
 ps:¬Fs p
 pc:¬Fc p
 fp:F p
 fs:∀i,Fs i->F i
 fc:∀i,Fc i->F i
 ls:∀i,Fs i->i<w.heap.size
 lc:∀i,Fc i->i<w.heap.size
def PagerAt(w:World)(p:Nat)(F:Nat->Prop)(S:StoreD):Prop:=∃s c Fs Fc l,PagerAs w p F S s c Fs Fc l
section
variable {w w':World} {p:Nat} {F F' G:Nat->Prop} {S S':StoreD} {s c:Nat} {Fs Fc Fs' Fc':Nat->Prop} {l l':List (Int×ByteArray)}
theorem PagerAs.only(h:PagerAs w p F S s c Fs Fc l)(hb:Only G w w')(hG:∀i,F i->¬G i):PagerAs w' p F S s c Fs Fc l:=
 ⟨hb.row h.row (hG p h.fp),h.store.only hb (fun i q=>hG i (h.fs i q)),h.cache.only hb (fun i q=>hG i (h.fc i q)),h.good,h.live,h.pages,h.sep,h.ps,h.pc,h.fp,h.fs,h.fc,fun i q=>aE (h.ls i q) hb.size,fun i q=>aE (h.lc i q) hb.size⟩
theorem PagerAs.ext(h:PagerAs w p F S s c Fs Fc l)(hb:Ext w w'):PagerAs w' p F S s c Fs Fc l:=h.only (G:=fun _=>False) (Only.of hb) (fun _ _ q=>q)
theorem PagerAs.mono(h:PagerAs w p F S s c Fs Fc l)(hF:∀i,F i->F' i):PagerAs w p F' S s c Fs Fc l:= { h with fp:=hF _ h.fp,fs:=fun i q=>hF i (h.fs i q),fc:=fun i q=>hF i (h.fc i q)}
theorem PagerAt.only(h:PagerAt w p F S)(hb:Only G w w')(hG:∀i,F i->¬G i):PagerAt w' p F S:=let ⟨_,_,_,_,_,h⟩:=h;⟨_,_,_,_,_,h.only hb hG⟩
theorem PagerAt.ext(h:PagerAt w p F S)(hb:Ext w w'):PagerAt w' p F S:=let ⟨_,_,_,_,_,h⟩:=h;⟨_,_,_,_,_,h.ext hb⟩
theorem PagerAt.mono(h:PagerAt w p F S)(hF:∀i,F i->F' i):PagerAt w p F' S:=let ⟨_,_,_,_,_,h⟩:=h;⟨_,_,_,_,_,h.mono hF⟩
theorem PagerAt.shrink(h:PagerAt w p F S):PagerAt w p (fun i=>F i/\i<w.heap.size) S:=
 let ⟨_,_,_,_,_,h⟩:=h;⟨_,_,_,_,_,{ h with fp:=⟨h.fp,h.row.lt⟩,fs:=fun i q=>⟨h.fs i q,h.ls i q⟩,fc:=fun i q=>⟨h.fc i q,h.lc i q⟩}⟩
theorem PagerAt.pages(h:PagerAt w p F S):2<S.head.pages:=let ⟨_,_,_,_,_,h⟩:=h;h.pages
theorem PagerAt.most(h:PagerAt w p F S):S.head.pages<=1024:=let ⟨_,_,_,_,_,h⟩:=h;h.store.wf.fits.most
theorem PagerAt.size(h:PagerAt w p F S)(n:Nat):(Z1a S n).size=256:=let ⟨_,_,_,_,_,h⟩:=h;X6k h.store n
theorem PagerAs.stored(h:PagerAs w p F S s c Fs Fc l)(hs:StoreAt w' s Fs S')(hb:Only Fs w w')(hg:CGood S' l)(hl:Live S')(hp:2<S'.head.pages):PagerAs w' p F S' s c Fs Fc l:=
 ⟨hb.row h.row h.ps,hs,h.cache.only hb (fun i q q'=>h.sep i q' q),hg,hl,hp,h.sep,h.ps,h.pc,h.fp,h.fs,h.fc,fun i q=>aE (h.ls i q) hb.size,fun i q=>aE (h.lc i q) hb.size⟩
theorem PagerAs.cached(h:PagerAs w p F S s c Fs Fc l)(hc:CacheAt w' c Fc' l')(hb:Keeps Fc Fc' w w')(hg:CGood S l'):
  ∃Fd,PagerAs w' p (fun i=>F i\/Fd i) S s c Fs Fd l'/\(∀i,Fd i->F i\/w.heap.size<=i)/\Keeps F (fun i=>F i\/Fd i) w w':=by
 obtain⟨lv,q1,q2,q3⟩:=hc;have hn:∀i,Fc' i->Fc i\/w.heap.size<=i:=hb.new;refine⟨fun i=>Fc' i/\i<w'.heap.size,⟨hb.only.row h.row h.pc,h.store.only hb.only h.sep,⟨lv,q1,⟨q2,q1.row.lt⟩,fun b e=>⟨q3 b e,(q1.own.lt b e).2⟩⟩,hg,h.live,h.pages,fun i q q'=> ?_,h.ps,fun q=> ?_,.inl h.fp,fun i q=> .inl (h.fs i q),fun i q=> .inr q,fun i q=>aE (h.ls i q) hb.only.size,fun i q=>q.2⟩,fun i q=> ?_,⟨hb.only.mono (fun i q=> .inl (h.fc i q)),fun i q=> ?_⟩⟩
 ·rcases hn i q'.1 with r | r
  ·exact h.sep i q r
  ·have:=h.ls i q;omega
 ·rcases hn p q.1 with r | r
  ·exact h.pc r
  ·have:=h.row.lt;omega
 ·rcases hn i q.1 with r | r
  ·exact .inl (h.fc i r)
  ·exact .inr r
 ·rcases q with q | q
  ·exact .inl q
  ·rcases hn i q.1 with r | r
   ·exact .inl (h.fc i r)
   ·exact .inr r
end
theorem PagerAs.at{w:World}{p:Nat}{F:Nat->Prop}{S:StoreD}{s c:Nat}{Fs Fc:Nat->Prop}{l:List (Int×ByteArray)}(h:PagerAs w p F S s c Fs Fc l):PagerAt w p F S:=⟨s,c,Fs,Fc,l,h⟩
theorem X1i{c:Nat}{F:Nat->Prop}{S:StoreD}{l:List (Int×ByteArray)}(n:Nat)(w:World)(h:CacheAt w c F l)(hg:CGood S l)(hk:idxI l n= -1)(hn:∀x∈l,x.1≠n)(hp:n<S.head.pages):
  cQ 180 #[tp c,.int .i64 n,.string (Z1a S n)] w fun e w'=>(∃g o,e= .returned (.tuple #[.int .i64 g,.bool o,.int .i64 0]))/\∃F' l',CacheAt w' c F' l'/\CGood S l'/\Keeps F F' w w':=by
 have hl:l.length<=64:=by obtain⟨lv,h1,_⟩:=h;exact h1.len
 by_cases h64:l.length<64
 ·refine(V6e n (Z1a S n) w h hk h64).mono ?_;rintro e w' ⟨h1,F',h2,h3⟩;exact⟨h1,F',_,h2,hg.cons hn hp,h3⟩
 ·refine(V6h n (Z1a S n) w h hk (by omega)).mono ?_;rintro e w' ⟨h1,F',h2,h3⟩;exact⟨h1,F',_,h2,(hg.erase 63).cons (fun x hx=>hn x ((List.eraseIdx_sublist l 63).subset hx)) hp,h3⟩
theorem Z9y{p:Nat}{F:Nat->Prop}{S:StoreD}(n:Nat)(w:World)(h:PagerAt w p F S)(hn:n<S.head.pages):
  cQ 135 #[tp p,.int .i64 n] w fun e w'=>e= .returned (.tuple #[.string (Z1a S n),.int .i64 0])/\∃F',PagerAt w' p F' S/\Keeps F F' w w':=by
 obtain⟨s,c,Fs,Fc,l,h⟩:=h;have c0:w.cell? ⟨p,0,none⟩=some (tp s):=h.row.cell 0;have c1:w.cell? ⟨p,1,none⟩=some (tp c):=h.row.cell 1;have HH:=hD h;rcases Y6o l n with ⟨hi,hno⟩ | ⟨i,hil,hi,hk⟩
 ·have cG:=V8f n w h.cache hi;have cR:Hid (∀W,Ext w W->cQ 119 #[tp s,.int .i64 n] W fun e w'=>e= .returned (.tuple #[.string (Z1a S n),.int .i64 0])/\Ext W w'):=fun W hW=>Z9s n W (h.store.ext hW) h.live hn;have cP:Hid (∀W,Ext w W->cQ 180 #[tp c,.int .i64 n,.string (Z1a S n)] W fun e w'=>(∃g o,e= .returned (.tuple #[.int .i64 g,.bool o,.int .i64 0]))/\∃F' l',CacheAt w' c F' l'/\CGood S l'/\Keeps Fc F' W w'):=fun W hW=>X1i n W (h.cache.ext hW) h.good hi hno hn;have HK:Hid (∀W,Ext w W->W.cell? ⟨p,0,none⟩=some (tp s)/\W.cell? ⟨p,1,none⟩=some (tp c)):=fun W hW=>⟨(h.ext hW).row.cell 0,(h.ext hW).row.cell 1⟩;generalize Z1a S n=vw at cR cP ⊢;clear h hno hi;go_enter Tryz.func135,Tryz.ntmps135;go_wp2_with (first
   | (go_at_call 179;refine cG.mono ?_;clear cG;rintro e w1 ⟨rfl,hb1⟩;have HB1:=hD hb1;obtain⟨d0,d1⟩:=HK.out w1 hb1;clear hb1)
   | (go_at_call 119;refine(cR.out _ HB1.out).mono ?_;rintro e w2 ⟨rfl,hb2⟩;have HB2:=hD (Ext.trans HB1.out hb2);obtain⟨e0,e1⟩:=HK.out w2 HB2.out;clear hb2)
   | (go_at_call 180;refine(cP.out _ HB2.out).mono ?_;rintro e w3 ⟨⟨gg,oo,rfl⟩,F3,l3,hc3,hg3,hk3⟩;have HC3:=hD hc3;have HG3:=hD hg3;have HK3:=hD hk3;clear hc3 hg3 hk3))
  go_ret2
  obtain⟨Fd,q1,q2,q3⟩:=(HH.out.ext HB2.out).cached HC3.out HK3.out HG3.out;exact⟨rfl,_,q1.at,Keeps.trans (Keeps.of HB2.out) q3⟩
 ·have cG:=U1i n i w h.cache hi hil;have hv:l[i].2=Z1a S n:=by have:=(h.good.2 l[i] (List.getElem_mem hil)).2.2;rw[hk]at this;simpa using this
  rw[hv]at cG;generalize Z1a S n=vw at cG ⊢;clear h hv hi hk;go_enter Tryz.func135,Tryz.ntmps135;go_wp2_with (go_at_call 179;refine cG.mono ?_;clear cG;rintro e w1 ⟨rfl,hc1,hb1⟩;have HC1:=hD hc1;have HB1:=hD hb1;clear hc1 hb1)
  go_ret2
  obtain⟨Fd,q1,q2,q3⟩:=HH.out.cached HC1.out ⟨HB1.out,fun _ q=> .inl q⟩ (HH.out.good.front hil);exact⟨rfl,_,q1.at,q3⟩
theorem Z3p{p:Nat}{F:Nat->Prop}{S:StoreD}(n:Nat)(d:ByteArray)(w:World)(h:PagerAt w p F S)(hn:n<S.head.pages)(hd:d.size<=256):
  cQ 124 #[tp p,.int .i64 n,.string d] w fun e w'=>e= .returned (.int .i64 0)/\∃F',PagerAt w' p F' (putP S n d)/\Keeps F F' w w':=by
 obtain⟨s,c,Fs,Fc,l,h⟩:=h;have c0:w.cell? ⟨p,0,none⟩=some (tp s):=h.row.cell 0;have c1:w.cell? ⟨p,1,none⟩=some (tp c):=h.row.cell 1;have HH:=hD h;have cW:Hid (∀W,StoreAt W s Fs S->cQ 168 #[tp s,.int .i64 n,.string d] W fun e w'=>e= .returned (.int .i64 0)/\StoreAt w' s Fs (putP S n d)/\Only Fs W w'):=fun W hW=>Y5k n d W hW h.live hn hd;rcases Y6o l n with ⟨hi,hno⟩ | ⟨i,hil,hi,hk⟩
 ·have cD:=V4e n w h.cache hi;have HNO:=hD hno;clear h hno hi;go_enter Tryz.func124,Tryz.ntmps124;go_wp2_with (first
   | (go_at_call 167;refine cD.mono ?_;clear cD;rintro e w1 ⟨rfl,hb1⟩;have HB1:=hD hb1;have H1:=hD (HH.out.ext hb1);have d0:w1.cell? ⟨p,0,none⟩=some (tp s):=H1.out.row.cell 0;clear hb1)
   | (go_at_call 168;refine(cW.out _ H1.out.store).mono ?_;rintro e w2 ⟨rfl,hs2,hb2⟩;have HS2:=hD hs2;have HB2:=hD hb2;clear hs2 hb2))
  go_ret;exact⟨rfl,F,(H1.out.stored HS2.out HB2.out (H1.out.good.put HNO.out) (X5a H1.out.live n d) H1.out.pages).at,⟨(Only.of HB1.out).trans HB2.out (fun i q=> .inl (H1.out.fs i q)),fun i q=> .inl q⟩⟩
 ·have cD:=V8p n i w h.cache hi hil;have HE:=hD (h.good.erased hil hk);have HGE:=hD (h.good.erase i);clear h hi hk;go_enter Tryz.func124,Tryz.ntmps124;go_wp2_with (first
   | (go_at_call 167;refine cD.mono ?_;clear cD;rintro e w1 ⟨rfl,F1,hc1,hb1⟩;obtain⟨Fd,q1,q2,q3⟩:=HH.out.cached hc1 hb1 HGE.out;have HB1:=hD q3;have H1:=hD q1;have d0:w1.cell? ⟨p,0,none⟩=some (tp s):=H1.out.row.cell 0;clear hb1 hc1 q1 q2 q3)
   | (go_at_call 168;refine(cW.out _ H1.out.store).mono ?_;rintro e w2 ⟨rfl,hs2,hb2⟩;have HS2:=hD hs2;have HB2:=hD hb2;clear hs2 hb2))
  go_ret;exact⟨rfl,_,(H1.out.stored HS2.out HB2.out (H1.out.good.put HE.out) (X5a H1.out.live n d) H1.out.pages).at,Keeps.trans HB1.out ⟨HB2.out.mono (fun i q=> .inl (H1.out.fs i q)),fun i q=> .inl q⟩⟩
theorem PagerAt.open{w:World}{p:Nat}{F:Nat->Prop}{S:StoreD}(h:PagerAt w p F S):∃s Fs,w.cell? ⟨p,0,none⟩=some (tp s)/\StoreAt w s Fs S:=by obtain⟨s,c,Fs,Fc,l,h⟩:=h;exact⟨s,Fs,h.row.cell 0,h.store⟩
def Z0y(S:StoreD)(n:Nat):Bool:=hasL (Z1a S 0).data.toList n
def Z1w(S:StoreD)(i:Nat):Nat:=Z2w (Z1a S 1) (4*i) (4*i+4)
def Z0s(S:StoreD)(n:Nat):Prop:=2<=n/\n<S.head.pages/\Z0y S n=true
instance (S:StoreD) (n:Nat):Decidable (Z0s S n):=by unfold Z0s;exact inferInstance
theorem Z9z{p:Nat}{F:Nat->Prop}{S:StoreD}(w:World)(h:PagerAt w p F S):cQ 121 #[tp p] w fun e w'=>e= .returned (.bool true)/\w=w':=by obtain⟨s,Fs,c0,_⟩:=h.open;clear h;go_enter Tryz.func121,Tryz.ntmps121;go_wp2_with fail;go_ret;exact⟨rfl,rfl⟩
theorem Y2p{p:Nat}{F:Nat->Prop}{S:StoreD}(w:World)(h:PagerAt w p F S):
  cQ 95 #[tp p] w fun e w'=>e= .returned (.tuple #[.string (Z1a S 0),.int .i64 0])/\∃F',PagerAt w' p F' S/\Keeps F F' w w':=by
 have cM:=Z9z w h;have cR:=Z9y 0 w h (by have:=h.pages;omega);clear h;go_enter Tryz.func95,Tryz.ntmps95;go_wp2_with (first | (go_at_call 121;refine cM.mono ?_;clear cM;rintro e w1 ⟨rfl,rfl⟩) | (go_at_call 135;refine cR.mono ?_;clear cR;rintro e w2 ⟨rfl,F2,h2,k2⟩))
 go_ret2
 exact⟨rfl,F2,h2,k2⟩
theorem Y3b{p:Nat}{F:Nat->Prop}{S:StoreD}(n:Nat)(w:World)(h:PagerAt w p F S)(hn:Z0s S n):
  cQ 143 #[tp p,.int .i64 n] w fun e w'=>e= .returned (.int .i64 0)/\∃F',PagerAt w' p F' S/\Keeps F F' w w':=by
 have cU:=Y2p w h;obtain⟨h1,h2,h3⟩:=hn;have hm:=h.most;have q1:decide ((n:Int)<2)=false:=aM;have q2:decide ((S.head.pages:Int)<=n)=false:=aM;have q2':decide (S.head.pages<=n)=false:=aM;have cH:Hid (∀W,cQ 98 #[.string (Z1a S 0),.int .i64 n] W fun e w'=>e= .returned (.bool true)/\W=w'):=fun W=>by have:=X2u (Z1a S 0) n W (by omega) (by rw[h.size];omega);rw[show hasL (Z1a S 0).data.toList n=true from h3]at this;exact this
 obtain⟨N,hN⟩:∃N,S.head.pages=N:=⟨_,rfl⟩;have cL:Hid (∀W s Fs,StoreAt W s Fs S->cQ 96 #[tp s] W fun e w'=>e= .returned (.int .i64 N)/\W=w'):=fun W s Fs hs=>by rw[<-hN];exact Z5g W hs
 rw[hN]at q2 q2';clear h hN h3;go_enter Tryz.func143,Tryz.ntmps143;go_wp2_with (first
  | (go_at_call 95;refine cU.mono ?_;clear cU;rintro e w1 ⟨rfl,F1,hp1,k1⟩;obtain⟨s1,Fs1,d1,hs1⟩:=hp1.open;have HP:=hD hp1;have HK:=hD k1;have cL1:=cL.out _ _ _ hs1;clear hp1 k1 hs1)
  | (go_at_call 96;refine cL1.mono ?_;clear cL1;rintro e w2 ⟨rfl,rfl⟩)
  | (go_at_call 98;refine(cH.out _).mono ?_;rintro e w3 ⟨rfl,rfl⟩))
 go_ret;exact⟨rfl,F1,HP.out,HK.out⟩
theorem V6n{p:Nat}{F:Nat->Prop}{S:StoreD}(n:Nat)(w:World)(h:PagerAt w p F S)(hn:Z0s S n):
  cQ 141 #[tp p,.int .i64 n] w fun e w'=>e= .returned (.tuple #[.string (Z1a S n),.int .i64 0])/\∃F',PagerAt w' p F' S/\Keeps F F' w w':=by
 have cC:=Y3b n w h hn;have cR:Hid (∀W F1,PagerAt W p F1 S->cQ 135 #[tp p,.int .i64 n] W fun e w'=>e= .returned (.tuple #[.string (Z1a S n),.int .i64 0])/\∃F',PagerAt w' p F' S/\Keeps F1 F' W w'):=fun W F1 hW=>Z9y n W hW hn.2.1;clear h hn;go_enter Tryz.func141,Tryz.ntmps141;go_wp2_with (first | (go_at_call 143;refine cC.mono ?_;clear cC;rintro e w1 ⟨rfl,F1,h1,k1⟩) | (go_at_call 135;refine(cR.out _ _ h1).mono ?_;rintro e w2 ⟨rfl,F2,h2,k2⟩))
 go_ret2
 exact⟨rfl,F2,h2,k1.trans k2⟩
theorem V6k{p:Nat}{F:Nat->Prop}{S:StoreD}(n:Nat)(d:ByteArray)(w:World)(h:PagerAt w p F S)(hn:Z0s S n)(hd:d.size<=256):
  cQ 150 #[tp p,.int .i64 n,.string d] w fun e w'=>e= .returned (.int .i64 0)/\∃F',PagerAt w' p F' (putP S n d)/\Keeps F F' w w':=by
 have cC:=Y3b n w h hn;have cR:Hid (∀W F1,PagerAt W p F1 S->cQ 124 #[tp p,.int .i64 n,.string d] W fun e w'=>e= .returned (.int .i64 0)/\∃F',PagerAt w' p F' (putP S n d)/\Keeps F1 F' W w'):=fun W F1 hW=>Z3p n d W hW hn.2.1 hd;clear h hn;go_enter Tryz.func150,Tryz.ntmps150;go_wp2_with (first | (go_at_call 143;refine cC.mono ?_;clear cC;rintro e w1 ⟨rfl,F1,h1,k1⟩) | (go_at_call 124;refine(cR.out _ _ h1).mono ?_;rintro e w2 ⟨rfl,F2,h2,k2⟩));go_ret;exact⟨rfl,F2,h2,k1.trans k2⟩
theorem Y7x{p:Nat}{F:Nat->Prop}{S:StoreD}(i:Nat)(w:World)(h:PagerAt w p F S)(hi:i<16):
  cQ 75 #[tp p,.int .i64 i] w fun e w'=>e= .returned (.tuple #[.int .i64 (Z1w S i),.int .i64 0])/\∃F',PagerAt w' p F' S/\Keeps F F' w w':=by
 have cM:=Z9z w h;have cR:=Z9y 1 w h (by have:=h.pages;omega);have hsz:=h.size 1;have HR:Hid (Z1w S i=Z2w (Z1a S 1) (4*i) (4*i+4)):=rfl;generalize Z1a S 1=v at cR hsz HR;have cU:Hid (∀W,cQ 136 #[.string (v.extract (4*i) (4*i+4))] W fun e w'=>e= .returned (.int .u64 (Z1w S i))/\W=w'):=fun W=>by rw[HR.out];exact Z8z (v.extract (4*i) (4*i+4)) (by rw[ByteArray.size_extract];omega) W
 have hlt:Z1w S i<4294967296:=by rw[HR.out];exact X4s v (4*i) (by omega)
 generalize Z1w S i=r at cU hlt ⊢;have q1:decide ((i:Int)<0)=false:=aM;have q2:decide ((16:Int)<=i)=false:=aM;have hs1:(v.size:Int)=256:=by omega
 clear h HR;go_enter Tryz.func75,Tryz.ntmps75;go_wp2_with (first | (go_at_call 121;refine cM.mono ?_;clear cM;rintro e w1 ⟨rfl,rfl⟩) | (go_at_call 135;refine cR.mono ?_;clear cR;rintro e w2 ⟨rfl,F2,h2,k2⟩) | (go_at_call 136;refine(cU.out _).mono ?_;rintro e w3 ⟨rfl,rfl⟩))
 go_ret2
 exact⟨rfl,F2,h2,k2⟩
theorem Y4c(s:ByteArray)(h:s.size=256):padB s=s:=by
 unfold padB;rw[h];have:zeroB.extract 256 256=ByteArray.empty:=by rw[ByteArray.ext_iff,ByteArray.data_extract];simp[zeroB]
 rw[this,ByteArray.append_empty]
def useP(S:StoreD)(n:Nat)(b:Bool):StoreD:=putP S 0 (bts (Z6x (Z1a S 0).data.toList n b))
def Z1f(S:StoreD)(n:Nat):StoreD:=putP (useP S n true) n ⟨#[]⟩
def FullV(S:StoreD):Prop:=∀n,(Z1a S n).size=256
theorem PagerAt.full{w:World}{p:Nat}{F:Nat->Prop}{S:StoreD}(h:PagerAt w p F S):FullV S:=fun n=>h.size n
theorem FullV.len{S:StoreD}(h:FullV S)(n:Nat):(Z1a S n).data.toList.length=256:=by rw[Array.length_toList];exact h n
theorem Z9p{S:StoreD}(h:FullV S)(n:Nat)(b:Bool):(bts (Z6x (Z1a S 0).data.toList n b)).size=256:=by rw[Z0e,Z5p,h.len]
theorem X3s{S:StoreD}(h:FullV S)(n:Nat)(b:Bool)(i:Nat)(hi:i≠0):Z1a (useP S n b) i=Z1a S i:=by unfold useP;rw[Z2d,if_neg hi]
theorem X9i{S:StoreD}(h:FullV S)(n:Nat)(b:Bool):Z1a (useP S n b) 0=bts (Z6x (Z1a S 0).data.toList n b):=by unfold useP;rw[Z2d,if_pos rfl,Y4c _ (Z9p h n b)]
theorem X3u{S:StoreD}(h:FullV S){n:Nat}(hn:n<2048)(b:Bool)(i:Nat):Z0y (useP S n b) i=if i=n then b else Z0y S i:=by unfold Z0y;rw[X9i h,Z1r,Y8p _ _ _ _ (by rw[h.len];omega)]
theorem Z9n{S:StoreD}{n:Nat}(hn:n≠0)(s:ByteArray)(i:Nat):Z0y (putP S n s) i=Z0y S i:=by unfold Z0y;rw[Z2d,if_neg (by omega)]
theorem Y7w{S:StoreD}{n:Nat}(hn:n≠1)(s:ByteArray)(i:Nat):Z1w (putP S n s) i=Z1w S i:=by unfold Z1w;rw[Z2d,if_neg (by omega)]
theorem X4d{S:StoreD}(n:Nat)(b:Bool)(i:Nat):Z1w (useP S n b) i=Z1w S i:=Y7w (by omega) _ _
theorem V8b(S:StoreD)(n:Nat)(b:Bool):(useP S n b).head=S.head:=rfl
theorem Y5x{S:StoreD}(h:FullV S){n:Nat}(h0:n≠0)(hn:n<2048)(i:Nat):Z0y (Z1f S n) i=if i=n then true else Z0y S i:=by unfold Z1f;rw[Z9n h0,X3u h hn]
theorem X6y{S:StoreD}{n:Nat}(h0:n≠1)(i:Nat):Z1w (Z1f S n) i=Z1w S i:=by unfold Z1f;rw[Y7w h0,X4d]
theorem X6j{S:StoreD}(h:FullV S)(n i:Nat)(hi:i≠0):Z1a (Z1f S n) i=if i=n then zeroB else Z1a S i:=by
 unfold Z1f;rw[Z2d];split
 ·exact Y1l
 ·exact X3s h n true i hi
def lowS(S:StoreD):Option Nat:=lowL (Z1a S 0).data.toList 2 S.head.pages
theorem Z4z{S:StoreD}{n:Nat}(h:lowS S=some n):2<=n/\n<S.head.pages/\Z0y S n=false:=by unfold lowS lowL at h;have h1:=List.find?_some h;have h2:=List.mem_of_find?_eq_some h;simp only[Bool.and_eq_true,decide_eq_true_eq,Bool.not_eq_true',List.mem_range]at h1 h2;exact⟨h1.1,h2,h1.2⟩
theorem V2b{S:StoreD}(h:lowS S=none)(n:Nat)(h1:2<=n)(h2:n<S.head.pages):Z0y S n=true:=by unfold lowS lowL at h;rw[List.find?_eq_none]at h;have:=h n (by simpa using h2);simp only[Bool.and_eq_true,decide_eq_true_eq,Bool.not_eq_true',not_and,Bool.not_eq_false]at this;exact this h1
theorem Y1k{p:Nat}{F:Nat->Prop}{S:StoreD}(n:Nat)(w:World)(h:PagerAt w p F S)(hn:lowS S=some n):
  cQ 91 #[tp p] w fun e w'=>e= .returned (.tuple #[.int .i64 n,.int .i64 0])/\∃F',PagerAt w' p F' (Z1f S n)/\Keeps F F' w w':=by
 have cU:=Y2p w h;have hm:=h.most;have hlow:=Z4z hn;obtain⟨v,hv⟩:∃v,Z1a S 0=v:=⟨_,rfl⟩;have hsz:v.size=256:=by rw[<-hv];exact h.size 0
 rw[hv]at cU;obtain⟨N,hN⟩:∃N,S.head.pages=N:=⟨_,rfl⟩;have cL:Hid (∀W s Fs,StoreAt W s Fs S->cQ 96 #[tp s] W fun e w'=>e= .returned (.int .i64 N)/\W=w'):=fun W s Fs hs=>by rw[<-hN];exact Z5g W hs
 have cO:Hid (∀W,cQ 149 #[.string v,.int .i64 2,.int .i64 N] W fun e w'=>e= .returned (.tuple #[.int .i64 n,.bool true])/\W=w'):=fun W=>by
  have h1:=X7r v 2 N W (by omega) (by omega) (by omega);have h2:lowL v.data.toList 2 N=some n:=by rw[<-hv,<-hN];exact hn
  rw[h2]at h1;exact h1
 obtain⟨v2,hv2⟩:∃v2,bts (Z6x v.data.toList n true)=v2:=⟨_,rfl⟩;have cW:Hid (∀W,cQ 123 #[.string v,.int .i64 n,.bool true] W fun e w'=>e= .returned (.tuple #[.string v2,.bool true])/\Ext W w'):=fun W=>by have h1:=Y2o v n true W (by omega) (by omega) (by omega);rw[hv2]at h1;exact h1
 have hs2:v2.size=256:=by rw[<-hv2,<-hv];exact Z9p h.full n true
 have HS2:Hid (useP S n true=putP S 0 v2):=by unfold Hid useP;rw[hv,hv2]
 have cP0:Hid (∀W F1,PagerAt W p F1 S->cQ 124 #[tp p,.int .i64 0,.string v2] W fun e w'=>e= .returned (.int .i64 0)/\∃F',PagerAt w' p F' (useP S n true)/\Keeps F1 F' W w'):=fun W F1 hW=>by rw[HS2.out];exact Z3p 0 v2 W hW (by have:=hW.pages;omega) (by omega)
 have cP1:Hid (∀W F1,PagerAt W p F1 (useP S n true)->cQ 124 #[tp p,.int .i64 n,.string ⟨#[]⟩] W fun e w'=>e= .returned (.int .i64 0)/\∃F',PagerAt w' p F' (Z1f S n)/\Keeps F1 F' W w'):=fun W F1 hW=>Z3p n ⟨#[]⟩ W hW (by have:=hlow.2.1;simpa [V8b]using this) (by simp[ByteArray.size]);clear h hv hN hv2 hn hlow HS2;go_enter Tryz.func91,Tryz.ntmps91;go_wp2_with (first
  | (go_at_call 95;refine cU.mono ?_;clear cU;rintro e w1 ⟨rfl,F1,hp1,k1⟩;obtain⟨s1,Fs1,d1,hs1⟩:=hp1.open;have HP:=hD hp1;have HK:=hD k1;have cL1:=cL.out _ _ _ hs1;clear hp1 k1 hs1)
  | (go_at_call 96;refine cL1.mono ?_;clear cL1;rintro e w2 ⟨rfl,rfl⟩)
  | (go_at_call 149;refine(cO.out _).mono ?_;rintro e w3 ⟨rfl,rfl⟩)
  | (go_at_call 123;refine(cW.out _).mono ?_;rintro e w4 ⟨rfl,hb4⟩;have HP4:=hD (HP.out.ext hb4);have HK4:=hD (HK.out.ext hb4);clear hb4)
  | (go_at_call 124;(with_reducible refine(cP0.out _ _ HP4.out).mono ?_);clear cP0;rintro e w5 ⟨rfl,F5,hp5,k5⟩;have HP5:=hD hp5;have HK5:=hD (HK4.out.trans k5);clear hp5 k5)
  | (go_at_call 124;(with_reducible refine(cP1.out _ _ HP5.out).mono ?_);clear cP1;rintro e w6 ⟨rfl,F6,hp6,k6⟩;have HP6:=hD hp6;have HK6:=hD (HK5.out.trans k6);clear hp6 k6))
 go_ret2
 exact⟨rfl,F6,HP6.out,HK6.out⟩
theorem Y3y{p:Nat}{F:Nat->Prop}{S:StoreD}(n:Nat)(w:World)(h:PagerAt w p F S)(hn:Z0s S n):
  cQ 84 #[tp p,.int .i64 n] w fun e w'=>e= .returned (.int .i64 0)/\∃F',PagerAt w' p F' (useP S n false)/\Keeps F F' w w':=by
 have cC:=Y3b n w h hn;have cU:Hid (∀W F1,PagerAt W p F1 S->cQ 95 #[tp p] W fun e w'=>e= .returned (.tuple #[.string (Z1a S 0),.int .i64 0])/\∃F',PagerAt w' p F' S/\Keeps F1 F' W w'):=fun W F1 hW=>Y2p W hW;have hm:=h.most;obtain⟨v,hv⟩:∃v,Z1a S 0=v:=⟨_,rfl⟩;have hsz:v.size=256:=by rw[<-hv];exact h.size 0
 rw[hv]at cU;obtain⟨v2,hv2⟩:∃v2,bts (Z6x v.data.toList n false)=v2:=⟨_,rfl⟩;have cW:Hid (∀W,cQ 123 #[.string v,.int .i64 n,.bool false] W fun e w'=>e= .returned (.tuple #[.string v2,.bool true])/\Ext W w'):=fun W=>by have h1:=Y2o v n false W (by have:=hn.2.1;omega) (by have:=hn.2.1;omega) (by omega);rw[hv2]at h1;exact h1
 have hs2:v2.size=256:=by rw[<-hv2,<-hv];exact Z9p h.full n false
 have HS2:Hid (useP S n false=putP S 0 v2):=by unfold Hid useP;rw[hv,hv2]
 have cP0:Hid (∀W F1,PagerAt W p F1 S->cQ 124 #[tp p,.int .i64 0,.string v2] W fun e w'=>e= .returned (.int .i64 0)/\∃F',PagerAt w' p F' (useP S n false)/\Keeps F1 F' W w'):=fun W F1 hW=>by rw[HS2.out];exact Z3p 0 v2 W hW (by have:=hW.pages;omega) (by omega)
 clear h hv hv2 hn HS2;go_enter Tryz.func84,Tryz.ntmps84;go_wp2_with (first
  | (go_at_call 143;refine cC.mono ?_;clear cC;rintro e w1 ⟨rfl,F1,hp1,k1⟩;have HP1:=hD hp1;have HK1:=hD k1;clear hp1 k1)
  | (go_at_call 95;refine(cU.out _ _ HP1.out).mono ?_;clear cU;rintro e w2 ⟨rfl,F2,hp2,k2⟩;have HP2:=hD hp2;have HK2:=hD (HK1.out.trans k2);clear hp2 k2)
  | (go_at_call 123;refine(cW.out _).mono ?_;rintro e w4 ⟨rfl,hb4⟩;have HP4:=hD (HP2.out.ext hb4);have HK4:=hD (HK2.out.ext hb4);clear hb4)
  | (go_at_call 124;(with_reducible refine(cP0.out _ _ HP4.out).mono ?_);clear cP0;rintro e w5 ⟨rfl,F5,hp5,k5⟩;have HP5:=hD hp5;have HK5:=hD (HK4.out.trans k5);clear hp5 k5))
 go_ret;exact⟨rfl,F5,HP5.out,HK5.out⟩
def Y3p(v:ByteArray)(i n:Nat):ByteArray:=v.extract 0 (4*i)++bts (Z0g n 4)++v.extract (4*i+4) v.size
theorem Y1e{v:ByteArray}(hv:v.size=256){i:Nat}(hi:i<16)(n:Nat):(Y3p v i n).size=256:=by unfold Y3p;rw[ByteArray.size_append,ByteArray.size_append,ByteArray.size_extract,ByteArray.size_extract,Z0e,Z0m,hv];omega
theorem X6z(v:ByteArray)(i n:Nat):Y3p v i n=bts (v.data.toList.take (4*i)++Z0g n 4++v.data.toList.drop (4*i+4)):=by unfold Y3p;rw[ByteArray.ext_iff];simp[bts];rw[List.take_of_length_le];rw[aJ,Array.length_toList];exact aF _
theorem Y1j(l:List UInt8)(i j:Nat):Z2w (bts l) i j=Z3x ((l.take j).drop i):=by
 unfold Z2w
 congr 1
 have e:((bts l).extract i j).data.toList=(l.drop i).take (j-i):=by simp only[bts,ByteArray.data_extract,Array.toList_extract,List.extract_eq_take_drop]
 rw[e,List.drop_take]
theorem X2i{v:ByteArray}(hv:v.size=256){i j n:Nat}(hi:i<16)(hj:j<16)(hn:n<4294967296):Z2w (Y3p v i n) (4*j) (4*j+4)=if j=i then n else Z2w v (4*j) (4*j+4):=by
 have hl:v.data.toList.length=256:=by rw[Array.length_toList];exact hv
 have hv2:v=bts v.data.toList:=(X5y v).symm;rw[X6z];by_cases e:j=i
 ·subst e;rw[if_pos rfl,Z7g _ (v.data.toList.take (4*j)) (Z0g n 4) (v.data.toList.drop (4*j+4)) _ _ rfl (by rw[aD];omega) (by rw[Z0m]),X5l n hn]
 ·rw[if_neg e]
  conv=>rhs;rw[hv2]
  rw[Y1j,Y1j]
  congr 1
  apply List.ext_getElem?;intro k;simp only[List.getElem?_drop,List.getElem?_take];by_cases hk:4*j+k<4*j+4
  ·rw[if_pos hk,if_pos hk];rcases Nat.lt_or_gt_of_ne e with h | h
   ·rw[aG,aL (by rw[aD];omega),List.getElem?_take,if_pos (by omega)]
   ·rw[List.getElem?_append_right (by rw[aA,aD,Z0m];omega),List.getElem?_drop,aA,aD,Z0m]
    congr 1
    omega
  ·rw[if_neg hk,if_neg hk]
def Z0q(S:StoreD)(i n:Nat):StoreD:=putP S 1 (Y3p (Z1a S 1) i n)
theorem X4e{S:StoreD}(h:FullV S){i j n:Nat}(hi:i<16)(hj:j<16)(hn:n<4294967296):Z1w (Z0q S i n) j=if j=i then n else Z1w S j:=by unfold Z1w Z0q;rw[Z2d,if_pos rfl,Y4c _ (Y1e (h 1) hi n)];exact X2i (h 1) hi hj hn
theorem Y7h(S:StoreD)(i n k:Nat):Z0y (Z0q S i n) k=Z0y S k:=Z9n (by omega) _ _
theorem Y7g(S:StoreD)(i n k:Nat)(hk:k≠1):Z1a (Z0q S i n) k=Z1a S k:=by unfold Z0q;rw[Z2d,if_neg hk]
theorem Z6g{p:Nat}{F:Nat->Prop}{S:StoreD}(i n:Nat)(w:World)(h:PagerAt w p F S)(hi:i<16)(hn:n=0\/Z0s S n):
  cQ 83 #[tp p,.int .i64 i,.int .i64 n] w fun e w'=>e= .returned (.int .i64 0)/\∃F',PagerAt w' p F' (Z0q S i n)/\Keeps F F' w w':=by
 have cT:=Y7x i w h hi;have hm:=h.most;have hn2:n<1024:=by
  rcases hn with h | h
  ·omega
  ·have:=h.2.1;omega
 have hsz:=h.size 1;have cC:Hid (∀W F1,PagerAt W p F1 S->n≠0->cQ 143 #[tp p,.int .i64 n] W fun e w'=>e= .returned (.int .i64 0)/\∃F',PagerAt w' p F' S/\Keeps F1 F' W w'):=fun W F1 hW h0=>Y3b n W hW (by rcases hn with r | r;exact absurd r h0;exact r);have cR:Hid (∀W F1,PagerAt W p F1 S->cQ 135 #[tp p,.int .i64 1] W fun e w'=>e= .returned (.tuple #[.string (Z1a S 1),.int .i64 0])/\∃F',PagerAt w' p F' S/\Keeps F1 F' W w'):=fun W F1 hW=>Z9y 1 W hW (by have:=hW.pages;omega);obtain⟨v,hv⟩:∃v,Z1a S 1=v:=⟨_,rfl⟩;rw[hv]at cR hsz;have cF:Hid (∀W,cQ 144 #[.int .u64 n,.int .i64 4] W fun e w'=>e= .returned (.string (bts (Z0g n 4)))/\Ext W w'):=fun W=>Z5d n 4 (by omega) (by omega) W;have HRB:Hid (Y3p v i n=v.extract 0 (4*i)++bts (Z0g n 4)++v.extract (4*i+4) 256):=by unfold Hid Y3p;rw[hsz]
 have hrs:=Y1e hsz hi n;have cP:Hid (∀W F1,PagerAt W p F1 S->cQ 124 #[tp p,.int .i64 1,.string (Y3p v i n)] W fun e w'=>e= .returned (.int .i64 0)/\∃F',PagerAt w' p F' (Z0q S i n)/\Keeps F1 F' W w'):=fun W F1 hW=>by have h1:=Z3p 1 (Y3p v i n) W hW (by have:=hW.pages;omega) (by omega);unfold Z0q;rw[hv];exact h1
 obtain⟨fx,hfx⟩:∃fx,bts (Z0g n 4)=fx:=⟨_,rfl⟩;have hfs:fx.size=4:=by rw[<-hfx,Z0e,Z0m]
 rw[hfx]at cF HRB;have hsi:(v.size:Int)=256:=by omega
 have hi2:(i:Int)<16:=by omega
 have u1:IntKind.i64.wrap ((4:Int)*i)=4*i:=by rw[IntKind.wrap_i64];omega
 have u2:IntKind.i64.wrap ((4:Int)*i+4)=4*i+4:=by rw[IntKind.wrap_i64];omega
 have q0:n≠0->decide ((n:Int)=0)=false:=fun h0=>decide_eq_false (by omega);have a1:(0:Int)<=4*i:=by omega
 have a2:(4:Int)*i<=256:=by omega
 have a3:(4:Int)*i+4<=256:=by omega
 have a4:(0:Int)<=4*i+4:=by omega
 have a5:((4:Int)*i).toNat=4*i:=by omega
 have a6:((4:Int)*i+4).toNat=4*i+4:=by omega
 have a7:¬9223372036854775807<min (4*i) 256+4:=by omega
 have a8:¬9223372036854775807<min (4*i) 256+4+(252-4*i):=by omega
 clear h hv hfx hn;have u0:IntKind.u64.wrap (n:Int)=n:=by rw[IntKind.wrap_u64];omega
 by_cases h0:n=0
 ·have q1:decide ((n:Int)=0)=true:=aN;have q2:(n==0)=true:=by simpa using h0
  clear q0;have HZ:=hD h0;clear h0;go_enter Tryz.func83,Tryz.ntmps83;go_upto_region 11 with (first
   | (go_at_call 75;refine cT.mono ?_;clear cT;rintro e w1 ⟨rfl,F1,hp1,k1⟩;have HP1:=hD hp1;have HK1:=hD k1;clear hp1 k1)
   | (go_at_call 135;refine(cR.out _ _ HP1.out).mono ?_;clear cR;rintro e w2 ⟨rfl,F2,hp2,k2⟩;have HP2:=hD hp2;have HK2:=hD (HK1.out.trans k2);clear hp2 k2))
  refine wp_region_held_drew (S:=fun W=>0<=W.heap.size) (by kernel_rfl) (Nat.zero_le _) (fun hHeld=> ?_);refine' tk 0 ?_;refine' tk 1 ?_;refine' tk 2 ?_;refine' tk 3 ?_;refine' tk 4 ?_;refine' tk 5 ?_;refine' tk 6 ?_;refine' tk 9 ?_;refine' tk 10 ?_;refine' tk 11 ?_;refine' tk 12 ?_;refine' tk 13 ?_;refine stp 7 (fun K hK=> ?_);go_simp
  (with_reducible refine(cF.out _).mono ?_)
  rintro e w3 ⟨rfl,hb3⟩;have HP3:Hid (PagerAt w3 p F2 S):=HP2.out.ext (Ext.trans (by exact Xt) hb3);have HK3:Hid (Keeps F F2 w w3):=HK2.out.ext (Ext.trans (by exact Xt) hb3);clear hb3
  (try dsimp only)
  (try go_simp)
  refine hK.out _ _ (Nat.zero_le _) (fun hHeld=> ?_);clear hK K;refine pt ?_;refine' tk 8 ?_;refine' tk 14 ?_;refine stp 15 (fun K hK=> ?_);go_simp;rw[<-HRB.out]
  (with_reducible refine(cP.out _ _ HP3.out).mono ?_)
  rintro e w4 ⟨rfl,F4,hp4,k4⟩;have HP4:=hD hp4;have HK4:=hD (HK3.out.trans k4);clear hp4 k4
  (try dsimp only)
  (try go_simp)
  refine hK.out _ _ (Nat.zero_le _) (fun hHeld=> ?_);clear hK K;refine pt ?_;refine' tk 16 ?_;refine wpAnyH_done (by kernel_rfl) ?_ _;go_wp2_with fail;go_ret;exact⟨rfl,F4,HP4.out,HK4.out⟩
 ·have q0:=q0 h0;go_enter Tryz.func83,Tryz.ntmps83;go_upto_region 11 with (first
   | (go_at_call 75;refine cT.mono ?_;clear cT;rintro e w1 ⟨rfl,F1,hp1,k1⟩;have HP1:=hD hp1;have HK1:=hD k1;clear hp1 k1)
   | (go_at_call 143;refine(cC.out _ _ HP1.out h0).mono ?_;clear cC;rintro e w5 ⟨rfl,F5,hp5,k5⟩;have HP5:=hD hp5;have HK5:=hD (HK1.out.trans k5);clear hp5 k5)
   | (go_at_call 135;refine(cR.out _ _ HP5.out).mono ?_;clear cR;rintro e w2 ⟨rfl,F2,hp2,k2⟩;have HP2:=hD hp2;have HK2:=hD (HK5.out.trans k2);clear hp2 k2))
  refine wp_region_held_drew (S:=fun W=>0<=W.heap.size) (by kernel_rfl) (Nat.zero_le _) (fun hHeld=> ?_);refine' tk 0 ?_;refine' tk 1 ?_;refine' tk 2 ?_;refine' tk 3 ?_;refine' tk 4 ?_;refine' tk 5 ?_;refine' tk 6 ?_;refine' tk 9 ?_;refine' tk 10 ?_;refine' tk 11 ?_;refine' tk 12 ?_;refine' tk 13 ?_;refine stp 7 (fun K hK=> ?_);go_simp
  (with_reducible refine(cF.out _).mono ?_)
  rintro e w3 ⟨rfl,hb3⟩;have HP3:Hid (PagerAt w3 p F2 S):=HP2.out.ext (Ext.trans (by exact Xt) hb3);have HK3:Hid (Keeps F F2 w w3):=HK2.out.ext (Ext.trans (by exact Xt) hb3);clear hb3
  (try dsimp only)
  (try go_simp)
  refine hK.out _ _ (Nat.zero_le _) (fun hHeld=> ?_);clear hK K;refine pt ?_;refine' tk 8 ?_;refine' tk 14 ?_;refine stp 15 (fun K hK=> ?_);go_simp;rw[<-HRB.out]
  (with_reducible refine(cP.out _ _ HP3.out).mono ?_)
  rintro e w4 ⟨rfl,F4,hp4,k4⟩;have HP4:=hD hp4;have HK4:=hD (HK3.out.trans k4);clear hp4 k4
  (try dsimp only)
  (try go_simp)
  refine hK.out _ _ (Nat.zero_le _) (fun hHeld=> ?_);clear hK K;refine pt ?_;refine' tk 16 ?_;refine wpAnyH_done (by kernel_rfl) ?_ _;go_wp2_with fail;go_ret;exact⟨rfl,F4,HP4.out,HK4.out⟩
theorem Y5b(l:List UInt8):∀k,k<=l.length->Z5l (l.take k)=((List.range (8*k)).filter (hasL l)).length
 | 0,_=>by simp[Z5l]
 | k+1,hk=>by
   have ih:=Y5b l k (by omega);rw[Y5a l k l[k] (aB (by omega)),ih,show 8*(k+1)=8*k+8 by omega,List.range_add,List.filter_append,aA]
   congr 1
   unfold popN;rw[List.countP_eq_length_filter,List.filter_map,List.length_map]
   congr 1
   apply List.filter_congr;intro i hi;have hi:i<8:=by simpa using hi
   simp only[Function.comp,hasL];rw[show (8*k+i)/8=k by omega,show(8*k+i)%8=i by omega,aB (by omega)];rfl
def Z1y(S:StoreD)(n:Nat):Nat:=((List.range n).filter (Z0y S)).length
theorem Y3l(S:StoreD)(n:Nat):Z1y S n<=n:=by have:=List.length_filter_le (Z0y S) (List.range n);simpa [Z1y]using this
theorem Y3k(S:StoreD)(n:Nat):Z1y S (n+1)=Z1y S n+if Z0y S n=true then 1 else 0:=by unfold Z1y;rw[List.range_succ,List.filter_append,aA];by_cases h:Z0y S n=true<;>simp[h]
def Z0z(S:StoreD):Nat:=S.head.pages-Z1y S S.head.pages
theorem V0z{p:Nat}{F:Nat->Prop}{S:StoreD}(w:World)(h:PagerAt w p F S):
  cQ 35 #[tp p] w fun e w'=>e= .returned (.int .i64 (Z0z S))/\∃F',PagerAt w' p F' S/\Keeps F F' w w':=by
 have cU:=Y2p w h;have hm:=h.most;have hsz:=h.size 0;have HT:Hid (∀k,Z1y S (k+1)=Z1y S k+if Z0y S k=true then 1 else 0):=Y3k S;have HTL:Hid (∀k,Z1y S k<=k):=Y3l S;have HU:Hid (∀k,Z0y S k=hasL (Z1a S 0).data.toList k):=fun k=>rfl;have HRM:Hid (Z0z S=S.head.pages-Z1y S S.head.pages):=rfl;obtain⟨N,hN⟩:∃N,S.head.pages=N:=⟨_,rfl⟩;have cL:Hid (∀W s Fs,StoreAt W s Fs S->cQ 96 #[tp s] W fun e w'=>e= .returned (.int .i64 N)/\W=w'):=fun W s Fs hs=>by rw[<-hN];exact Z5g W hs
 obtain⟨v,hv⟩:∃v,Z1a S 0=v:=⟨_,rfl⟩;have hlen:v.data.toList.length=256:=by rw[<-hv];exact h.full.len 0
 have HC0:Hid (Z5l (v.data.toList.take (N/8))=Z1y S (8*(N/8))):=by unfold Hid;rw[Y5b _ _ (by omega),<-hv];rfl
 rw[hv]at cU hsz HU;rw[hN]at HRM hm;have cC:Hid (∀W,cQ 97 #[.string (v.extract 0 (N/8))] W fun e w'=>e= .returned (.int .i64 (Z1y S (8*(N/8))))/\W=w'):=fun W=>by
  have h1:=V4o (v.extract 0 (N/8)) W (by rw[ByteArray.size_extract];omega);have e:(v.extract 0 (N/8)).data.toList=v.data.toList.take (N/8):=by simp
  rw[e,HC0.out]at h1;exact h1
 have cH:Hid (∀k W,k<N->cQ 98 #[.string v,.int .i64 k] W fun e w'=>e= .returned (.bool (Z0y S k))/\W=w'):=fun k W hk=>by rw[HU.out];exact X2u v k W (by omega) (by omega)
 obtain⟨M,hM⟩:∃M,N/8=M:=⟨_,rfl⟩;rw[hM]at cC;have hM1:8*M<=N:=by omega
 have hM2:N<8*M+8:=by omega
 have u1:(N:Int).tdiv 8=(M:Int):=by rw[<-hM,Int.tdiv_eq_ediv_of_nonneg (by omega)];omega
 have u2:IntKind.i64.wrap (M:Int)=(M:Int):=by rw[IntKind.wrap_i64];omega
 have hsi:(v.size:Int)=256:=by omega
 have hMi:(M:Int)<=128:=by omega
 have htm:=HTL.out (8*M);clear h hN hv HU HC0 hlen hM;go_enter Tryz.func35,Tryz.ntmps35;go_wp2_with (first
  | (go_at_call 95;refine cU.mono ?_;clear cU;rintro e w1 ⟨rfl,F1,hp1,k1⟩;obtain⟨s1,Fs1,d1,hs1⟩:=hp1.open;have HP:=hD hp1;have HK:=hD k1;have cL1:=cL.out _ _ _ hs1;clear hp1 k1 hs1)
  | (go_at_call 96;refine cL1.mono ?_;clear cL1;rintro e w2 ⟨rfl,rfl⟩)
  | (go_at_call 97;(with_reducible refine(cC.out _).mono ?_);rintro e w3 ⟨rfl,rfl⟩))
 go_loop [6,7] (fun r i=>∃k:Nat,8*M<=k/\k<=N/\i= .int .i64 k/\r= .int .i64 ((N:Int)-Z1y S k)) (fun _ i=>N-(intOf i).toNat)
 case atStart=>exact⟨8*M,by omega,by omega,by go_num,by first | rfl | trivial⟩
 case round=>
  obtain⟨k,hk1,hk2,rfl,rfl⟩:=hrel;have htk:Z1y S k<=k:=HTL.out k;have HTk:=HT.out k;have HTK:Hid (Z1y S (k+1)=Z1y S k+if Z0y S k=true then 1 else 0):=HTk;clear HTk;by_cases hkl:k<N
  ·have q1:decide ((k:Int)<N)=true:=aN;have q1':decide (k<N)=true:=decide_eq_true hkl;have cHk:=cH.out k w1 hkl;generalize Z0y S k=b at HTK cHk;cases b
   ·go_wp2_with (go_at_call 98;(with_reducible refine cHk.mono ?_);rintro e w3 ⟨rfl,rfl⟩)
    go_round
    case rel=>exact⟨k+1,by omega,by omega,by go_num,by rw[HTK.out];simp⟩
    case measure=>simp[intOf];omega
   ·go_wp2_with (go_at_call 98;(with_reducible refine cHk.mono ?_);rintro e w3 ⟨rfl,rfl⟩)
    go_round
    case rel=>exact⟨k+1,by omega,by omega,by go_num,by rw[HTK.out];simp;omega⟩
    case measure=>simp[intOf];omega
  ·obtain rfl:k=N:=by omega
   go_wp2_with fail;go_ret;exact⟨Y3r (by rw[HRM.out];omega),F1,HP.out,HK.out⟩
def fmtU:ByteArray:=bts (Z6x (Z6x (List.replicate 256 0) 0 true) 1 true)
def fmtP(S:StoreD):StoreD:=putP (putP S 0 fmtU) 1 ⟨#[]⟩
theorem X1b:fmtU.size=256:=by unfold fmtU;rw[Z0e,Z5p,Z5p,List.length_replicate]
theorem Z9o(S:StoreD)(n:Nat):Z0y (fmtP S) n=decide (n<2):=by
 unfold Z0y fmtP;rw[Z2d,if_neg (by omega),Z2d,if_pos rfl,Y4c _ X1b];unfold fmtU;rw[Z1r,Y8p _ _ _ _ (by rw[Z5p,List.length_replicate];omega),Y8p _ _ _ _ (by rw[List.length_replicate];omega),V3e];by_cases h1:n=1
 ·simp[h1]
 ·by_cases h0:n=0
  ·simp[h0]
  ·rw[if_neg h1,if_neg h0];symm;exact decide_eq_false (by omega)
theorem V5z(S:StoreD)(i:Nat):Z1w (fmtP S) i=0:=by
 unfold Z1w fmtP;rw[Z2d,if_pos rfl,Y1l,<-Z8q,Y1j];have h:∀l:List UInt8,(∀x∈l,x=0)->∀k,upN l k=0:=fun l hl k=>by
  induction k with
  | zero=>rfl
  | succ k ih=>
    unfold upN;rw[ih];cases hq:l[k]? with
    | none=>simp
    | some x=>rw[hl x (List.mem_of_getElem? hq)];simp
 exact h _ (fun x hx=>List.eq_of_mem_replicate (List.mem_of_mem_take (List.mem_of_mem_drop hx))) _
theorem X2g{p:Nat}{F:Nat->Prop}{S:StoreD}(w:World)(h:PagerAt w p F S):
  cQ 59 #[tp p] w fun e w'=>e= .returned (.int .i64 0)/\∃F',PagerAt w' p F' (fmtP S)/\Keeps F F' w w':=by
 have cM:=Z9z w h;obtain⟨s1,Fs1,d1,hs1⟩:=h.open;have cL:=Z5g w hs1;have hp2:=h.pages;have q0:decide ((S.head.pages:Int)<=2)=false:=aM;have HP:=hD h;have cE:Hid (∀W,cQ 122 #[.int .i64 2048] W fun e w'=>e= .returned (.string zeroB)/\Ext W w'):=fun W=>V4d W;obtain⟨U,hU⟩:∃U:Nat->ByteArray,U=fun k=>if k=0 then zeroB else if k=1 then bts (Z6x (List.replicate 256 0) 0 true)else fmtU:=⟨_,rfl⟩;have HU0:Hid (U 0=zeroB):=by rw[hU];rfl
 have HU2:Hid (U 2=fmtU):=by rw[hU];rfl
 have cW:Hid (∀k W,k<2->cQ 123 #[.string (U k),.int .i64 k,.bool true] W fun e w'=>e= .returned (.tuple #[.string (U (k+1)),.bool true])/\Ext W w'):=fun k W hk=>by
  rcases(by omega:k=0\/k=1)with rfl | rfl
  ·have h1:=Y2o zeroB 0 true W (by omega) (by rw[Z4q];omega) (by rw[Z4q];omega);rw[HU0.out,show U 1=bts (Z6x (List.replicate 256 0) 0 true)by rw[hU];rfl];rw[<-Z8q,Z1r]at h1;rw[<-Z8q];exact h1
  ·have e1:U 1=bts (Z6x (List.replicate 256 0) 0 true):=by rw[hU];rfl
   have h1:=Y2o (U 1) 1 true W (by omega) (by rw[e1,Z0e,Z5p,List.length_replicate];omega) (by rw[e1,Z0e,Z5p,List.length_replicate];omega);rw[HU2.out];rw[e1,Z1r]at h1;rw[e1];exact h1
 have cP0:Hid (∀W F1,PagerAt W p F1 S->cQ 124 #[tp p,.int .i64 0,.string (U 2)] W fun e w'=>e= .returned (.int .i64 0)/\∃F',PagerAt w' p F' (putP S 0 fmtU)/\Keeps F1 F' W w'):=fun W F1 hW=>by rw[HU2.out];exact Z3p 0 fmtU W hW (by omega) (by rw[X1b];omega)
 have cP1:Hid (∀W F1,PagerAt W p F1 (putP S 0 fmtU)->cQ 124 #[tp p,.int .i64 1,.string ⟨#[]⟩] W fun e w'=>e= .returned (.int .i64 0)/\∃F',PagerAt w' p F' (fmtP S)/\Keeps F1 F' W w'):=fun W F1 hW=>Z3p 1 ⟨#[]⟩ W hW (by have:=hW.pages;omega) (by simp[ByteArray.size]);clear h hs1 hU;go_enter Tryz.func59,Tryz.ntmps59;go_wp2_with (first
  | (go_at_call 121;refine cM.mono ?_;clear cM;rintro e w1 ⟨rfl,rfl⟩)
  | (go_at_call 96;refine cL.mono ?_;clear cL;rintro e w2 ⟨rfl,rfl⟩)
  | (go_at_call 122;refine(cE.out _).mono ?_;rintro e w3 ⟨rfl,hb3⟩;have HB3:=hD hb3;clear hb3))
 rw[<-HU0.out]
 go_loopw [3,16] (fun u i wr=>∃k:Nat,k<=2/\i= .int .i64 k/\u= .string (U k)/\Ext w wr) (fun _ i _=>2-(intOf i).toNat)
 case atStart=>exact⟨0,by omega,rfl,rfl,HB3.out⟩
 case round=>
  obtain⟨k,hk,rfl,rfl,hx⟩:=hrel;have HX:=hD hx;clear hx;by_cases hkl:k<2
  ·have q1:decide ((k:Int)<2)=true:=aN;have cWk:=cW.out k wr hkl;go_wp2_with (go_at_call 123;(with_reducible refine cWk.mono ?_);rintro e w4 ⟨rfl,hb4⟩)
   go_roundw
   case rel=>exact⟨k+1,by omega,by go_num,rfl,Ext.trans HX.out hb4⟩
   case measure=>simp[intOf];omega
  ·obtain rfl:k=2:=by omega
   go_wp2_with (first
    | (go_at_call 124;(with_reducible refine(cP0.out _ _ (HP.out.ext HX.out)).mono ?_);clear cP0;rintro e w5 ⟨rfl,F5,hp5,k5⟩;have HP5:=hD hp5;have HK5:=hD ((Keeps.of HX.out).trans k5);clear hp5 k5)
    | (go_at_call 124;(with_reducible refine(cP1.out _ _ HP5.out).mono ?_);clear cP1;rintro e w6 ⟨rfl,F6,hp6,k6⟩;have HP6:=hD hp6;have HK6:=hD (HK5.out.trans k6);clear hp6 k6))
   go_ret;exact⟨rfl,F6,HP6.out,HK6.out⟩
theorem X0h{s:Nat}{F:Nat->Prop}{S:StoreD}(w:World)(h:StoreAt w s F S)(hl:Live S)(hp:2<S.head.pages):
  cQ 58 #[tp s] w fun e w'=>∃p F',e= .returned (.tuple #[tp p,.int .i64 0])/\PagerAt w' p F' S/\Keeps F F' w w'/\w.heap.size<=p:=by
 have cR:=Z9s 0 w h hl (by omega);have cC:Hid (∀W,cQ 120 #[.int .i64 64] W fun e w'=>∃c F,e= .returned (.tuple #[tp c,.int .i64 0])/\CacheAt w' c F []/\Ext W w'/\∀i,F i->W.heap.size<=i):=fun W=>X1j W;have HH:=hD h.shrink;clear h;go_enter Tryz.func58,Tryz.ntmps58;go_wp2_with (first
  | (go_at_call 119;refine cR.mono ?_;clear cR;rintro e w1 ⟨rfl,hb1⟩;have HB1:=hD hb1;clear hb1)
  | (go_at_call 120;refine(cC.out _).mono ?_;rintro e w2 ⟨c,Fc,rfl,hc2,hb2,hf2⟩;have HC2:=hD hc2;have HB2:=hD (Ext.trans HB1.out hb2);have HF2:=hD hf2;have HZ1:=hD HB1.out.size;clear hc2 hb2 hf2))
 go_ret2
 have hx:Ext w2 (w2.alloc (.cells #[tp s,tp c] 184)):=Ext.alloc _ _;have hX:=Ext.trans HB2.out hx;have hz:=HB2.out.size;obtain⟨lv,q1,q2,q3⟩:=HC2.out;refine⟨w2.heap.size,fun i=>i=w2.heap.size\/(F i/\i<w.heap.size)\/(Fc i/\i<w2.heap.size),rfl,⟨s,c,fun i=>F i/\i<w.heap.size,fun i=>Fc i/\i<w2.heap.size,[],⟨Row1.made _ _ _,HH.out.ext hX,CacheAt.ext ⟨lv,q1,⟨q2,q1.row.lt⟩,fun b e=>⟨q3 b e,(q1.own.lt b e).2⟩⟩ hx,CGood.nil S,hl,hp,fun i a b=> ?_,fun a=>by omega,fun a=>by omega,.inl rfl,fun i a=> .inr (.inl a),fun i a=> .inr (.inr a),fun i a=>aE a.2 hX.size,fun i a=>aE a.2 hx.size⟩⟩,⟨Only.of hX,fun i a=> ?_⟩,hz⟩
 ·have:=HF2.out i b.1;have:=HZ1.out;omega
 ·rcases a with a | a | a
  ·exact .inr (by omega)
  ·exact .inl a.1
  ·exact .inr (by have:=HF2.out i a.1;have:=HZ1.out;omega)
def encN(n:Int):List Value:= [.int .i64 n]
theorem Z0j(n:Int):(encN n).length=1:=rfl
theorem Z2s(n:Int):∀u∈encN n,u.oneCell'=true:=by intro u hu;simp only[encN,List.mem_cons,List.not_mem_nil,or_false]at hu;rcases hu with rfl;rfl
theorem Tryz.infoInt1:(Tryz.prog.info? 3).map (fun i=>(i.zero,i.size,i.bytes))=some (some (.int .i64 0),1,8):=by kernel_rfl
theorem elInt:Elem Tryz.prog 80 3 1 8:=Elem.of Tryz.underlying80 Tryz.infoInt1 rfl (by decide)
theorem Y7u:(Tryz.prog.info? 9).map (·.size)=some 1:=by kernel_rfl
theorem Y7v:(Tryz.prog.info? 3).map (·.size)=some 1:=by kernel_rfl
theorem Tryz.zeroStr1(w:World):(zeroValue 9).run Tryz.prog w= .ok (.string ⟨#[]⟩) w:=by kernel_rfl
theorem Tryz.zeroInt1(w:World):(zeroValue 3).run Tryz.prog w= .ok (.int .i64 0) w:=by kernel_rfl
section
variable {α:Type} {enc:α->List Value}
theorem Z0t(h:∀x,(enc x).length=1)(l:List α):(l.flatMap enc).length=l.length:=by rw[Z3i enc 1 h,Nat.mul_one]
theorem Z8p(h:∀x,(enc x).length=1):∀(l:List α) (i:Nat),(l.flatMap enc).take i=(l.take i).flatMap enc
 | [],i=>by simp
 | x::l,0=>by simp
 | x::l,i+1=>by rw[aI,List.take_append,h,List.take_of_length_le (by rw[h];omega),show i+1-1=i by omega,Z8p h l i,List.take_succ_cons,aI]
theorem Z4w(h:∀x,(enc x).length=1):∀(l:List α) (i:Nat),(l.flatMap enc).drop i=(l.drop i).flatMap enc
 | [],i=>by simp
 | x::l,0=>by simp
 | x::l,i+1=>by rw[aI,List.drop_append,h,List.drop_of_length_le (by rw[h];omega),show i+1-1=i by omega,Z4w h l i,List.drop_succ_cons,List.nil_append]
theorem Z6d(h1:∀x,∀u∈enc x,u.oneCell'=true)(l:List α):∀v∈l.flatMap enc,v.oneCell'=true:=fun v hv=>by obtain⟨x,_,hx⟩:=List.mem_flatMap.1 hv;exact h1 x v hx
def insL(l:List α)(i:Nat)(x:α):List α:=l.take i++x::l.drop i
theorem Z1b(l:List α)(i:Nat)(x:α):(insL l i x).length=l.length+1:=by unfold insL;simp;omega
theorem Y0f(h:∀x,(enc x).length=1)(l:List α)(i:Nat)(x:α):(insL l i x).flatMap enc=(l.flatMap enc).take i++enc x++(l.flatMap enc).drop i:=by unfold insL;rw[aH,aI,Z8p h,Z4w h,aG]
theorem X5g(L spare X:List Value)(i:Nat)(hi:i<=L.length)(hs:1<=spare.length)(hX:X.length=1):
  ((L++spare).take (i+1)++L.drop i++(L++spare).drop (i+1+(L.drop i).length)).take i++X++((L++spare).take (i+1)++L.drop i++(L++spare).drop (i+1+(L.drop i).length)).drop (i+X.length)=L.take i++X++L.drop i++spare.drop 1:=by
 have e0:((L++spare).take (i+1)).length=i+1:=by rw[aD,aA];omega
 have e1:(L++spare).drop (i+1+(L.drop i).length)=spare.drop 1:=by rw[aJ,show i+1+(L.length-i)=L.length+1 by omega,<-List.drop_drop,List.drop_left]
 rw[e1,hX,aG ((L++spare).take (i+1)),List.drop_left' e0,List.take_append_of_le_length (by omega),List.take_take,show min i (i+1)=i by omega,List.take_append_of_le_length hi,aG,aG,aG]
theorem X5h(L Z X:List Value)(i:Nat)(hi:i<=L.length)(hZ:L.length+1<=(L.take i++Z).length)(hX:X.length=1):
  ((L.take i++Z).take i++X++(L.take i++Z).drop (i+X.length)).take (i+1)++L.drop i++((L.take i++Z).take i++X++(L.take i++Z).drop (i+X.length)).drop (i+1+(L.drop i).length)=L.take i++X++L.drop i++Z.drop (L.length+1-i):=by
 have e0:(L.take i).length=i:=by rw[aD];omega
 have e1:(L.take i++X).length=i+1:=by rw[aA,e0,hX]
 have e2:(L.take i++Z).drop (i+1)=Z.drop 1:=by rw[<-List.drop_drop,List.drop_left' e0]
 rw[hX,List.take_left' e0,e2,List.take_left' e1,<-List.drop_drop,List.drop_left' e1,List.drop_drop,aJ]
 congr 2
 omega
end
end Go.Proofs.YtohaldfnmgcofaaGreat
