/- slices.Insert of one item ahead of all others. Conditions: sizes. -/
import Derived.Test.YtmiolpfanlpfnaaGreatU11
import Derived.Lib.Overlaps
import Derived.Lib.AppendZerosOnto
import Derived.Test.YtmiolpfanlpfnaaGreatU09
set_option maxRecDepth 100000
set_option maxHeartbeats 4000000
set_option linter.unusedSimpArgs false
set_option linter.unusedVariables false
namespace Go.Proofs.YtmiolpfanlpfnaaGreat
open Go.RowKit
theorem V9z(l:List (Int×ByteArray))(x:Int×ByteArray)(spare:List Value)(h3:3≤spare.length):
  ((l.flatMap encI++spare).take 3++l.flatMap encI++(l.flatMap encI++spare).drop (3+(l.flatMap encI).length)).take 0++encI x++((l.flatMap encI++spare).take 3++l.flatMap encI++(l.flatMap encI++spare).drop (3+(l.flatMap encI).length)).drop (0+(encI x).length)=(x::l).flatMap encI++spare.drop 3:=by
 have e1:((l.flatMap encI++spare).take 3).length=3:=by rw[List.length_take,List.length_append];omega
 have e2:(l.flatMap encI++spare).drop (3+(l.flatMap encI).length)=spare.drop 3:=by rw[Nat.add_comm,←List.drop_drop,List.drop_left]
 rw[e2,List.take_zero,List.nil_append,Nat.zero_add,Z1u,List.append_assoc,List.drop_left' e1,List.flatMap_cons,List.append_assoc]
theorem X9b{W:World}{b:Nat}{t:TypeId}{l:List (Int×ByteArray)}{spare:List Value}(h:Row1 W b t (l.flatMap encI++spare)):∀j v,(l.flatMap encI)[j]? =some v→W.cell? ((⟨b,0,none⟩:Addr).add j)=some v:=fun j v hj=>by
 rw[Addr.add_lit,Nat.zero_add,h.cell j,List.getElem?_append_left (List.getElem?_eq_some_iff.1 hj).1,hj]
theorem Y0c{W:World}{b:Nat}{t:TypeId}{cs:List Value}(h:Row1 W b t cs):∀j v,cs[j]? =some v→W.cell? ((⟨b,0,none⟩:Addr).add j)=some v:=fun j v hj=>by
 rw[Addr.add_lit,Nat.zero_add,h.cell j,hj]
theorem X1x{base:Nat}{v:Value}(x:Int×ByteArray)(G:Nat)(w:World)(h:OwnL w base 289 3 encI v [])(hG:Row1 w G 289 (encI x))(hb:base≤w.heap.size):
  Calls Tryz.prog 295 #[v,.int .i64 0,.slice (some ⟨G,0,none⟩) 1 1] w fun e w'=>∃v',e= .returned v'∧OwnL w' base 289 3 encI v' [x]∧(∀k,v'.ownBlock=some k→v.ownBlock=some k∨w.heap.size≤k)∧Only (fun j=>v.ownBlock=some j) w w':=by
 obtain⟨A,c,rfl⟩:=h.form
 have HH:=hD h
 have HG:=hD hG
 clear h hG
 go_enter Tryz.func295,Tryz.ntmps295
 go_wp2_with (at_builtin;refine Z0t elItem Z1u Y2i rfl (.tmp 23) (.tmp 24) rfl (.slice A 0 c) [] rfl HH.out hb G 1 x rfl HG.out (by simp) (by decide) ?_;intro A' c' w2 hown2 hgr hwh)
 go_ret
 rw[List.nil_append,List.length_singleton]at hown2
 rw[List.nil_append,List.length_singleton]at hwh
 exact⟨_,rfl,hown2,hwh,Only.grown hgr⟩
theorem X1v{base:Nat}{b cap G:Nat}{l:List (Int×ByteArray)}{spare:List Value}(x:Int×ByteArray)(w:World)(hr:Row1 w b 289 (l.flatMap encI++spare))(hbb:base≤b)(hn:0<l.length)(hroom:l.length+1≤cap)(hcap:cap≤9223372036854775807)(htot:(l.flatMap encI++spare).length=cap*3)
 (hG:Row1 w G 289 (encI x))(hne:G≠b):
  Calls Tryz.prog 295 #[.slice (some ⟨b,0,none⟩) l.length cap,.int .i64 0,.slice (some ⟨G,0,none⟩) 1 1] w fun e w'=>∃v',e= .returned v'∧OwnL w' base 289 3 encI v' (x::l)∧v'.ownBlock=some b∧Only (fun j=>j=b) w w':=by
 have hfl:=Z1w l
 have hsp:3≤spare.length:=by rw[List.length_append,hfl]at htot;omega
 have HROW:=hD (V9z l x spare hsp)
 have hsa:w.shape? G=some (289,3):=by unfold World.shape?;rw[show w.heap[G]? =_ from hG];rfl
 have hsb:w.shape? b=some (289,cap*3):=by unfold World.shape?;rw[show w.heap[b]? =_ from hr];simp[←htot]
 have hov:∀lb cb,(callFunc 307 #[.slice (some ⟨G,0,none⟩) 1 1,.slice (some ⟨b,3,none⟩) lb cb]).run Tryz.prog w= .ok (.value (.bool false)) w:=fun lb cb=>by
  rw[run_callFunc_extern Tryz.func307 (by kernel_rfl) (by kernel_rfl) (by kernel_rfl) (e:=Extern.SlicesOverlaps.overlaps #[238,238] #[4]) (by kernel_rfl),
   Lib.run_overlaps_apart w 238 4 289 Tryz.underlying238 3 (fun w=>by kernel_rfl) ⟨G,0,none⟩ ⟨b,3,none⟩ 1 1 lb cb hne _ _ 3 (cap*3) hsa hsb (by omega) (hG.soft 0) (hG.soft 3)]
  rfl
 obtain⟨n,hnn⟩:∃n,l.length=n:=⟨_,rfl⟩
 have HR:=hD hr
 have HG:=hD hG
 have HN:=hD hnn
 have HFL:Hid ((l.flatMap encI).length=n*3):=by unfold Hid;rw[hfl,hnn]
 have HTOT:=hD htot
 rw[hnn]at hn hroom ⊢
 have hw1:¬((0:Int)=(n:Int)):=by omega
 have hw2:¬(cap:Int)<(n:Int)+1:=by omega
 have hw3:(n:Int)+1≤cap:=by omega
 have hw4:¬cap=1:=by omega
 have hw5:((n:Int)+1).toNat=n+1:=by omega
 have hw6:(0:Int)≤(n:Int)+1:=by omega
 have hw7:(1:Int)≤(n:Int)+1:=by omega
 have hw8:¬cap=0:=by omega
 have hw9:IntKind.i64.wrap 1=1:=by decide
 have hw10:(0:Int)≤n:=by omega
 have HMI:Hid (n=Nat.min (n+1) n):=by unfold Hid;show n=min (n+1) n;omega
 have HFIT:Hid (3+(l.flatMap encI).length≤(l.flatMap encI++spare).length):=by unfold Hid;rw[List.length_append];omega
 have HFIN:Hid (∀w',Row1 w' b 289 ((x::l).flatMap encI++spare.drop 3)→OwnL w' base 289 3 encI (.slice (some ⟨b,0,none⟩) (n+1) cap) (x::l)):=fun w' h1=>by
  have h2:=OwnL.ofRow (k:=3) (base:=base) h1 hbb (cap:=cap) (by rw[List.length_cons,HN.out];exact hroom) hcap (by
   have h3:=HTOT.out
   rw[List.length_append]at h3
   rw[List.length_append,Z1w,List.length_cons,List.length_drop]
   have:=HFL.out
   have:=HN.out
   omega) Z1u
  rwa [List.length_cons,HN.out]at h2
 have hbw:=hr.lt
 have HRX:Hid (∀W,Ext w W→Row1 W b 289 (l.flatMap encI++spare)):=fun W hW=>HR.out.ext hW hbw
 have HM1:Hid (1=Nat.min 1 (n+1)):=by unfold Hid;show 1=min 1 (n+1);omega
 have HFIT2:Hid (0+(encI x).length≤((l.flatMap encI++spare).take 3++l.flatMap encI++(l.flatMap encI++spare).drop (3+(l.flatMap encI).length)).length):=by
  unfold Hid
  simp only[List.length_append,List.length_take,List.length_drop,Z1u]
  omega
 clear hr hG htot hfl hnn hsa hsb
 go_enter Tryz.func295,Tryz.ntmps295
 go_upto_region 15 with (simp only[hov])
 go_region_law (refine Z5d rfl (Z4v (.tmp 73) (.tmp 76) 238 238 rfl 289 3 Tryz.underlying238 Z9d b 3 n (cap-1) ⟨b,0,none⟩ (n+1) cap (by simp[Act.eval,Act.put]) (by simp[Act.eval,Act.put]) (l.flatMap encI++spare) 289 (HRX.out _ (by exact Xt)) (l.flatMap encI) n HMI.out HFL.out (X9b (HRX.out _ (by exact Xt))) HFIT.out (Z9p _) ?_);intro w2 hr2 hb2)
 all_goals
  have HG2:Hid (Row1 w2 G 289 (encI x)):=Row1.same HG.out (hb2.block G HG.out.lt (fun e=>hne (by injection e)))
  have HR2:=hD hr2
  have HO2:Hid (Only (fun j=>j=b) w w2):=Only.turn (Only.of (by exact Xt)) hb2 (.inl rfl)
  clear hr2 hb2 hov
  go_wp2_with (with_reducible show wpList _ _ _ (({ dst:=_,op:=Op.call { callee:=Callee.builtin Builtin.copy,args:=_,argTypes:=_},type:=_,pos:=_,after:=_,guard:=_}:Oper)::_) _ _;refine Z2t rfl (.tmp 80) (.tmp 81) 238 238 rfl 289 3 Tryz.underlying238 Z9d b 0 (n+1) cap ⟨G,0,none⟩ 1 1 (by simp[Act.eval,Act.put]) (by simp[Act.eval,Act.put]) _ 289 HR2.out (encI x) 1 HM1.out rfl (Y0c HG2.out) HFIT2.out (Y2i x) ?_;intro w3 hr3 hb3)
  rw[HROW.out]at hr3
  have HW:=hD (HFIN.out w3 hr3)
  have HO3:Hid (Only (fun j=>j=b) w w3):=Only.turn HO2.out hb3 (.inl rfl)
  clear hr3 hb3
  go_wp2_with fail
  go_ret
  exact⟨_,rfl,HW.out,rfl,HO3.out⟩
section
variable {P:Program}
theorem Z1z{ops:Array Oper}{rest:List Oper}{o:Oper}{a:Act}{w:World}{Q:Exit→Act→World→Prop}(hgd:o.guard=none)(d s:Operand)(t t':TypeId)
 (ho:o.op= .call { callee:= .builtin .append,args:=#[d,s],argTypes:=#[t,t']})(v u:Value)(hd:a.eval d=v)(hs:a.eval s=u){v':Value}{w':World}
 (hr:(Builtin.append_ #[t,t'] o.type #[v,u]).run P w= .ok v' w')(h:wpList P ops Q rest (a.put o.dst v') w'):wpList P ops Q (o::rest) a w:=
 wpList_plain hgd fun K hK=>by
  unfold Oper.wp execOp
  simp only[ho,resolve,invoke,builtin,Sem.run_bind,Sem.run_pure,Result.andThen_ok,List.map_toArray,List.map_cons,List.map_nil,hd,hs,hr]
  exact hK _ _ h
end
theorem X7y(w:World)(b cap n:Nat)(hn:n=cap)(h0:0<n)(hb:n≤1000000):∃(Gc:Nat) (w1:World) (zs:List Value),Hid (∀ty,(Builtin.append_ #[238,3] ty #[.slice (some ⟨b,0,none⟩) 0 cap,.int .i64 ((n:Int)+1)]).run Tryz.prog w= .ok (.slice (some ⟨w.heap.size,0,none⟩) (n+1) Gc) w1)∧
  Row1 w1 w.heap.size 289 zs∧zs.length=Gc*3∧n+1≤Gc∧Gc≤9223372036854775807∧Ext w w1:=by
 subst hn
 obtain⟨i0,z,hi,hz,hsize,hby,hzs⟩:=elItem.hi
 have hold:(Builtin.firstCells i0.size 0 (.slice (some ⟨b,0,none⟩) 0 n)).run Tryz.prog w.drew= .ok ([]:List Value).toArray w.drew:=run_firstCells_some (P:=Tryz.prog) w.drew i0.size 0 ⟨b,0,none⟩ 0 n [] (by simp) (by simp)
 have h:=fun ty=>Lib.run_append_grow_zeros (P:=Tryz.prog) w 238 3 ty 289 i0 z .i64 .i64 Tryz.underlying238 Tryz.underlying3 hi hz (some ⟨b,0,none⟩) 0 n [] hold (n+1) (by omega) (by rw[hsize];omega) (by omega) (by omega) (by rw[hby];omega) (growslice_fits (by omega) (by rw[hby];omega))
 have e:((n+1:Nat):Int)=(n:Int)+1:=by omega
 have hg:=grownCap_ge w (0+(n+1)) n 289
 have hm:=grownCap_le_maxLen w (0+(n+1)) n 289 (by unfold maxLen;omega)
 obtain⟨Gc,hG⟩:∃Gc,grownCap w (0+(n+1)) n 289=Gc:=⟨_,rfl⟩
 rw[hG]at h hg hm
 obtain⟨R,hR⟩:∃R:Array Value,([]:List Value).toArray++Builtin.zeroCells z.cells (n+1)++Builtin.zeroCells z.cells (Gc-(0+(n+1)))=R:=⟨_,rfl⟩
 have hRs:R.size=Gc*3:=by
  rw[←hR]
  simp[size_zeroCells,hzs]
  omega
 rw[hR]at h
 refine⟨Gc,_,R.toList,fun ty=> ?_,Row1.made w.drew 289 R.toList,by simpa using hRs,by omega,by simpa [maxLen]using hm,Below.alloc (Below.drew (Ext.refl w)) (Nat.le_refl _) _⟩
 have h2:=h ty
 rw[e,Nat.zero_add]at h2
 rw[h2]
theorem X1w{base:Nat}{b cap G:Nat}{l:List (Int×ByteArray)}{spare:List Value}(x:Int×ByteArray)(w:World)(hr:Row1 w b 289 (l.flatMap encI++spare))(hn:0<l.length)(hfull:l.length=cap)(hlim:l.length≤1000000)(hbw:base≤w.heap.size)
 (hG:Row1 w G 289 (encI x)):
  Calls Tryz.prog 295 #[.slice (some ⟨b,0,none⟩) l.length cap,.int .i64 0,.slice (some ⟨G,0,none⟩) 1 1] w fun e w'=>∃v',e= .returned v'∧OwnL w' base 289 3 encI v' (x::l)∧v'.ownBlock=some w.heap.size∧Ext w w':=by
 subst hfull
 obtain⟨Gc,w1,zs,hz,hzr,hzl,hg1,hg2,hx1⟩:=X7y w b l.length l.length rfl hn hlim
 have hfl:=Z1w l
 obtain⟨n,hnn⟩:∃n,l.length=n:=⟨_,rfl⟩
 have hzs:=hx1.size
 have HR1:Hid (Row1 w1 b 289 (l.flatMap encI++spare)):=hr.ext hx1 hr.lt
 have HG1:Hid (Row1 w1 G 289 (encI x)):=hG.ext hx1 hG.lt
 have hbl:=hr.lt
 have hGl:=hG.lt
 have HX1:=hD hx1
 have HN:=hD hnn
 have HFL:Hid ((l.flatMap encI).length=n*3):=by unfold Hid;rw[hfl,hnn]
 rw[hnn]at hn hlim hz hg1 ⊢
 obtain⟨N,hN⟩:∃N,w.heap.size=N:=⟨_,rfl⟩
 rw[hN]at hz hzr hbl hGl ⊢
 have HZR:=hD hzr
 have hbN:b≠N:=by omega
 have hGN:G≠N:=by omega
 have hw1:¬((0:Int)=(n:Int)):=by omega
 have hw2:(n:Int)<(n:Int)+1:=by omega
 have hw4:¬Gc=1:=by omega
 have hw5:((n:Int)+1).toNat=n+1:=by omega
 have hw6:(0:Int)≤(n:Int)+1:=by omega
 have hw7:(1:Int)≤(n:Int)+1:=by omega
 have hw8:¬n=0:=by omega
 have hw9:IntKind.i64.wrap 1=1:=by decide
 have hw10:(0:Int)≤n:=by omega
 have hw11:¬Gc=0:=by omega
 have HMI:Hid (n=Nat.min n n):=by unfold Hid;show n=min n n;omega
 have HM1:Hid (1=Nat.min 1 (n+1)):=by unfold Hid;show 1=min 1 (n+1);omega
 have HF1:Hid (0+(encI x).length≤zs.length):=by unfold Hid;rw[Z1u];omega
 have e0:zs.take 0++encI x++zs.drop (0+(encI x).length)=encI x++zs.drop 3:=by rw[Z1u];simp
 have HE0:=hD e0
 have HF2:Hid (3+(l.flatMap encI).length≤(encI x++zs.drop 3).length):=by
  unfold Hid
  rw[List.length_append,Z1u,List.length_drop,HFL.out]
  omega
 have HE1:Hid ((encI x++zs.drop 3).take 3++l.flatMap encI++(encI x++zs.drop 3).drop (3+(l.flatMap encI).length)=(x::l).flatMap encI++zs.drop (3+n*3)):=by
  unfold Hid
  rw[List.take_left' (Z1u x),←List.drop_drop,List.drop_left' (Z1u x),HFL.out,List.drop_drop,List.flatMap_cons]
 have HFIN:Hid (∀w',Row1 w' N 289 ((x::l).flatMap encI++zs.drop (3+n*3))→OwnL w' base 289 3 encI (.slice (some ⟨N,0,none⟩) (n+1) Gc) (x::l)):=fun w' h1=>by
  have h2:=OwnL.ofRow (k:=3) (base:=base) h1 (by omega) (cap:=Gc) (by rw[List.length_cons,HN.out];exact hg1) hg2 (by
   rw[List.length_append,Z1w,List.length_cons,List.length_drop]
   have:=HN.out
   omega) Z1u
  rwa [List.length_cons,HN.out]at h2
 clear hr hG hfl hnn hzr hx1 hzl e0
 go_enter Tryz.func295,Tryz.ntmps295
 go_upto_region 11 with (first
  | (at_builtin;go_loud (refine Z1z rfl (.tmp 34) (.tmp 39) 238 3 rfl (.slice (some ⟨b,0,none⟩) 0 n) (.int .i64 ((n:Int)+1)) (by simp[Act.eval,Act.put]) (by simp[Act.eval,Act.put]) (hz.out _) ?_))
  | (with_reducible show wpList _ _ _ (({ dst:=_,op:=Op.call { callee:=Callee.builtin Builtin.copy,args:=_,argTypes:=_},type:=_,pos:=_,after:=_,guard:=_}:Oper)::_) _ _;refine Z2t rfl (.tmp 43) (.tmp 44) 238 238 rfl 289 3 Tryz.underlying238 Z9d N 0 (n+1) Gc ⟨G,0,none⟩ 1 1 (by simp[Act.eval,Act.put]) (by simp[Act.eval,Act.put]) zs 289 HZR.out (encI x) 1 HM1.out rfl (Y0c HG1.out) HF1.out (Y2i x) ?_;intro w2 hr2 hb2))
 rw[HE0.out]at hr2
 have HR2:=hD hr2
 have HRb:Hid (Row1 w2 b 289 (l.flatMap encI++spare)):=HR1.out.same (hb2.block b HR1.out.lt (fun e=>hbN (by injection e)))
 have HX2:Hid (Ext w w2):=(But.trans (But.of HX1.out) hb2).fresh (by omega)
 have hsz2:=HX2.out.size
 have hb2w:=HRb.out.lt
 have hN2w:=HR2.out.lt
 have HRbX:Hid (∀W,Ext w2 W→Row1 W b 289 (l.flatMap encI++spare)):=fun W hW=>HRb.out.ext hW HRb.out.lt
 have HRNX:Hid (∀W,Ext w2 W→Row1 W N 289 (encI x++zs.drop 3)):=fun W hW=>HR2.out.ext hW HR2.out.lt
 clear hr2 hb2
 go_region_law (refine Z5d rfl (Z4v (.tmp 50) (.tmp 53) 238 238 rfl 289 3 Tryz.underlying238 Z9d N 3 n (Gc-1) ⟨b,0,none⟩ n n (by simp[Act.eval,Act.put]) (by simp[Act.eval,Act.put]) (encI x++zs.drop 3) 289 (HRNX.out _ (by exact Xt)) (l.flatMap encI) n HMI.out HFL.out (X9b (HRbX.out _ (by exact Xt))) HF2.out (Z9p _) ?_);intro w3 hr3 hb3)
 all_goals
  rw[HE1.out]at hr3
  have HW:=hD (HFIN.out w3 hr3)
  have HX3:Hid (Ext w w3):=(But.trans (But.of (Ext.trans HX2.out (by exact Xt))) hb3).fresh (by omega)
  clear hr3 hb3
  go_wp2_with fail
  go_ret
  exact⟨_,rfl,HW.out,rfl,HX3.out⟩
theorem Y3u{v:Value}{l:List (Int×ByteArray)}(x:Int×ByteArray)(G:Nat)(w:World)(h:OwnL w 0 289 3 encI v l)(hG:Row1 w G 289 (encI x))(hne:v.ownBlock≠some G)(hl:l.length≤100000):
  Calls Tryz.prog 295 #[v,.int .i64 0,.slice (some ⟨G,0,none⟩) 1 1] w fun e w'=>∃v',e= .returned v'∧OwnL w' 0 289 3 encI v' (x::l)∧(∀k,v'.ownBlock=some k→v.ownBlock=some k∨w.heap.size≤k)∧Only (fun j=>v.ownBlock=some j) w w':=by
 by_cases h0:l.length=0
 ·obtain rfl:l= []:=List.eq_nil_of_length_eq_zero h0
  exact X1x x G w h hG (Nat.zero_le _)
 ·obtain⟨b,cap,spare,rfl,hb0,hr,hc1,hc2,hs,hfl⟩:=h.row (by omega)
  by_cases hroom:l.length+1≤cap
  ·refine(X1v (base:=0) x w hr (Nat.zero_le _) (by omega) hroom hc2 hs hG (fun e=>hne (by rw[e];rfl))).mono ?_
   rintro e w' ⟨v',h1,h2,h3,h4⟩
   exact⟨v',h1,h2,fun k hk=> .inl (by rw[←hk,h3];rfl),h4.mono (fun i q=> .inl (by rw[q];rfl))⟩
  ·refine(X1w (base:=0) x w hr (by omega) (by omega) (by omega) (Nat.zero_le _) hG).mono ?_
   rintro e w' ⟨v',h1,h2,h3,h4⟩
   exact⟨v',h1,h2,fun k hk=> .inr (by rw[h3]at hk;injection hk with hk;omega),Only.of h4⟩
def CacheAt(w:World)(c:Nat)(F:Nat→Prop)(l:List (Int×ByteArray)):Prop:=∃lv,CacheAs w c l lv∧F c∧∀b,lv.ownBlock=some b→F b
theorem CacheAt.ext{w w':World}{c:Nat}{F:Nat→Prop}{l:List (Int×ByteArray)}(h:CacheAt w c F l)(hb:Ext w w'):CacheAt w' c F l:=let ⟨lv,h1,h2,h3⟩:=h;⟨lv,h1.ext hb,h2,h3⟩
theorem CacheAt.only{w w':World}{c:Nat}{F G:Nat→Prop}{l:List (Int×ByteArray)}(h:CacheAt w c F l)(hb:Only G w w')(hG:∀i,F i→¬G i):CacheAt w' c F l:=
 let ⟨lv,h1,h2,h3⟩:=h;⟨lv,⟨hb.row h1.row (hG c h2),h1.own.only hb (fun k hk=>hG k (h3 k hk)),h1.len⟩,h2,h3⟩
theorem X0r(w:World):Calls Tryz.prog 111 #[.int .i64 64] w fun e w'=>∃c F,e= .returned (.tuple #[.pointer (some ⟨c,0,none⟩),.int .i64 0])∧CacheAt w' c F []∧Ext w w'∧∀i,F i→w.heap.size≤i:=by
 go_enter Tryz.func111,Tryz.ntmps111
 go_wp2_with fail
 go_ret2
 exact⟨w.heap.size,fun i=>i=w.heap.size,rfl,⟨.slice none 0 0,⟨Row1.made w _ _,OwnL.nil _ _ _ _ _,by simp⟩,rfl,(fun b hb=>by cases hb)⟩,by exact Xt,fun i hi=>by rw[hi];exact Nat.le_refl _⟩
theorem V6x{c:Nat}{F:Nat→Prop}{l:List (Int×ByteArray)}(k:Int)(w:World)(h:CacheAt w c F l)(hk:idxI l k= -1):
  Calls Tryz.prog 256 #[.pointer (some ⟨c,0,none⟩),.int .i64 k] w fun e w'=>e= .returned (.tuple #[.string ⟨#[]⟩,.bool false])∧Ext w w':=by
 obtain⟨lv,h,_,_⟩:=h
 have cP:=Z5h k w h
 rw[hk]at cP
 clear hk h
 go_enter Tryz.func256,Tryz.ntmps256
 go_wp2_with (go_at_call 207;refine cP.mono ?_;clear cP;rintro e w1 ⟨rfl,hb1⟩)
 go_ret2
 exact⟨rfl,hb1⟩
theorem U0c{c:Nat}{F:Nat→Prop}{l:List (Int×ByteArray)}(k:Int)(i:Nat)(w:World)(h:CacheAt w c F l)(hk:idxI l k=i)(hi:i<l.length):
  Calls Tryz.prog 256 #[.pointer (some ⟨c,0,none⟩),.int .i64 k] w fun e w'=>e= .returned (.tuple #[.string l[i].2,.bool true])∧CacheAt w' c F (Z7d l i l[i])∧Only F w w':=by
 obtain⟨lv,h,hF1,hF2⟩:=h
 have cP:=Z5h k w h
 rw[hk]at cP
 have HH:=hD h
 obtain⟨x,hx⟩:∃x,l[i]=x:=⟨_,rfl⟩
 have HX:=hD hx
 have hfl:=Z5q hi x
 obtain⟨l',hl'⟩:∃l',Z7d l i x=l':=⟨_,rfl⟩
 have HL':Hid (l'[0]? =some x):=by unfold Hid;rw[←hl'];rfl
 rw[hl']at hfl
 have HFL:=hD hfl
 have HFR:Hid (∀W,Ext w W→Calls Tryz.prog 294 #[.pointer (some ⟨c,0,none⟩),.int .i64 i] W fun e w'=>e= .returned (.tuple #[])∧CacheAs w' c l' lv∧Only (fun j=>lv.ownBlock=some j) W w'):=fun W hW=>by
  have:=V2h i x W (HH.out.ext hW) hi hx
  rwa [hl']at this
 have q1:¬(i:Int)<0:=by omega
 rw[hx]
 show Calls _ _ _ _ fun e w'=>_∧CacheAt w' c F (Z7d l i x)∧_
 rw[hl']
 have hil:=hi
 clear hk h hx hl' hfl
 go_enter Tryz.func256,Tryz.ntmps256
 go_wp2_with (first | (go_at_call 207;refine cP.mono ?_;clear cP;rintro e w1 ⟨rfl,hb1⟩) | (go_at_call 294;refine(HFR.out _ hb1).mono ?_;rintro e w2 ⟨rfl,h2,hb2⟩;have k1:w2.cell? ⟨c,1,none⟩=some lv:=h2.row.cell 1;obtain⟨A,cc,hlv,_,_,hlx⟩:=Y3k h2.own;obtain⟨bb,rfl,_,hbb,_,hcc⟩:=hlx (by rw[HFL.out];omega);subst hlv;obtain⟨m0,m1,m2⟩:=hcc 0 (by rw[HFL.out];omega);obtain⟨_,hq⟩:=List.getElem?_eq_some_iff.1 HL'.out;rw[hq]at m0 m1;have hn0:(0:Int)<l'.length:=(by rw[HFL.out];omega);clear hcc hq hlx))
 go_ret2
 exact⟨rfl,⟨_,h2,hF1,hF2⟩,(Only.of hb1).trans hb2 (fun i q=> .inl (hF2 i q))⟩
theorem Z9t{w w1 w2:World}{c:Nat}{F:Nat→Prop}{l l':List (Int×ByteArray)}{lv v':Value}(h:CacheAs w c l lv)(hF1:F c)(hF2:∀b,lv.ownBlock=some b→F b)(hb1:Ext w w1)(hown:OwnL w2 0 289 3 encI v' l')(hw:∀k,v'.ownBlock=some k→lv.ownBlock=some k∨w1.heap.size≤k)(hb2:Only (fun j=>lv.ownBlock=some j) w1 w2)(hl:l'.length≤64):
  ∃F',CacheAt (w2.setCell ⟨c,1,none⟩ v') c F' l'∧Keeps F F' w (w2.setCell ⟨c,1,none⟩ v'):=by
 have h1:=h.ext hb1
 have hcl:lv.ownBlock≠some c:=h1.own.apartRow h1.row (by decide)
 have hR2:=hb2.row h1.row hcl
 have hvc:v'.ownBlock≠some c:=hown.apartRow hR2 (by decide)
 have ho:Only (fun i=>i=c) w2 (w2.setCell ⟨c,1,none⟩ v'):=Only.setCell (F:=fun i=>i=c) (p:=⟨c,1,none⟩) Only.refl (.inl rfl) v'
 refine⟨fun i=>F i∨v'.ownBlock=some i,⟨v',⟨hR2.set 1 v',hown.only ho (fun k hk q=>hvc (by rw[hk,q])),hl⟩,.inl hF1,fun b hb=> .inr hb⟩,⟨?_,fun i q=> ?_⟩⟩
 ·exact((Only.of hb1).trans hb2 (fun i q=> .inl (hF2 i q))).trans ho (fun i q=> .inl (by rw[q];exact hF1))
 ·rcases q with q | q
  ·exact .inl q
  ·rcases hw i q with q | q
   ·exact .inl (hF2 i q)
   ·exact .inr (Nat.le_trans hb1.size q)
theorem V2z{c:Nat}{F:Nat→Prop}{l:List (Int×ByteArray)}(k:Int)(w:World)(h:CacheAt w c F l)(hk:idxI l k= -1):
  Calls Tryz.prog 168 #[.pointer (some ⟨c,0,none⟩),.int .i64 k] w fun e w'=>e= .returned (.bool false)∧Ext w w':=by
 obtain⟨lv,h,_,_⟩:=h
 have cP:=Z5h k w h
 rw[hk]at cP
 clear hk h
 go_enter Tryz.func168,Tryz.ntmps168
 go_wp2_with (go_at_call 207;refine cP.mono ?_;clear cP;rintro e w1 ⟨rfl,hb1⟩)
 go_ret
 exact⟨rfl,hb1⟩
theorem V7g{c:Nat}{F:Nat→Prop}{l:List (Int×ByteArray)}(k:Int)(i:Nat)(w:World)(h:CacheAt w c F l)(hk:idxI l k=i)(hi:i<l.length):
  Calls Tryz.prog 168 #[.pointer (some ⟨c,0,none⟩),.int .i64 k] w fun e w'=>e= .returned (.bool true)∧∃F',CacheAt w' c F' (l.eraseIdx i)∧Keeps F F' w w':=by
 obtain⟨lv,h,hF1,hF2⟩:=h
 have cP:=Z5h k w h
 rw[hk]at cP
 have hl64:=h.len
 have HH:=hD h
 have q1:(0:Int)≤(i:Int):=by omega
 have HLE:Hid ((l.eraseIdx i).length≤64):=by unfold Hid;rw[List.length_eraseIdx];split<;>omega
 have HD:Hid (∀W,Ext w W→Calls Tryz.prog 208 #[lv,.int .i64 i,.int .i64 ((i:Int)+1)] W fun e w'=>∃v',e= .returned v'∧OwnL w' 0 289 3 encI v' (l.eraseIdx i)∧v'.ownBlock=lv.ownBlock∧Only (fun j=>lv.ownBlock=some j) W w'):=fun W hW=>Y4e i W (HH.out.ext hW).own hi (by omega)
 clear hk h
 go_enter Tryz.func168,Tryz.ntmps168
 go_wp2_with (first | (go_at_call 207;refine cP.mono ?_;clear cP;rintro e w1 ⟨rfl,hb1⟩;have k1:w1.cell? ⟨c,1,none⟩=some lv:=(HH.out.ext hb1).row.cell 1) | (go_at_call 208;refine(HD.out _ hb1).mono ?_;rintro e w2 ⟨v',rfl,h2,h3,hb2⟩;have hR2:=hb2.row (HH.out.ext hb1).row (HH.out.own.apartRow HH.out.row (by decide));have f2:w2.frozen? ⟨c,1,none⟩=false:=hR2.soft 1;have k2:w2.cell? ⟨c,1,none⟩=some lv:=hR2.cell 1;have HF:=hD (Z9t HH.out hF1 hF2 hb1 h2 (fun k hk=> .inl (h3▸hk)) hb2 HLE.out);obtain⟨A2,c2,rfl⟩:=h2.form;clear h2 h3 hb2 hR2 HD))
 go_ret
 obtain⟨F',r1,r2⟩:=HF.out
 exact⟨rfl,F',r1,r2⟩
theorem V4x{c:Nat}{F:Nat→Prop}{l:List (Int×ByteArray)}(k:Int)(s:ByteArray)(w:World)(h:CacheAt w c F l)(hk:idxI l k= -1)(hl:l.length<64):
  Calls Tryz.prog 257 #[.pointer (some ⟨c,0,none⟩),.int .i64 k,.string s] w fun e w'=>(∃g o,e= .returned (.tuple #[.int .i64 g,.bool o,.int .i64 0]))∧∃F',CacheAt w' c F' ((k,s)::l)∧Keeps F F' w w':=by
 obtain⟨lv,h,hF1,hF2⟩:=h
 have cP:=Z5h k w h
 rw[hk]at cP
 have HH:=hD h
 have k0:w.cell? ⟨c,0,none⟩=some (.int .i64 64):=h.row.cell 0
 have HLEN:Hid (l.length<64):=hl
 have hl64:decide ((64:Int)≤(l.length:Int))=false:=decide_eq_false (by omega)
 obtain⟨A,cc,rfl⟩:=h.own.form
 clear hk h
 go_enter Tryz.func257,Tryz.ntmps257
 go_upto_region 10 with (go_at_call 207;refine cP.mono ?_;clear cP;rintro e w1 ⟨rfl,hb1⟩)
 have k1:w1.cell? ⟨c,1,none⟩=_:=(HH.out.ext hb1).row.cell 1
 have k2:w1.cell? ⟨c,0,none⟩=_:=(HH.out.ext hb1).row.cell 0
 have H1:=hD (HH.out.ext hb1)
 have HB1:=hD hb1
 have hcw:=H1.out.row.lt
 clear hb1 k0
 go_quiet (fail)
 have HOWN:Hid (∀W,Ext w1 W→OwnL W 0 289 3 encI (.slice A l.length cc) l):=fun W hW=>H1.out.own.ext hW
 have HNE:Hid (∀G,w1.heap.size≤G→(Value.slice A l.length cc).ownBlock≠some G):=fun G hG e=>by have:=(H1.out.own.lt G e).2;omega
 have HRC:Hid (∀W,Ext w1 W→Row1 W c 240 [.int .i64 64,.slice A l.length cc]):=fun W hW=>H1.out.row.ext hW hcw
 have HCN:Hid ((Value.slice A l.length cc).ownBlock≠some c):=H1.out.own.apartRow H1.out.row (by decide)
 go_wp2_with (go_at_call 295;refine(Y3u (k,s) _ _ (HOWN.out _ (by exact Xt)) (Row1.made' (by simp) _ (encI (k,s))) (HNE.out _ (by simp)) (by have:=HLEN.out;omega)).mono ?_;rintro e w8 ⟨v8,rfl,h8,hw8,hb8⟩;have hR8:=hb8.row (HRC.out _ (by exact Xt)) HCN.out;have k8:=hR8.cell 1;have f8:=hR8.soft 1;have HF8:=hD (Z9t H1.out hF1 hF2 (by exact Xt) h8 hw8 hb8 (by rw[List.length_cons];have:=HLEN.out;omega));obtain⟨A8,c8,rfl⟩:=OwnL.form h8;clear h8 hw8 hb8 hR8)
 go_ret3
 obtain⟨F',r1,r2⟩:=HF8.out
 exact⟨⟨_,_,rfl⟩,F',r1,Keeps.trans (Keeps.of HB1.out) r2⟩
theorem V5a{c:Nat}{F:Nat→Prop}{l:List (Int×ByteArray)}(k:Int)(s:ByteArray)(w:World)(h:CacheAt w c F l)(hk:idxI l k= -1)(hl:l.length=64):
  Calls Tryz.prog 257 #[.pointer (some ⟨c,0,none⟩),.int .i64 k,.string s] w fun e w'=>(∃g o,e= .returned (.tuple #[.int .i64 g,.bool o,.int .i64 0]))∧∃F',CacheAt w' c F' ((k,s)::l.eraseIdx 63)∧Keeps F F' w w':=by
 obtain⟨lv,h,hF1,hF2⟩:=h
 have cP:=Z5h k w h
 rw[hk]at cP
 have HH:=hD h
 have k0:w.cell? ⟨c,0,none⟩=some (.int .i64 64):=h.row.cell 0
 obtain⟨A,cc,rfl,hc1,hc2,hx⟩:=Y3k h.own
 obtain⟨b,rfl,_,hbw,_,hcc⟩:=hx (by omega)
 obtain⟨m0,m1,m2⟩:=hcc 63 (by omega)
 obtain⟨g0,hg0⟩:∃g0,(l[63]'(by omega)).1=g0:=⟨_,rfl⟩
 rw[hg0]at m0
 have HL0:Hid (l.length=64):=hl
 clear hg0 hcc hx m1
 rw[hl]at HH hF2 hc1
 clear hk h hl
 obtain⟨l3,hl3⟩:∃l3,l.eraseIdx 63=l3:=⟨_,rfl⟩
 have HL3:=hD hl3
 have HLE:Hid (l3.length=63):=by unfold Hid;rw[←hl3,List.length_eraseIdx,if_pos (by rw[HL0.out];omega),HL0.out]
 rw[hl3]
 clear hl3
 go_enter Tryz.func257,Tryz.ntmps257
 go_upto_region 10 with (go_at_call 207;refine cP.mono ?_;clear cP;rintro e w1 ⟨rfl,hb1⟩)
 have k1:w1.cell? ⟨c,1,none⟩=_:=(HH.out.ext hb1).row.cell 1
 have k2:w1.cell? ⟨c,0,none⟩=_:=(HH.out.ext hb1).row.cell 0
 have n0:w1.cell? ⟨b,63*3,none⟩=_:=(hb1.cell (p:=⟨b,63*3,none⟩) hbw).trans m0
 have n2:w1.cell? ⟨b,63*3+2,none⟩=_:=(hb1.cell (p:=⟨b,63*3+2,none⟩) hbw).trans m2
 have HHH:=hD (HH.out.ext hb1)
 have HB1:=hD hb1
 have hcw:=HHH.out.row.lt
 clear hb1 k0 m0 m2
 go_quiet (fail)
 go_wp2_with fail
 obtain⟨wq,hwq⟩:∃wq,w1.drewN nq=wq:=⟨_,rfl⟩
 have HQ:Hid (Ext w1 wq):=by unfold Hid;rw[←hwq];exact Xt
 have k1:wq.cell? ⟨c,1,none⟩=_:=(HQ.out.cell (p:=⟨c,1,none⟩) hcw).trans k1
 have hbw1:b<w1.heap.size:=Nat.lt_of_lt_of_le hbw HB1.out.size
 have n0:wq.cell? ⟨b,63*3,none⟩=_:=(HQ.out.cell (p:=⟨b,63*3,none⟩) hbw1).trans n0
 have n2:wq.cell? ⟨b,63*3+2,none⟩=_:=(HQ.out.cell (p:=⟨b,63*3+2,none⟩) hbw1).trans n2
 have H1:Hid (CacheAs wq c l (.slice (some ⟨b,0,none⟩) 64 cc)):=HHH.out.ext HQ.out
 have HBQ:Hid (Ext w wq):=Ext.trans HB1.out HQ.out
 rw[hwq]
 clear hwq k2
 go_loopw [12] (fun i wr=>i= .int .i64 63∧wq=wr) (fun _ _=>0)
 case atStart=>exact⟨rfl,rfl⟩
 case round=>
  obtain⟨rfl,rfl⟩:=hrel
  have HD:Hid (∀W,Ext wq W→Calls Tryz.prog 208 #[.slice (some ⟨b,0,none⟩) 64 cc,.int .i64 63,.int .i64 64] W fun e w'=>∃v',e= .returned v'∧OwnL w' 0 289 3 encI v' l3∧v'.ownBlock=some b∧Only (fun j=>some b=some j) W w'):=fun W hW=>HL3.out▸Y4e 63 W (H1.out.ext hW).own (by rw[HL0.out];omega) (by rw[HL0.out];omega)
  go_wp2_with fail
  refine(HD.out _ (Ext.refl _)).mono ?_
  rintro e w2 ⟨v',rfl,h2,h3,hb2⟩
  have hR2:=hb2.row H1.out.row (fun e=>H1.out.own.apartRow H1.out.row (by decide) e)
  have f2:w2.frozen? ⟨c,1,none⟩=false:=hR2.soft 1
  have k2:w2.cell? ⟨c,1,none⟩=_:=hR2.cell 1
  have HF:=hD (Z9t H1.out hF1 hF2 (Ext.refl _) h2 (fun k hk=> .inl (by rw[←hk,h3];rfl)) hb2 (by rw[HLE.out];omega))
  obtain⟨A2,c2,rfl⟩:=OwnL.form h2
  have HO2:Hid (CacheAs (w2.setCell ⟨c,1,none⟩ (.slice A2 l3.length c2)) c l3 (.slice A2 l3.length c2)):=by
   have hvc:(Value.slice A2 l3.length c2).ownBlock≠some c:=OwnL.apartRow h2 hR2 (by decide)
   exact⟨hR2.set 1 _,OwnL.only h2 (Only.setCell (F:=fun i=>i=c) (p:=⟨c,1,none⟩) Only.refl (.inl rfl) _) (fun k hk q=>hvc (by rw[hk,q])),by rw[HLE.out];omega⟩
  have hcw2:=hR2.lt
  clear h2 h3 hb2 HD hR2
  go_upto_region 18 with fail
  obtain⟨w3,hw3⟩:∃w3,w2.setCell ⟨c,1,none⟩ (.slice A2 l3.length c2)=w3:=⟨_,rfl⟩
  rw[hw3]at HO2 HF ⊢
  have k3:w3.cell? ⟨c,1,none⟩=_:=HO2.out.row.cell 1
  have hcw3:=HO2.out.row.lt
  have HLEN:Hid (l3.length<64):=by unfold Hid;rw[HLE.out];omega
  have HOWN:Hid (∀W,Ext w3 W→OwnL W 0 289 3 encI (.slice A2 l3.length c2) l3):=fun W hW=>HO2.out.own.ext hW
  have HNE:Hid (∀G,w3.heap.size≤G→(Value.slice A2 l3.length c2).ownBlock≠some G):=fun G hG e=>by have:=(HO2.out.own.lt G e).2;omega
  have HRC:Hid (∀W,Ext w3 W→Row1 W c 240 [.int .i64 64,.slice A2 l3.length c2]):=fun W hW=>HO2.out.row.ext hW hcw3
  have HCN:Hid ((Value.slice A2 l3.length c2).ownBlock≠some c):=HO2.out.own.apartRow HO2.out.row (by decide)
  obtain⟨F3,r3,r4⟩:=HF.out
  obtain⟨lv3,s1,s2,s3⟩:=r3
  have hlv3:lv3= .slice A2 l3.length c2:=by
   have e:=s1.row.symm.trans (show w3.heap[c]? =_ from HO2.out.row)
   simpa using e
  subst hlv3
  have hF1:=s2
  have hF2:=s3
  have HK:=hD r4
  have H1:=HO2
  clear hw3 r4 s1 s2 s3 k2 f2
  go_wp2_with (go_at_call 295;refine(Y3u (k,s) _ _ (HOWN.out _ (by exact Xt)) (Row1.made' (by simp) _ (encI (k,s))) (HNE.out _ (by simp)) (by have:=HLEN.out;omega)).mono ?_;rintro e w8 ⟨v8,rfl,h8,hw8,hb8⟩;have hR8:=hb8.row (HRC.out _ (by exact Xt)) HCN.out;have k8:=hR8.cell 1;have f8:=hR8.soft 1;have HF8:=hD (Z9t H1.out hF1 hF2 (by exact Xt) h8 hw8 hb8 (by rw[List.length_cons];have:=HLEN.out;omega));obtain⟨A8,c8,rfl⟩:=OwnL.form h8;clear h8 hw8 hb8 hR8)
  go_ret3
  obtain⟨F',r1,r2⟩:=HF8.out
  exact⟨⟨_,_,rfl⟩,F',r1,Keeps.trans (Keeps.trans (Keeps.of HBQ.out) HK.out) r2⟩
theorem Y6f{α:Type}{l:List α}{i:Nat}(hi:i<l.length):(l[i]::l.eraseIdx i).Perm l:=by
 rw[List.eraseIdx_eq_take_drop_succ]
 have h:l=l.take i++l[i]::l.drop (i+1):=by rw[List.getElem_cons_drop,List.take_append_drop]
 conv=>rhs;rw[h]
 exact List.perm_middle.symm
theorem Y5v(l:List (Int×ByteArray))(k:Int):(idxI l k= -1∧∀x∈l,x.1≠k)∨∃(i:Nat) (h:i<l.length),idxI l k=i∧l[i].1=k:=by
 unfold idxI
 cases h:l.findIdx? (fun x=>x.1==k)with
 | none=>
   left
   refine⟨rfl,fun x hx e=> ?_⟩
   rw[List.findIdx?_eq_none_iff]at h
   have:=h x hx
   simp[e]at this
 | some i=>
   right
   obtain⟨hi,h1,_⟩:=List.findIdx?_eq_some_iff_getElem.1 h
   exact⟨i,hi,rfl,by simpa using h1⟩
def CGood(S:StoreD)(l:List (Int×ByteArray)):Prop:=(l.map (·.1)).Nodup∧∀x∈l,0≤x.1∧x.1<S.head.pages∧x.2=Z1a S x.1.toNat
theorem CGood.nil(S:StoreD):CGood S []:=⟨by simp,fun x hx=>by cases hx⟩
theorem CGood.perm{S:StoreD}{l l':List (Int×ByteArray)}(h:CGood S l)(hp:l'.Perm l):CGood S l':=⟨(hp.map _).nodup_iff.2 h.1,fun x hx=>h.2 x (hp.mem_iff.1 hx)⟩
theorem CGood.front{S:StoreD}{l:List (Int×ByteArray)}(h:CGood S l){i:Nat}(hi:i<l.length):CGood S (Z7d l i l[i]):=h.perm (Y6f hi)
theorem CGood.erase{S:StoreD}{l:List (Int×ByteArray)}(h:CGood S l)(i:Nat):CGood S (l.eraseIdx i):=
 ⟨h.1.sublist ((List.eraseIdx_sublist l i).map _),fun x hx=>h.2 x ((List.eraseIdx_sublist l i).subset hx)⟩
theorem CGood.cons{S:StoreD}{l:List (Int×ByteArray)}(h:CGood S l){k:Nat}(hk:∀x∈l,x.1≠k)(hp:k<S.head.pages):CGood S (((k:Int),Z1a S k)::l):=by
 refine⟨?_,fun x hx=> ?_⟩
 ·rw[List.map_cons,List.nodup_cons]
  refine⟨fun hm=> ?_,h.1⟩
  obtain⟨x,hx,e⟩:=List.mem_map.1 hm
  exact hk x hx e
 ·rcases List.mem_cons.1 hx with rfl | hx
  ·exact⟨by simp,by simpa using hp,by simp⟩
  ·exact h.2 x hx
theorem CGood.put{S:StoreD}{l:List (Int×ByteArray)}(h:CGood S l){n:Nat}{s:ByteArray}(hk:∀x∈l,x.1≠n):CGood (putP S n s) l:=
 ⟨h.1,fun x hx=>by
   obtain⟨h1,h2,h3⟩:=h.2 x hx
   refine⟨h1,h2,?_⟩
   rw[Z2b,if_neg (by have:=hk x hx;omega)]
   exact h3⟩
theorem CGood.erased{S:StoreD}{l:List (Int×ByteArray)}(h:CGood S l){i:Nat}(hi:i<l.length){k:Int}(hk:l[i].1=k):∀x∈l.eraseIdx i,x.1≠k:=by
 have hp:(l[i]::l.eraseIdx i).Perm l:=Y6f hi
 have hn:=(hp.map (·.1)).nodup_iff.2 h.1
 rw[List.map_cons,List.nodup_cons]at hn
 intro x hx e
 exact hn.1 (List.mem_map.2 ⟨x,hx,by rw[e,hk]⟩)
structure PagerAs (w:World) (p:Nat) (F:Nat→Prop) (S:StoreD) (s c:Nat) (Fs Fc:Nat→Prop) (l:List (Int×ByteArray)):Prop where
 row:Row1 w p 184 [.pointer (some ⟨s,0,none⟩),.pointer (some ⟨c,0,none⟩)]
 store:StoreAt w s Fs S
 cache:CacheAt w c Fc l
 good:CGood S l
 live:Live S
 pages:2<S.head.pages
 sep:∀i,Fs i→¬Fc i
 ps:¬Fs p
 pc:¬Fc p
 fp:F p
 fs:∀i,Fs i→F i
 fc:∀i,Fc i→F i
 ls:∀i,Fs i→i<w.heap.size
 lc:∀i,Fc i→i<w.heap.size
def PagerAt(w:World)(p:Nat)(F:Nat→Prop)(S:StoreD):Prop:=∃s c Fs Fc l,PagerAs w p F S s c Fs Fc l
section
variable {w w':World} {p:Nat} {F F' G:Nat→Prop} {S S':StoreD} {s c:Nat} {Fs Fc Fs' Fc':Nat→Prop} {l l':List (Int×ByteArray)}
theorem PagerAs.only(h:PagerAs w p F S s c Fs Fc l)(hb:Only G w w')(hG:∀i,F i→¬G i):PagerAs w' p F S s c Fs Fc l:=
 ⟨hb.row h.row (hG p h.fp),h.store.only hb (fun i q=>hG i (h.fs i q)),h.cache.only hb (fun i q=>hG i (h.fc i q)),h.good,h.live,h.pages,h.sep,h.ps,h.pc,h.fp,h.fs,h.fc,fun i q=>Nat.lt_of_lt_of_le (h.ls i q) hb.size,fun i q=>Nat.lt_of_lt_of_le (h.lc i q) hb.size⟩
theorem PagerAs.ext(h:PagerAs w p F S s c Fs Fc l)(hb:Ext w w'):PagerAs w' p F S s c Fs Fc l:=h.only (G:=fun _=>False) (Only.of hb) (fun _ _ q=>q)
theorem PagerAs.mono(h:PagerAs w p F S s c Fs Fc l)(hF:∀i,F i→F' i):PagerAs w p F' S s c Fs Fc l:= { h with fp:=hF _ h.fp,fs:=fun i q=>hF i (h.fs i q),fc:=fun i q=>hF i (h.fc i q)}
theorem PagerAt.only(h:PagerAt w p F S)(hb:Only G w w')(hG:∀i,F i→¬G i):PagerAt w' p F S:=let ⟨_,_,_,_,_,h⟩:=h;⟨_,_,_,_,_,h.only hb hG⟩
theorem PagerAt.ext(h:PagerAt w p F S)(hb:Ext w w'):PagerAt w' p F S:=let ⟨_,_,_,_,_,h⟩:=h;⟨_,_,_,_,_,h.ext hb⟩
theorem PagerAt.mono(h:PagerAt w p F S)(hF:∀i,F i→F' i):PagerAt w p F' S:=let ⟨_,_,_,_,_,h⟩:=h;⟨_,_,_,_,_,h.mono hF⟩
theorem PagerAt.shrink(h:PagerAt w p F S):PagerAt w p (fun i=>F i∧i<w.heap.size) S:=
 let ⟨_,_,_,_,_,h⟩:=h;⟨_,_,_,_,_,{ h with fp:=⟨h.fp,h.row.lt⟩,fs:=fun i q=>⟨h.fs i q,h.ls i q⟩,fc:=fun i q=>⟨h.fc i q,h.lc i q⟩}⟩
theorem PagerAt.pages(h:PagerAt w p F S):2<S.head.pages:=let ⟨_,_,_,_,_,h⟩:=h;h.pages
theorem PagerAt.most(h:PagerAt w p F S):S.head.pages≤1024:=let ⟨_,_,_,_,_,h⟩:=h;h.store.wf.fits.most
theorem PagerAt.size(h:PagerAt w p F S)(n:Nat):(Z1a S n).size=256:=let ⟨_,_,_,_,_,h⟩:=h;X5l h.store n
theorem PagerAs.stored(h:PagerAs w p F S s c Fs Fc l)(hs:StoreAt w' s Fs S')(hb:Only Fs w w')(hg:CGood S' l)(hl:Live S')(hp:2<S'.head.pages):PagerAs w' p F S' s c Fs Fc l:=
 ⟨hb.row h.row h.ps,hs,h.cache.only hb (fun i q q'=>h.sep i q' q),hg,hl,hp,h.sep,h.ps,h.pc,h.fp,h.fs,h.fc,fun i q=>Nat.lt_of_lt_of_le (h.ls i q) hb.size,fun i q=>Nat.lt_of_lt_of_le (h.lc i q) hb.size⟩
theorem PagerAs.cached(h:PagerAs w p F S s c Fs Fc l)(hc:CacheAt w' c Fc' l')(hb:Keeps Fc Fc' w w')(hg:CGood S l'):
  ∃Fd,PagerAs w' p (fun i=>F i∨Fd i) S s c Fs Fd l'∧(∀i,Fd i→F i∨w.heap.size≤i)∧Keeps F (fun i=>F i∨Fd i) w w':=by
 obtain⟨lv,q1,q2,q3⟩:=hc
 have hn:∀i,Fc' i→Fc i∨w.heap.size≤i:=hb.new
 refine⟨fun i=>Fc' i∧i<w'.heap.size,⟨hb.only.row h.row h.pc,h.store.only hb.only h.sep,⟨lv,q1,⟨q2,q1.row.lt⟩,fun b e=>⟨q3 b e,(q1.own.lt b e).2⟩⟩,hg,h.live,h.pages,fun i q q'=> ?_,h.ps,fun q=> ?_,.inl h.fp,fun i q=> .inl (h.fs i q),fun i q=> .inr q,fun i q=>Nat.lt_of_lt_of_le (h.ls i q) hb.only.size,fun i q=>q.2⟩,fun i q=> ?_,⟨hb.only.mono (fun i q=> .inl (h.fc i q)),fun i q=> ?_⟩⟩
 ·rcases hn i q'.1 with r | r
  ·exact h.sep i q r
  ·have:=h.ls i q;omega
 ·rcases hn p q.1 with r | r
  ·exact h.pc r
  ·have:=h.row.lt;omega
 ·rcases hn i q.1 with r | r
  ·exact .inl (h.fc i r)
  ·exact .inr r
 ·rcases q with q | q
  ·exact .inl q
  ·rcases hn i q.1 with r | r
   ·exact .inl (h.fc i r)
   ·exact .inr r
end
theorem PagerAs.at{w:World}{p:Nat}{F:Nat→Prop}{S:StoreD}{s c:Nat}{Fs Fc:Nat→Prop}{l:List (Int×ByteArray)}(h:PagerAs w p F S s c Fs Fc l):PagerAt w p F S:=⟨s,c,Fs,Fc,l,h⟩
theorem X0q{c:Nat}{F:Nat→Prop}{S:StoreD}{l:List (Int×ByteArray)}(n:Nat)(w:World)(h:CacheAt w c F l)(hg:CGood S l)(hk:idxI l n= -1)(hn:∀x∈l,x.1≠n)(hp:n<S.head.pages):
  Calls Tryz.prog 257 #[.pointer (some ⟨c,0,none⟩),.int .i64 n,.string (Z1a S n)] w fun e w'=>(∃g o,e= .returned (.tuple #[.int .i64 g,.bool o,.int .i64 0]))∧∃F' l',CacheAt w' c F' l'∧CGood S l'∧Keeps F F' w w':=by
 have hl:l.length≤64:=by obtain⟨lv,h1,_⟩:=h;exact h1.len
 by_cases h64:l.length<64
 ·refine(V4x n (Z1a S n) w h hk h64).mono ?_
  rintro e w' ⟨h1,F',h2,h3⟩
  exact⟨h1,F',_,h2,hg.cons hn hp,h3⟩
 ·refine(V5a n (Z1a S n) w h hk (by omega)).mono ?_
  rintro e w' ⟨h1,F',h2,h3⟩
  exact⟨h1,F',_,h2,(hg.erase 63).cons (fun x hx=>hn x ((List.eraseIdx_sublist l 63).subset hx)) hp,h3⟩
theorem Z9f{p:Nat}{F:Nat→Prop}{S:StoreD}(n:Nat)(w:World)(h:PagerAt w p F S)(hn:n<S.head.pages):
  Calls Tryz.prog 209 #[.pointer (some ⟨p,0,none⟩),.int .i64 n] w fun e w'=>e= .returned (.tuple #[.string (Z1a S n),.int .i64 0])∧∃F',PagerAt w' p F' S∧Keeps F F' w w':=by
 obtain⟨s,c,Fs,Fc,l,h⟩:=h
 have c0:w.cell? ⟨p,0,none⟩=some (.pointer (some ⟨s,0,none⟩)):=h.row.cell 0
 have c1:w.cell? ⟨p,1,none⟩=some (.pointer (some ⟨c,0,none⟩)):=h.row.cell 1
 have HH:=hD h
 rcases Y5v l n with ⟨hi,hno⟩ | ⟨i,hil,hi,hk⟩
 ·have cG:=V6x n w h.cache hi
  have cR:Hid (∀W,Ext w W→Calls Tryz.prog 110 #[.pointer (some ⟨s,0,none⟩),.int .i64 n] W fun e w'=>e= .returned (.tuple #[.string (Z1a S n),.int .i64 0])∧Ext W w'):=fun W hW=>Z9a n W (h.store.ext hW) h.live hn
  have cP:Hid (∀W,Ext w W→Calls Tryz.prog 257 #[.pointer (some ⟨c,0,none⟩),.int .i64 n,.string (Z1a S n)] W fun e w'=>(∃g o,e= .returned (.tuple #[.int .i64 g,.bool o,.int .i64 0]))∧∃F' l',CacheAt w' c F' l'∧CGood S l'∧Keeps Fc F' W w'):=fun W hW=>X0q n W (h.cache.ext hW) h.good hi hno hn
  have HK:Hid (∀W,Ext w W→W.cell? ⟨p,0,none⟩=some (.pointer (some ⟨s,0,none⟩))∧W.cell? ⟨p,1,none⟩=some (.pointer (some ⟨c,0,none⟩))):=fun W hW=>⟨(h.ext hW).row.cell 0,(h.ext hW).row.cell 1⟩
  generalize Z1a S n=vw at cR cP ⊢
  clear h hno hi
  go_enter Tryz.func209,Tryz.ntmps209
  go_wp2_with (first
   | (go_at_call 256;refine cG.mono ?_;clear cG;rintro e w1 ⟨rfl,hb1⟩;have HB1:=hD hb1;obtain⟨d0,d1⟩:=HK.out w1 hb1;clear hb1)
   | (go_at_call 110;refine(cR.out _ HB1.out).mono ?_;rintro e w2 ⟨rfl,hb2⟩;have HB2:=hD (Ext.trans HB1.out hb2);obtain⟨e0,e1⟩:=HK.out w2 HB2.out;clear hb2)
   | (go_at_call 257;refine(cP.out _ HB2.out).mono ?_;rintro e w3 ⟨⟨gg,oo,rfl⟩,F3,l3,hc3,hg3,hk3⟩;have HC3:=hD hc3;have HG3:=hD hg3;have HK3:=hD hk3;clear hc3 hg3 hk3))
  go_ret2
  obtain⟨Fd,q1,q2,q3⟩:=(HH.out.ext HB2.out).cached HC3.out HK3.out HG3.out
  exact⟨rfl,_,q1.at,Keeps.trans (Keeps.of HB2.out) q3⟩
 ·have cG:=U0c n i w h.cache hi hil
  have hv:l[i].2=Z1a S n:=by
   have:=(h.good.2 l[i] (List.getElem_mem hil)).2.2
   rw[hk]at this
   simpa using this
  rw[hv]at cG
  generalize Z1a S n=vw at cG ⊢
  clear h hv hi hk
  go_enter Tryz.func209,Tryz.ntmps209
  go_wp2_with (go_at_call 256;refine cG.mono ?_;clear cG;rintro e w1 ⟨rfl,hc1,hb1⟩;have HC1:=hD hc1;have HB1:=hD hb1;clear hc1 hb1)
  go_ret2
  obtain⟨Fd,q1,q2,q3⟩:=HH.out.cached HC1.out ⟨HB1.out,fun _ q=> .inl q⟩ (HH.out.good.front hil)
  exact⟨rfl,_,q1.at,q3⟩
theorem Z3l{p:Nat}{F:Nat→Prop}{S:StoreD}(n:Nat)(d:ByteArray)(w:World)(h:PagerAt w p F S)(hn:n<S.head.pages)(hd:d.size≤256):
  Calls Tryz.prog 116 #[.pointer (some ⟨p,0,none⟩),.int .i64 n,.string d] w fun e w'=>e= .returned (.int .i64 0)∧∃F',PagerAt w' p F' (putP S n d)∧Keeps F F' w w':=by
 obtain⟨s,c,Fs,Fc,l,h⟩:=h
 have c0:w.cell? ⟨p,0,none⟩=some (.pointer (some ⟨s,0,none⟩)):=h.row.cell 0
 have c1:w.cell? ⟨p,1,none⟩=some (.pointer (some ⟨c,0,none⟩)):=h.row.cell 1
 have HH:=hD h
 have cW:Hid (∀W,StoreAt W s Fs S→Calls Tryz.prog 169 #[.pointer (some ⟨s,0,none⟩),.int .i64 n,.string d] W fun e w'=>e= .returned (.int .i64 0)∧StoreAt w' s Fs (putP S n d)∧Only Fs W w'):=fun W hW=>Y4t n d W hW h.live hn hd
 rcases Y5v l n with ⟨hi,hno⟩ | ⟨i,hil,hi,hk⟩
 ·have cD:=V2z n w h.cache hi
  have HNO:=hD hno
  clear h hno hi
  go_enter Tryz.func116,Tryz.ntmps116
  go_wp2_with (first
   | (go_at_call 168;refine cD.mono ?_;clear cD;rintro e w1 ⟨rfl,hb1⟩;have HB1:=hD hb1;have H1:=hD (HH.out.ext hb1);have d0:w1.cell? ⟨p,0,none⟩=some (.pointer (some ⟨s,0,none⟩)):=H1.out.row.cell 0;clear hb1)
   | (go_at_call 169;refine(cW.out _ H1.out.store).mono ?_;rintro e w2 ⟨rfl,hs2,hb2⟩;have HS2:=hD hs2;have HB2:=hD hb2;clear hs2 hb2))
  go_ret
  exact⟨rfl,F,(H1.out.stored HS2.out HB2.out (H1.out.good.put HNO.out) (X4b H1.out.live n d) H1.out.pages).at,⟨(Only.of HB1.out).trans HB2.out (fun i q=> .inl (H1.out.fs i q)),fun i q=> .inl q⟩⟩
 ·have cD:=V7g n i w h.cache hi hil
  have HE:=hD (h.good.erased hil hk)
  have HGE:=hD (h.good.erase i)
  clear h hi hk
  go_enter Tryz.func116,Tryz.ntmps116
  go_wp2_with (first
   | (go_at_call 168;refine cD.mono ?_;clear cD;rintro e w1 ⟨rfl,F1,hc1,hb1⟩;obtain⟨Fd,q1,q2,q3⟩:=HH.out.cached hc1 hb1 HGE.out;have HB1:=hD q3;have H1:=hD q1;have d0:w1.cell? ⟨p,0,none⟩=some (.pointer (some ⟨s,0,none⟩)):=H1.out.row.cell 0;clear hb1 hc1 q1 q2 q3)
   | (go_at_call 169;refine(cW.out _ H1.out.store).mono ?_;rintro e w2 ⟨rfl,hs2,hb2⟩;have HS2:=hD hs2;have HB2:=hD hb2;clear hs2 hb2))
  go_ret
  exact⟨rfl,_,(H1.out.stored HS2.out HB2.out (H1.out.good.put HE.out) (X4b H1.out.live n d) H1.out.pages).at,Keeps.trans HB1.out ⟨HB2.out.mono (fun i q=> .inl (H1.out.fs i q)),fun i q=> .inl q⟩⟩
end Go.Proofs.YtmiolpfanlpfnaaGreat
