/- slices.Delete of one item. Conditions: that there is such an item. -/
import Derived.Test.YtohaldfnmgcofaaGreatT08
set_option maxRecDepth 100000
set_option maxHeartbeats 4000000
set_option linter.unusedSimpArgs false
set_option linter.unusedVariables false
namespace Go.Proofs.YtohaldfnmgcofaaGreat
open Go.RowKit
def zeroI:List Value:= [.int .i64 0,.string ⟨#[]⟩,.int .i64 0]
theorem U1l(l:List (Int×ByteArray))(m i:Nat)(hl:l.length=m+1)(hi:i<m+1)(spare:List Value)(c1:List Value)(hc1:c1=(l.flatMap encI++spare).take (i*3)++(l.drop (i+1)).flatMap encI++(l.flatMap encI++spare).drop (i*3+((l.drop (i+1)).flatMap encI).length)):
  c1.take (m*3)++zeroI++c1.drop (m*3+3)=(l.eraseIdx i).flatMap encI++(zeroI++spare):=by
 have e1:=Y6u l i (by omega) spare;have e2:((l.drop (i+1)).flatMap encI).length=(m-i)*3:=by rw[Z1x,aJ,hl];omega
 have e3:i*3+(m-i)*3=m*3:=by omega
 have e4:(l.take i).flatMap encI++(l.drop (i+1)).flatMap encI=(l.eraseIdx i).flatMap encI:=by rw[List.eraseIdx_eq_take_drop_succ,aH]
 have e5:((l.eraseIdx i).flatMap encI).length=m*3:=by rw[Z1x,List.length_eraseIdx,if_pos (by omega),hl];omega
 have e6:=Y1w l (m+1) (by omega) spare;rw[e1,e2,e3,e4]at hc1;have e7:(l.drop (m+1)).flatMap encI= []:=by rw[List.drop_eq_nil_of_le (by omega)];rfl
 have e8:c1.drop (m*3+3)=spare:=by rw[<-List.drop_drop,hc1,List.drop_left' e5,List.drop_drop,show m*3+3=(m+1)*3 by omega,e6,e7];rfl
 rw[e8,hc1,List.take_left' e5,aG]
theorem Tryz.zeroItem:∀w,(zeroValue 293).run Tryz.prog w= .ok (.agg #[.int .i64 0,.string ⟨#[]⟩,.int .i64 0]) w:=fun w=>by kernel_rfl
theorem Y4x{base:Nat}{v:Value}{l:List (Int×ByteArray)}(i:Nat)(w:World)(h:OwnL w base 293 3 encI v l)(hi:i<l.length)(hl:l.length<=1000000000):
  cQ 203 #[v,.int .i64 i,.int .i64 ((i:Int)+1)] w fun e w'=>∃v',e= .returned v'/\OwnL w' base 293 3 encI v' (l.eraseIdx i)/\v'.ownBlock=v.ownBlock/\Only (fun j=>v.ownBlock=some j) w w':=by
 obtain⟨b,cap,spare,rfl,hbb,hr,hc1,hc2,hs,hfl⟩:=h.row (by omega);obtain⟨m,hm⟩:∃m,l.length=m+1:=⟨l.length-1,by omega⟩;have hbw:=hr.lt;have hdl:((l.drop (i+1)).flatMap encI).length=(m-i)*3:=by rw[Z1x,aJ,hm];omega
 have hfd:=Y1w l (i+1) (by omega) spare;obtain⟨AD,hAD,hsrc⟩:∃AD:Addr,(if cap=i+1 then some (⟨b,0,none⟩:Addr)else some ⟨b,(i+1)*3,none⟩)=some AD/\Hid (∀(W:World),W.heap[b]? =w.heap[b]? ->∀j v,((l.drop (i+1)).flatMap encI)[j]? =some v->W.cell? (AD.add j)=some v):=by
  by_cases hcap:cap=i+1
  ·refine⟨_,if_pos hcap,fun W hW j v hj=> ?_⟩;have h0:((l.drop (i+1)).flatMap encI).length=0:=by rw[hdl];omega
   rw[List.eq_nil_of_length_eq_zero h0]at hj;cases hj
  ·refine⟨_,if_neg hcap,fun W hW j v hj=> ?_⟩;have h1:(l.flatMap encI++spare)[(i+1)*3+j]? =some v:=by rw[<-List.getElem?_drop,hfd,aL (aC.1 hj).1,hj]
   rw[Addr.add_lit,(hr.same hW).cell,h1]
 have HR:=hD hr;have HDL:=hD hdl;have HFIT:Hid (i*3+((l.drop (i+1)).flatMap encI).length<=(l.flatMap encI++spare).length):=by unfold Hid;rw[hdl,hs];omega
 have HNEW:=hD (fun c1 hc1=>U1l l m i hm (by omega) spare c1 hc1);have HLEN:Hid ((l.eraseIdx i).length=m):=by unfold Hid;rw[List.length_eraseIdx,if_pos hi,hm];omega
 have HTOT:Hid ((l.flatMap encI++spare).length=cap*3/\(l.flatMap encI).length=(m+1)*3):=⟨hs,by rw[hfl,hm]⟩;have HFIN:Hid (∀w',Row1 w' b 293 ((l.eraseIdx i).flatMap encI++(zeroI++spare))->OwnL w' base 293 3 encI (.slice (some ⟨b,0,none⟩) m cap) (l.eraseIdx i)):=fun w' h1=>by
  have h2:=OwnL.ofRow (k:=3) (base:=base) h1 hbb (cap:=cap) (by rw[HLEN.out];omega) hc2 (by
   have h3:=HTOT.out;rw[aA]at h3;rw[aA,aA,Z1x,HLEN.out];have:zeroI.length=3:=rfl;omega) Z1v
  rwa [HLEN.out]at h2
 rw[hm]at hc1 hl hi ⊢;have hw1:(i:Int)+1<=cap:=by omega
 have hw2:((i:Int)+1).toNat=i+1:=by omega
 have hw3:¬(i:Int)=(i:Int)+1:=by omega
 have hw4:(i:Int)<=cap:=by omega
 have hw5:(i:Int)+1<=(m:Int)+1:=by omega
 have hw6:(m:Int)+1<=cap:=by omega
 have hw7:i+(m-i)=m:=by omega
 have hcm:¬cap=m:=by omega
 have hw8:(0:Int)<=(i:Int)+1:=by omega
 have hw9:(0:Int)<=(m:Int)+1:=by omega
 have hw10:(m:Int)<=(m:Int)+1:=by omega
 have hw11:((m:Int)+1).toNat=m+1:=by omega
 clear hr h hs hfl hdl hfd hm;go_enter Tryz.func203,Tryz.ntmps203;go_upto_region 5 with fail;go_region_law (refine Z5o rfl (Z6f (.tmp 22) (.tmp 25) 260 rfl 293 3 32 elItem b i cap AD (m-i) (cap-(i+1)) rfl rfl (l.flatMap encI++spare) (HR.out.same rfl) ((l.drop (i+1)).flatMap encI) HDL.out (hsrc.out _ rfl) (Y0k _) m hw7 (by omega) HFIT.out ?_);intro w2 hr2 hb2)
 all_goals
  obtain⟨w3,hcl,hr3,hb3⟩:∃w3,Hid (∀ty c,(Builtin.clear_ #[260] ty #[.slice (some ⟨b,m*3,none⟩) 1 c]).run Tryz.prog w2= .ok (.tuple #[]) w3)/\Row1 w3 b 293 ((l.eraseIdx i).flatMap encI++(zeroI++spare))/\But b w2 w3:=by
   refine⟨_,fun ty c=>Y1d w2 _ ty 293 b (m*3) c _ _ 293 Tryz.underlying260 (Tryz.zeroItem w2) hr2 ?_ ?_ (by kernel_rfl),?_,Z6e _ _ _⟩
   ·have h1:=HTOT.out;have h2:=HDL.out;have h3:(Value.agg #[.int .i64 0,.string ⟨#[]⟩,.int .i64 0]).cells.size=3:=rfl;rw[h3];simp only[aA,aD,aJ]at h1 ⊢;omega
   ·intro v hv;have:v∈zeroI:=hv;simp only[zeroI,List.mem_cons,List.not_mem_nil,or_false]at this;rcases this with rfl | rfl | rfl<;>rfl
   ·have h1:=HNEW.out _ rfl;have h2:=hr2.setRow (cs':=(l.eraseIdx i).flatMap encI++(zeroI++spare));rw[<-h1]at h2 ⊢;exact h2
  have hcl:=hcl.out;have HO:Hid (Only (fun j=>(Value.slice (some ⟨b,0,none⟩) (m+1) cap).ownBlock=some j) w w3):=Only.turn (Only.turn (Only.of (by exact Xt)) hb2 (.inl rfl)) hb3 (.inl rfl);have HW:=hD (HFIN.out w3 hr3);clear hr2 hb2 hr3 hb3;go_wp2_with fail;go_ret;exact⟨_,rfl,HW.out,rfl,HO.out⟩
end Go.Proofs.YtohaldfnmgcofaaGreat
