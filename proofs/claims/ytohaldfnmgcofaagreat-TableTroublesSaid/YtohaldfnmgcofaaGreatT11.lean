/- slices.Delete of one string. Conditions: that there is such an item. -/
import Derived.Test.YtohaldfnmgcofaaGreatT10
set_option maxRecDepth 100000
set_option maxHeartbeats 4000000
set_option linter.unusedSimpArgs false
set_option linter.unusedVariables false
namespace Go.Proofs.YtohaldfnmgcofaaGreat
open Go.RowKit
def zeroS:List Value:= [.string ⟨#[]⟩]
theorem V8s(l:List ByteArray)(m i:Nat)(hl:l.length=m+1)(hi:i<m+1)(spare:List Value)(c1:List Value)(hc1:c1=(l.flatMap encS++spare).take (i*1)++(l.drop (i+1)).flatMap encS++(l.flatMap encS++spare).drop (i*1+((l.drop (i+1)).flatMap encS).length)):
  c1.take (m)++zeroS++c1.drop (m+1)=(l.eraseIdx i).flatMap encS++(zeroS++spare):=by
 have e1:(l.flatMap encS++spare).take i=(l.take i).flatMap encS:=by rw[List.take_append_of_le_length (by rw[Z0t Z0d];omega),Z8p Z0d]
 have e2:((l.drop (i+1)).flatMap encS).length=(m-i):=by rw[Z0t Z0d,aJ,hl];omega
 have e3:i+(m-i)=m:=by omega
 have e4:(l.take i).flatMap encS++(l.drop (i+1)).flatMap encS=(l.eraseIdx i).flatMap encS:=by rw[List.eraseIdx_eq_take_drop_succ,aH]
 have e5:((l.eraseIdx i).flatMap encS).length=m:=by rw[Z0t Z0d,List.length_eraseIdx,if_pos (by omega),hl];omega
 have e6:(l.flatMap encS++spare).drop (m+1)=(l.drop (m+1)).flatMap encS++spare:=by rw[List.drop_append_of_le_length (by rw[Z0t Z0d];omega),Z4w Z0d]
 rw[Nat.mul_one,e1,e2,e3,e4]at hc1;have e7:(l.drop (m+1)).flatMap encS= []:=by rw[List.drop_eq_nil_of_le (by omega)];rfl
 have e8:c1.drop (m+1)=spare:=by rw[<-List.drop_drop,hc1,List.drop_left' e5,List.drop_drop,e6,e7];rfl
 rw[e8,hc1,List.take_left' e5,aG]
theorem Y8t{base:Nat}{v:Value}{l:List ByteArray}(i:Nat)(w:World)(h:OwnL w base 9 1 encS v l)(hi:i<l.length)(hl:l.length<=1000000000):
  cQ 139 #[v,.int .i64 i,.int .i64 ((i:Int)+1)] w fun e w'=>∃v',e= .returned v'/\OwnL w' base 9 1 encS v' (l.eraseIdx i)/\v'.ownBlock=v.ownBlock/\Only (fun j=>v.ownBlock=some j) w w':=by
 obtain⟨b,cap,spare,rfl,hbb,hr,hc1,hc2,hs,hfl⟩:=h.row (by omega);obtain⟨m,hm⟩:∃m,l.length=m+1:=⟨l.length-1,by omega⟩;have hbw:=hr.lt;have hdl:((l.drop (i+1)).flatMap encS).length=(m-i)*1:=by rw[Z0t Z0d,aJ,hm];omega
 have hfd:(l.flatMap encS++spare).drop (i+1)=(l.drop (i+1)).flatMap encS++spare:=by rw[List.drop_append_of_le_length (by rw[Z0t Z0d];omega),Z4w Z0d]
 obtain⟨AD,hAD,hsrc⟩:∃AD:Addr,(if cap=i+1 then some (⟨b,0,none⟩:Addr)else some ⟨b,i+1,none⟩)=some AD/\Hid (∀(W:World),W.heap[b]? =w.heap[b]? ->∀j v,((l.drop (i+1)).flatMap encS)[j]? =some v->W.cell? (AD.add j)=some v):=by
  by_cases hcap:cap=i+1
  ·refine⟨_,if_pos hcap,fun W hW j v hj=> ?_⟩;have h0:((l.drop (i+1)).flatMap encS).length=0:=by rw[hdl];omega
   rw[List.eq_nil_of_length_eq_zero h0]at hj;cases hj
  ·refine⟨_,if_neg hcap,fun W hW j v hj=> ?_⟩;have h1:(l.flatMap encS++spare)[(i+1)+j]? =some v:=by rw[<-List.getElem?_drop,hfd,aL (aC.1 hj).1,hj]
   rw[Addr.add_lit,(hr.same hW).cell,h1]
 have HR:=hD hr;have HDL:=hD hdl;have HFIT:Hid (i*1+((l.drop (i+1)).flatMap encS).length<=(l.flatMap encS++spare).length):=by unfold Hid;rw[hdl,hs];omega
 have HNEW:=hD (fun c1 hc1=>V8s l m i hm (by omega) spare c1 hc1);have HLEN:Hid ((l.eraseIdx i).length=m):=by unfold Hid;rw[List.length_eraseIdx,if_pos hi,hm];omega
 have HTOT:Hid ((l.flatMap encS++spare).length=cap/\(l.flatMap encS).length=(m+1)):=⟨by rw[hs];omega,by rw[hfl,hm];omega⟩;have HFIN:Hid (∀w',Row1 w' b 9 ((l.eraseIdx i).flatMap encS++(zeroS++spare))->OwnL w' base 9 1 encS (.slice (some ⟨b,0,none⟩) m cap) (l.eraseIdx i)):=fun w' h1=>by
  have h2:=OwnL.ofRow (k:=1) (base:=base) h1 hbb (cap:=cap) (by rw[HLEN.out];omega) hc2 (by
   have h3:=HTOT.out;rw[aA]at h3;rw[aA,aA,Z0t Z0d,HLEN.out];have:zeroS.length=1:=rfl;omega) Z0d
  rwa [HLEN.out]at h2
 rw[hm]at hc1 hl hi ⊢;have hw1:(i:Int)+1<=cap:=by omega
 have hw2:((i:Int)+1).toNat=i+1:=by omega
 have hw3:¬(i:Int)=(i:Int)+1:=by omega
 have hw4:(i:Int)<=cap:=by omega
 have hw5:(i:Int)+1<=(m:Int)+1:=by omega
 have hw6:(m:Int)+1<=cap:=by omega
 have hw7:i+(m-i)=m:=by omega
 have hcm:¬cap=m:=by omega
 have hw8:(0:Int)<=(i:Int)+1:=by omega
 have hw9:(0:Int)<=(m:Int)+1:=by omega
 have hw10:(m:Int)<=(m:Int)+1:=by omega
 have hw11:((m:Int)+1).toNat=m+1:=by omega
 clear hr h hs hfl hdl hfd hm;go_enter Tryz.func139,Tryz.ntmps139;go_upto_region 5 with fail;go_region_law (refine Z5o rfl (Z6f (.tmp 22) (.tmp 25) 164 rfl 9 1 16 elStr b i cap AD (m-i) (cap-(i+1)) rfl rfl (l.flatMap encS++spare) (HR.out.same rfl) ((l.drop (i+1)).flatMap encS) HDL.out (hsrc.out _ rfl) ((Z6d Z1n) _) m hw7 (by omega) HFIT.out ?_);intro w2 hr2 hb2)
 all_goals
  obtain⟨w3,hcl,hr3,hb3⟩:∃w3,Hid (∀ty c,(Builtin.clear_ #[164] ty #[.slice (some ⟨b,m,none⟩) 1 c]).run Tryz.prog w2= .ok (.tuple #[]) w3)/\Row1 w3 b 9 ((l.eraseIdx i).flatMap encS++(zeroS++spare))/\But b w2 w3:=by
   refine⟨_,fun ty c=>Y1d w2 _ ty 9 b (m) c _ _ 9 Tryz.underlying164 (Tryz.zeroStr1 w2) hr2 ?_ ?_ (by kernel_rfl),?_,Z6e _ _ _⟩
   ·have h1:=HTOT.out;have h2:=HDL.out;have h3:(.string ⟨#[]⟩:Value).cells.size=1:=rfl;rw[h3];simp only[aA,aD,aJ]at h1 ⊢;omega
   ·intro v hv;have:v∈zeroS:=hv;simp only[zeroS,List.mem_cons,List.not_mem_nil,or_false]at this;subst this;rfl
   ·have h1:=HNEW.out _ rfl;have h2:=hr2.setRow (cs':=(l.eraseIdx i).flatMap encS++(zeroS++spare));rw[<-h1]at h2 ⊢;exact h2
  have hcl:=hcl.out;have HO:Hid (Only (fun j=>(Value.slice (some ⟨b,0,none⟩) (m+1) cap).ownBlock=some j) w w3):=Only.turn (Only.turn (Only.of (by exact Xt)) hb2 (.inl rfl)) hb3 (.inl rfl);have HW:=hD (HFIN.out w3 hr3);clear hr2 hb2 hr3 hb3;go_wp2_with fail;go_ret;exact⟨_,rfl,HW.out,rfl,HO.out⟩
end Go.Proofs.YtohaldfnmgcofaaGreat
