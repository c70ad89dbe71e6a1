/- Bytes of a text, changed in place; bits.Not, Fixed. Conditions: sizes. -/
import Derived.Test.YtmiolpfanlpfnaaGreatU05
set_option maxRecDepth 100000
set_option maxHeartbeats 4000000
set_option linter.unusedSimpArgs false
set_option linter.unusedVariables false
namespace Go.Proofs.YtmiolpfanlpfnaaGreat
open Go.RowKit
def BytesAt(w:World)(g:Nat)(l:List UInt8):Prop:=∃(rest:List Value) (z:Nat×Nat),w.heap[g]? =some (.cells (l.flatMap encU++rest).toArray 5 z)∧l.length≤z.1
section
variable {w w':World} {g:Nat} {l:List UInt8}
theorem X0i(l:List UInt8):(l.flatMap encU).length=l.length:=by rw[Z3c encU 1 Z4f,Nat.mul_one]
theorem BytesAt.cell(h:BytesAt w g l)(i:Nat)(hi:i<l.length):w.cell? ⟨g,i,none⟩=some (.int .u8 (l[i].toNat:Int)):=by
 obtain⟨r,z,h,h2⟩:=h
 simp only[World.cell?,h]
 rw[List.getElem?_toArray,List.getElem?_append_left (by rw[X0i];exact hi),V2l l i hi]
 rfl
theorem BytesAt.soft(h:BytesAt w g l)(i:Nat)(hi:i<l.length):w.frozen? ⟨g,i,none⟩=false:=by
 obtain⟨r,z,h,h2⟩:=h
 simp only[World.frozen?,h]
 simp
 omega
theorem BytesAt.set(h:BytesAt w g l)(i:Nat)(hi:i<l.length)(b:UInt8):BytesAt (w.setCell ⟨g,i,none⟩ (.int .u8 (b.toNat:Int))) g (l.set i b):=by
 obtain⟨r,z,h,h2⟩:=h
 have e:=Z9o encU 1 Z4f l i l[i] 0 (.int .u8 (b.toNat:Int)) b hi rfl (by omega) rfl
 rw[Nat.mul_one,Nat.add_zero]at e
 refine⟨r,z,?_,by rw[List.length_set];exact h2⟩
 rw[←e]
 simp[World.setCell,Array.getElem?_modify,h,List.set_append_left _ _ (show i<(l.flatMap encU).length by rw[X0i];exact hi)]
theorem BytesAt.text(h:BytesAt w g l)(c n:Nat)(hn:n=l.length):(convert 227 9 (.slice (some ⟨g,0,none⟩) n c)).run Tryz.prog w= .ok (.string (bts l)) w:=by
 subst hn
 exact run_convert_bytes_back (P:=Tryz.prog) w 227 9 5 ⟨g,0,none⟩ c l Tryz.underlying227 Tryz.underlying5 Tryz.underlying9 (fun j hj=>by rw[Addr.add_lit,Nat.zero_add];exact h.cell j hj)
end
theorem X4x(w:World)(s:ByteArray):∃(c:Nat) (w1:World),(convert 9 227 (.string s)).run Tryz.prog w= .ok (.slice (some ⟨w.heap.size,0,none⟩) s.size c) w1∧BytesAt w1 w.heap.size s.data.toList∧Ext w w1∧w1.heap.size=w.heap.size+1:=by
 refine⟨_,_,run_bytes_of_string w 9 227 5 s Tryz.underlying9 Tryz.underlying227 Tryz.underlying5,?_,Below.alloc (Below.drew (Ext.refl w)) (Nat.le_refl _) _,by simp⟩
 refine⟨List.replicate (grownCap w s.size 0 5-s.size) (.int .u8 0),((bytesRow s (grownCap w s.size 0 5)).size,(bytesRow s (grownCap w s.size 0 5)).size+1),?_,?_⟩
 ·refine(heap_alloc_new w.drew _).trans ?_
  congr 2
  unfold bytesRow
  apply Array.ext'
  have e:∀l:List UInt8,l.flatMap encU=l.map (fun b=>Value.int .u8 (b.toNat:Int)):=fun l=>by
   induction l with
   | nil=>rfl
   | cons b r ih=>rw[List.flatMap_cons,ih];rfl
  simp[e]
 ·simp[bytesRow]
theorem V0p(s:ByteArray)(w:World)(hs:s.size≤1000000000):Calls Tryz.prog 204 #[.string s] w fun e w'=>e= .returned (.string (bts (s.data.toList.map fun b=>UInt8.ofNat (255-b.toNat))))∧Ext w w':=by
 have hl:s.data.toList.length=s.size:=by rw[Array.length_toList];rfl
 obtain⟨l,hl0⟩:∃l,s.data.toList=l:=⟨_,rfl⟩
 obtain⟨c,w1,hc,hB,hx,hz⟩:=X4x w s
 rw[hl0]at hl hB
 rw[hl0]
 obtain⟨f,hf⟩:∃f:UInt8→UInt8,f=fun b=>UInt8.ofNat (255-b.toNat):=⟨_,rfl⟩
 rw[←hf]
 rw[←hl]at hc
 have HB:=hD hB
 have HX:=hD hx
 clear hB hx hl0
 go_enter Tryz.func204,Tryz.ntmps204
 go_wp2_with fail
 clear hc
 go_loopw [9] (fun i wr=>∃k:Nat,k≤l.length∧i= .int .i64 k∧BytesAt wr w.heap.size ((l.take k).map f++l.drop k)∧Ext w wr) (fun i _=>l.length-(intOf i).toNat)
 case atStart=>exact⟨0,by omega,rfl,by simpa using HB.out,HX.out⟩
 case round=>
  obtain⟨k,hk,rfl,hb,hx⟩:=hrel
  have HK:=hD hb
  have HXK:=hD hx
  have hzr:=hx.size
  clear hb hx
  by_cases hq:k<l.length
  ·have hlen:((l.take k).map f++l.drop k).length=l.length:=by simp;omega
   have hel:((l.take k).map f++l.drop k)[k]'(by rw[hlen];exact hq)=l[k]:=by
    rw[List.getElem_append_right (by simp;omega)]
    simp[Nat.min_eq_left hk]
   have hxx:bits .xor .u8 (l[k].toNat:Int) 255=((f l[k]).toNat:Int):=by
    rw[xor8 _ l[k].toNat_lt,hf,Z2c (by omega)]
   have hck:wr.cell? ⟨w.heap.size,k,none⟩=some (.int .u8 (l[k].toNat:Int)):=by rw[HK.out.cell k (by rw[hlen];exact hq),hel]
   have hfk:wr.frozen? ⟨w.heap.size,k,none⟩=false:=HK.out.soft k (by rw[hlen];exact hq)
   have HS:Hid (((l.take k).map f++l.drop k).set k (f l[k])=(l.take (k+1)).map f++l.drop (k+1)):=by
    unfold Hid
    have e:k-((l.take k).map f).length=0:=by simp;omega
    rw[List.set_append_right _ _ (by simp;omega),e,List.drop_eq_getElem_cons hq,List.set_cons_zero,List.take_add_one,List.getElem?_eq_getElem hq,List.map_append]
    simp
   have HT:=hD (HK.out.set k (by rw[hlen];exact hq) (f l[k]))
   rw[HS.out]at HT
   clear hel hf
   generalize f l[k]=b at *
   go_wp2_with fail
   go_roundw
   case rel=>exact⟨k+1,by omega,by go_num,HT.out,by exact Xx (HXK.out)⟩
   case measure=>simp[intOf];omega
  ·obtain rfl:k=l.length:=by omega
   have hc:=HK.out.text c s.size (by simp;omega)
   rw[List.take_length,List.drop_length,List.append_nil]at hc
   clear hf
   go_wp2_with fail
   go_ret
   exact⟨rfl,HXK.out⟩
theorem Z4t(n z:Nat)(hz:z≤8)(hn:n<18446744073709551616)(w:World):Calls Tryz.prog 203 #[.int .u64 n,.int .i64 z] w fun e w'=>e= .returned (.string (bts (Z0f n z)))∧Ext w w':=by
 go_enter Tryz.func203,Tryz.ntmps203
 go_upto_region 2 with (at_make;refine Y8m _ rfl _ _ rfl 8 rfl rfl rfl (by omega) ?_;intro w1 h1 hb1)
 go_cut [8,9,10,11] (fun _ _ v i wx=>v= .int .i64 z∧i= .int .i64 0∧w1=wx)
 case first=>
  have q1:¬(8:Int)<z:=by omega
  have q2:¬(z:Int)<0:=by omega
  go_wp2_with fail
  all_goals (go_meet;exact⟨by first | rfl | (congr 1;omega),rfl,rfl⟩)
 case rest=>
 obtain⟨rfl,rfl,rfl⟩:=hcut
 have H1:=hD h1
 have HB1:=hD hb1
 have hz1:=hb1.size
 clear h1 hb1
 go_wp2_with fail
 go_loopw [5,11] (fun v i wr=>∃k:Nat,k≤z∧i= .int .i64 k∧OwnB wr w.heap.size v (Z0f n k)∧Ext w wr) (fun _ i _=>z-(intOf i).toNat)
 case atStart=>exact⟨0,by omega,rfl,H1.out,HB1.out⟩
 case round=>
  obtain⟨k,hk,rfl,ho,hx⟩:=hrel
  obtain⟨A,c,rfl⟩:=OwnL.form ho
  have HFL:=hD (Z0l n k)
  have HO:=hD ho
  have HX:=hD hx
  have hzr:=hx.size
  clear ho hx
  by_cases hq:k<z
  ·have hq4:(8:Int)*k<64:=by omega
   obtain⟨b,hb⟩:∃b:UInt8,b=UInt8.ofNat (n/2 ^ (8*k)%256):=⟨_,rfl⟩
   have hbn:((n:Int)/2 ^ (8*k))%256=(b.toNat:Int):=by rw[hb,Z2c (Nat.mod_lt _ (by decide))];simp
   have HN:Hid (Z0f n k++ [b]=Z0f n (k+1)):=by unfold Hid;rw[X2e,hb]
   have HBN:=hD hbn
   clear hb hbn
   go_wp2_with (at_builtin;refine Z0t elU8 Z4f Y2g rfl (.tmp 14) (.tmp 21) rfl (.slice A (Z0f n k).length c) (Z0f n k) rfl (HO.out.ext (by exact Xt)) (by simp;omega) _ 1 b rfl (by unfold encU;rw[←HBN.out];exact Row1.made' (by simp) _ [_]) (by rw[HFL.out];omega) (by decide) ?_;intro A' c' w2 hown2 hgr hwh)
   have hx2:Ext w w2:=OwnL.grown (HO.out.ext (by exact Xt)) (by exact Xx (HX.out)) hgr (Nat.le_refl _)
   rw[HN.out]at hown2
   have HFL2:=Z0l n (k+1)
   rw[HFL2]at hown2
   go_roundw
   case rel=>exact⟨k+1,by omega,by go_num,by rw[HFL.out];exact hown2,hx2⟩
   case measure=>simp[intOf];omega
  ·obtain rfl:k=z:=by omega
   have hc:=OwnB.text HO.out
   go_wp2_with fail
   go_ret
   exact⟨rfl,HX.out⟩
def ordU(n:Int):Nat:=(n+9223372036854775808).toNat
def ordL(n:Int):List UInt8:=(List.range 8).map fun i=>UInt8.ofNat (ordU n/2 ^ (56-8*i)%256)
theorem Z1s(n:Int):(ordL n).length=8:=by simp[ordL]
theorem V9o(n:Int)(i:Nat)(h:i<8):(ordL n)[i]'(by rw[Z1s];exact h)=UInt8.ofNat (ordU n/2 ^ (56-8*i)%256):=by simp[ordL]
theorem V4f{w:World}{g:Nat}{t:TypeId}{l:List UInt8}(h:Row1 w g t (l.flatMap encU))(n c:Nat)(hn:n=l.length):(convert 227 9 (.slice (some ⟨g,0,none⟩) n c)).run Tryz.prog w= .ok (.string (bts l)) w:=by
 subst hn
 exact run_convert_bytes_back (P:=Tryz.prog) w 227 9 5 ⟨g,0,none⟩ c l Tryz.underlying227 Tryz.underlying5 Tryz.underlying9 (fun j hj=>by rw[Addr.add_lit,Nat.zero_add,h.cell j];exact V2l l j hj)
theorem V4r{w:World}{g:Nat}{t:TypeId}{l:List UInt8}(h:Row1 w g t (l.flatMap encU))(i:Nat)(hi:i<l.length)(b:UInt8):Row1 (w.setCell ⟨g,i,none⟩ (.int .u8 (b.toNat:Int))) g t ((l.set i b).flatMap encU):=by
 have e:=Z9o encU 1 Z4f l i l[i] 0 (.int .u8 (b.toNat:Int)) b hi rfl (by omega) rfl
 rw[Nat.mul_one,Nat.add_zero]at e
 rw[←e]
 exact h.set i _
theorem X9n{w:World}{g:Nat}{t:TypeId}{l:List UInt8}(h:Row1 w g t (l.flatMap encU))(i:Nat)(hi:i<l.length):w.cell? ⟨g,i,none⟩=some (.int .u8 (l[i].toNat:Int)):=by rw[h.cell i];exact V2l l i hi
theorem X1p(n:Int)(w:World)(h1: -9223372036854775808≤n)(h2:n≤9223372036854775807):Calls Tryz.prog 130 #[.int .i64 n] w fun e w'=>e= .returned (.string (bts (ordL n)))∧Ext w w':=by
 have hU:ordU n<18446744073709551616:=by unfold ordU;omega
 have hx:bits .xor .u64 (IntKind.u64.wrap n) 9223372036854775808=(ordU n:Int):=by
  have e1:IntKind.u64.wrap n=((n%18446744073709551616).toNat:Int):=by rw[IntKind.wrap_u64];omega
  have h3:=bits_xor_u64_nat (n%18446744073709551616).toNat 9223372036854775808 (by omega) (by decide)
  rw[U0w _ (by omega)]at h3
  rw[e1]
  have e2:((n%18446744073709551616).toNat+9223372036854775808)%18446744073709551616=ordU n:=by unfold ordU;omega
  rw[e2]at h3
  exact h3
 obtain⟨u,hu⟩:∃u,ordU n=u:=⟨_,rfl⟩
 have HL:Hid (∀i (h:i<8),(ordL n)[i]'(by rw[Z1s];exact h)=UInt8.ofNat (u/2 ^ (56-8*i)%256)):=fun i h=>by rw[←hu];exact V9o n i h
 rw[hu]at hx hU
 have HX:=hD hx
 obtain⟨l,hl⟩:∃l,ordL n=l:=⟨_,rfl⟩
 have hl8:l.length=8:=by rw[←hl];exact Z1s n
 have HL:Hid (∀i (h:i<8),l[i]'(by rw[hl8];exact h)=UInt8.ofNat (u/2 ^ (56-8*i)%256)):=by subst hl;exact HL.out
 rw[hl]
 clear hl hu HX
 go_enter Tryz.func130,Tryz.ntmps130
 go_wp2_with fail
 go_loopw [9] (fun i wr=>∃k:Nat,k≤8∧i= .int .i64 k∧Row1 wr w.heap.size 277 ((l.take k++List.replicate (8-k) 0).flatMap encU)∧Ext w wr) (fun i _=>8-(intOf i).toNat)
 case atStart=>exact⟨0,by omega,rfl,Row1.made w _ _,by exact Xt⟩
 case round=>
  obtain⟨k,hk,rfl,hr,hxr⟩:=hrel
  have HR:=hD hr
  have HXR:=hD hxr
  have hzr:=hxr.size
  have hgl:=hr.lt
  clear hr hxr
  by_cases hq:k<8
  ·have hlen:(l.take k++List.replicate (8-k) (0:UInt8)).length=8:=by simp;omega
   have hck:=X9n HR.out k (by rw[hlen];exact hq)
   generalize ((l.take k++List.replicate (8-k) (0:UInt8))[k]'(by rw[hlen];exact hq)).toNat=v0 at hck
   have hfk:wr.frozen? ⟨w.heap.size,k,none⟩=false:=HR.out.soft k
   obtain⟨b,hb⟩:∃b:UInt8,b=UInt8.ofNat (u/2 ^ (56-8*k)%256):=⟨_,rfl⟩
   have hbn:((u:Int)/2 ^ (56-8*k))%256=(b.toNat:Int):=by rw[hb,Z2c (Nat.mod_lt _ (by decide))];simp
   have HS:=hD (V4r HR.out k (by rw[hlen];exact hq) b)
   have HE:Hid ((l.take k++List.replicate (8-k) 0).set k b=l.take (k+1)++List.replicate (8-(k+1)) 0):=by
    unfold Hid
    have e1:List.replicate (8-k) (0:UInt8)=0::List.replicate (8-(k+1)) 0:=by rw[←List.replicate_succ];congr 1;omega
    have e2:k-(l.take k).length=0:=by simp;omega
    rw[List.set_append_right _ _ (by simp;omega),e2,e1,List.set_cons_zero,List.take_add_one,List.getElem?_eq_getElem (by omega),HL.out k hq,←hb]
    simp
   rw[HE.out]at HS
   have q4:(8:Int)*k≤56:=by omega
   have q5:(0:Int)≤56-8*k:=by omega
   have q6:(56:Int)-8*k<64:=by omega
   clear hb
   go_wp2_with fail
   go_roundw
   case rel=>exact⟨k+1,by omega,by go_num,HS.out,by exact Xx (HXR.out)⟩
   case measure=>simp[intOf];omega
  ·obtain rfl:k=8:=by omega
   have e8:(l.take 8++List.replicate (8-8) (0:UInt8))=l:=by rw[←hl8,List.take_length];simp
   rw[e8]at HR
   have hc:=V4f HR.out 8 8 hl8.symm
   go_wp2_with fail
   go_ret
   exact⟨rfl,HXR.out⟩
def beN(l:List UInt8):Nat:=l.foldl (fun u c=>u*256+c.toNat) 0
theorem X5b(l:List UInt8)(c:UInt8):beN (l++ [c])=beN l*256+c.toNat:=by unfold beN;rw[List.foldl_append];rfl
theorem V8n:∀(l:List UInt8) (u:Nat),l.foldl (fun u c=>u*256+c.toNat) u<(u+1)*256 ^ l.length
 | [],u=>by simp
 | c::r,u=>by
   have h:=V8n r (u*256+c.toNat)
   have hc:=c.toNat_lt
   rw[List.foldl_cons,List.length_cons,Nat.pow_succ]
   refine Nat.lt_of_lt_of_le h ?_
   rw[Nat.mul_comm (256 ^ r.length),←Nat.mul_assoc]
   exact Nat.mul_le_mul_right _ (by omega)
theorem V3p(l:List UInt8):beN l<256 ^ l.length:=by have:=V8n l 0;simpa [beN]using this
def Y5h(l:List UInt8):Int:=(beN l:Int)-9223372036854775808
theorem X0t(u k:Nat):∀j,j≤k→beN ((List.range j).map fun i=>UInt8.ofNat (u/2 ^ (8*k-8-8*i)%256))=u/2 ^ (8*k-8*j)%2 ^ (8*j)
 | 0,_=>by simp[beN,Nat.mod_one]
 | j+1,h=>by
   rw[List.range_succ,List.map_append,List.map_singleton,X5b,X0t u k j (by omega),Z2c (Nat.mod_lt _ (by decide))]
   have e1:8*k-8*j=(8*k-8*(j+1))+8:=by omega
   have e2:8*k-8-8*j=8*k-8*(j+1):=by omega
   have e3:2 ^ (8*(j+1))=256*2 ^ (8*j):=by rw[Nat.mul_add,Nat.pow_add,Nat.mul_comm]
   have e4:u/2 ^ ((8*k-8*(j+1))+8)=u/2 ^ (8*k-8*(j+1))/256:=by rw[Nat.pow_add,Nat.div_div_eq_div_mul]
   rw[e1,e2,e3,e4,Nat.mod_mul]
   omega
theorem Y8r(n:Int)(h1: -9223372036854775808≤n)(h2:n≤9223372036854775807):Y5h (ordL n)=n:=by
 unfold Y5h ordL
 have h:=X0t (ordU n) 8 8 (by omega)
 rw[h]
 unfold ordU
 simp
 omega
theorem Y6q(s:ByteArray)(h8:s.size=8)(w:World):Calls Tryz.prog 134 #[.string s] w fun e w'=>e= .returned (.tuple #[.int .i64 (Y5h s.data.toList),.int .i64 0])∧w=w':=by
 have hl:s.data.toList.length=8:=by rw[Array.length_toList];exact h8
 obtain⟨l,hl0⟩:∃l,s.data.toList=l:=⟨_,rfl⟩
 have HC:Hid (∀k (h:k<8),s[k]'(by omega)=l[k]'(by rw[←hl0];omega)):=fun k h=>by subst hl0;simp[ByteArray.getElem_eq_getElem_data]
 rw[hl0]at hl ⊢
 have q8:(s.size:Int)=8:=by omega
 have HT:Hid (∀k,k≤8→beN (l.take k)<256 ^ k):=fun k hk=>by
  have:=V3p (l.take k)
  rwa [List.length_take,hl,Nat.min_eq_left hk]at this
 go_enter Tryz.func134,Tryz.ntmps134
 go_wp2_with fail
 go_loopw [4,11] (fun n v wr=>∃(k:Nat),n= .int .u64 (beN (l.take k))∧v= .int .i64 k∧k≤8∧w=wr) (fun _ v _=>8-(intOf v).toNat)
 case atStart=>exact⟨0,rfl,rfl,by omega,rfl⟩
 case round=>
  obtain⟨k,rfl,rfl,hk,rfl⟩:=hrel
  by_cases hq:k<8
  ·have hq3:(k:Int)<8:=by omega
   have hks:k<s.size:=by omega
   have hkl:k<l.length:=by omega
   have hor:bits .or .u64 (IntKind.u64.wrap ((beN (l.take k):Int)*256)) (IntKind.u64.wrap (s[k].toNat:Int))=(beN (l.take (k+1)):Int):=by
    have hb:=s[k].toNat_lt
    have h1:=HT.out k (by omega)
    have h2:256 ^ k≤256 ^ 7:=Nat.pow_le_pow_right (by decide) (by omega)
    have e1:IntKind.u64.wrap ((beN (l.take k):Int)*256)=((2 ^ 8*beN (l.take k):Nat):Int):=by rw[IntKind.wrap_u64];omega
    have e2:IntKind.u64.wrap (s[k].toNat:Int)=(s[k].toNat:Int):=by rw[IntKind.wrap_u64];omega
    rw[e1,e2,bits_or_u64_nat _ _ (by omega) (by omega),←Nat.two_pow_add_eq_or_of_lt hb,List.take_add_one,List.getElem?_eq_getElem hkl,Option.toList_some,X5b,HC.out k hq]
    congr 1
    omega
   go_wp2_with fail
   go_roundw
   case rel=>exact⟨k+1,rfl,by go_num,by omega,trivial⟩
   case measure=>simp[intOf];omega
  ·obtain rfl:k=8:=by omega
   have HB:=HT.out 8 (by omega)
   rw[show l.take 8=l by rw[←hl,List.take_length]]at *
   have hx:bits .xor .u64 (beN l:Int) 9223372036854775808=(((beN l+9223372036854775808)%18446744073709551616:Nat):Int):=by
    have:=bits_xor_u64_nat (beN l) 9223372036854775808 (by omega) (by decide)
    rwa [U0w _ (by omega)]at this
   have hv:wrap64 (((beN l+9223372036854775808)%18446744073709551616:Nat):Int)=Y5h l:=by unfold wrap64 Y5h;omega
   generalize (beN l+9223372036854775808)%18446744073709551616=v at hx hv
   go_wp2_with fail
   go_ret2
   exact⟨by rw[←hv];rfl,rfl⟩
theorem pow7(k:Nat)(h:k≤8):128*2 ^ (7*k)≤9223372036854775808:=by
 have:k=0∨k=1∨k=2∨k=3∨k=4∨k=5∨k=6∨k=7∨k=8:=by omega
 rcases this with h | h | h | h | h | h | h | h | h<;>subst h<;>decide
theorem U1k(k:Nat):(128:Nat) ^ k=2 ^ (7*k):=by rw[Nat.pow_mul]
theorem X0x(c:UInt8)(r:List UInt8)(i acc:Nat)(h:i<10):Z4w (c::r) i acc=if i=9∧1<c.toNat then(0,0)else if c.toNat<128 then(if c.toNat=0∧0<i then(0,0)else(acc+c.toNat%128*2 ^ (7*i),i+1))else Z4w r (i+1) (acc+c.toNat%128*2 ^ (7*i)):=by
 rw[Z4w,if_neg (by omega),U1k]
theorem X5n(r:List UInt8)(acc:Nat):Z4w r 10 acc=(0,0):=by
 cases r with
 | nil=>rfl
 | cons c r=>rw[Z4w,if_pos (by omega)]
theorem X8o(s:ByteArray)(hs:s.size≤1000000000)(w:World):Calls Tryz.prog 230 #[.string s] w fun e w'=>e= .returned (.tuple #[.int .u64 (Y8q s.data.toList).1,.int .i64 (Y8q s.data.toList).2])∧w=w':=by
 obtain⟨l,hl0⟩:∃l,s.data.toList=l:=⟨_,rfl⟩
 have hl:l.length=s.size:=by rw[←hl0,Array.length_toList];rfl
 have HC:Hid (∀k (h:k<s.size),l[k]? =some s[k]):=fun k h=>by subst hl0;rw[List.getElem?_eq_getElem (by omega)];simp[ByteArray.getElem_eq_getElem_data]
 have HL:=hD hl
 rw[hl0]
 clear hl0 hl
 obtain⟨R,hR⟩:∃R,Y8q l=R:=⟨_,rfl⟩
 have HR:=hD hR
 rw[hR]
 clear hR
 go_enter Tryz.func230,Tryz.ntmps230
 go_upto_region 2 with fail
 go_cut [7,8,9,10] (fun _ _ v i wx=>v= .int .i64 (min s.size 10:Nat)∧i= .int .i64 0∧w=wx)
 case first=>
  by_cases h:(10:Int)<s.size
  ·go_wp2_with fail
   go_meet
   exact⟨by congr 1;omega,rfl,rfl⟩
  ·go_wp2_with fail
   go_meet
   exact⟨by congr 1;omega,rfl,rfl⟩
 case rest=>
 obtain⟨rfl,rfl,rfl⟩:=hcut
 obtain⟨M,hM⟩:∃M,min s.size 10=M:=⟨_,rfl⟩
 have hM1:M≤s.size:=by omega
 have hM2:M≤10:=by omega
 have HM:Hid (M=s.size∨M=10):=by unfold Hid;omega
 rw[hM]
 clear hM
 go_wp2_with fail
 go_loopw [4,10] (fun n v wr=>∃(m:Nat) (k:Nat),n= .int .u64 m∧v= .int .i64 k∧k≤M∧Hid (m<2 ^ (7*k))∧Hid (R=Z4w (l.drop k) k m)∧w=wr) (fun _ v _=>M-(intOf v).toNat)
 case atStart=>exact⟨0,0,rfl,rfl,by omega,by simp[Hid],HR.out.symm,rfl⟩
 case round=>
  obtain⟨m,k,rfl,rfl,hk,hm,hu,rfl⟩:=hrel
  by_cases hq:k<M
  ·have hks:k<s.size:=by omega
   have hq3:(k:Int)<s.size:=by omega
   have hq4:(7:Int)*k<64:=by omega
   obtain⟨c,hc⟩:∃c,s[k]=c:=⟨_,rfl⟩
   have HD:Hid (l.drop k=c::l.drop (k+1)):=by
    unfold Hid
    obtain⟨h1,h2⟩:=List.getElem?_eq_some_iff.1 (HC.out k hks)
    rw[List.drop_eq_getElem_cons h1,h2,hc]
   have HU:Hid (R=if k=9∧1<c.toNat then(0,0)else if c.toNat<128 then(if c.toNat=0∧0<k then(0,0)else(m+c.toNat%128*2 ^ (7*k),k+1))else Z4w (l.drop (k+1)) (k+1) (m+c.toNat%128*2 ^ (7*k))):=by
    unfold Hid
    rw[hu.out,HD.out,X0x _ _ _ _ (by omega)]
   have hcl:=c.toNat_lt
   have ha:=U1e c.toNat hcl
   by_cases h9:k=9∧1<c.toNat
   ·obtain⟨rfl,h1⟩:=h9
    have q1:decide (1<(c.toNat:Int))=true:=decide_eq_true (by omega)
    have HU2:Hid (R=(0,0)):=by unfold Hid;rw[HU.out,if_pos ⟨rfl,h1⟩]
    go_wp2_with fail
    go_ret2
    rw[HU2.out]
    exact⟨rfl,rfl⟩
   ·have HU3:Hid (R=if c.toNat<128 then(if c.toNat=0∧0<k then(0,0)else(m+c.toNat%128*2 ^ (7*k),k+1))else Z4w (l.drop (k+1)) (k+1) (m+c.toNat%128*2 ^ (7*k))):=by unfold Hid;rw[HU.out,if_neg h9]
    have hx:c.toNat%128*2 ^ (7*k)<18446744073709551616:=by
     by_cases hk9:k=9
     ·subst hk9
      have:c.toNat≤1:=by omega
      have h2:c.toNat%128*2 ^ (7*9)≤1*2 ^ (7*9):=Nat.mul_le_mul_right _ (by omega)
      omega
     ·have h1:=pow7 k (by omega)
      have h2:c.toNat%128*2 ^ (7*k)≤128*2 ^ (7*k):=Nat.mul_le_mul_right _ (by omega)
      omega
    have hor:bits .or .u64 (m:Int) (IntKind.u64.wrap (IntKind.u64.wrap ((c.toNat%128:Nat):Int)*2 ^ (7*k)))=((m+c.toNat%128*2 ^ (7*k):Nat):Int):=by
     have e1:IntKind.u64.wrap ((c.toNat%128:Nat):Int)=((c.toNat%128:Nat):Int):=by rw[IntKind.wrap_u64];omega
     have e2:((c.toNat%128:Nat):Int)*2 ^ (7*k)=((c.toNat%128*2 ^ (7*k):Nat):Int):=by simp
     have e3:IntKind.u64.wrap ((c.toNat%128*2 ^ (7*k):Nat):Int)=((c.toNat%128*2 ^ (7*k):Nat):Int):=by rw[IntKind.wrap_u64];omega
     have h64:2 ^ (7*k)≤18446744073709551616:=Nat.le_trans (Nat.pow_le_pow_right (by decide) (show 7*k≤63 by omega)) (by decide)
     rw[e1,e2,e3,or64 _ _ _ hm.out hx h64]
    obtain⟨m2,hm2⟩:∃m2,m+c.toNat%128*2 ^ (7*k)=m2:=⟨_,rfl⟩
    rw[hm2]at hor HU3
    have hor2:bits .or .u64 (m:Int) (IntKind.u64.wrap ((c.toNat:Int)%128*2 ^ (7*k)))=(m2:Int):=by
     have e1:IntKind.u64.wrap ((c.toNat%128:Nat):Int)=(c.toNat:Int)%128:=by rw[IntKind.wrap_u64];omega
     rw[e1]at hor
     exact hor
    have HM2:Hid (m2<2 ^ (7*(k+1))):=by
     unfold Hid
     have h1:=hm.out
     have h2:c.toNat%128*2 ^ (7*k)≤127*2 ^ (7*k):=Nat.mul_le_mul_right _ (by omega)
     have e:2 ^ (7*(k+1))=128*2 ^ (7*k):=by rw[Nat.mul_add,Nat.pow_add,Nat.mul_comm]
     omega
    clear hm2 hx HU hm hu HD
    have q9:((k:Int)==9)=true→decide (1<(c.toNat:Int))=false:=fun h=>by
     have:k=9:=by have h:=eq_of_beq h;omega
     exact decide_eq_false (by omega)
    by_cases h128:c.toNat<128
    ·have q1:decide ((c.toNat:Int)<128)=true:=decide_eq_true (by omega)
     rw[if_pos h128]at HU3
     obtain⟨b9,hb9⟩:∃b9,((k:Int)==9)=b9:=⟨_,rfl⟩
     obtain⟨b0,hb0⟩:∃b0,((c.toNat:Int)==0)=b0:=⟨_,rfl⟩
     have q5:b9=true→decide (1<(c.toNat:Int))=false:=fun h=>q9 (hb9.trans h)
     obtain⟨bk,hbk⟩:∃bk,decide (0<(k:Int))=bk:=⟨_,rfl⟩
     have HU4:Hid (R=if b0=true∧bk=true then(0,0)else(m2,k+1)):=by
      unfold Hid
      rw[HU3.out,←hb0,←hbk]
      have e:(((c.toNat:Int)==0)=true∧decide (0<(k:Int))=true)=(c.toNat=0∧0<k):=by
       rw[beq_iff_eq,decide_eq_true_iff]
       exact propext ⟨fun h=>⟨by omega,by omega⟩,fun h=>⟨by omega,by omega⟩⟩
      simp only[e]
     clear HU3
     cases b9<;>cases b0<;>cases bk
     all_goals (try have q5:=q5 rfl)
     all_goals go_wp2_with fail
     all_goals go_ret2
     all_goals (rw [HU4.out];refine⟨?_,rfl⟩;first | (simp;done) | (exfalso;first | (have:=of_decide_eq_false hbk;omega) | (have:=of_decide_eq_true hbk;omega)))
    ·have q1:decide ((c.toNat:Int)<128)=false:=decide_eq_false (by omega)
     have h9':((k:Int)==9)=false:=by simp;omega
     rw[if_neg h128]at HU3
     go_wp2_with fail
     go_roundw
     case rel=>exact⟨m2,k+1,rfl,by go_num,by omega,HM2,HU3,trivial⟩
     case measure=>simp[intOf];omega
  ·obtain rfl:k=M:=by omega
   have HE:Hid (R=(0,0)):=by
    unfold Hid
    rw[hu.out]
    rcases HM.out with h | h
    ·rw[List.drop_eq_nil_of_le (by rw[HL.out];omega)];rfl
    ·rw[h];exact X5n _ _
   go_wp2_with fail
   go_ret2
   rw[HE.out]
   exact⟨rfl,rfl⟩
def hasL(l:List UInt8)(i:Nat):Bool:=(l[i/8]?.getD 0).toNat.testBit (i%8)
def bitU(x:UInt8)(k:Nat)(b:Bool):UInt8:=UInt8.ofNat (if b then x.toNat ||| 2 ^ k else x.toNat &&& (255-2 ^ k))
def Z6l(l:List UInt8)(i:Nat)(b:Bool):List UInt8:=l.set (i/8) (bitU (l[i/8]?.getD 0) (i%8) b)
theorem Z5e(l:List UInt8)(i:Nat)(b:Bool):(Z6l l i b).length=l.length:=by simp[Z6l]
theorem X9x(k:Nat)(h:k<8):2 ^ k≤128:=by
 have:2 ^ k≤2 ^ 7:=Nat.pow_le_pow_right (by decide) (by omega)
 omega
theorem V9c(k j:Nat)(hk:k<8)(hj:j<8):(255-2 ^ k).testBit j=decide (j≠k):=by
 have:k=0∨k=1∨k=2∨k=3∨k=4∨k=5∨k=6∨k=7:=by omega
 have h2:j=0∨j=1∨j=2∨j=3∨j=4∨j=5∨j=6∨j=7:=by omega
 rcases this with h | h | h | h | h | h | h | h<;>subst h<;>rcases h2 with h | h | h | h | h | h | h | h<;>subst h<;>decide
theorem V8a(x:UInt8)(k j:Nat)(b:Bool)(hk:k<8)(hj:j<8):(bitU x k b).toNat.testBit j=if j=k then b else x.toNat.testBit j:=by
 have hx:=x.toNat_lt
 have hp:=X9x k hk
 unfold bitU
 cases b
 ·rw[if_neg (by decide),Z2c (Nat.lt_of_le_of_lt Nat.and_le_left (by omega)),Nat.testBit_and,V9c k j hk hj]
  by_cases h:j=k<;>simp[h]
 ·have h1:x.toNat ||| 2 ^ k<2 ^ 8:=Nat.or_lt_two_pow (by omega) (by omega)
  rw[if_pos rfl,Z2c (by omega),Nat.testBit_or,Nat.testBit_two_pow]
  by_cases h:j=k
  ·subst h;simp
  ·have h':¬k=j:=fun e=>h e.symm
   simp[h,h']
theorem Y7w(l:List UInt8)(i j:Nat)(b:Bool)(hi:i/8<l.length):hasL (Z6l l i b) j=if j=i then b else hasL l j:=by
 unfold hasL Z6l
 by_cases h:j/8=i/8
 ·rw[h,List.getElem?_set_self hi,Option.getD_some,V8a _ _ _ _ (Nat.mod_lt _ (by decide)) (Nat.mod_lt _ (by decide))]
  by_cases h2:j=i
  ·subst h2;simp
  ·rw[if_neg h2,if_neg (by omega)]
 ·rw[List.getElem?_set_ne (by omega),if_neg (by intro e;subst e;exact h rfl)]
theorem V1w(n j:Nat):hasL (List.replicate n 0) j=false:=by
 unfold hasL
 rw[List.getElem?_replicate]
 split<;>simp
theorem X1b(x k:Nat):(((x/2 ^ k%2:Nat):Int)==1)=x.testBit k:=by
 rw[Nat.testBit_eq_decide_div_mod_eq]
 rcases Nat.mod_two_eq_zero_or_one (x/2 ^ k)with h | h<;>rw[h]<;>rfl
theorem X1z(s:ByteArray)(i:Nat)(w:World)(hi:i<1000000000)(hs:i/8<s.size):Calls Tryz.prog 260 #[.string s,.int .i64 i] w fun e w'=>e= .returned (.bool (hasL s.data.toList i))∧w=w':=by
 have hq2:(i:Int)/8<s.size:=by omega
 have hx:=s[i/8].toNat_lt
 have he:s.data.toList[i/8]?.getD 0=s[i/8]:=by
  rw[List.getElem?_eq_getElem (show i/8<s.data.toList.length by rw[Array.length_toList];exact hs)]
  simp[ByteArray.getElem_eq_getElem_data]
 have HE:Hid ((bits .and .u8 ((s[i/8].toNat:Int)/2 ^ (i%8)) 1==1)=hasL s.data.toList i):=by
  unfold Hid hasL
  rw[he]
  have e1:(s[i/8].toNat:Int)/2 ^ (i%8)=((s[i/8].toNat/2 ^ (i%8):Nat):Int):=by simp
  rw[e1,and1 _ (Nat.lt_of_le_of_lt (Nat.div_le_self _ _) hx)]
  exact X1b _ _
 clear he hx
 go_enter Tryz.func260,Tryz.ntmps260
 go_wp2_with fail
 go_ret
 exact⟨by rw[←HE.out];rfl,rfl⟩
theorem Y1v(s:ByteArray)(i:Nat)(b:Bool)(w:World)(hi:i<1000000000)(hs:i/8<s.size)(hbig:s.size≤1000000000):Calls Tryz.prog 115 #[.string s,.int .i64 i,.bool b] w fun e w'=>e= .returned (.tuple #[.string (bts (Z6l s.data.toList i b)),.bool true])∧Ext w w':=by
 have hq2:(i:Int)/8<s.size:=by omega
 have hl:s.data.toList.length=s.size:=by rw[Array.length_toList];rfl
 obtain⟨l,hl0⟩:∃l,s.data.toList=l:=⟨_,rfl⟩
 obtain⟨c,w1,hc,hB,hx,hz⟩:=X4x w s
 rw[hl0]at hl hB
 rw[hl0]
 obtain⟨x,hxx⟩:∃x,l[i/8]? =some x:=⟨_,List.getElem?_eq_getElem (by omega)⟩
 obtain⟨hk,hx2⟩:=List.getElem?_eq_some_iff.1 hxx
 have hcl:=hB.cell (i/8) hk
 have hfl:=hB.soft (i/8) hk
 rw[hx2]at hcl
 have HB:=hD (hB.set (i/8) hk (bitU x (i%8) b))
 have HW:Hid (Z6l l i b=l.set (i/8) (bitU x (i%8) b)):=by unfold Hid Z6l;rw[hxx];rfl
 rw[HW.out]
 have hxn:=x.toNat_lt
 have hp:=X9x (i%8) (Nat.mod_lt _ (by decide))
 have HX:=hD hx
 obtain⟨y,hy⟩:∃y,bitU x (i%8) b=y:=⟨_,rfl⟩
 have HY:Hid (∀z:UInt8,z=bitU x (i%8) b→z=y):=fun z h=>by rw[h,hy]
 have e0:(2:Int) ^ (i%8)%256=((2 ^ (i%8):Nat):Int):=by
  have h3:((2 ^ (i%8):Nat):Int)=2 ^ (i%8):=by simp
  rw[←h3]
  exact Int.emod_eq_of_lt (Int.natCast_nonneg _) (Int.ofNat_lt.2 (show 2 ^ (i%8)<256 by omega))
 have HL2:Hid (l.length=s.size):=hl
 rw[hy]at HB
 rw[hy]
 clear hB hx hl0 hxx hx2
 cases b
 ·have hv:bits .andNot .u8 (x.toNat:Int) (2 ^ (i%8)%256)=(y.toNat:Int):=by
   rw[e0]
   have h1:=u8_andNot_nat x.toNat (2 ^ (i%8)) hxn (by omega)
   rw[h1,←hy]
   unfold bitU
   rw[if_neg (by decide),Z2c (Nat.lt_of_le_of_lt Nat.and_le_left (by omega))]
  clear hy e0
  go_enter Tryz.func115,Tryz.ntmps115
  go_wp2_with fail
  have hc2:=HB.out.text c s.size (by rw[List.length_set];exact HL2.out.symm)
  rw[hc2]
  simp only[Result.andThen]
  rw[Oper.upon_value]
  go_wp2_with fail
  go_ret2
  exact⟨rfl,by exact Xx (HX.out)⟩
 ·have hv:bits .or .u8 (x.toNat:Int) (2 ^ (i%8)%256)=(y.toNat:Int):=by
   rw[e0]
   have h1:=u8_or_nat x.toNat (2 ^ (i%8)) hxn (by omega)
   have h2:x.toNat ||| 2 ^ (i%8)<2 ^ 8:=Nat.or_lt_two_pow (by omega) (by omega)
   rw[h1,←hy]
   unfold bitU
   rw[if_pos rfl,Z2c (by omega)]
  clear hy e0
  go_enter Tryz.func115,Tryz.ntmps115
  go_wp2_with fail
  have hc2:=HB.out.text c s.size (by rw[List.length_set];exact HL2.out.symm)
  rw[hc2]
  simp only[Result.andThen]
  rw[Oper.upon_value]
  go_wp2_with fail
  go_ret2
  exact⟨rfl,by exact Xx (HX.out)⟩
def lowL(l:List UInt8)(a b:Nat):Option Nat:=(List.range b).find? fun j=>decide (a≤j)&& !hasL l j
theorem V0w{l:List UInt8}{a b i:Nat}(h1:a≤i)(h2:i<b)(h3:hasL l i=false)(h4:∀j,a≤j→j<i→hasL l j=true):lowL l a b=some i:=by
 unfold lowL
 rw[List.find?_range_eq_some]
 refine⟨by simp[h1,h3],by simpa using h2,fun j hj=> ?_⟩
 by_cases h:a≤j
 ·simp[h4 j h hj]
 ·simp[h]
theorem Y9y{l:List UInt8}{a b:Nat}(h4:∀j,a≤j→j<b→hasL l j=true):lowL l a b=none:=by
 unfold lowL
 rw[List.find?_eq_none]
 intro j hj
 simp only[List.mem_range]at hj
 by_cases h:a≤j
 ·simp[h4 j h hj]
 ·simp[h]
theorem V6z:∀k,k<8→(255:Nat).testBit k=true:=by decide
theorem X6r(s:ByteArray)(a b:Nat)(w:World)(hs:s.size≤100000000)(hb:b≤8*s.size)(ha:0<a):Calls Tryz.prog 215 #[.string s,.int .i64 a,.int .i64 b] w fun e w'=>e= .returned (.tuple #[.int .i64 ((lowL s.data.toList a b).getD 0),.bool (lowL s.data.toList a b).isSome])∧w=w':=by
 obtain⟨l,hl0⟩:∃l,s.data.toList=l:=⟨_,rfl⟩
 have HG:Hid (∀i (h:i/8<s.size),l[i/8]?.getD 0=s[i/8]):=fun i h=>by
  subst hl0
  rw[List.getElem?_eq_getElem (show i/8<s.data.toList.length by rw[Array.length_toList];exact h)]
  simp[ByteArray.getElem_eq_getElem_data]
 have HH:Hid (∀(i:Nat) (W:World),i<1000000000→i/8<s.size→Calls Tryz.prog 260 #[.string s,.int .i64 i] W fun e w'=>e= .returned (.bool (hasL l i))∧W=w'):=fun i W h1 h2=>by
  have:=X1z s i W h1 h2
  rwa [hl0]at this
 rw[hl0]
 obtain⟨R,hR⟩:∃R,lowL l a b=R:=⟨_,rfl⟩
 have HR:=hD hR
 rw[hR]
 clear hR hl0
 have q0:¬(a:Int)<0:=by omega
 have q00:(0:Int)<a:=by omega
 by_cases hab:a<b
 case neg=>
  have q1:decide ((a:Int)<b)=false:=decide_eq_false (by omega)
  have HN:Hid (R=none):=by unfold Hid;rw[←HR.out];exact Y9y (fun j h1 h2=>by omega)
  go_enter Tryz.func215,Tryz.ntmps215
  go_wp2_with fail
  go_loopw [8] (fun i wr=>i= .int .i64 a∧w=wr) (fun _ _=>0)
  case atStart=>exact⟨rfl,rfl⟩
  case round=>
   obtain⟨rfl,rfl⟩:=hrel
   go_wp2_with fail
   go_ret2
   rw[HN.out]
   exact⟨rfl,rfl⟩
 go_enter Tryz.func215,Tryz.ntmps215
 go_wp2_with fail
 go_loopw [8] (fun i wr=>∃k:Nat,i= .int .i64 k∧a≤k∧k≤b+7∧Hid (∀j,a≤j→j<k→hasL l j=true)∧w=wr) (fun i _=>b-(intOf i).toNat)
 case atStart=>exact⟨a,rfl,Nat.le_refl _,by omega,fun j h1 h2=>by omega,rfl⟩
 case round=>
  obtain⟨k,rfl,hk1,hk2,hk3,rfl⟩:=hrel
  by_cases hq:k<b
  ·have q1:decide ((k:Int)<b)=true:=decide_eq_true (by omega)
   have q2:decide ((k:Int)/8<s.size)=true:=decide_eq_true (by omega)
   have q2':(k:Int)/8<s.size:=by omega
   have h8:k/8<s.size:=by omega
   obtain⟨x,hx⟩:∃x,s[k/8]=x:=⟨_,rfl⟩
   have HX:Hid (l[k/8]?.getD 0=x):=(HG.out k h8).trans hx
   have cH:=HH.out k w (by omega) h8
   by_cases hf:k%8=0∧x.toNat=255
   ·obtain⟨hf1,hf2⟩:=hf
    have q3:((k:Int)%8==0)=true:=by simp;omega
    have q4:((x.toNat:Int)==255)=true:=by simp;omega
    have HK:Hid (∀j,a≤j→j<k+7+1→hasL l j=true):=fun j h1 h2=>by
     by_cases hj:j<k
     ·exact hk3.out j h1 hj
     ·unfold hasL
      rw[show j/8=k/8 by omega,HX.out,hf2]
      exact V6z _ (Nat.mod_lt _ (by decide))
    go_wp2_with fail
    go_roundw
    case rel=>exact⟨k+7+1,by go_num,by omega,by omega,HK,trivial⟩
    case measure=>simp[intOf];omega
   ·obtain⟨b3,hb3⟩:∃b3,((k:Int)%8==0)=b3:=⟨_,rfl⟩
    have q4:b3=true→((x.toNat:Int)==255)=false:=fun h=>by
     subst h
     have:=eq_of_beq hb3
     simp;omega
    obtain⟨bh,hbh⟩:∃bh,hasL l k=bh:=⟨_,rfl⟩
    rw[hbh]at cH
    cases bh
    ·have HS:Hid (R=some k):=by unfold Hid;rw[←HR.out];exact V0w hk1 hq hbh hk3.out
     cases b3
     ·go_wp2_with (go_at_call 260;refine cH.mono ?_;clear cH;rintro e w1 ⟨rfl,rfl⟩)
      go_ret2
      rw[HS.out]
      exact⟨rfl,rfl⟩
     ·have q4:=q4 rfl
      go_wp2_with (go_at_call 260;refine cH.mono ?_;clear cH;rintro e w1 ⟨rfl,rfl⟩)
      go_ret2
      rw[HS.out]
      exact⟨rfl,rfl⟩
    ·have HK:Hid (∀j,a≤j→j<k+1→hasL l j=true):=fun j h1 h2=>by
      by_cases hj:j<k
      ·exact hk3.out j h1 hj
      ·obtain rfl:j=k:=by omega
       exact hbh
     cases b3
     ·go_wp2_with (go_at_call 260;refine cH.mono ?_;clear cH;rintro e w1 ⟨rfl,rfl⟩)
      go_roundw
      case rel=>exact⟨k+1,by go_num,by omega,by omega,HK,trivial⟩
      case measure=>simp[intOf];omega
     ·have q4:=q4 rfl
      go_wp2_with (go_at_call 260;refine cH.mono ?_;clear cH;rintro e w1 ⟨rfl,rfl⟩)
      go_roundw
      case rel=>exact⟨k+1,by go_num,by omega,by omega,HK,trivial⟩
      case measure=>simp[intOf];omega
  ·have q1:decide ((k:Int)<b)=false:=decide_eq_false (by omega)
   have HN:Hid (R=none):=by unfold Hid;rw[←HR.out];exact Y9y (fun j h1 h2=>hk3.out j h1 (by omega))
   go_wp2_with fail
   go_ret2
   rw[HN.out]
   exact⟨rfl,rfl⟩
theorem V2y(w:World):Calls Tryz.prog 114 #[.int .i64 2048] w fun e w'=>e= .returned (.string zeroB)∧Ext w w':=by
 go_enter Tryz.func114,Tryz.ntmps114
 go_wp2_with (at_make;refine Y1i _ rfl _ _ rfl 256 rfl rfl rfl rfl (by omega) ?_;intro w1 h1 hb1)
 have hc:=h1.text
 rw[Z8a]at hc
 go_wp2_with fail;(try (rw [hc];simp only[Result.andThen];rw[Oper.upon_value]))
 go_wp2_with fail
 go_ret
 exact⟨rfl,hb1⟩
def popN(n:Nat):Nat:=(List.range 8).countP fun i=>n.testBit i
theorem V9k(n:Nat):popN n≤8:=by
 have:=List.countP_le_length (p:=fun i=>n.testBit i) (l:=List.range 8)
 simpa [popN]using this
theorem V0n(c:UInt8)(w:World):Calls Tryz.prog 296 #[.int .u8 c.toNat] w fun e w'=>e= .returned (.int .i64 (popN c.toNat))∧w=w':=by
 have hc:(c.toNat:Int)<256:=by have:=c.toNat_lt;omega
 have hn:c.toNat<256:=c.toNat_lt
 generalize c.toNat=n at *
 go_enter Tryz.func296,Tryz.ntmps296
 go_wp2_with fail
 go_ret
 refine⟨Y2w ?_,rfl⟩
 unfold wrap64
 rw[←getElem!_pos]
 obtain⟨m,rfl⟩:∃m:Fin 256,n=m.val:=⟨⟨n,hn⟩,rfl⟩
 clear hn hc
 revert m
 decide +kernel
def Z5b(l:List UInt8):Nat:=(l.map fun c=>popN c.toNat).sum
theorem V3k(l:List UInt8):Z5b l≤8*l.length:=by
 induction l with
 | nil=>simp[Z5b]
 | cons c r ih=>
   have:=V9k c.toNat
   simp only[Z5b,List.map_cons,List.sum_cons,List.length_cons]at *
   omega
theorem Y4h(l:List UInt8)(k:Nat)(x:UInt8)(h:l[k]? =some x):Z5b (l.take (k+1))=Z5b (l.take k)+popN x.toNat:=by
 unfold Z5b
 rw[List.take_add_one,h,Option.toList_some,List.map_append,List.sum_append]
 simp
theorem V3j(s:ByteArray)(w:World)(hs:s.size≤100000000):Calls Tryz.prog 262 #[.string s] w fun e w'=>e= .returned (.int .i64 (Z5b s.data.toList))∧w=w':=by
 obtain⟨l,hl0⟩:∃l,s.data.toList=l:=⟨_,rfl⟩
 have hl:l.length=s.size:=by rw[←hl0,Array.length_toList];rfl
 have HC:Hid (∀k (h:k<s.size),l[k]? =some s[k]):=fun k h=>by subst hl0;rw[List.getElem?_eq_getElem (by omega)];simp[ByteArray.getElem_eq_getElem_data]
 have HB:Hid (∀k,Z5b (l.take k)≤8*s.size):=fun k=>by
  have h1:=V3k (l.take k)
  have h2:(l.take k).length≤l.length:=by simp;omega
  omega
 have HT:Hid (l.take s.size=l):=by unfold Hid;rw[←hl,List.take_length]
 rw[hl0]
 clear hl0 hl
 go_enter Tryz.func262,Tryz.ntmps262
 go_wp2_with fail
 go_loopw [3,7] (fun n v wr=>∃(k:Nat),n= .int .i64 (Z5b (l.take k))∧v= .int .i64 k∧k≤s.size∧w=wr) (fun _ v _=>s.size-(intOf v).toNat)
 case atStart=>exact⟨0,rfl,rfl,by omega,rfl⟩
 case round=>
  obtain⟨k,rfl,rfl,hk,rfl⟩:=hrel
  by_cases hq:k<s.size
  ·have hq3:(k:Int)<s.size:=by omega
   have HS:=hD (Y4h l k _ (HC.out k hq))
   have hb:=HB.out (k+1)
   obtain⟨c,hc⟩:∃c,s[k]=c:=⟨_,rfl⟩
   rw[hc]at HS
   obtain⟨x,hx⟩:∃x,Z5b (l.take k)=x:=⟨_,rfl⟩
   obtain⟨y,hy⟩:∃y,Z5b (l.take (k+1))=y:=⟨_,rfl⟩
   obtain⟨z,hz⟩:∃z,popN c.toNat=z:=⟨_,rfl⟩
   have cO:=V0n c w
   have HY:=hD hy
   have hs2:=HS.out
   rw[hx,hy,hz]at hs2
   rw[hz]at cO
   rw[hy]at hb
   rw[hx]
   have hsum:(x:Int)+z=y:=by omega
   clear hs2 hx hy hz HS
   go_wp2_with (go_at_call 296;refine cO.mono ?_;clear cO;rintro e w1 ⟨rfl,rfl⟩)
   go_roundw
   case rel=>exact⟨k+1,by rw[HY.out],by go_num,by omega,trivial⟩
   case measure=>simp[intOf];omega
  ·obtain rfl:k=s.size:=by omega
   go_wp2_with fail
   go_ret
   rw[HT.out]
   exact⟨rfl,rfl⟩
def Z2u(s f:ByteArray):Bool:=decide (f.size≤s.size)&&((s.extract 0 f.size).toList==f.toList)
theorem X5q(a b:List UInt8):Z2u (bts a) (bts b)=b.isPrefixOf a:=by
 rw[Bool.eq_iff_iff]
 unfold Z2u
 rw[ByteArray.toList_eq,ByteArray.toList_eq,Bool.and_eq_true,decide_eq_true_iff,beq_iff_eq,Z0h,Z0h,List.isPrefixOf_iff_prefix]
 have e:((bts a).extract 0 b.length).data.toList=a.take b.length:=by simp[bts]
 rw[e,Z1o,List.prefix_iff_eq_take]
 constructor
 ·rintro⟨_,h⟩;exact h.symm
 ·intro h
  have h2:=congrArg List.length h
  rw[List.length_take]at h2
  exact⟨by omega,h.symm⟩
theorem X8q(s f:ByteArray)(w:World):Calls Tryz.prog 73 #[.string s,.string f] w fun e w'=>e= .returned (.bool (Z2u s f))∧w=w':=by
 by_cases h:f.size≤s.size
 ·have q1:decide ((f.size:Int)≤s.size)=true:=decide_eq_true (by omega)
  have q2:(f.size:Int)≤s.size:=by omega
  have HU:Hid (Z2u s f=((s.extract 0 f.size).toList==f.toList)):=by unfold Hid Z2u;rw[decide_eq_true h,Bool.true_and]
  go_enter Tryz.func73,Tryz.ntmps73
  go_wp2_with fail
  go_ret
  exact⟨by rw[HU.out];rfl,rfl⟩
 ·have q1:decide ((f.size:Int)≤s.size)=false:=decide_eq_false (by omega)
  have HU:Hid (Z2u s f=false):=by unfold Hid Z2u;rw[decide_eq_false h,Bool.false_and]
  go_enter Tryz.func73,Tryz.ntmps73
  go_wp2_with fail
  go_ret
  exact⟨by rw[HU.out];rfl,rfl⟩
structure HeadD where
 seq:Nat
 used:Nat
 room:Nat
 pages:Nat
structure HeadOk (h:HeadD):Prop where
 seq:h.seq<18446744073709551616
 used:h.used<4294967296
 room:h.room<4294967296
 pages:h.pages<4294967296
def HeadD.cells(h:HeadD):List Value:= [.int .u64 h.seq,.int .i64 h.used,.int .i64 h.room,.int .i64 h.pages]
def HeadD.val(h:HeadD):Value:= .agg h.cells.toArray
def Z1f(h:HeadD):List UInt8:=Z0f h.seq 8++Z0f h.used 4++Z0f h.room 4++Z0f h.pages 4
def notL(l:List UInt8):List UInt8:=l.map fun b=>UInt8.ofNat (255-b.toNat)
theorem Z9m(h:HeadD):(Z1f h).length=20:=by simp[Z1f,Z0l]
theorem Y7i(l:List UInt8):(notL l).length=l.length:=by simp[notL]
theorem notA(l:List UInt8)(w:World)(hs:l.length≤1000000000):Calls Tryz.prog 204 #[.string (bts l)] w fun e w'=>e= .returned (.string (bts (notL l)))∧Ext w w':=by
 have:=V0p (bts l) w (by rw[Z0h];exact hs)
 rwa [Z1o]at this
theorem Y6j(h:HeadD)(w:World)(hh:HeadOk h):Calls Tryz.prog 159 #[.agg #[.int .u64 h.seq,.int .i64 h.used,.int .i64 h.room,.int .i64 h.pages]] w fun e w'=>e= .returned (.string (bts (Z1f h++notL (Z1f h))))∧Ext w w':=by
 obtain⟨h1,h2,h3,h4⟩:=hh
 have b1:bts (Z0f h.seq 8)++bts (Z0f h.used 4)=bts (Z0f h.seq 8++Z0f h.used 4):=Y1g _ _
 have b2:bts (Z0f h.seq 8++Z0f h.used 4)++bts (Z0f h.room 4)=bts (Z0f h.seq 8++Z0f h.used 4++Z0f h.room 4):=Y1g _ _
 have b3:bts (Z0f h.seq 8++Z0f h.used 4++Z0f h.room 4)++bts (Z0f h.pages 4)=bts (Z1f h):=Y1g _ _
 have b4:bts (Z1f h)++bts (notL (Z1f h))=bts (Z1f h++notL (Z1f h)):=Y1g _ _
 have s1:¬9223372036854775807<(bts (Z0f h.seq 8)).size+(bts (Z0f h.used 4)).size:=by rw[Z0h,Z0h,Z0l,Z0l];omega
 have s2:¬9223372036854775807<(bts (Z0f h.seq 8++Z0f h.used 4)).size+(bts (Z0f h.room 4)).size:=by rw[Z0h,Z0h,List.length_append,Z0l,Z0l,Z0l];omega
 have s3:¬9223372036854775807<(bts (Z0f h.seq 8++Z0f h.used 4++Z0f h.room 4)).size+(bts (Z0f h.pages 4)).size:=by rw[Z0h,Z0h,List.length_append,List.length_append,Z0l,Z0l,Z0l,Z0l];omega
 have s4:¬9223372036854775807<(bts (Z1f h)).size+(bts (notL (Z1f h))).size:=by rw[Z0h,Z0h,Y7i,Z9m];omega
 have c1:Hid (∀W,Calls Tryz.prog 203 #[.int .u64 h.seq,.int .i64 8] W fun e w'=>e= .returned (.string (bts (Z0f h.seq 8)))∧Ext W w'):=fun W=>Z4t h.seq 8 (by omega) h1 W
 have c2:Hid (∀W,Calls Tryz.prog 203 #[.int .u64 h.used,.int .i64 4] W fun e w'=>e= .returned (.string (bts (Z0f h.used 4)))∧Ext W w'):=fun W=>Z4t h.used 4 (by omega) (by omega) W
 have c3:Hid (∀W,Calls Tryz.prog 203 #[.int .u64 h.room,.int .i64 4] W fun e w'=>e= .returned (.string (bts (Z0f h.room 4)))∧Ext W w'):=fun W=>Z4t h.room 4 (by omega) (by omega) W
 have c4:Hid (∀W,Calls Tryz.prog 203 #[.int .u64 h.pages,.int .i64 4] W fun e w'=>e= .returned (.string (bts (Z0f h.pages 4)))∧Ext W w'):=fun W=>Z4t h.pages 4 (by omega) (by omega) W
 have c5:=hD (fun W=>notA (Z1f h) W (by rw[Z9m];omega))
 obtain⟨f1,hf1⟩:∃f,bts (Z0f h.seq 8)=f:=⟨_,rfl⟩
 obtain⟨f2,hf2⟩:∃f,bts (Z0f h.used 4)=f:=⟨_,rfl⟩
 obtain⟨f3,hf3⟩:∃f,bts (Z0f h.room 4)=f:=⟨_,rfl⟩
 obtain⟨f4,hf4⟩:∃f,bts (Z0f h.pages 4)=f:=⟨_,rfl⟩
 obtain⟨f12,hf12⟩:∃f,bts (Z0f h.seq 8++Z0f h.used 4)=f:=⟨_,rfl⟩
 obtain⟨f123,hf123⟩:∃f,bts (Z0f h.seq 8++Z0f h.used 4++Z0f h.room 4)=f:=⟨_,rfl⟩
 obtain⟨fh,hfh⟩:∃f,bts (Z1f h)=f:=⟨_,rfl⟩
 obtain⟨fn,hfn⟩:∃f,bts (notL (Z1f h))=f:=⟨_,rfl⟩
 obtain⟨fz,hfz⟩:∃f,bts (Z1f h++notL (Z1f h))=f:=⟨_,rfl⟩
 rw[hf1]at b1 s1 c1
 rw[hf2]at b1 s1 c2
 rw[hf3]at b2 s2 c3
 rw[hf4]at b3 s3 c4
 rw[hf12]at b1 b2 s2
 rw[hf123]at b2 b3 s3
 rw[hfh]at b3 b4 s4 c5
 rw[hfn]at b4 s4 c5
 rw[hfz]at b4 ⊢
 clear hf1 hf2 hf3 hf4 hf12 hf123 hfh hfn hfz
 obtain⟨sq,us,ro,pa⟩:=h
 dsimp only at *
 have u2:IntKind.u64.wrap (us:Int)=(us:Int):=by rw[IntKind.wrap_u64];omega
 have u3:IntKind.u64.wrap (ro:Int)=(ro:Int):=by rw[IntKind.wrap_u64];omega
 have u4:IntKind.u64.wrap (pa:Int)=(pa:Int):=by rw[IntKind.wrap_u64];omega
 have HKS:Hid (∀W,Ext (w.alloc (.cells #[.int .u64 sq,.int .i64 us,.int .i64 ro,.int .i64 pa] 170)) W→W.cell? ⟨w.heap.size,0,none⟩=some (.int .u64 sq)∧W.cell? ⟨w.heap.size,1,none⟩=some (.int .i64 us)∧W.cell? ⟨w.heap.size,2,none⟩=some (.int .i64 ro)∧W.cell? ⟨w.heap.size,3,none⟩=some (.int .i64 pa)):=fun W hW=>by
  have hr:=(Row1.made w 170 [.int .u64 sq,.int .i64 us,.int .i64 ro,.int .i64 pa]).ext hW (by simp)
  exact⟨hr.cell 0,hr.cell 1,hr.cell 2,hr.cell 3⟩
 have HX0:Hid (Ext (w.alloc (.cells #[.int .u64 sq,.int .i64 us,.int .i64 ro,.int .i64 pa] 170)) (w.alloc (.cells #[.int .u64 sq,.int .i64 us,.int .i64 ro,.int .i64 pa] 170))):=Ext.refl _
 go_enter Tryz.func159,Tryz.ntmps159
 go_upto_region 1 with fail
 refine wp_region_held_drew (S:=fun W=>W.cell? ⟨w.heap.size,0,none⟩=some (.int .u64 sq)∧W.cell? ⟨w.heap.size,1,none⟩=some (.int .i64 us)∧W.cell? ⟨w.heap.size,2,none⟩=some (.int .i64 ro)∧W.cell? ⟨w.heap.size,3,none⟩=some (.int .i64 pa)) (by kernel_rfl) (HKS.out _ (by exact Xx (HX0.out))) (fun hHeld=> ?_)
 refine' tk 0 ?_
 refine' tk 1 ?_
 refine' tk 3 ?_
 refine' tk 4 ?_
 refine' tk 5 ?_
 refine' tk 8 ?_
 refine' tk 9 ?_
 refine' tk 10 ?_
 refine' tk 13 ?_
 refine' tk 14 ?_
 refine' tk 15 ?_
 refine stp 2 (fun K hK=> ?_);go_simp
 refine(c1.out _).mono ?_
 rintro e w1 ⟨rfl,hb1⟩
 have HB:Hid (Ext (w.alloc (.cells #[.int .u64 sq,.int .i64 us,.int .i64 ro,.int .i64 pa] 170)) w1):=Ext.trans (by exact Xx (HX0.out)) hb1
 clear hb1
 (try dsimp only)
 (try go_simp)
 refine hK.out _ _ (HKS.out _ HB.out) (fun hHeld=> ?_)
 clear hK K
 refine pt ?_
 refine stp 6 (fun K hK=> ?_);go_simp
 refine(c2.out _).mono ?_
 rintro e w2 ⟨rfl,hb2⟩
 have HB:Hid (Ext (w.alloc (.cells #[.int .u64 sq,.int .i64 us,.int .i64 ro,.int .i64 pa] 170)) w2):=Ext.trans (by exact Xx (HB.out)) hb2
 clear hb2
 (try dsimp only)
 (try go_simp)
 refine hK.out _ _ (HKS.out _ HB.out) (fun hHeld=> ?_)
 clear hK K
 refine pt ?_
 refine' tk 7 ?_
 refine stp 11 (fun K hK=> ?_);go_simp
 refine(c3.out _).mono ?_
 rintro e w3 ⟨rfl,hb3⟩
 have HB:Hid (Ext (w.alloc (.cells #[.int .u64 sq,.int .i64 us,.int .i64 ro,.int .i64 pa] 170)) w3):=Ext.trans (by exact Xx (HB.out)) hb3
 clear hb3
 (try dsimp only)
 (try go_simp)
 refine hK.out _ _ (HKS.out _ HB.out) (fun hHeld=> ?_)
 clear hK K
 refine pt ?_
 refine' tk 12 ?_
 refine stp 16 (fun K hK=> ?_);go_simp
 refine(c4.out _).mono ?_
 rintro e w4 ⟨rfl,hb4⟩
 have HB:Hid (Ext (w.alloc (.cells #[.int .u64 sq,.int .i64 us,.int .i64 ro,.int .i64 pa] 170)) w4):=Ext.trans (by exact Xx (HB.out)) hb4
 clear hb4
 (try dsimp only)
 (try go_simp)
 refine hK.out _ _ (HKS.out _ HB.out) (fun hHeld=> ?_)
 clear hK K
 refine pt ?_
 refine' tk 17 ?_
 refine' tk 18 ?_
 refine wpAnyH_done (by kernel_rfl) ?_ _
 go_wp2_with (go_at_call 204;refine(c5.out _).mono ?_;rintro e w5 ⟨rfl,hb5⟩)
 go_ret
 exact⟨rfl,Ext.trans (Ext.trans (by exact Xt) HB.out) (Ext.trans (by exact Xt) hb5)⟩
end Go.Proofs.YtmiolpfanlpfnaaGreat
