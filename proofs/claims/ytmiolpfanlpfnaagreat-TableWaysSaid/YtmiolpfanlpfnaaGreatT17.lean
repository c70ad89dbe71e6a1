/- slices.Grow of nothing, slices.Concat of two lists of ints. Conditions: lists that are not too long. -/
import Derived.Test.YtmiolpfanlpfnaaGreatT13
set_option maxRecDepth 100000
set_option maxHeartbeats 4000000
set_option linter.unusedSimpArgs false
set_option linter.unusedVariables false
namespace Go.Proofs.YtmiolpfanlpfnaaGreat
open Go.RowKit
theorem X1e(w:World)(n:Nat)(h0:0<n)(hn:n≤1000000):∃(Gc:Nat) (w1:World) (zs:List Value),Hid (∀ty,(Builtin.append_ #[23,3] ty #[.slice none 0 0,.int .i64 (n:Int)]).run Tryz.prog w= .ok (.slice (some ⟨w.heap.size,0,none⟩) n Gc) w1)∧
  Row1 w1 w.heap.size 3 zs∧zs.length=Gc*1∧n≤Gc∧Gc≤9223372036854775807∧Ext w w1:=by
 obtain⟨i0,z,hi0,hz,hsize,hby,hzs⟩:=elInt.hi
 have hold:(Builtin.firstCells i0.size 0 (.slice none 0 0)).run Tryz.prog w.drew= .ok (#[]:Array Value) w.drew:=by simp[Builtin.firstCells]
 have h:=fun ty=>Lib.run_append_grow_zeros (P:=Tryz.prog) w 23 3 ty 3 i0 z .i64 .i64 Tryz.underlying23 Tryz.underlying3 hi0 hz none 0 0 [] hold n h0 (by rw[hsize];omega) (by omega) (by omega) (by rw[hby];omega) (growslice_fits (by omega) (by rw[hby];omega))
 have hg:=grownCap_ge w (0+n) 0 3
 have hm:=grownCap_le_maxLen w (0+n) 0 3 (by unfold maxLen;omega)
 obtain⟨Gc,hG⟩:∃Gc,grownCap w (0+n) 0 3=Gc:=⟨_,rfl⟩
 rw[hG]at h hg hm
 obtain⟨R,hR⟩:∃R:Array Value,(#[]:Array Value)++Builtin.zeroCells z.cells n++Builtin.zeroCells z.cells (Gc-(0+n))=R:=⟨_,rfl⟩
 have hRs:R.size=Gc*1:=by
  rw[←hR]
  simp[size_zeroCells,hzs]
  omega
 rw[show ([]:List Value).toArray= #[]from rfl,hR]at h
 refine⟨Gc,_,R.toList,fun ty=> ?_,Row1.made w.drew 3 R.toList,by rw[Array.length_toList];exact hRs,by omega,by simpa [maxLen]using hm,Below.alloc (Below.drew (Ext.refl w)) (Nat.le_refl _) _⟩
 have h2:=h ty
 rw[Nat.zero_add]at h2
 rw[h2]
theorem V0v(n:Nat)(w:World)(hn:n≤1000000):Calls Tryz.prog 300 #[.slice none 0 0,.int .i64 n] w fun e w'=>∃A c,e= .returned (.slice A 0 c)∧OwnL w' w.heap.size 3 1 encN (.slice A 0 c) []∧Ext w w':=by
 by_cases h0:n=0
 ·subst h0
  go_enter Tryz.func300,Tryz.ntmps300
  go_wp2_with fail
  go_ret
  exact⟨none,0,rfl,OwnL.nil _ _ _ _ _,Ext.refl w⟩
 ·obtain⟨Gc,w1,zs,hrun,hrow,hlen,hge,hle,hx⟩:=X1e w n (by omega) hn
  have q1:decide ((n:Int)<0)=false:=decide_eq_false (by omega)
  have q2:decide ((0:Int)<(n:Int))=true:=decide_eq_true (by omega)
  have q3:0<n:=by omega
  have HRUN:=hrun
  have HROW:=hD hrow
  have HX:=hD hx
  have HLEN:=hD hlen
  clear hrow hx hlen h0
  go_enter Tryz.func300,Tryz.ntmps300
  go_wp2_with (at_builtin;go_loud (refine Z1x rfl (.tmp 20) (.tmp 21) 23 3 rfl (.slice none 0 0) (.int .i64 (n:Int)) (by simp[Act.eval,Act.put]) (by simp[Act.eval,Act.put]) (HRUN.out _) ?_))
  go_ret
  refine⟨_,_,rfl,OwnL.ofRow (k:=1) (l:= []) (spare:=zs) HROW.out (Nat.le_refl _) (Nat.zero_le _) hle HLEN.out Z0l,HX.out⟩
theorem X3v{w:World}{v:Value}{l:List Int}{base:Nat}(h:OwnL w base 3 1 encN v l):∃A c,v= .slice A l.length c∧∀W,Ext w W→Src W A l.length 1 (l.flatMap encN):=by
 obtain⟨A,c,rfl⟩:=h.form
 exact⟨A,c,rfl,fun W hW=>Src.sl Z0l (by decide) (fun _ _ q=>q) (OwnL.sl (R:=fun x cs=>cs=encN x) Z0l (fun _=>rfl) (h.ext hW))⟩
def V6n(l0 l1:List Int)(q:Nat):List Int:=if q=0 then []else if q=1 then l0 else l0++l1
theorem V6l{v0 v1:Value}{l0 l1:List Int}{b0 b1:Nat}(G:Nat)(w:World)(h0:OwnL w b0 3 1 encN v0 l0)(h1:OwnL w b1 3 1 encN v1 l1)(hG:Row1 w G 23 [v0,v1])(hl:l0.length+l1.length≤100000):
  Calls Tryz.prog 271 #[.slice (some ⟨G,0,none⟩) 2 2] w fun e w'=>∃v',e= .returned v'∧OwnL w' w.heap.size 3 1 encN v' (l0++l1)∧Ext w w':=by
 obtain⟨A0,c0,rfl,hs0⟩:=X3v h0
 obtain⟨A1,c1,rfl,hs1⟩:=X3v h1
 have HS0:=hD hs0
 have HS1:=hD hs1
 have HG:=hD hG
 obtain⟨n0,hn0⟩:∃n,l0.length=n:=⟨_,rfl⟩
 obtain⟨n1,hn1⟩:∃n,l1.length=n:=⟨_,rfl⟩
 have HN0:=hD hn0
 have HN1:=hD hn1
 rw[hn0]at HS0 HG hl
 rw[hn1]at HS1 HG hl
 have HGR:Hid (∀W,Ext w W→W.cell? ⟨G,0,none⟩=some (.slice A0 n0 c0)∧W.cell? ⟨G,1,none⟩=some (.slice A1 n1 c1)):=fun W hW=>⟨(HG.out.ext hW HG.out.lt).cell 0,(HG.out.ext hW HG.out.lt).cell 1⟩
 clear h0 h1 hG hs0 hs1 hn0 hn1
 go_enter Tryz.func271,Tryz.ntmps271
 go_wp2_with fail
 obtain⟨x0,x1⟩:=HGR.out w (Ext.refl w)
 go_loop [3,11] (fun s x=>(s= .int .i64 0∧x= .int .i64 0)∨(s= .int .i64 n0∧x= .int .i64 1)∨(s= .int .i64 ((n0:Int)+n1)∧x= .int .i64 2)) (fun _ x=>2-(intOf x).toNat)
 case atStart=>exact .inl ⟨rfl,rfl⟩
 case round=>
  rcases hrel with ⟨rfl,rfl⟩ | ⟨rfl,rfl⟩ | ⟨rfl,rfl⟩
  ·go_wp2_with fail
   go_round
   case rel=>exact .inr (.inl ⟨by simp,rfl⟩)
   case measure=>simp[intOf]
  ·have q1:decide (((n0:Int)+n1)<0)=false:=decide_eq_false (by omega)
   go_wp2_with fail
   go_round
   case rel=>exact .inr (.inr ⟨rfl,rfl⟩)
   case measure=>simp[intOf]
  ·have cG:=V0v (n0+n1) w (by omega)
   rw[Int.natCast_add]at cG
   have hlb:n0+n1≤100000:=hl
   go_wp2_with (go_at_call 300;(with_reducible refine cG.mono ?_);clear cG;rintro e w2 ⟨A2,c2,rfl,ho2,hx2⟩;have HO2:=hD ho2;have HX2:=hD hx2;clear ho2 hx2)
   go_loopw [6,27] (fun v x wr=>∃q:Nat,q≤2∧x= .int .i64 q∧Hid (OwnL wr w.heap.size 3 1 encN v (V6n l0 l1 q))∧Hid (Ext w wr)) (fun _ x _=>2-(intOf x).toNat)
   case atStart=>exact⟨0,by omega,rfl,HO2,HX2⟩
   case round=>
    obtain⟨q,hq,rfl,ho,hx⟩:=hrel
    obtain⟨y0,y1⟩:=HGR.out _ hx.out
    obtain⟨A3,c3,hv3⟩:=OwnL.form ho.out
    subst hv3
    have hz:=hx.out.size
    match q,hq with
    | 0,_=>
      have hk0:V6n l0 l1 0= []:=rfl
      rw[hk0]at ho
      have q5:((0:Nat):Int)=0:=rfl
      rw[q5,hk0]
      have e0:([]:List Int).length=0:=rfl
      rw[e0]
      have HO:=hD ho.out
      clear ho
      go_wp2_with (at_builtin;go_loud (refine Z4l elInt Z0l Z2n rfl (.tmp 31) (.tmp 32) rfl (.slice A3 0 c3) [] rfl HO.out hz A0 n0 c0 l0 rfl HN0.out.symm (HS0.out _ hx.out) (by have:=HN0.out;simp;omega) (by decide) ?_;intro A' c' w3 h2 h3))
      have HO3:=hD h2
      have HX3:Hid (Ext w w3):=HO.out.grown hx.out h3 (Nat.le_refl _)
      clear h2 h3
      go_roundw
      case rel=>exact⟨1,by omega,rfl,hD (by have:=HO3.out;rwa [List.nil_append]at this),HX3⟩
      case measure=>simp[intOf]
    | 1,_=>
      have hk0:V6n l0 l1 1=l0:=rfl
      rw[hk0]at ho
      have q5:((1:Nat):Int)=1:=rfl
      rw[q5,hk0,HN0.out]
      have HO:=hD ho.out
      rw[HN0.out]at HO
      clear ho
      go_wp2_with (at_builtin;go_loud (refine Z4l elInt Z0l Z2n rfl (.tmp 31) (.tmp 32) rfl (.slice A3 n0 c3) l0 rfl HO.out hz A1 n1 c1 l1 rfl HN1.out.symm (HS1.out _ hx.out) (by have:=HN0.out;have:=HN1.out;omega) (by decide) ?_;intro A' c' w3 h2 h3))
      have HO3:=hD h2
      have HX3:Hid (Ext w w3):=HO.out.grown hx.out h3 (Nat.le_refl _)
      clear h2 h3
      go_roundw
      case rel=>exact⟨2,by omega,rfl,hD (by have:=HO3.out;rwa [List.length_append]at this),HX3⟩
      case measure=>simp[intOf]
    | 2,_=>
      have hk0:V6n l0 l1 2=l0++l1:=rfl
      rw[hk0]at ho
      have q5:((2:Nat):Int)=2:=rfl
      rw[q5,hk0]
      have HO:=hD ho.out
      clear ho
      go_wp2_with fail
      go_ret
      exact⟨_,rfl,HO.out,hx.out⟩
end Go.Proofs.YtmiolpfanlpfnaaGreat
