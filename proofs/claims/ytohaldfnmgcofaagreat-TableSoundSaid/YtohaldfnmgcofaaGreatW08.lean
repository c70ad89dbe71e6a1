/- journal.heads, Blocks, full. Conditions: numbers and lengths. -/
import Derived.Test.YtohaldfnmgcofaaGreatW07
set_option maxRecDepth 100000
set_option maxHeartbeats 4000000
set_option linter.unusedSimpArgs false
set_option linter.unusedVariables false
namespace Go.Proofs.YtohaldfnmgcofaaGreat
open Go.RowKit
def hdsN(n:Nat):Nat:=(4*n+259)/256
theorem Y6k(n:Nat)(w:World)(hn:n<=1000000):Calls Tryz.prog 164 #[.int .i64 n] w fun e w'=>e= .returned (.int .i64 (hdsN n))/\w=w':=by
 have HH:Hid (((4*(n:Int)+4+256-1)/256:Int)=(hdsN n:Int)):=by unfold Hid hdsN;omega
 go_enter Tryz.func164,Tryz.ntmps164;go_wp2_with fail;go_ret;refine⟨?_,rfl⟩;exact congrArg (fun x=>Ending.returned (Value.int .i64 x)) HH.out
theorem X2e(n:Nat)(w:World)(hn:n<=1000000):Calls Tryz.prog 162 #[.int .i64 n] w fun e w'=>e= .returned (.int .i64 ((hdsN n+n:Nat):Int))/\w=w':=by
 have c1:=Y6k n w hn;obtain⟨h,hh⟩:∃h,hdsN n=h:=⟨_,rfl⟩;have hh2:h<=1000000:=by unfold hdsN at hh;omega
 rw[hh]at c1 ⊢;clear hh;go_enter Tryz.func162,Tryz.ntmps162;go_wp2_with (go_at_call 164;refine c1.mono ?_;clear c1;rintro e w1 ⟨rfl,rfl⟩);go_ret;refine⟨?_,rfl⟩;exact congrArg (fun x=>Ending.returned (Value.int .i64 x)) (by omega)
theorem X0m(s:ByteArray)(w:World)(hs:s.size<=256):Calls Tryz.prog 233 #[.string s] w fun e w'=>e= .returned (.string (padB s))/\Ext w w':=by
 obtain⟨k,hk⟩:∃k:Nat,k=256-s.size:=⟨_,rfl⟩;have u1:IntKind.i64.wrap ((256:Int)-s.size)=(k:Int):=by rw[IntKind.wrap_i64];omega
 have hkl:k<=256:=by omega
 have HPB:=hD (Y2r s k hk hs);have hq:¬9223372036854775807<s.size+(bts (List.replicate k 0)).size:=by rw[Z0h,List.length_replicate];omega
 clear hk;obtain⟨w2,hrun,ho2,hb2⟩:=Y9k w k (by omega);have hc2:Sem.run Tryz.prog (convert 106 9 (.slice (some ⟨w.heap.size,0,none⟩) k k)) w2=_:=ho2.text;have HB:=hD hb2;clear ho2 hb2;go_enter Tryz.func233,Tryz.ntmps233;go_wp2_with fail;go_ret;exact⟨by rw[HPB.out];rfl,HB.out⟩
theorem MapI.alloc'{α:Type}{enc:α->Value}{f:Int->Option α}{w:World}{k:TypeId}{b n:Nat}(h:MapI w k b n enc f)(o:Obj):MapI (w.alloc o) k b n enc f:=h.ext (Ext.alloc w o)
def X0c:Int->Option ByteArray:=fun _=>none
theorem X6m{g:Nat}{F:Nat->Prop}{D:DiskD}(h:HeadD)(w:World)(hd:DiskAt w g F D)(hde:D.dead=false)(hN:2<=D.blocks.length)(jH:∀i,i<2->X5u D.blocks.length (Z0y D i))(hnew:Y1i D=(h,true))(hu:h.used=0):
  Calls Tryz.prog 57 #[.pointer (some ⟨g,0,none⟩)] w fun e w'=>∃s F',e= .returned (.tuple #[.pointer (some ⟨s,0,none⟩),.int .i64 0])/\StoreAt w' s F' ⟨D,h,X0c,false⟩/\Keeps F F' w w'/\w.heap.size<=s:=by
 have hok:=Y8q D jH 2 (by omega);have hn2:Z3t D 2=(h,true):=hnew;rw[hn2]at hok;have hfit:=hok.2 rfl;have cN:=X7e w hd hde hN jH (fun i=>Y5d hd.wf i);have he:Y4h D=0:=by unfold Y4h;rw[hnew];rfl
 rw[he,hnew]at cN;have HD:=hD hd;obtain⟨s,us,ro,pa⟩:=h;dsimp only at hu;subst hu;have cN:Calls Tryz.prog 116 #[.pointer (some ⟨g,0,none⟩)] w fun e w'=>e= .returned (.tuple #[.agg #[.int .u64 s,.int .i64 0,.int .i64 ro,.int .i64 pa],.int .i64 0])/\Ext w w':=cN;have HF:=hD hfit;clear hd hnew hn2 hok he hfit;have hmm:= @run_makeMap Tryz.prog;go_enter Tryz.func57,Tryz.ntmps57;go_wp2_with (go_at_call 116;refine cN.mono ?_;clear cN;rintro e w1 ⟨rfl,hb1⟩)
 go_ret2
 have hz:=hb1.size;have hE1:Ext w (w1.alloc (.cells #[.int .u64 s,.int .i64 0,.int .i64 ro,.int .i64 pa] 207)):=by exact Xx (hb1)
 generalize hw2:w1.alloc (.cells #[.int .u64 s,.int .i64 0,.int .i64 ro,.int .i64 pa] 207)=w2 at *;have hz2:w2.heap.size=w1.heap.size+1:=by rw[<-hw2];simp
 rw[<-hz2];have hm:=((MapI.made w2 3 encB).alloc' (.cells #[.pointer (some ⟨g,0,none⟩),.int .u64 s,.int .i64 0,.int .i64 ro,.int .i64 pa,.map (some w2.heap.size),.bool false] 212)).mono (m:=1024) (by omega);have hX:Ext w ((w2.alloc (.map #[] 0)).alloc (.cells #[.pointer (some ⟨g,0,none⟩),.int .u64 s,.int .i64 0,.int .i64 ro,.int .i64 pa,.map (some w2.heap.size),.bool false] 212)):=by have:=hE1.size;exact Xx (hE1)
 refine⟨w2.heap.size+1,fun i=>F i\/w2.heap.size<=i,rfl,⟨g,w2.heap.size,Row1.made' (by simp) _ _,(HD.out.ext hX).mono (fun i q=> .inl q),hm,.inr (by omega),.inr (by omega),⟨HF.out,fun x b hb=>by cases hb⟩⟩,⟨by rw[<-hw2]at hX ⊢;exact Only.of hX,fun i q=>by
  rcases q with q | q
  ·exact .inl q
  ·exact .inr (by have:=hE1.size;omega)⟩,by have:=hE1.size;omega⟩
end Go.Proofs.YtohaldfnmgcofaaGreat
