/- table.Range, scan.Steps: the iterator that they make. What the closure gives where there is nothing to give. Conditions: a table's trees. -/
import Derived.Test.YtmiolpfanlpfnaaGreatP42
set_option maxRecDepth 100000
set_option maxHeartbeats 4000000
set_option linter.unusedSimpArgs false
set_option linter.unusedVariables false
namespace Go.Proofs.YtmiolpfanlpfnaaGreat
open Go.RowKit
def X1b(A:Option Addr)(n c:Nat)(pv:Option Addr)(way lo hi:Int)(w:World)(e:Ending)(w':World):Prop:=
 ∃bf ba bt bw bo,e= .returned (.func (.func 67) #[] #[.pointer (some ⟨bf,0,none⟩),.pointer (some ⟨ba,0,none⟩),.pointer (some ⟨bt,0,none⟩),.pointer (some ⟨bw,0,none⟩),.pointer (some ⟨bo,0,none⟩)])∧Ext w w'∧(w.heap.size≤bt∧w.heap.size≤bw∧w.heap.size≤bf∧w.heap.size≤ba∧w.heap.size≤bo)∧
  Row1 w' bt 26 [.pointer pv]∧Row1 w' bw 3 [.int .i64 way]∧Row1 w' bf 23 [.slice A n c]∧Row1 w' ba 3 [.int .i64 lo]∧Row1 w' bo 3 [.int .i64 hi]
theorem V0a{A:Option Addr}{n c:Nat}(pv:Option Addr)(way lo hi:Int)(w:World):
  Calls Tryz.prog 22 #[.pointer pv,.int .i64 way,.slice A n c,.int .i64 lo,.int .i64 hi] w (X1b A n c pv way lo hi w):=by
 have HR:Hid (∀W',W'=((((w.alloc (.cells #[.pointer pv] 26)).alloc (.cells #[.int .i64 way] 3)).alloc (.cells #[.slice A n c] 23)).alloc (.cells #[.int .i64 lo] 3)).alloc (.cells #[.int .i64 hi] 3)→X1b A n c pv way lo hi w (.returned (.func (.func 67) #[] #[.pointer (some ⟨w.heap.size+2,0,none⟩),.pointer (some ⟨w.heap.size+3,0,none⟩),.pointer (some ⟨w.heap.size,0,none⟩),.pointer (some ⟨w.heap.size+1,0,none⟩),.pointer (some ⟨w.heap.size+4,0,none⟩)])) W'):=by
  rintro W' rfl
  exact⟨w.heap.size+2,w.heap.size+3,w.heap.size,w.heap.size+1,w.heap.size+4,rfl,((((Ext.alloc _ _).trans (Ext.alloc _ _)).trans (Ext.alloc _ _)).trans (Ext.alloc _ _)).trans (Ext.alloc _ _),⟨by omega,by omega,by omega,by omega,by omega⟩,
   ((((Row1.made w _ [.pointer pv]).alloc _).alloc _).alloc _).alloc _,(((Row1.made' (by simp) _ [.int .i64 way]).alloc _).alloc _).alloc _,((Row1.made' (by simp) _ [.slice A n c]).alloc _).alloc _,(Row1.made' (by simp) _ [.int .i64 lo]).alloc _,Row1.made' (by simp) _ [.int .i64 hi]⟩
 go_enter Tryz.func22,Tryz.ntmps22
 go_wp2_with fail
 go_ret
 exact HR.out _ rfl
theorem X9f{A:Option Addr}{n c:Nat}(pv:Option Addr)(way lo hi cost:Int)(w:World):
  Calls Tryz.prog 31 #[.pointer pv,.agg #[.int .i64 way,.slice A n c,.int .i64 lo,.int .i64 hi,.int .i64 cost]] w (X1b A n c pv way lo hi w):=by
 have cR:Hid (∀W,Calls Tryz.prog 22 #[.pointer pv,.int .i64 way,.slice A n c,.int .i64 lo,.int .i64 hi] W (X1b A n c pv way lo hi W)):=fun W=>V0a pv way lo hi W
 obtain⟨W0,hW0⟩:∃W0,w.alloc (.cells #[.int .i64 way,.slice A n c,.int .i64 lo,.int .i64 hi,.int .i64 cost] 55)=W0:=⟨_,rfl⟩
 have HX0:Hid (Ext w W0):=by unfold Hid;rw[←hW0];exact Ext.alloc _ _
 have HR0:Row1 W0 w.heap.size 55 [.int .i64 way,.slice A n c,.int .i64 lo,.int .i64 hi,.int .i64 cost]:=by rw[←hW0];exact Row1.made w _ _
 obtain⟨c0,c1,c2,c3⟩:W0.cell? ⟨w.heap.size,0,none⟩=some (.int .i64 way)∧W0.cell? ⟨w.heap.size,1,none⟩=some (.slice A n c)∧W0.cell? ⟨w.heap.size,2,none⟩=some (.int .i64 lo)∧W0.cell? ⟨w.heap.size,3,none⟩=some (.int .i64 hi):=⟨HR0.cell 0,HR0.cell 1,HR0.cell 2,HR0.cell 3⟩
 clear HR0
 go_enter Tryz.func31,Tryz.ntmps31
 go_upto_region 1 with fail
 clear hW0
 go_wp2_with (go_at_call 22;(with_reducible refine(cR.out _).mono ?_);clear cR;rintro e w1 ⟨bf,ba,bt,bw,bo,rfl,hx1,hb,hr⟩;have HX1:=hD hx1;have HB:=hD hb;have HR:=hD hr;clear hx1 hb hr)
 go_ret
 have hz:=HX0.out.size
 exact⟨bf,ba,bt,bw,bo,rfl,HX0.out.trans HX1.out,⟨by have:=HB.out.1;omega,by have:=HB.out.2.1;omega,by have:=HB.out.2.2.1;omega,by have:=HB.out.2.2.2.1;omega,by have:=HB.out.2.2.2.2;omega⟩,HR.out⟩
end Go.Proofs.YtmiolpfanlpfnaaGreat
