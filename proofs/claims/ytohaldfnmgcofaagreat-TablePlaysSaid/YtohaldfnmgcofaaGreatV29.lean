/- table.Put of an operation that is none: its fault is told, and nothing is turned. Conditions: a table. -/
import Derived.Test.YtohaldfnmgcofaaGreatV28
set_option maxRecDepth 100000
set_option maxHeartbeats 4000000
set_option linter.unusedSimpArgs false
set_option linter.unusedVariables false
namespace Go.Proofs.YtohaldfnmgcofaaGreat
open Go.RowKit
theorem X5b{tb p:Nat}{ts:Nat->Nat}{F:Nat->Prop}(o:OpD)(w:World)(ht:TblAt w tb p ts F)(ho:Z1z o≠0)(hr:In64 o.result):
  Calls Tryz.prog 69 #[.pointer (some ⟨tb,0,none⟩),o.val] w fun e w'=>e= .returned (.int .i64 (Z1z o))/\Ext w w':=by
 obtain⟨W0,hW0⟩:∃W0,w.alloc (.cells #[.int .i64 o.id,.int .i64 o.proc,.int .i64 o.object,.int .i64 o.kind,.int .i64 o.method,.int .i64 o.arg,.int .i64 o.second,.bool o.done,.int .i64 o.result,.int .i64 o.invoke,.int .i64 o.ret] 73)=W0:=⟨_,rfl⟩;have HX0:Hid (Ext w W0):=by unfold Hid;rw[<-hW0];exact Ext.alloc _ _
 have HR0:Hid (Row1 W0 w.heap.size 73 o.cells):=by unfold Hid;rw[<-hW0];exact Row1.made w _ _
 have cE:Hid (∀W,Calls Tryz.prog 131 #[.agg #[.int .i64 o.id,.int .i64 o.proc,.int .i64 o.object,.int .i64 o.kind,.int .i64 o.method,.int .i64 o.arg,.int .i64 o.second,.bool o.done,.int .i64 o.result,.int .i64 o.invoke,.int .i64 o.ret]] W fun e w'=>e= .returned (.tuple #[.string ⟨#[]⟩,.int .i64 (Z1z o)])/\Ext W w'):=fun W=>by have h1:=Z6u o W hr;rw[if_neg ho]at h1;exact h1
 have cM:Hid (∀W,Ext w W->Calls Tryz.prog 85 #[.pointer (some ⟨tb,0,none⟩)] W fun e w'=>e= .returned (.bool true)/\W=w'):=fun W hW=>Z3h W (ht.ext hW).row;obtain⟨c,hc⟩:∃c,Z1z o=c:=⟨_,rfl⟩;rw[hc]at cE ho ⊢;have q1:(c==0)=false:=by simpa using ho
 have q2:(c !=0)=true:=by simpa using ho
 clear hc ht hr;go_enter Tryz.func69,Tryz.ntmps69;go_upto_region 1 with fail;clear hW0;obtain⟨b0,b1,b2,b3,b4,b5,b6,b7,b8,b9,b10⟩:=At11.row HR0.out;go_wp2_with (first
  | (go_at_call 131;(with_reducible refine(cE.out _).mono ?_);clear cE;rintro e w1 ⟨rfl,hb1⟩;have b0:=(At11.row (HR0.out.ext hb1 HR0.out.lt)).1;have HB1:Hid (Ext w w1):=HX0.out.trans hb1;clear hb1)
  | (go_at_call 85;(with_reducible refine(cM.out _ HB1.out).mono ?_);clear cM;rintro e w2 ⟨rfl,rfl⟩))
 go_ret;exact⟨rfl,HB1.out⟩
def ltI:List Int->List Int->Bool
 | [],[]=>false
 | [],_::_=>true
 | _::_,[]=>false
 | x::a,y::b=>if x=y then ltI a b else decide (x<y)
theorem V0d:∀(a b:List Int),ltI a b=true↔a<b
 | [],[]=>by simp[ltI]
 | [],y::b=>by simp[ltI]
 | x::a,[]=>by simp[ltI]
 | x::a,y::b=>by
   unfold ltI;rw[List.cons_lt_cons_iff];by_cases e:x=y
   ·rw[if_pos e,V0d a b];subst e;constructor
    ·exact fun h=> .inr ⟨rfl,h⟩
    ·rintro(h | ⟨_,h⟩)
     ·omega
     ·exact h
   ·rw[if_neg e,decide_eq_true_iff];constructor
    ·exact fun h=> .inl h
    ·rintro(h | ⟨h,_⟩)
     ·exact h
     ·exact absurd h e
end Go.Proofs.YtohaldfnmgcofaaGreat
