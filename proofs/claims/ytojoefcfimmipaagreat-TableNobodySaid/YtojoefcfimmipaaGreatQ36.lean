/- No table: Get, Delete, Pages, Troubles. No conditions. -/
/- No table: Find, and what a statement finds. Conditions: numbers that ints hold. -/
/- No table: All, List. No conditions. -/
/- No pager: its root, a tree of it, a table of it. Conditions: none. -/
/- What a statement of layer 13 finds: its closure keeps operations. Conditions: sizes. -/
/- What is found by a way, as operations (plain law). No program. -/
/- table.Find's closure, with what a statement keeps as its yield. Conditions: a table's trees. -/
import Derived.Test.YtojoefcfimmipaaGreatQ35
import Derived.Test.YtojoefcfimmipaaGreatQ26
import Derived.Test.YtojoefcfimmipaaGreatQ03
import Derived.Test.YtojoefcfimmipaaGreatQ25
import Derived.Test.YtojoefcfimmipaaGreatQ31
import Derived.Test.YtojoefcfimmipaaGreatQ06
namespace Go.Proofs.YtojoefcfimmipaaGreat
set_option linter.unusedSimpArgs false
set_option linter.unusedVariables false
open Go.RowKit
theorem NoTbl.ext {w w' : World} {v : Value} (h : NoTbl w v) (hx : Ext w w') : NoTbl w' v := h.imp id (fun ⟨tb, h1, h2⟩ => ⟨tb, h1, h2.ext hx h2.lt⟩)
set_option maxRecDepth 100000 in
set_option maxHeartbeats 2000000 in
theorem tblGet_no (v : Value) (id : Int) (w : World) (hv : NoTbl w v) :
    Calls Tryz.prog 24 #[v, .int .i64 id] w fun e w' => e = .returned (.tuple #[.agg #[.int .i64 0, .int .i64 0, .int .i64 0, .int .i64 0, .int .i64 0, .int .i64 0, .int .i64 0, .bool false, .int .i64 0, .int .i64 0, .int .i64 0], .int .i64 3]) ∧ Ext w w' := by
  have cM : Hid (∀ W, Ext w W → Calls Tryz.prog 69 #[v] W fun e w' => e = .returned (.bool false) ∧ W = w') := fun W hW => tblMade_no W (hv.ext hW)
  obtain ⟨W0, hW0⟩ : ∃ W0, w.alloc (.cells #[.int .i64 0, .int .i64 0, .int .i64 0, .int .i64 0, .int .i64 0, .int .i64 0, .int .i64 0, .bool false, .int .i64 0, .int .i64 0, .int .i64 0] 53) = W0 := ⟨_, rfl⟩
  have HX0 : Hid (Ext w W0) := by unfold Hid; rw [← hW0]; exact Ext.alloc _ _
  have HR0 : Hid (Row1 W0 w.heap.size 53 [.int .i64 0, .int .i64 0, .int .i64 0, .int .i64 0, .int .i64 0, .int .i64 0, .int .i64 0, .bool false, .int .i64 0, .int .i64 0, .int .i64 0]) := by unfold Hid; rw [← hW0]; exact Row1.made w _ _
  obtain ⟨a0, a1, a2, a3, a4, a5, a6, a7, a8, a9, a10⟩ := cells11_row HR0.out
  obtain ⟨f0, f1, f2, f3, f4, f5, f6, f7, f8, f9, f10⟩ := soft11_row HR0.out
  clear hv
  go_enter Tryz.func24, Tryz.ntmps24
  go_upto_region 1 with fail
  clear hW0
  go_wp2_with (go_at_call 69; (with_reducible refine (cM.out _ HX0.out).mono ?_); clear cM; rintro e w1 ⟨rfl, rfl⟩)
  refine bodyPost_ret (res_op rfl _ _ w.heap.size opZero _ rfl rfl ?_) rfl ⟨rfl, ?_⟩
  · exact row_set11 HR0.out _ _ _ _ _ _ _ _ _ _ _
  · exact ext_set11 HX0.out (Nat.le_refl _) _ _ _ _ _ _ _ _ _ _ _
set_option maxRecDepth 100000 in
set_option maxHeartbeats 2000000 in
theorem tblDel_no (v : Value) (id : Int) (w : World) (hv : NoTbl w v) :
    Calls Tryz.prog 26 #[v, .int .i64 id] w fun e w' => e = .returned (.int .i64 3) ∧ Ext w w' := by
  have cG := tblGet_no v id w hv
  clear hv
  go_enter Tryz.func26, Tryz.ntmps26
  go_wp2_with (go_at_call 24; (with_reducible refine cG.mono ?_); clear cG; rintro e w1 ⟨rfl, hk1⟩; have HK1 := Lib.hid hk1; clear hk1)
  go_ret
  exact ⟨rfl, HK1.out.trans (Ext.alloc _ _)⟩
set_option maxRecDepth 100000 in
set_option maxHeartbeats 2000000 in
theorem tblPages_no (v : Value) (w : World) (hv : NoTbl w v) :
    Calls Tryz.prog 28 #[v] w fun e w' => e = .returned (.slice none 0 0) ∧ w = w' := by
  have cM := tblMade_no w hv
  clear hv
  go_enter Tryz.func28, Tryz.ntmps28
  go_wp2_with (go_at_call 69; (with_reducible refine cM.mono ?_); clear cM; rintro e w1 ⟨rfl, rfl⟩)
  go_ret
  exact ⟨rfl, rfl⟩
set_option maxRecDepth 100000 in
set_option maxHeartbeats 2000000 in
theorem tblTroubles_no (v : Value) (w : World) (hv : NoTbl w v) :
    Calls Tryz.prog 29 #[v] w fun e w' => e = .returned (.slice none 0 0) ∧ Ext w w' := by
  have cM := tblMade_no w hv
  have HV := Lib.hid hv
  clear hv
  go_enter Tryz.func29, Tryz.ntmps29
  go_wp2_with (go_at_call 69; (with_reducible refine cM.mono ?_); clear cM; rintro e w1 ⟨rfl, rfl⟩)
  go_ret
  exact ⟨rfl, by (repeat' (with_reducible first | exact Below.refl _ _ | refine Ext.drewN ?_ _ | refine Below.drew ?_ | refine Below.setCell ?_ ?_ _ | refine Below.alloc ?_ ?_ _)) <;> (first | omega | (simp; done) | (simp; omega))⟩
end Go.Proofs.YtojoefcfimmipaaGreat
namespace Go.Proofs.YtojoefcfimmipaaGreat
set_option linter.unusedSimpArgs false
set_option linter.unusedVariables false
open Go.RowKit
set_option maxRecDepth 100000 in
set_option maxHeartbeats 4000000 in
theorem findC_no {A : Option Addr} {n c bt bw bf : Nat} (v : Value) (way : Int) (l : List Int) (w : World) (y : Fn) (ya yb : Array Value) (hv : NoTbl w v) (h1 : w.cell? ⟨bt, 0, none⟩ = some v) (h2 : w.cell? ⟨bw, 0, none⟩ = some (.int .i64 way)) (h3 : w.cell? ⟨bf, 0, none⟩ = some (.slice A n c))
    (hbt : bt < w.heap.size) (hbw : bw < w.heap.size) (hbf : bf < w.heap.size) (hs : Sl w 1 (fun x cs => cs = encN x) (.slice A n c) l) (hl : ∀ x ∈ l, In64 x) (hn : n ≤ 1000000000000000000) :
    Calls Tryz.prog 133 #[.func y ya yb, .pointer (some ⟨bf, 0, none⟩), .pointer (some ⟨bt, 0, none⟩), .pointer (some ⟨bw, 0, none⟩)] w fun e w' => (∃ v, e = .returned v) ∧ Ext w w' := by
  have cM : Hid (∀ W, Ext w W → Calls Tryz.prog 69 #[v] W fun e w' => e = .returned (.bool false) ∧ W = w') := fun W hW => tblMade_no W (hv.ext hW)
  obtain ⟨s, ev, hof⟩ : ∃ s ev, OfR l = .tuple #[.string s, .int .i64 ev] := by unfold OfR; split <;> exact ⟨_, _, rfl⟩
  have cO : Hid (∀ W, Ext w W → Calls Tryz.prog 58 #[.slice A n c] W fun e w' => e = .returned (.tuple #[.string s, .int .i64 ev]) ∧ Ext W w') := fun W hW => by rw [← hof]; exact of_any l W (hs.ext hW) hl hn
  have HC : Hid (∀ W, Ext w W → W.cell? ⟨bt, 0, none⟩ = some v ∧ W.cell? ⟨bw, 0, none⟩ = some (.int .i64 way) ∧ W.cell? ⟨bf, 0, none⟩ = some (.slice A n c)) := fun W hW => ⟨(hW.cell (p := ⟨bt, 0, none⟩) hbt).trans h1, (hW.cell (p := ⟨bw, 0, none⟩) hbw).trans h2, (hW.cell (p := ⟨bf, 0, none⟩) hbf).trans h3⟩
  obtain ⟨W0, hW0⟩ : ∃ W0, w.alloc (.cells #[.func y ya yb] 101) = W0 := ⟨_, rfl⟩
  have HX0 : Hid (Ext w W0) := by unfold Hid; rw [← hW0]; exact Ext.alloc _ _
  obtain ⟨d1, d2, d3⟩ := HC.out _ HX0.out
  have hfm : (∃ tb, v = .pointer tb) := by rcases hv with rfl | ⟨tb, rfl, _⟩ <;> exact ⟨_, rfl⟩
  obtain ⟨pv, rfl⟩ := hfm
  clear hv hs hl hof h1 h2 h3
  go_enter Tryz.func133, Tryz.ntmps133
  go_upto_region 1 with fail
  clear hW0
  go_wp2_with (first
    | (go_at_call 58; (with_reducible refine (cO.out _ HX0.out).mono ?_); clear cO; rintro e w1 ⟨rfl, hb1⟩; have HB1 : Hid (Ext w w1) := HX0.out.trans hb1; clear hb1; obtain ⟨e1, e2, e3⟩ := HC.out _ (HB1.out.trans (Ext.alloc _ (.cells #[.string s] 9))))
    | (go_at_call 69; (with_reducible refine (cM.out _ (HB1.out.trans (Ext.alloc _ _))).mono ?_); clear cM; rintro e w2 ⟨rfl, rfl⟩))
  refine bodyPost_ret (results_none rfl _ _ _) rfl ?_
  exact ⟨⟨_, rfl⟩, HB1.out.trans (Ext.alloc _ _)⟩
theorem run_seqNe (f : Nat) (ya yb : Array Value) (W : World) : Sem.run Tryz.prog (binOp .eql 99 (.func (.func f) ya yb) .nilFunc) W = .ok (.bool false) W := by kernel_rfl
/-- what Find gives back: its closure, over three variables of its own -/
def FindR {A : Option Addr} {n c : Nat} (pv : Option Addr) (way : Int) (w : World) (e : Ending) (w' : World) : Prop :=
  ∃ bt bw bf, e = .returned (.func (.func 133) #[] #[.pointer (some ⟨bf, 0, none⟩), .pointer (some ⟨bt, 0, none⟩), .pointer (some ⟨bw, 0, none⟩)]) ∧ Ext w w' ∧ w.heap.size ≤ bt ∧ w.heap.size ≤ bw ∧ w.heap.size ≤ bf ∧
    Row1 w' bt 55 [.pointer pv] ∧ Row1 w' bw 3 [.int .i64 way] ∧ Row1 w' bf 54 [.slice A n c]
set_option maxRecDepth 100000 in
set_option maxHeartbeats 4000000 in
theorem find_any {A : Option Addr} {n c : Nat} (pv : Option Addr) (way : Int) (w : World) :
    Calls Tryz.prog 78 #[.pointer pv, .int .i64 way, .slice A n c] w (FindR (A := A) (n := n) (c := c) pv way w) := by
  have HR : Hid (∀ W', W' = ((w.alloc (.cells #[.pointer pv] 55)).alloc (.cells #[.int .i64 way] 3)).alloc (.cells #[.slice A n c] 54) → FindR (A := A) (n := n) (c := c) pv way w (.returned (.func (.func 133) #[] #[.pointer (some ⟨w.heap.size + 2, 0, none⟩), .pointer (some ⟨w.heap.size, 0, none⟩), .pointer (some ⟨w.heap.size + 1, 0, none⟩)])) W') := by
    rintro W' rfl
    exact ⟨w.heap.size, w.heap.size + 1, w.heap.size + 2, rfl, (Ext.alloc _ _).trans ((Ext.alloc _ _).trans (Ext.alloc _ _)), by omega, by omega, by omega, ((Row1.made w _ [.pointer pv]).alloc _).alloc _, (Row1.made' (by simp) _ [.int .i64 way]).alloc _, Row1.made' (by simp) _ [.slice A n c]⟩
  go_enter Tryz.func78, Tryz.ntmps78
  go_wp2_with fail
  go_ret
  exact HR.out _ rfl
set_option maxRecDepth 100000 in
set_option maxHeartbeats 4000000 in
theorem found_no {A : Option Addr} {n c : Nat} (v : Value) (way : Int) (l : List Int) (w : World) (hv : NoTbl w v) (hs : Sl w 1 (fun x cs => cs = encN x) (.slice A n c) l) (hl : ∀ x ∈ l, In64 x) (hn : n ≤ 1000000000000000000) :
    Calls Tryz.prog 30 #[v, .int .i64 way, .slice A n c, .int .i64 9] w fun e w' => e = .returned (.slice none 0 0) ∧ Ext w w' := by
  have hfm : (∃ tb, v = .pointer tb) := by rcases hv with rfl | ⟨tb, rfl, _⟩ <;> exact ⟨_, rfl⟩
  obtain ⟨pv, rfl⟩ := hfm
  have cF : Hid (∀ W, Calls Tryz.prog 78 #[.pointer pv, .int .i64 way, .slice A n c] W (FindR (A := A) (n := n) (c := c) pv way W)) := fun W => find_any pv way W
  have cC : Hid (∀ (bt bw bf : Nat) (y : Fn) (ya yb : Array Value) (W : World), Ext w W → Row1 W bt 55 [.pointer pv] → Row1 W bw 3 [.int .i64 way] → Row1 W bf 54 [.slice A n c] → Calls Tryz.prog 133 #[.func y ya yb, .pointer (some ⟨bf, 0, none⟩), .pointer (some ⟨bt, 0, none⟩), .pointer (some ⟨bw, 0, none⟩)] W fun e w' => (∃ v, e = .returned v) ∧ Ext W w') := fun bt bw bf y ya yb W hW h1 h2 h3 => findC_no (.pointer pv) way l W y ya yb (hv.ext hW) (h1.cell 0) (h2.cell 0) (h3.cell 0) h1.lt h2.lt h3.lt (hs.ext hW) hl hn
  clear hv hs hl
  obtain ⟨W0, hW0⟩ : ∃ W0, (w.alloc (.cells #[.int .i64 9] 3)).alloc (.cells #[.slice none 0 0] 64) = W0 := ⟨_, rfl⟩
  have HX0 : Hid (Ext w W0) := by unfold Hid; rw [← hW0]; exact (Ext.alloc _ _).trans (Ext.alloc _ _)
  have HR0 : Hid (Row1 W0 (w.heap.size + 1) 64 [.slice none 0 0]) := by unfold Hid; rw [← hW0]; exact Row1.made' (by simp) _ _
  have HR9 : Hid (Row1 W0 w.heap.size 3 [.int .i64 9]) := by unfold Hid; rw [← hW0]; exact (Row1.made w _ _).alloc _
  have hnf := fun (W : World) (ya yb : Array Value) => run_seqNe 133 ya yb W
  have c9 : W0.cell? ⟨w.heap.size, 0, none⟩ = some (.int .i64 9) := HR9.out.cell 0
  go_enter Tryz.func30, Tryz.ntmps30
  go_upto_region 2 with fail
  clear hW0
  go_wp2_with (first
    | (go_at_call 78; (with_reducible refine (cF.out _).mono ?_); clear cF; rintro e w1 ⟨bt, bw, bf, rfl, hx1, _, _, _, hr1, hr2, hr3⟩; have HX1 := Lib.hid hx1; have HR1 := Lib.hid hr1; have HR2 := Lib.hid hr2; have HR3 := Lib.hid hr3; clear hx1 hr1 hr2 hr3)
    | (go_at_call 133; (with_reducible refine (cC.out _ _ _ _ _ _ _ (HX0.out.trans HX1.out) HR1.out HR2.out HR3.out).mono ?_); clear cC; rintro e w2 ⟨⟨v2, rfl⟩, hx2⟩; have HX2 := Lib.hid hx2; clear hx2; have c0 : w2.cell? ⟨w.heap.size + 1, 0, none⟩ = some (.slice none 0 0) := (HR0.out.ext (HX1.out.trans HX2.out) HR0.out.lt).cell 0))
  go_ret
  exact ⟨rfl, (HX0.out.trans HX1.out).trans HX2.out⟩
end Go.Proofs.YtojoefcfimmipaaGreat
namespace Go.Proofs.YtojoefcfimmipaaGreat
set_option linter.unusedSimpArgs false
set_option linter.unusedVariables false
open Go.RowKit
attribute [local go_sem] Oper.semAt_some
theorem zip_one (p : Tmp) (v : Value) (t : Array Value) : (#[p].zip #[v]).foldl (fun t (p, v) => t.setIfInBounds p v) t = t.setIfInBounds p v := by simp
/-- what All gives back: its closure, over a variable of its own -/
def AllR (pv : Option Addr) (w : World) (e : Ending) (w' : World) : Prop :=
  ∃ bt, e = .returned (.func (.func 131) #[] #[.pointer (some ⟨bt, 0, none⟩)]) ∧ Ext w w' ∧ w.heap.size ≤ bt ∧ Row1 w' bt 55 [.pointer pv]
set_option maxRecDepth 100000 in
set_option maxHeartbeats 4000000 in
theorem tblAll_any (pv : Option Addr) (w : World) :
    Calls Tryz.prog 74 #[.pointer pv] w (AllR pv w) := by
  have HR : Hid (∀ W', W' = w.alloc (.cells #[.pointer pv] 55) → AllR pv w (.returned (.func (.func 131) #[] #[.pointer (some ⟨w.heap.size, 0, none⟩)])) W') := by
    rintro W' rfl
    exact ⟨w.heap.size, rfl, Ext.alloc _ _, Nat.le_refl _, Row1.made w _ [.pointer pv]⟩
  go_enter Tryz.func74, Tryz.ntmps74
  go_wp2_with fail
  go_ret
  exact HR.out _ rfl
def NoIt (bt : Nat) (pv : Option Addr) (F : Nat → Prop) (W : World) : Prop := Row1 W bt 55 [.pointer pv] ∧ NoTbl W (.pointer pv) ∧ ¬ F bt ∧ ∀ b, pv = some ⟨b, 0, none⟩ → ¬ F b
theorem NoIt.abides {bt B : Nat} {pv : Option Addr} (hb : bt < B) (hp : ∀ b, pv = some ⟨b, 0, none⟩ → b < B) : ItAbides B (NoIt bt pv) := fun F W W' h ho =>
  ⟨ho.row h.1 (fun q => by have := q.2; omega), h.2.1.imp id (fun ⟨tb, q1, q2⟩ => ⟨tb, q1, ho.row q2 (fun q => by have := hp tb (by injection q1); have := q.2; omega)⟩), h.2.2⟩
set_option maxRecDepth 100000 in
set_option maxHeartbeats 4000000 in
theorem allC_no {bt m : Nat} {pv : Option Addr} (w : World) :
    SeqO Fence.wide m Tryz.prog 131 #[.pointer (some ⟨bt, 0, none⟩)] (fun o : OpD => #[o.val]) (NoIt bt pv) (fun xs => xs = []) (fun _ => False) (fun _ _ => False) w := by
  intro l J Jx W F G hx hit hdis hJ hJx hY h0
  refine callsIn_wide.2 ?_
  have c0 : W.cell? ⟨bt, 0, none⟩ = some (.pointer pv) := hit.1.cell 0
  have cM : Hid (∀ W', Ext W W' → Calls Tryz.prog 69 #[.pointer pv] W' fun e w' => e = .returned (.bool false) ∧ W' = w') := fun W' hW => tblMade_no W' (hit.2.1.ext hW)
  have hbt := hit.1.lt
  have HEND : Hid (∀ W', Ext W W' → ∃ F2 G2, NoIt bt pv F2 W' ∧ Dis F2 G2 W' ∧ Keeps (Un F G) (Un F2 G2) W W' ∧ ((∃ xs, xs = [] ∧ J xs G2 W') ∨ (∃ pre, False ∧ Jx pre G2 W'))) := fun W' hW => ⟨F, G, ⟨hit.1.ext hW hit.1.lt, hit.2.1.ext hW, hit.2.2⟩, ⟨fun i q => Nat.lt_of_lt_of_le (hdis.1 i q) hW.size, fun i q => ⟨Nat.lt_of_lt_of_le (hdis.2 i q).1 hW.size, (hdis.2 i q).2⟩⟩, Keeps.of hW, .inl ⟨[], rfl, hJ _ _ _ _ h0 (fun i q => (hdis.2 i q).1) (Only.of hW)⟩⟩
  clear hx hit hdis hJ hJx hY h0
  go_enter Tryz.func131, Tryz.ntmps131
  go_wp2_with (go_at_call 69; (with_reducible refine (cM.out _ ?_).mono ?_); (· (repeat' (with_reducible first | exact Below.refl _ _ | refine Ext.drewN ?_ _ | refine Below.drew ?_ | refine Below.setCell ?_ ?_ _ | refine Below.alloc ?_ ?_ _)) <;> (first | omega | (simp; done) | (simp; omega))); clear cM; rintro e w2 ⟨rfl, rfl⟩)
  refine bodyPost_ret (results_none rfl _ _ _) rfl ?_
  exact ⟨⟨_, rfl⟩, HEND.out _ (by (repeat' (with_reducible first | exact Below.refl _ _ | refine Ext.drewN ?_ _ | refine Below.drew ?_ | refine Below.setCell ?_ ?_ _ | refine Below.alloc ?_ ?_ _)) <;> (first | omega | (simp; done) | (simp; omega)))⟩
set_option maxRecDepth 100000 in
set_option maxHeartbeats 4000000 in
theorem tblList_no (v : Value) (w : World) (hv : NoTbl w v) :
    Calls Tryz.prog 27 #[v] w fun e w' => e = .returned (.slice none 0 0) ∧ Ext w w' := by
  obtain ⟨pv, rfl⟩ : (∃ tb, v = .pointer tb) := by rcases hv with rfl | ⟨tb, rfl, _⟩ <;> exact ⟨_, rfl⟩
  refine callsIn_wide (n := 3).1 ?_
  refine callsIn_of_wp_marks Tryz.func27 rfl trivial ?_ rfl
  simp only [Tryz.ntmps27, List.size_toArray, List.length_cons, List.length_nil, Nat.reduceAdd, Nat.reduceSub, Array.replicate_succ, Array.replicate_zero, List.push_toArray, List.append_toArray, List.nil_append, List.cons_append]
  have cA := tblAll_any pv (w.alloc (.cells #[.slice none 0 0] 64))
  gi_wp2_with (refine ⟨trivial, ?_⟩; gi_at_call 74; refine (callsIn_wide.2 cA).mono ?_; clear cA; rintro e w1 ⟨bt, rfl, h1, h2, h3⟩)
  have hx : Ext w w1 := Ext.trans (Ext.alloc _ _) h1
  have hB : Row1 w1 w.heap.size 64 [.slice none 0 0] := (Row1.made w _ [.slice none 0 0]).ext h1 (by simp)
  rw [World.size_alloc] at h2
  have hB1 := hB.lt
  have hpl : ∀ b, pv = some ⟨b, 0, none⟩ → b < w1.heap.size := fun b e => by
    rcases hv with q | ⟨tb, q, r⟩
    · subst e; cases q
    · subst e; injection q with q; injection q with q; injection q with q; subst q; have := r.lt; have := hx.size; omega
  refine wpIn_rangeFunc_A rfl (by decide) (gf := 131) (lb := #[.pointer (some ⟨bt, 0, none⟩)]) rfl trivial (enters_of Tryz.func131 (by kernel_rfl) rfl)
    (allC_no (pv := pv) w1) (Ext.refl w1) (fun _ => rfl) (fun _ => False) (fun b => b = w.heap.size) (NoIt.abides h3.lt hpl)
    ⟨h3, hv.ext hx, fun q => q, fun _ _ q => q⟩
    ⟨fun j q => q.elim, fun j q => by subst q; exact ⟨hB1, fun r => r⟩⟩
    (fun pre G W => G = (fun b => b = w.heap.size) ∧ Row1 W w.heap.size 64 [.slice none 0 0])
    (fun c pre G W => False)
    (fun s G W W' q q2 q3 => ⟨q.1, q3.row q.2 (fun r => r (by rw [q.1]))⟩)
    (fun c s G W W' q q2 q3 => q)
    ⟨rfl, hB⟩ (fun x W a1 W1 => Ext W W1) (fun x W a1 W1 q => q) ?assign ?body ?done ?stop
  case assign =>
    intro l x W K hK
    rw [zip_one]
    simp only [List.setIfInBounds_toArray, List.set_cons_succ, List.set_cons_zero]
    gi_wp2
    exact Ext.alloc _ _
  case body => intro l pre x W0 a1 W1 W F1 G1 _ _ _ _ _ _ _ _ _ _ h; exact h.elim
  case done =>
    rintro D xs W F1 G1 hD rfl ⟨rfl, hr⟩ hit hd hn1 hn2 hk hK
    have z0 : W.cell? ⟨w.heap.size, 0, none⟩ = some (.slice none 0 0) := hr.cell 0
    have ho2 := Only.putObj W D (.deferred none)
    have HEND : Hid (Ext w (W.putObj D (.deferred none))) := by
      have k1 : Only (fun i => w.heap.size ≤ i) w W := (Only.of hx).trans hk.only (fun i q => .inl (by
        rcases q with q | q
        · exact q.elim
        · omega))
      exact (k1.trans ho2 (fun i q => .inl (by have := hx.size; omega))).toExt (fun i q => q)
    have HK := Lib.hid hK
    clear hk hit hd hK ho2 hr hpl hv
    gi_wp2
    exact ⟨by simp, .inl ⟨_, _, rfl, run_takeDeferred HK.out, _, results_tmp rfl _ _ _, rfl, HEND.out⟩⟩
  case stop => intro D c pre W F1 G1 _ _ h; exact h.elim
end Go.Proofs.YtojoefcfimmipaaGreat
namespace Go.Proofs.YtojoefcfimmipaaGreat
set_option linter.unusedSimpArgs false
set_option linter.unusedVariables false
open Go.RowKit
set_option maxRecDepth 100000 in
set_option maxHeartbeats 2000000 in
theorem pmade_no (w : World) : Calls Tryz.prog 144 #[.pointer none] w fun e w' => e = .returned (.bool false) ∧ w = w' := by
  go_enter Tryz.func144, Tryz.ntmps144
  go_wp2_with fail
  go_ret
  exact ⟨rfl, rfl⟩
set_option maxRecDepth 100000 in
set_option maxHeartbeats 2000000 in
theorem proot_no (i : Int) (w : World) : Calls Tryz.prog 98 #[.pointer none, .int .i64 i] w fun e w' => e = .returned (.tuple #[.int .i64 0, .int .i64 3]) ∧ w = w' := by
  have cM := pmade_no w
  go_enter Tryz.func98, Tryz.ntmps98
  go_wp2_with (go_at_call 144; (with_reducible refine cM.mono ?_); clear cM; rintro e w2 ⟨rfl, rfl⟩)
  go_ret2
  exact ⟨rfl, rfl⟩
set_option maxRecDepth 100000 in
set_option maxHeartbeats 2000000 in
theorem topen_no (i : Int) (w : World) : Calls Tryz.prog 44 #[.pointer none, .int .i64 i] w fun e w' => e = .returned (.tuple #[.pointer none, .int .i64 3]) ∧ w = w' := by
  have cM := proot_no i w
  go_enter Tryz.func44, Tryz.ntmps44
  go_wp2_with (go_at_call 98; (with_reducible refine cM.mono ?_); clear cM; rintro e w2 ⟨rfl, rfl⟩)
  go_ret2
  exact ⟨rfl, rfl⟩
set_option maxRecDepth 100000 in
set_option maxHeartbeats 2000000 in
theorem tblOpen_no (w : World) : Calls Tryz.prog 31 #[.pointer none] w fun e w' => e = .returned (.tuple #[.pointer none, .int .i64 3]) ∧ Ext w w' := by
  have cO : Hid (∀ W, Calls Tryz.prog 44 #[.pointer none, .int .i64 0] W fun e w' => e = .returned (.tuple #[.pointer none, .int .i64 3]) ∧ W = w') := fun W => topen_no 0 W
  go_enter Tryz.func31, Tryz.ntmps31
  go_wp2_with fail
  go_loopw [10] (fun i wr => i = .int .i64 0 ∧ Ext w wr) (fun _ _ => 0)
  case atStart => exact ⟨rfl, by (repeat' (with_reducible first | exact Below.refl _ _ | refine Ext.drewN ?_ _ | refine Below.drew ?_ | refine Below.setCell ?_ ?_ _ | refine Below.alloc ?_ ?_ _)) <;> (first | omega | (simp; done) | (simp; omega))⟩
  case round =>
    obtain ⟨rfl, hx⟩ := hrel
    have HX := Lib.hid hx
    clear hx
    go_wp2_with (go_at_call 44; (with_reducible refine (cO.out _).mono ?_); clear cO; rintro e w2 ⟨rfl, rfl⟩)
    go_ret2
    exact ⟨rfl, HX.out⟩
end Go.Proofs.YtojoefcfimmipaaGreat
namespace Go.Proofs.YtojoefcfimmipaaGreat
set_option linter.unusedSimpArgs false
set_option linter.unusedVariables false
open Go.RowKit
/-- what the closure keeps, in blocks of G -/
structure FJ (bl bm : Nat) (most : Int) (pre : List OpD) (G : Nat → Prop) (W : World) : Prop where
  list : ∃ A c, OwnL W 0 53 11 OpD.cells (.slice A pre.length c) pre ∧ Row1 W bl 64 [.slice A pre.length c] ∧ ∀ k, (Value.slice A pre.length c).ownBlock = some k → G k
  most : Row1 W bm 3 [.int .i64 most]
  gl : G bl
  gm : G bm
set_option maxRecDepth 100000 in
set_option maxHeartbeats 4000000 in
theorem foundC_any {bl bm : Nat} {most : Int} {pre : List OpD} {G : Nat → Prop} (x : OpD) (W : World) (h : FJ bl bm most pre G W) (hp : pre.length ≤ 100000) :
    Calls Tryz.prog 79 #[x.val, .pointer (some ⟨bl, 0, none⟩), .pointer (some ⟨bm, 0, none⟩)] W fun e W' => e = .returned (.bool (decide ((pre.length : Int) + 1 < most))) ∧ ∃ G2, FJ bl bm most (pre ++ [x]) G2 W' ∧ Keeps G G2 W W' := by
  obtain ⟨A, c, ho, hr, hk⟩ := h.list
  have hm := h.most
  have hgl := h.gl
  have hgm := h.gm
  have hne : bl ≠ bm := hr.apart hm (by decide)
  have hvl : (Value.slice A pre.length c).ownBlock ≠ some bl := ho.apartRow hr (by decide)
  have hvm : (Value.slice A pre.length c).ownBlock ≠ some bm := ho.apartRow hm (by decide)
  have c0 : W.cell? ⟨bl, 0, none⟩ = some (.slice A pre.length c) := hr.cell 0
  have HO := Lib.hid ho
  have HR := Lib.hid hr
  have HM := Lib.hid hm
  have HK := Lib.hid hk
  have HGL := Lib.hid hgl
  have HGM := Lib.hid hgm
  have hbl := hr.lt
  have hbm := hm.lt
  obtain ⟨n, hn⟩ : ∃ n, pre.length = n := ⟨_, rfl⟩
  have HN := Lib.hid hn
  have HLN : Hid ((pre ++ [x]).length = n + 1) := by unfold Hid; rw [List.length_append, List.length_singleton, hn]
  rw [hn] at hp ho hr hk hvl hvm c0 HO HR HK ⊢
  clear h hn ho hr hm hk hgl hgm
  go_enter Tryz.func79, Tryz.ntmps79
  go_upto_region 1 with fail
  have HX2 : Hid (Ext W ((W.alloc (.cells #[.int .i64 x.id, .int .i64 x.proc, .int .i64 x.object, .int .i64 x.kind, .int .i64 x.method, .int .i64 x.arg, .int .i64 x.second, .bool x.done, .int .i64 x.result, .int .i64 x.invoke, .int .i64 x.ret] 53)).alloc (.cells #[.int .i64 x.id, .int .i64 x.proc, .int .i64 x.object, .int .i64 x.kind, .int .i64 x.method, .int .i64 x.arg, .int .i64 x.second, .bool x.done, .int .i64 x.result, .int .i64 x.invoke, .int .i64 x.ret] 53))) := (Ext.alloc _ _).trans (Ext.alloc _ _)
  have HOX : Hid (OwnL ((W.alloc (.cells #[.int .i64 x.id, .int .i64 x.proc, .int .i64 x.object, .int .i64 x.kind, .int .i64 x.method, .int .i64 x.arg, .int .i64 x.second, .bool x.done, .int .i64 x.result, .int .i64 x.invoke, .int .i64 x.ret] 53)).alloc (.cells #[.int .i64 x.id, .int .i64 x.proc, .int .i64 x.object, .int .i64 x.kind, .int .i64 x.method, .int .i64 x.arg, .int .i64 x.second, .bool x.done, .int .i64 x.result, .int .i64 x.invoke, .int .i64 x.ret] 53)) 0 53 11 OpD.cells (.slice A n c) pre) := HO.out.ext HX2.out
  have HRX : Hid (Row1 ((W.alloc (.cells #[.int .i64 x.id, .int .i64 x.proc, .int .i64 x.object, .int .i64 x.kind, .int .i64 x.method, .int .i64 x.arg, .int .i64 x.second, .bool x.done, .int .i64 x.result, .int .i64 x.invoke, .int .i64 x.ret] 53)).alloc (.cells #[.int .i64 x.id, .int .i64 x.proc, .int .i64 x.object, .int .i64 x.kind, .int .i64 x.method, .int .i64 x.arg, .int .i64 x.second, .bool x.done, .int .i64 x.result, .int .i64 x.invoke, .int .i64 x.ret] 53)) bl 64 [.slice A n c]) := HR.out.ext HX2.out hbl
  have HMX : Hid (Row1 ((W.alloc (.cells #[.int .i64 x.id, .int .i64 x.proc, .int .i64 x.object, .int .i64 x.kind, .int .i64 x.method, .int .i64 x.arg, .int .i64 x.second, .bool x.done, .int .i64 x.result, .int .i64 x.invoke, .int .i64 x.ret] 53)).alloc (.cells #[.int .i64 x.id, .int .i64 x.proc, .int .i64 x.object, .int .i64 x.kind, .int .i64 x.method, .int .i64 x.arg, .int .i64 x.second, .bool x.done, .int .i64 x.result, .int .i64 x.invoke, .int .i64 x.ret] 53)) bm 3 [.int .i64 most]) := HM.out.ext HX2.out hbm
  have HP1 : Hid (pre.length + 1 ≤ 1000000000) := by unfold Hid; rw [HN.out]; omega
  have HVL := Lib.hid hvl
  have HVM := Lib.hid hvm
  go_wp2_with (at_builtin; go_loud (refine wpList_push2 elOp op_len op_one rfl (.tmp 5) (.tmp 7) rfl (.slice A n c) pre rfl HOX.out (Nat.zero_le _) (W.heap.size + 1) 1 x rfl (Row1.made' (by simp) _ x.cells) HP1.out (by decide) ?_; intro A4 c4 w4 hown4 hgr4 hwh4; rw [HLN.out] at hown4 hwh4 ⊢; have HR4 := HRX.out.grown hgr4 (fun e => HVL.out e.symm); have HM4 := Lib.hid (HMX.out.grown hgr4 (fun e => HVM.out e.symm)); have v40 : w4.cell? ⟨bl, 0, none⟩ = some (.slice A n c) := HR4.cell 0; have vf0 : w4.frozen? ⟨bl, 0, none⟩ = false := HR4.soft 0; have v41 : w4.cell? ⟨bm, 0, none⟩ = some (.int .i64 most) := HM4.out.cell 0; have HR4 := Lib.hid HR4; have HO4 := Lib.hid hown4; have HG4 := Lib.hid hgr4; have HW4 := Lib.hid hwh4; clear hown4 hgr4 hwh4))
  go_ret
  refine ⟨?_, fun i => G i ∨ W.heap.size ≤ i, ?_, ?_⟩
  · try simp only [Int.natCast_add, Int.natCast_one]
    rfl
  · have hw2 : ((W.alloc (.cells #[.int .i64 x.id, .int .i64 x.proc, .int .i64 x.object, .int .i64 x.kind, .int .i64 x.method, .int .i64 x.arg, .int .i64 x.second, .bool x.done, .int .i64 x.result, .int .i64 x.invoke, .int .i64 x.ret] 53)).alloc (.cells #[.int .i64 x.id, .int .i64 x.proc, .int .i64 x.object, .int .i64 x.kind, .int .i64 x.method, .int .i64 x.arg, .int .i64 x.second, .bool x.done, .int .i64 x.result, .int .i64 x.invoke, .int .i64 x.ret] 53)).heap.size = W.heap.size + 2 := by simp
    have hG : ∀ k, (Value.slice A4 (n + 1) c4).ownBlock = some k → (G k ∨ W.heap.size ≤ k) ∧ k ≠ bl := fun k hk => by
      rcases HW4.out k hk with q | q
      · exact ⟨.inl (HK.out k q), fun e => HVL.out (e ▸ q)⟩
      · rw [hw2] at q; exact ⟨.inr (by omega), by omega⟩
    have ho : Only (fun i => i = bl) w4 (w4.setCell ⟨bl, 0, none⟩ (.slice A4 (n + 1) c4)) := Only.setCell (F := fun i => i = bl) (p := ⟨bl, 0, none⟩) Only.refl (.inl rfl) _
    refine ⟨⟨A4, c4, ?_, ?_, ?_⟩, ho.row HM4.out (Ne.symm hne), .inl HGL.out, .inl HGM.out⟩
    · rw [HLN.out]; exact HO4.out.only ho (fun k hk => (hG k hk).2)
    · rw [HLN.out]; exact HR4.out.set 0 _
    · rw [HLN.out]; exact fun k hk => (hG k hk).1
  · exact ⟨(((Only.of HX2.out).trans (Only.grown HG4.out) (fun i q => .inl (HK.out i q))).setCell (p := ⟨bl, 0, none⟩) (.inl HGL.out) _), fun i q => q⟩
end Go.Proofs.YtojoefcfimmipaaGreat
namespace Go.Proofs.YtojoefcfimmipaaGreat
set_option linter.unusedSimpArgs false
set_option linter.unusedVariables false
open Go.RowKit
def kvW (way : Nat) (o : OpD) : KV := (wayK way o, recW way o)
/-- the operations that lie from a text on, by a way, as long as their keys begin with it -/
structure Finds (Ts : Nat → TrD) (way : Nat) (front : ByteArray) (l all : List OpD) (k : Nat) : Prop where
  outs : fromKV (Ts way).list front = all.map (kvW way)
  mem : ∀ o ∈ all, o ∈ l
  under : ∀ i (h : i < all.length), i < k → underB (wayK way all[i]) front = true
  stop : ∀ h : k < all.length, underB (wayK way all[k]) front = false
  le : k ≤ all.length
end Go.Proofs.YtojoefcfimmipaaGreat
namespace Go.Proofs.YtojoefcfimmipaaGreat
set_option linter.unusedSimpArgs false
set_option linter.unusedVariables false
open Go.RowKit
attribute [local go_sem] Oper.semAt_some
/-- the last number of a key that was split -/
theorem split_last {w : World} {base : Nat} {v : Value} {way : Nat} {o : OpD} (h : OwnL w base 3 1 encN v (wayL way o)) : ∃ sb cap q, v = .slice (some ⟨sb, 0, none⟩) (q + 1) cap ∧ q < 3 ∧ base ≤ sb ∧ sb < w.heap.size ∧ w.cell? ⟨sb, q, none⟩ = some (.int .i64 o.id) := by
  have hw := wayL_len way o
  obtain ⟨g, cap, spare, rfl, hbg, hr, h4⟩ := h.row (by omega)
  have hlt := h.lt g rfl
  obtain ⟨q, hq⟩ : ∃ q, (wayL way o).length = q + 1 := ⟨(wayL way o).length - 1, by omega⟩
  refine ⟨g, cap, q, by rw [hq], by omega, hlt.1, hlt.2, ?_⟩
  have hl : (wayL way o)[q]? = some o.id := by
    have := wayL_last way o
    rw [List.getLast?_eq_getElem?, hq] at this
    exact this
  rw [hr.cell q, List.getElem?_append_left (by rw [flat1_len encN_len, hq]; omega)]
  have := flat_at encN 1 encN_len (wayL way o) q o.id hl 0 (.int .i64 o.id) rfl
  rwa [Nat.mul_one, Nat.add_zero] at this
/-- the blocks that Find's closure reads, all through -/
structure FRows (tb p : Nat) (ts : Nat → Nat) (bt bw bs by_ bl bm way : Nat) (begin : ByteArray) (T : Nat → Prop) (W : World) : Prop where
  row : TblRow W tb ts
  tree : ∀ j, j < 5 → TreeRow W (ts j) p j
  rt : Row1 W bt 55 [tp tb]
  rw_ : Row1 W bw 3 [.int .i64 (way : Nat)]
  rs : Row1 W bs 9 [.string begin]
  ry : Row1 W by_ 101 [.func (.func 79) #[] #[.pointer (some ⟨bl, 0, none⟩), .pointer (some ⟨bm, 0, none⟩)]]
  t1 : T tb
  t2 : ∀ j, j < 5 → T (ts j)
  t3 : T bt ∧ T bw ∧ T bs ∧ T by_
theorem FRows.only {tb p : Nat} {ts : Nat → Nat} {bt bw bs by_ bl bm way : Nat} {begin : ByteArray} {T G : Nat → Prop} {W W' : World} (h : FRows tb p ts bt bw bs by_ bl bm way begin T W) (ho : Only G W W') (hG : ∀ i, T i → ¬ G i) : FRows tb p ts bt bw bs by_ bl bm way begin T W' :=
  ⟨ho.row h.row (hG _ h.t1), fun j hj => ho.row (h.tree j hj) (hG _ (h.t2 j hj)), ho.row h.rt (hG _ h.t3.1), ho.row h.rw_ (hG _ h.t3.2.1), ho.row h.rs (hG _ h.t3.2.2.1), ho.row h.ry (hG _ h.t3.2.2.2), h.t1, h.t2, h.t3⟩
theorem FRows.tbl {tb p : Nat} {ts : Nat → Nat} {bt bw bs by_ bl bm way : Nat} {begin : ByteArray} {T F : Nat → Prop} {W : World} (h : FRows tb p ts bt bw bs by_ bl bm way begin T W) (hF : ∀ i, T i → ¬ F i) : TblAt W tb p ts F :=
  ⟨h.row, h.tree, hF _ h.t1, fun j hj => hF _ (h.t2 j hj)⟩
theorem FJ.only {bl bm : Nat} {most : Int} {pre : List OpD} {G H : Nat → Prop} {W W' : World} (h : FJ bl bm most pre G W) (ho : Only H W W') (hH : ∀ i, G i → ¬ H i) : FJ bl bm most pre G W' := by
  obtain ⟨A, c, h1, h2, h3⟩ := h.list
  exact ⟨⟨A, c, h1.only ho (fun k hk => hH k (h3 k hk)), ho.row h2 (hH _ h.gl), h3⟩, ho.row h.most (hH _ h.gm), h.gl, h.gm⟩
/-- what holds ahead of a round: the operations that were given are kept -/
def FI (tb p : Nat) (ts : Nat → Nat) (bt bw bs by_ bl bm way : Nat) (begin : ByteArray) (T : Nat → Prop) (most : Int) (all : List OpD) (k : Nat) (pre : List KV) (G : Nat → Prop) (W : World) : Prop :=
  ∃ Gc : Nat → Prop, G = (fun i => Gc i ∨ T i) ∧ (∀ i, T i → ¬ Gc i) ∧ pre = (all.take pre.length).map (kvW way) ∧ pre.length ≤ k ∧ pre.length ≤ all.length ∧
    FRows tb p ts bt bw bs by_ bl bm way begin T W ∧ FJ bl bm most (all.take pre.length) Gc W
theorem FI.abides {tb p : Nat} {ts : Nat → Nat} {bt bw bs by_ bl bm way : Nat} {begin : ByteArray} {T : Nat → Prop} {most : Int} {all : List OpD} {k : Nat} : Abides (FI tb p ts bt bw bs by_ bl bm way begin T most all k) := by
  rintro s G W W' ⟨Gc, rfl, h1, h2, h3, h4, h5, h6⟩ hlt ho
  exact ⟨Gc, rfl, h1, h2, h3, h4, h5.only ho (fun i q r => r (.inr q)), h6.only ho (fun i q r => r (.inl q))⟩
/-- what holds where the loop was left: what was given was kept, and the rest is not wanted -/
def FX (tb p : Nat) (ts : Nat → Nat) (bt bw bs by_ bl bm way : Nat) (begin : ByteArray) (T : Nat → Prop) (most : Int) (all : List OpD) (k : Nat) (G : Nat → Prop) (W : World) : Prop :=
  ∃ (Gc : Nat → Prop) (j : Nat), G = (fun i => Gc i ∨ T i) ∧ (∀ i, T i → ¬ Gc i) ∧ j ≤ k ∧ j ≤ all.length ∧ (j = k ∨ most ≤ (j : Int)) ∧
    FRows tb p ts bt bw bs by_ bl bm way begin T W ∧ FJ bl bm most (all.take j) Gc W
theorem FX.abides {tb p : Nat} {ts : Nat → Nat} {bt bw bs by_ bl bm way : Nat} {begin : ByteArray} {T : Nat → Prop} {most : Int} {all : List OpD} {k : Nat} (s : List KV) (G : Nat → Prop) (W W' : World) (h : FX tb p ts bt bw bs by_ bl bm way begin T most all k G W) (ho : Only (fun i => ¬ G i) W W') : FX tb p ts bt bw bs by_ bl bm way begin T most all k G W' := by
  obtain ⟨Gc, j, rfl, h1, h2, h3, h4, h5, h6⟩ := h
  exact ⟨Gc, j, rfl, h1, h2, h3, h4, h5.only ho (fun i q r => r (.inr q)), h6.only ho (fun i q r => r (.inl q))⟩
theorem FRows.keeps {tb p : Nat} {ts : Nat → Nat} {bt bw bs by_ bl bm way : Nat} {begin : ByteArray} {T F0 F1 Gc Gc1 : Nat → Prop} {W0 W : World} (h1 : FRows tb p ts bt bw bs by_ bl bm way begin T W0) (h2 : FRows tb p ts bt bw bs by_ bl bm way begin T W)
    (hT : ∀ i, T i → i = tb ∨ (∃ j, j < 5 ∧ i = ts j) ∨ i = bt ∨ i = bw ∨ i = bs ∨ i = by_) (hF : ∀ i, T i → ¬ F1 i ∧ ¬ Gc1 i) (hk : Keeps (Un F0 (fun i => Gc i ∨ T i)) (Un F1 (fun i => Gc1 i ∨ T i)) W0 W) : Keeps (Un F0 Gc) (Un F1 Gc1) W0 W := by
  have hb : ∀ i, T i → W.heap[i]? = W0.heap[i]? := fun i q => by
    rcases hT i q with rfl | ⟨j, hj, rfl⟩ | rfl | rfl | rfl | rfl
    · exact h2.row.trans h1.row.symm
    · exact (h2.tree j hj).trans (h1.tree j hj).symm
    · exact h2.rt.trans h1.rt.symm
    · exact h2.rw_.trans h1.rw_.symm
    · exact h2.rs.trans h1.rs.symm
    · exact h2.ry.trans h1.ry.symm
  refine ⟨⟨hk.only.os, hk.only.tape, hk.only.output, hk.only.size, fun i hi hn => ?_⟩, fun i q => ?_⟩
  · by_cases ht : T i
    · exact hb i ht
    · exact hk.only.block i hi (fun r => by
        rcases r with r | r | r
        · exact hn (.inl r)
        · exact hn (.inr r)
        · exact ht r)
  · have hnT : ¬ T i := fun r => by
      rcases q with q | q
      · exact (hF i r).1 q
      · exact (hF i r).2 q
    rcases hk.new i (q.elim .inl (fun q => .inr (.inl q))) with (r | r | r) | r
    · exact .inl (.inl r)
    · exact .inl (.inr r)
    · exact absurd r hnT
    · exact .inr r
end Go.Proofs.YtojoefcfimmipaaGreat
