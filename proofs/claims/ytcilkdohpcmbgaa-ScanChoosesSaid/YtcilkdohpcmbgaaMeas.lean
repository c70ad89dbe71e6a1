/- scan.Measure: how many operations there are of each kind. Conditions: fewer than 10^9 operations, numbers that an int holds. -/
import Derived.Test.YtcilkdohpcmbgaaMapW
import Derived.Test.YtcilkdohpcmbgaaGrp3
namespace Go.Proofs.Ytcilkdohpcmbgaa
set_option linter.unusedSimpArgs false
set_option linter.unusedVariables false
open Go.RowKit

theorem tells1 : Tells 30 OpD.object := by
  intro o w
  go_enter Try.func30, Try.ntmps30
  go_wp2
  go_ret
  exact ⟨rfl, by (repeat' (with_reducible first | exact Below.refl _ _ | refine Ext.drewN ?_ _ | refine Below.drew ?_ | refine Below.setCell ?_ ?_ _ | refine Below.alloc ?_ ?_ _)) <;> (first | omega | (simp; done) | (simp; omega))⟩
theorem tells2 : Tells 31 OpD.proc := by
  intro o w
  go_enter Try.func31, Try.ntmps31
  go_wp2
  go_ret
  exact ⟨rfl, by (repeat' (with_reducible first | exact Below.refl _ _ | refine Ext.drewN ?_ _ | refine Below.drew ?_ | refine Below.setCell ?_ ?_ _ | refine Below.alloc ?_ ?_ _)) <;> (first | omega | (simp; done) | (simp; omega))⟩
theorem tells3 : Tells 32 OpD.method := by
  intro o w
  go_enter Try.func32, Try.ntmps32
  go_wp2
  go_ret
  exact ⟨rfl, by (repeat' (with_reducible first | exact Below.refl _ _ | refine Ext.drewN ?_ _ | refine Below.drew ?_ | refine Below.setCell ?_ ?_ _ | refine Below.alloc ?_ ?_ _)) <;> (first | omega | (simp; done) | (simp; omega))⟩
theorem names_before2 : ∀ (j : Nat) (hj : j < 2), (namesB[j]'(by have : namesB.length = 11 := rfl; omega)).toList ≠ sObject.toList := by decide +kernel
theorem names_before1 : ∀ (j : Nat) (hj : j < 1), (namesB[j]'(by have : namesB.length = 11 := rfl; omega)).toList ≠ sProc.toList := by decide +kernel
theorem names_before4 : ∀ (j : Nat) (hj : j < 4), (namesB[j]'(by have : namesB.length = 11 := rfl; omega)).toList ≠ sMethod.toList := by decide +kernel
theorem field_object : fieldI sObject = OpD.object := by
  funext o
  unfold fieldI valueL
  rw [findV_hit sObject namesB (valsL o) 2 (by decide) (by simp [valsL]) (by decide +kernel) names_before2]
  rfl
theorem field_proc : fieldI sProc = OpD.proc := by
  funext o
  unfold fieldI valueL
  rw [findV_hit sProc namesB (valsL o) 1 (by decide) (by simp [valsL]) (by decide +kernel) names_before1]
  rfl
theorem field_method : fieldI sMethod = OpD.method := by
  funext o
  unfold fieldI valueL
  rw [findV_hit sMethod namesB (valsL o) 4 (by decide) (by simp [valsL]) (by decide +kernel) names_before4]
  rfl

def OpWf (o : OpD) : Prop := (Lit.int .i64 o.object).wf = true ∧ (Lit.int .i64 o.proc).wf = true ∧ (Lit.int .i64 o.method).wf = true

set_option maxHeartbeats 400000 in
theorem measure_any (V : Value) (ops : List OpD) (w : World) (hs : Sl w 11 ROp V ops) (hn : ops.length ≤ 1000000000) (hwf : ∀ o ∈ ops, OpWf o) :
    Calls Try.prog 11 #[V] w fun e w' => (∃ OV PV MV, e = .returned (.agg #[.int .i64 ops.length, OV, PV, MV]) ∧ Sl w' 2 RG OV (groupsL (ops.map OpD.object)) ∧ Sl w' 2 RG PV (groupsL (ops.map OpD.proc)) ∧ Sl w' 2 RG MV (groupsL (ops.map OpD.method))) ∧ Ext w w' := by
  obtain ⟨A, c, rfl⟩ := hs.form
  have HS := Lib.hid hs
  have HWF := Lib.hid hwf
  clear hs hwf
  have g1 := group_any _ _ (enters_of Try.func30 (by kernel_rfl) rfl) tells1
  have g2 := group_any _ _ (enters_of Try.func31 (by kernel_rfl) rfl) tells2
  have g3 := group_any _ _ (enters_of Try.func32 (by kernel_rfl) rfl) tells3
  have G1 := Lib.hid g1
  have G2 := Lib.hid g2
  have G3 := Lib.hid g3
  clear g1 g2 g3
  go_enter Try.func11, Try.ntmps11
  go_wp2_with fail
  refine (G1.out _ ops _ (HS.out.ext (Ext.alloc _ _)) hn (fun o ho => (HWF.out o ho).1)).mono ?_
  rintro e w1 ⟨⟨OV, rfl, ho, fo⟩, hb1⟩
  obtain ⟨oa, oc, rfl⟩ := ho.form
  have R4 := Lib.hid ((Row1.made w 36 [.int .i64 0, .slice none 0 0, .slice none 0 0, .slice none 0 0]).ext hb1 (by simp))
  have FO := Lib.hid fo
  clear fo
  have HO := Lib.hid ho
  have K1 := Lib.hid (Ext.trans (Ext.alloc _ _) hb1)
  have hlt1 := R4.out.lt
  clear ho hb1
  go_wp2_with fail
  refine (G2.out _ ops _ (HS.out.ext K1.out) hn (fun o ho => (HWF.out o ho).2.1)).mono ?_
  rintro e w2 ⟨⟨PV, rfl, hp, fp⟩, hb2⟩
  obtain ⟨pa, pc, rfl⟩ := hp.form
  have R4 := Lib.hid (R4.out.ext hb2 R4.out.lt)
  have HO := Lib.hid (HO.out.ext hb2)
  have FP := Lib.hid fp
  clear fp
  have HP := Lib.hid hp
  have K2 := Lib.hid (Ext.trans K1.out hb2)
  have hlt2 := R4.out.lt
  clear hp hb2
  go_wp2_with fail
  refine (G3.out _ ops _ (HS.out.ext K2.out) hn (fun o ho => (HWF.out o ho).2.2)).mono ?_
  rintro e w3 ⟨⟨MV, rfl, hm, fm⟩, hb3⟩
  obtain ⟨ma, mc, rfl⟩ := hm.form
  have R4 := Lib.hid (R4.out.ext hb3 R4.out.lt)
  have HO := Lib.hid (HO.out.ext hb3)
  have HP := Lib.hid (HP.out.ext hb3)
  have FM := Lib.hid fm
  clear fm
  have HM := Lib.hid hm
  have K3 := Lib.hid (Ext.trans K2.out hb3)
  clear hm hb3
  have c0 : w3.cell? ⟨w.heap.size, 0, none⟩ = some (.int .i64 0) := R4.out.cell 0
  have c1 : w3.cell? ⟨w.heap.size, 1, none⟩ = some (.slice none 0 0) := R4.out.cell 1
  have c2 : w3.cell? ⟨w.heap.size, 2, none⟩ = some (.slice none 0 0) := R4.out.cell 2
  have c3 : w3.cell? ⟨w.heap.size, 3, none⟩ = some (.slice none 0 0) := R4.out.cell 3
  have f0 := R4.out.soft 0
  have f1 := R4.out.soft 1
  have f2 := R4.out.soft 2
  have f3 := R4.out.soft 3
  have hlt := R4.out.lt
  go_wp2_with fail
  refine bodyPost_ret (v := .agg #[.int .i64 ops.length, .slice oa (groupsL (ops.map OpD.object)).length oc, .slice pa (groupsL (ops.map OpD.proc)).length pc, .slice ma (groupsL (ops.map OpD.method)).length mc]) (by simp [results, Try.results11, go_sem, c0, c1, c2, c3]) rfl ⟨⟨_, _, _, rfl, ?_, ?_, ?_⟩, ?_⟩
  · exact HO.out.but (g := w.heap.size) (by (repeat' (with_reducible first | exact But.refl | exact But.refl | refine But.drewN ?_ _ | refine But.drew ?_ | refine But.setCell ?_ ?_ _ | refine But.alloc ?_ _)) <;> (first | exact .inl rfl | (right; simp; done) | (right; simp; omega))) (fun e => by have := FO.out _ e; simp at this; omega)
  · exact HP.out.but (g := w.heap.size) (by (repeat' (with_reducible first | exact But.refl | exact But.refl | refine But.drewN ?_ _ | refine But.drew ?_ | refine But.setCell ?_ ?_ _ | refine But.alloc ?_ _)) <;> (first | exact .inl rfl | (right; simp; done) | (right; simp; omega))) (fun e => by have := FP.out _ e; omega)
  · exact HM.out.but (g := w.heap.size) (by (repeat' (with_reducible first | exact But.refl | exact But.refl | refine But.drewN ?_ _ | refine But.drew ?_ | refine But.setCell ?_ ?_ _ | refine But.alloc ?_ _)) <;> (first | exact .inl rfl | (right; simp; done) | (right; simp; omega))) (fun e => by have := FM.out _ e; omega)
  · (repeat' (with_reducible first | exact K3.out | exact Below.refl _ _ | refine Ext.drewN ?_ _ | refine Below.drew ?_ | refine Below.setCell ?_ ?_ _ | refine Below.alloc ?_ ?_ _)) <;> (first | omega | (simp; done) | (simp; omega))
end Go.Proofs.Ytcilkdohpcmbgaa
