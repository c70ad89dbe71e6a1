/- ref28.Measure, ref28.count, ref28.Choose. Conditions: fewer than 10^9 operations. -/
import Derived.Test.YtcilkdohpcmbgaaGrp2
import Derived.Test.YtcilkdohpcmbgaaScan6
namespace Go.Proofs.Ytcilkdohpcmbgaa
set_option linter.unusedSimpArgs false
set_option linter.unusedVariables false
open Go.RowKit

theorem refMeasure_any (V : Value) (ops : List OpD) (w : World) (hs : Sl w 11 ROp V ops) (hn : ops.length ≤ 1000000000) :
    Calls Try.prog 12 #[V] w fun e w' => (∃ OV PV MV, e = .returned (.agg #[.int .i64 ops.length, OV, PV, MV]) ∧ Sl w' 2 RG OV (groupsL (ops.map (fieldI sObject))) ∧ Sl w' 2 RG PV (groupsL (ops.map (fieldI sProc))) ∧ Sl w' 2 RG MV (groupsL (ops.map (fieldI sMethod)))) ∧ Ext w w' := by
  obtain ⟨A, c, rfl⟩ := hs.form
  have HS := Lib.hid hs
  clear hs
  go_enter Try.func12, Try.ntmps12
  go_wp2_with fail
  refine (refGroups_any _ ops sObject _ (HS.out.ext (Ext.alloc _ _)) hn).mono ?_
  rintro e w1 ⟨⟨OV, rfl, ho, fo⟩, hb1⟩
  obtain ⟨oa, oc, rfl⟩ := ho.form
  have R4 := Lib.hid ((Row1.made w 40 [.int .i64 0, .slice none 0 0, .slice none 0 0, .slice none 0 0]).ext hb1 (by simp))
  have FO := Lib.hid fo
  clear fo
  have HO := Lib.hid ho
  have K1 := Lib.hid (Ext.trans (Ext.alloc _ _) hb1)
  have hlt1 := R4.out.lt
  clear ho hb1
  go_wp2_with fail
  refine (refGroups_any _ ops sProc _ (HS.out.ext K1.out) hn).mono ?_
  rintro e w2 ⟨⟨PV, rfl, hp, fp⟩, hb2⟩
  obtain ⟨pa, pc, rfl⟩ := hp.form
  have R4 := Lib.hid (R4.out.ext hb2 R4.out.lt)
  have HO := Lib.hid (HO.out.ext hb2)
  have FP := Lib.hid fp
  clear fp
  have HP := Lib.hid hp
  have K2 := Lib.hid (Ext.trans K1.out hb2)
  have hlt2 := R4.out.lt
  clear hp hb2
  go_wp2_with fail
  refine (refGroups_any _ ops sMethod _ (HS.out.ext K2.out) hn).mono ?_
  rintro e w3 ⟨⟨MV, rfl, hm, fm⟩, hb3⟩
  obtain ⟨ma, mc, rfl⟩ := hm.form
  have R4 := Lib.hid (R4.out.ext hb3 R4.out.lt)
  have HO := Lib.hid (HO.out.ext hb3)
  have HP := Lib.hid (HP.out.ext hb3)
  have FM := Lib.hid fm
  clear fm
  have HM := Lib.hid hm
  have K3 := Lib.hid (Ext.trans K2.out hb3)
  clear hm hb3
  have c0 : w3.cell? ⟨w.heap.size, 0, none⟩ = some (.int .i64 0) := R4.out.cell 0
  have c1 : w3.cell? ⟨w.heap.size, 1, none⟩ = some (.slice none 0 0) := R4.out.cell 1
  have c2 : w3.cell? ⟨w.heap.size, 2, none⟩ = some (.slice none 0 0) := R4.out.cell 2
  have c3 : w3.cell? ⟨w.heap.size, 3, none⟩ = some (.slice none 0 0) := R4.out.cell 3
  have f0 := R4.out.soft 0
  have f1 := R4.out.soft 1
  have f2 := R4.out.soft 2
  have f3 := R4.out.soft 3
  have hlt := R4.out.lt
  go_wp2_with fail
  refine bodyPost_ret (v := .agg #[.int .i64 ops.length, .slice oa (groupsL (ops.map (fieldI sObject))).length oc, .slice pa (groupsL (ops.map (fieldI sProc))).length pc, .slice ma (groupsL (ops.map (fieldI sMethod))).length mc]) (by simp [results, Try.results12, go_sem, c0, c1, c2, c3]) rfl ⟨⟨_, _, _, rfl, ?_, ?_, ?_⟩, ?_⟩
  · exact HO.out.but (g := w.heap.size) (by (repeat' (with_reducible first | exact But.refl | exact But.refl | refine But.drewN ?_ _ | refine But.drew ?_ | refine But.setCell ?_ ?_ _ | refine But.alloc ?_ _)) <;> (first | exact .inl rfl | (right; simp; done) | (right; simp; omega))) (fun e => by have := FO.out _ e; simp at this; omega)
  · exact HP.out.but (g := w.heap.size) (by (repeat' (with_reducible first | exact But.refl | exact But.refl | refine But.drewN ?_ _ | refine But.drew ?_ | refine But.setCell ?_ ?_ _ | refine But.alloc ?_ _)) <;> (first | exact .inl rfl | (right; simp; done) | (right; simp; omega))) (fun e => by have := FP.out _ e; omega)
  · exact HM.out.but (g := w.heap.size) (by (repeat' (with_reducible first | exact But.refl | exact But.refl | refine But.drewN ?_ _ | refine But.drew ?_ | refine But.setCell ?_ ?_ _ | refine But.alloc ?_ _)) <;> (first | exact .inl rfl | (right; simp; done) | (right; simp; omega))) (fun e => by have := FM.out _ e; omega)
  · (repeat' (with_reducible first | exact K3.out | exact Below.refl _ _ | refine Ext.drewN ?_ _ | refine Below.drew ?_ | refine Below.setCell ?_ ?_ _ | refine Below.alloc ?_ ?_ _)) <;> (first | omega | (simp; done) | (simp; omega))

/-- ref28.count: how many operations have a number -/
theorem refCount_any (V : Value) (gs : List Grp) (v : Int) (w : World) (hs : Sl w 2 RG V gs) :
    Calls Try.prog 39 #[V, .int .i64 v] w fun e w' => e = .returned (.int .i64 (cntL v gs)) ∧ w = w' := by
  obtain ⟨A, c, rfl⟩ := hs.form
  obtain ⟨_, hc1, hc2, hA⟩ := hs.at
  go_enter Try.func39, Try.ntmps39
  go_wp2_with fail
  go_loop [5] (fun i => ∃ k : Nat, k ≤ gs.length ∧ i = .int .i64 k ∧ ∀ j (hj : j < gs.length), j < k → gs[j].val ≠ v) (fun i => gs.length - (intOf i).toNat)
  case atStart => exact ⟨0, Nat.zero_le _, rfl, fun j _ h => absurd h (by omega)⟩
  case round =>
    obtain ⟨k, hk, rfl, hf⟩ := hrel
    have HF := Lib.hid hf
    clear hf
    by_cases hlt : k < gs.length
    · obtain ⟨b, off, rfl, hb, hx⟩ := hA (by omega)
      obtain ⟨cs, rfl, _, hcs⟩ := hx k hlt
      have h0 := hcs 0 _ rfl
      have h1 := hcs 1 _ rfl
      simp only [Nat.add_zero] at h0
      clear hx hcs
      by_cases heq : gs[k].val = v
      · have HQ := Lib.hid (cntL_hit v gs k hlt heq (fun j hj => HF.out j (by omega) hj))
        have hq : (gs[k].val == v) = true := by simpa using heq
        clear heq
        go_wp2_with fail
        rw [HQ.out]
        go_ret
        exact ⟨rfl, rfl⟩
      · have hq : (gs[k].val == v) = false := by simpa using heq
        go_wp2_with fail
        go_round
        case rel =>
          refine ⟨k + 1, by omega, by go_num, fun j hj hjk => ?_⟩
          by_cases e : j = k
          · subst e; exact heq
          · exact HF.out j hj (by omega)
        case measure => simp [intOf]; omega
    · go_wp2_with fail
      rw [cntL_miss v gs (fun j hj => HF.out j hj (by omega))]
      go_ret
      exact ⟨rfl, rfl⟩

/-- two lists of groups that are one are found alike -/
theorem groups_same (V U : Value) (xs : List Grp) (w : World) (hs : Sl w 2 RG V xs) (hu : Sl w 2 RG U xs) :
    Calls Try.prog 15 #[V, U] w fun e w' => e = .returned (.bool true) ∧ Ext w w' := by
  obtain ⟨A, c, rfl⟩ := hs.form
  obtain ⟨_, hc1, hc2, hA⟩ := hs.at
  obtain ⟨A', c', rfl⟩ := hu.form
  obtain ⟨_, hc1', hc2', hA'⟩ := hu.at
  go_enter Try.func15, Try.ntmps15
  go_wp2_with fail
  go_loopw [5] (fun i wr => ∃ k : Nat, k ≤ xs.length ∧ i = .int .i64 k ∧ ∃ q, wr = w.drewN q) (fun i _ => xs.length - (intOf i).toNat)
  case atStart => exact ⟨0, Nat.zero_le _, rfl, 0, rfl⟩
  case round =>
    obtain ⟨k, hk, rfl, q, rfl⟩ := hrel
    by_cases hlt : k < xs.length
    · obtain ⟨b, off, rfl, hbl, hx⟩ := hA (by omega)
      obtain ⟨cs, rfl, _, hcs⟩ := hx k hlt
      have h0 := hcs 0 _ rfl
      have h1 := hcs 1 _ rfl
      obtain ⟨b', off', rfl, hbl', hx'⟩ := hA' (by omega)
      obtain ⟨cs', rfl, _, hcs'⟩ := hx' k hlt
      have h0' := hcs' 0 _ rfl
      have h1' := hcs' 1 _ rfl
      simp only [Nat.add_zero] at h0 h0'
      clear hx hcs hx' hcs' hA hA' hs hu
      go_wp2_with fail
      go_quiet (fail)
      go_wp2_with fail
      go_roundw
      case rel => exact ⟨k + 1, by omega, by go_num, _, rfl⟩
      case measure => simp [intOf]; omega
    · go_wp2_with fail
      go_ret
      exact ⟨rfl, by (repeat' (with_reducible first | exact Below.refl _ _ | refine Ext.drewN ?_ _ | refine Below.drew ?_ | refine Below.setCell ?_ ?_ _ | refine Below.alloc ?_ ?_ _)) <;> (first | omega | (simp; done) | (simp; omega))⟩
end Go.Proofs.Ytcilkdohpcmbgaa
