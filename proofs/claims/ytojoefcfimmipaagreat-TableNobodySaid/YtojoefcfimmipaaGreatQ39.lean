/- The walk of the statement that no table has no operations. Conditions: numbers that ints hold. -/
import Derived.Test.YtojoefcfimmipaaGreatQ36
import Derived.Test.YtojoefcfimmipaaGreatQ38
namespace Go.Proofs.YtojoefcfimmipaaGreat
set_option linter.unusedSimpArgs false
set_option linter.unusedVariables false
open Go.RowKit
set_option maxRecDepth 100000 in
set_option maxHeartbeats 4000000 in
theorem tableNobody_any {A : Option Addr} {n c : Nat} (o : OpD) (way : Int) (l : List Int) (w : World) (hr : In64 o.result) (hs : Sl w 1 (fun x cs => cs = encN x) (.slice A n c) l) (hl : ∀ x ∈ l, In64 x) (hn : n ≤ 1000000000000000000) :
    Calls Tryz.prog 5 #[o.val, .int .i64 way, .slice A n c] w fun e w' => e = .returned (.bool true) ∧ Ext w w' := by
  obtain ⟨W0, hW0⟩ : ∃ W0, ((w.alloc (.cells #[.int .i64 o.id, .int .i64 o.proc, .int .i64 o.object, .int .i64 o.kind, .int .i64 o.method, .int .i64 o.arg, .int .i64 o.second, .bool o.done, .int .i64 o.result, .int .i64 o.invoke, .int .i64 o.ret] 53)).alloc (.cells #[.pointer none, .pointer none, .pointer none, .pointer none, .pointer none] 58)).alloc (.cells #[.pointer none, .pointer (some ⟨w.heap.size + 1, 0, none⟩)] 55) = W0 := ⟨_, rfl⟩
  have HX0 : Hid (Ext w W0) := by unfold Hid; rw [← hW0]; exact (Ext.alloc _ _).trans ((Ext.alloc _ _).trans (Ext.alloc _ _))
  have HRO : Hid (Row1 W0 w.heap.size 53 o.cells) := by unfold Hid; rw [← hW0]; exact ((Row1.made w _ o.cells).alloc _).alloc _
  have HRT : Hid (Row1 W0 (w.heap.size + 1) 58 (tblC (fun _ => 0) 0)) := by unfold Hid; rw [← hW0]; exact (Row1.made' (by simp) _ (tblC (fun _ => 0) 0)).alloc _
  have HRS : Hid (Row1 W0 (w.heap.size + 2) 55 [.pointer none, .pointer (some ⟨w.heap.size + 1, 0, none⟩)]) := by unfold Hid; rw [← hW0]; exact Row1.made' (by simp) _ _
  have HSL : Hid (∀ W, Ext W0 W → Sl W 1 (fun x cs => cs = encN x) (.slice A n c) l) := fun W hW => hs.ext (HX0.out.trans hW)
  have HNV : Hid (∀ (k : Nat) (W : World), k < 2 → Ext W0 W → ∃ pv, W.cell? ⟨w.heap.size + 2, k, none⟩ = some (.pointer pv) ∧ NoTbl W (.pointer pv)) := fun k W hk hW => by
    have r := HRS.out.ext hW HRS.out.lt
    match k, hk with
    | 0, _ => exact ⟨none, r.cell 0, .inl rfl⟩
    | 1, _ => exact ⟨_, r.cell 1, .inr ⟨_, rfl, HRT.out.ext hW HRT.out.lt⟩⟩
  have HLW := Lib.hid hl
  clear hs hl HRT HRS
  go_enter Tryz.func5, Tryz.ntmps5
  go_upto_region 2 with fail
  clear hW0
  go_loopw [17] (fun i wr => ∃ k : Nat, k ≤ 2 ∧ i = .int .i64 (k : Nat) ∧ Ext W0 wr) (fun i _ => 2 - (intOf i).toNat)
  case atStart => exact ⟨0, by omega, rfl, Ext.refl _⟩
  case round =>
    obtain ⟨k, hk, rfl, hx⟩ := hrel
    have HX := Lib.hid hx
    clear hx
    by_cases hk2 : k < 2
    · have q1 : decide ((k : Int) < 2) = true := decide_eq_true (by omega)
      obtain ⟨pv, hpc, hnv⟩ := HNV.out k wr hk2 HX.out
      have HV := Lib.hid hnv
      have a0 : wr.cell? ⟨w.heap.size, 0, none⟩ = some (.int .i64 o.id) := (At11.row (HRO.out.ext HX.out HRO.out.lt)).1
      have HOC : Hid (∀ W, Ext wr W → (W.cell? ⟨w.heap.size, 0, none⟩ = some (.int .i64 o.id) ∧ W.cell? ⟨w.heap.size, 1, none⟩ = some (.int .i64 o.proc) ∧ W.cell? ⟨w.heap.size, 2, none⟩ = some (.int .i64 o.object) ∧ W.cell? ⟨w.heap.size, 3, none⟩ = some (.int .i64 o.kind) ∧ W.cell? ⟨w.heap.size, 4, none⟩ = some (.int .i64 o.method) ∧ W.cell? ⟨w.heap.size, 5, none⟩ = some (.int .i64 o.arg) ∧ W.cell? ⟨w.heap.size, 6, none⟩ = some (.int .i64 o.second) ∧ W.cell? ⟨w.heap.size, 7, none⟩ = some (.bool o.done) ∧ W.cell? ⟨w.heap.size, 8, none⟩ = some (.int .i64 o.result) ∧ W.cell? ⟨w.heap.size, 9, none⟩ = some (.int .i64 o.invoke) ∧ W.cell? ⟨w.heap.size, 10, none⟩ = some (.int .i64 o.ret))) := fun W hW => At11.row (HRO.out.ext (HX.out.trans hW) HRO.out.lt)
      have cG : Hid (∀ W, Ext wr W → Calls Tryz.prog 24 #[.pointer pv, .int .i64 o.id] W fun e w' => e = .returned (.tuple #[.agg #[.int .i64 0, .int .i64 0, .int .i64 0, .int .i64 0, .int .i64 0, .int .i64 0, .int .i64 0, .bool false, .int .i64 0, .int .i64 0, .int .i64 0], .int .i64 3]) ∧ Ext W w') := fun W hW => tblGet_no _ _ W (HV.out.ext hW)
      have cP : Hid (∀ W, Ext wr W → Calls Tryz.prog 25 #[.pointer pv, .agg #[.int .i64 o.id, .int .i64 o.proc, .int .i64 o.object, .int .i64 o.kind, .int .i64 o.method, .int .i64 o.arg, .int .i64 o.second, .bool o.done, .int .i64 o.result, .int .i64 o.invoke, .int .i64 o.ret]] W fun e w' => e = .returned (.int .i64 3) ∧ Ext W w') := fun W hW => tblPut_no _ o W (HV.out.ext hW) hr
      have cD : Hid (∀ W, Ext wr W → Calls Tryz.prog 26 #[.pointer pv, .int .i64 o.id] W fun e w' => e = .returned (.int .i64 3) ∧ Ext W w') := fun W hW => tblDel_no _ _ W (HV.out.ext hW)
      have cL : Hid (∀ W, Ext wr W → Calls Tryz.prog 27 #[.pointer pv] W fun e w' => e = .returned (.slice none 0 0) ∧ Ext W w') := fun W hW => tblList_no _ W (HV.out.ext hW)
      have cPg : Hid (∀ W, Ext wr W → Calls Tryz.prog 28 #[.pointer pv] W fun e w' => e = .returned (.slice none 0 0) ∧ W = w') := fun W hW => tblPages_no _ W (HV.out.ext hW)
      have cT : Hid (∀ W, Ext wr W → Calls Tryz.prog 29 #[.pointer pv] W fun e w' => e = .returned (.slice none 0 0) ∧ Ext W w') := fun W hW => tblTroubles_no _ W (HV.out.ext hW)
      have cF : Hid (∀ W, Ext wr W → Calls Tryz.prog 30 #[.pointer pv, .int .i64 way, .slice A n c, .int .i64 9] W fun e w' => e = .returned (.slice none 0 0) ∧ Ext W w') := fun W hW => found_no _ way l W (HV.out.ext hW) (HSL.out W (HX.out.trans hW)) HLW.out hn
      clear hnv
      go_wp2_with (first
        | (go_at_call 24; (with_reducible refine (cG.out _ (Ext.refl _)).mono ?_); clear cG; rintro e w1 ⟨rfl, hb1⟩; have HB1 : Hid (Ext wr (w1.alloc (.cells #[.int .i64 0, .int .i64 0, .int .i64 0, .int .i64 0, .int .i64 0, .int .i64 0, .int .i64 0, .bool false, .int .i64 0, .int .i64 0, .int .i64 0] 53))) := hb1.trans (Ext.alloc _ _); clear hb1; obtain ⟨b0, b1, b2, b3, b4, b5, b6, b7, b8, b9, b10⟩ := HOC.out _ HB1.out)
        | (go_at_call 25; (with_reducible refine (cP.out _ HB1.out).mono ?_); clear cP; rintro e w3 ⟨rfl, hb3⟩; have HB3 : Hid (Ext wr w3) := HB1.out.trans hb3; clear hb3; have d0 := (HOC.out _ HB3.out).1)
        | (go_at_call 26; (with_reducible refine (cD.out _ HB3.out).mono ?_); clear cD; rintro e w4 ⟨rfl, hb4⟩; have HB4 : Hid (Ext wr w4) := HB3.out.trans hb4; clear hb4)
        | (go_at_call 27; (with_reducible refine (cL.out _ HB4.out).mono ?_); clear cL; rintro e w5 ⟨rfl, hb5⟩; have HB5 : Hid (Ext wr w5) := HB4.out.trans hb5; clear hb5)
        | (go_at_call 28; (with_reducible refine (cPg.out _ HB5.out).mono ?_); clear cPg; rintro e w6 ⟨rfl, rfl⟩)
        | (go_at_call 29; (with_reducible refine (cT.out _ HB5.out).mono ?_); clear cT; rintro e w7 ⟨rfl, hb7⟩; have HB7 : Hid (Ext wr w7) := HB5.out.trans hb7; clear hb7)
        | (go_at_call 30; (with_reducible refine (cF.out _ HB7.out).mono ?_); clear cF; rintro e w8 ⟨rfl, hb8⟩; have HB8 : Hid (Ext wr w8) := HB7.out.trans hb8; clear hb8))
      go_roundw
      case rel => exact ⟨k + 1, by omega, by go_num, HX.out.trans HB8.out⟩
      case measure => simp [intOf]; omega
    · obtain rfl : k = 2 := by omega
      have cO : Hid (∀ W, Calls Tryz.prog 31 #[.pointer none] W fun e w' => e = .returned (.tuple #[.pointer none, .int .i64 3]) ∧ Ext W w') := fun W => tblOpen_no W
      have cA : Hid (∀ W, Calls Tryz.prog 32 #[] W fun e w' => e = .returned (.bool true) ∧ Ext W w') := fun W => awake13_any W
      go_wp2_with (first
        | (go_at_call 31; (with_reducible refine (cO.out _).mono ?_); clear cO; rintro e w1 ⟨rfl, hb1⟩; have HB1 : Hid (Ext wr w1) := hb1; clear hb1)
        | (go_at_call 32; (with_reducible refine (cA.out _).mono ?_); clear cA; rintro e w2 ⟨rfl, hb2⟩; have HB2 : Hid (Ext wr w2) := HB1.out.trans hb2; clear hb2))
      go_ret
      exact ⟨rfl, HX0.out.trans (HX.out.trans HB2.out)⟩
end Go.Proofs.YtojoefcfimmipaaGreat
