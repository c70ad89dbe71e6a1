/- op.Check, and what it calls: which operations may be. No conditions. -/
/- Numbers in groups of seven bits, as lists of bytes, written and read. Plain; no conditions. -/
/- Operations that may be, as numbers and as records (plain law). No program. -/
import Derived.Test.YtojoefcfimmipaaGreatQ01
import Derived.IntWalk
namespace Go.Proofs.YtojoefcfimmipaaGreat
set_option linter.unusedSimpArgs false
set_option linter.unusedVariables false
open Go.RowKit
theorem opValue_any (n : Int) (w : World) : Calls Tryz.prog 212 #[.int .i64 n] w fun e w' => e = .returned (.bool (valB n)) ∧ w' = w := by
  by_cases h0 : 0 ≤ n
  · have q0 : decide (0 ≤ n) = true := by simpa using h0
    have HV : Hid (valB n = decide (n ≤ 1073741824)) := by unfold Hid valB betw; simp [h0]
    clear h0
    go_enter Tryz.func212, Tryz.ntmps212
    go_wp2_with fail
    go_ret
    exact ⟨by rw [HV.out]; rfl, rfl⟩
  · have q0 : decide (0 ≤ n) = false := by simpa using h0
    have HV : Hid (valB n = false) := by unfold Hid valB betw; simp [h0]
    clear h0
    go_enter Tryz.func212, Tryz.ntmps212
    go_wp2_with fail
    go_ret
    exact ⟨by rw [HV.out]; rfl, rfl⟩
set_option maxRecDepth 100000 in
theorem opFits_any (k m : Int) (w : World) : Calls Tryz.prog 172 #[.int .i64 k, .int .i64 m] w fun e w' => e = .returned (.bool (fitsB k m)) ∧ w' = w := by
  have HV : Hid (fitsB k m = if k = 1 then betw m 1 3 else if k = 2 then m == 1 || m == 4 || m == 5 else if k = 3 then m == 6 || m == 7 else if k = 4 then m == 8 || m == 9 else if k = 5 then betw m 10 12 else if k = 6 then m == 13 || m == 14 else false) := rfl
  go_enter Tryz.func172, Tryz.ntmps172
  go_wp2
  all_goals (go_ret)
  all_goals (refine ⟨?_, rfl⟩)
  all_goals go_light
  all_goals (rw [HV.out])
  all_goals (simp_all [betw])
  all_goals (try omega)
set_option maxRecDepth 100000 in
set_option maxHeartbeats 1000000 in
theorem opArgs_any (o : OpD) (w : World) : Calls Tryz.prog 173 #[o.val] w fun e w' => e = .returned (.bool (argsB o.method o.arg o.second)) ∧ Ext w w' := by
  obtain ⟨id, proc, object, kind, method, arg, second, done, result, invoke, ret⟩ := o
  dsimp only [OpD.val]
  by_cases h3 : method = 3
  · subst h3
    have HV : Hid (argsB 3 arg second = (valB arg && valB second)) := rfl
    cases ha : valB arg with
    | false =>
      rw [ha] at HV
      have HA := Lib.hid ha
      clear ha
      go_enter Tryz.func173, Tryz.ntmps173
      go_wp2_with (go_at_call 212; refine (opValue_any _ _).mono ?_; rintro e w1 ⟨rfl, rfl⟩; rw [HA.out])
      go_ret
      exact ⟨by rw [HV.out]; rfl, by (repeat' (with_reducible first | exact Below.refl _ _ | refine Ext.drewN ?_ _ | refine Below.drew ?_ | refine Below.setCell ?_ ?_ _ | refine Below.alloc ?_ ?_ _)) <;> (first | omega | (simp; done) | (simp; omega))⟩
    | true =>
      rw [ha] at HV
      have HA := Lib.hid ha
      clear ha
      obtain ⟨b, hb⟩ : ∃ b, valB second = b := ⟨_, rfl⟩
      rw [hb] at HV
      have HB := Lib.hid hb
      clear hb
      go_enter Tryz.func173, Tryz.ntmps173
      go_wp2_with (go_at_call 212; first | (refine (opValue_any arg _).mono ?_; rintro e w1 ⟨rfl, rfl⟩; rw [HA.out]) | (refine (opValue_any second _).mono ?_; rintro e w1 ⟨rfl, rfl⟩; rw [HB.out]))
      go_ret
      exact ⟨by rw [HV.out]; rfl, by (repeat' (with_reducible first | exact Below.refl _ _ | refine Ext.drewN ?_ _ | refine Below.drew ?_ | refine Below.setCell ?_ ?_ _ | refine Below.alloc ?_ ?_ _)) <;> (first | omega | (simp; done) | (simp; omega))⟩
  · by_cases hm : method = 2 ∨ method = 6 ∨ method = 8 ∨ method = 10 ∨ method = 11 ∨ method = 12
    · have HV : Hid (argsB method arg second = (valB arg && second == 0)) := by unfold Hid argsB; rw [if_neg h3, if_pos hm]
      obtain ⟨b, hb⟩ : ∃ b, (second == 0) = b := ⟨_, rfl⟩
      rw [hb] at HV
      clear h3
      cases ha : valB arg with
      | false =>
        rw [ha] at HV
        have HA := Lib.hid ha
        clear ha
        rcases hm with rfl | rfl | rfl | rfl | rfl | rfl
        all_goals
          go_enter Tryz.func173, Tryz.ntmps173
          go_wp2_with (go_at_call 212; refine (opValue_any _ _).mono ?_; rintro e w1 ⟨rfl, rfl⟩; rw [HA.out])
          go_ret
          exact ⟨by rw [HV.out]; rfl, by (repeat' (with_reducible first | exact Below.refl _ _ | refine Ext.drewN ?_ _ | refine Below.drew ?_ | refine Below.setCell ?_ ?_ _ | refine Below.alloc ?_ ?_ _)) <;> (first | omega | (simp; done) | (simp; omega))⟩
      | true =>
        rw [ha] at HV
        have HA := Lib.hid ha
        clear ha
        rcases hm with rfl | rfl | rfl | rfl | rfl | rfl
        all_goals
          go_enter Tryz.func173, Tryz.ntmps173
          go_wp2_with (go_at_call 212; refine (opValue_any _ _).mono ?_; rintro e w1 ⟨rfl, rfl⟩; rw [HA.out])
          go_ret
          exact ⟨by rw [HV.out]; rfl, by (repeat' (with_reducible first | exact Below.refl _ _ | refine Ext.drewN ?_ _ | refine Below.drew ?_ | refine Below.setCell ?_ ?_ _ | refine Below.alloc ?_ ?_ _)) <;> (first | omega | (simp; done) | (simp; omega))⟩
    · have HV : Hid (argsB method arg second = (arg == 0 && second == 0)) := by unfold Hid argsB; rw [if_neg h3, if_neg hm]
      have q3 : (method == 3) = false := by simpa using h3
      have q2 : (method == 2) = false := by simp; omega
      have q6 : (method == 6) = false := by simp; omega
      have q8 : (method == 8) = false := by simp; omega
      have q10 : (method == 10) = false := by simp; omega
      have q11 : (method == 11) = false := by simp; omega
      have q12 : (method == 12) = false := by simp; omega
      obtain ⟨b, hb⟩ : ∃ b, (second == 0) = b := ⟨_, rfl⟩
      rw [hb] at HV
      clear h3 hm
      cases ha : (arg == 0) with
      | false =>
        rw [ha] at HV
        go_enter Tryz.func173, Tryz.ntmps173
        go_wp2_with fail
        go_ret
        exact ⟨by rw [HV.out]; rfl, by (repeat' (with_reducible first | exact Below.refl _ _ | refine Ext.drewN ?_ _ | refine Below.drew ?_ | refine Below.setCell ?_ ?_ _ | refine Below.alloc ?_ ?_ _)) <;> (first | omega | (simp; done) | (simp; omega))⟩
      | true =>
        rw [ha] at HV
        go_enter Tryz.func173, Tryz.ntmps173
        go_wp2_with fail
        go_ret
        exact ⟨by rw [HV.out]; rfl, by (repeat' (with_reducible first | exact Below.refl _ _ | refine Ext.drewN ?_ _ | refine Below.drew ?_ | refine Below.setCell ?_ ?_ _ | refine Below.alloc ?_ ?_ _)) <;> (first | omega | (simp; done) | (simp; omega))⟩
end Go.Proofs.YtojoefcfimmipaaGreat
namespace Go.Proofs.YtojoefcfimmipaaGreat
set_option linter.unusedSimpArgs false
set_option linter.unusedVariables false
open Go.RowKit
set_option maxRecDepth 100000 in
set_option maxHeartbeats 8000000 in
theorem opResult_any (o : OpD) (w : World) (hr : -9223372036854775808 ≤ o.result ∧ o.result ≤ 9223372036854775807) : Calls Tryz.prog 174 #[o.val] w fun e w' => e = .returned (.bool (resB o.kind o.method o.result)) ∧ Ext w w' := by
  obtain ⟨id, proc, object, kind, method, arg, second, done, result, invoke, ret⟩ := o
  dsimp only [OpD.val] at *
  by_cases h1 : method = 1
  · subst h1
    have HV : Hid (resB kind 1 result = (valB result || kind == 2 && valB (-result))) := rfl
    cases ha : valB result with
    | true =>
      rw [ha] at HV
      have HA := Lib.hid ha
      clear ha
      go_enter Tryz.func174, Tryz.ntmps174
      go_wp2_with (go_at_call 212; refine (opValue_any _ _).mono ?_; rintro e w1 ⟨rfl, rfl⟩; rw [HA.out])
      go_ret
      exact ⟨by rw [HV.out]; rfl, by (repeat' (with_reducible first | exact Below.refl _ _ | refine Ext.drewN ?_ _ | refine Below.drew ?_ | refine Below.setCell ?_ ?_ _ | refine Below.alloc ?_ ?_ _)) <;> (first | omega | (simp; done) | (simp; omega))⟩
    | false =>
      rw [ha] at HV
      have HA := Lib.hid ha
      cases hk : (kind == 2) with
      | false =>
        rw [hk] at HV
        clear ha
        go_enter Tryz.func174, Tryz.ntmps174
        go_wp2_with (go_at_call 212; refine (opValue_any _ _).mono ?_; rintro e w1 ⟨rfl, rfl⟩; rw [HA.out])
        go_ret
        exact ⟨by rw [HV.out]; rfl, by (repeat' (with_reducible first | exact Below.refl _ _ | refine Ext.drewN ?_ _ | refine Below.drew ?_ | refine Below.setCell ?_ ?_ _ | refine Below.alloc ?_ ?_ _)) <;> (first | omega | (simp; done) | (simp; omega))⟩
      | true =>
        rw [hk] at HV
        have hw : valB (wrap64 (-result)) = valB (-result) := by
          by_cases hm : result = -9223372036854775808
          · subst hm; unfold valB betw wrap64; rfl
          · rw [show wrap64 (-result) = -result by unfold wrap64; omega]
        obtain ⟨b, hb⟩ : ∃ b, valB (-result) = b := ⟨_, rfl⟩
        rw [hb] at HV hw
        have HB := Lib.hid hw
        have HB2 := Lib.hid hb
        clear ha hb hw hr
        go_enter Tryz.func174, Tryz.ntmps174
        go_wp2_with (go_at_call 212; first | (refine (opValue_any result _).mono ?_; rintro e w1 ⟨rfl, rfl⟩; rw [HA.out]) | (go_loud (refine (opValue_any _ _).mono ?_; rintro e w1 ⟨rfl, rfl⟩; first | rw [HB.out] | rw [HB2.out])))
        go_ret
        exact ⟨by rw [HV.out]; rfl, by (repeat' (with_reducible first | exact Below.refl _ _ | refine Ext.drewN ?_ _ | refine Below.drew ?_ | refine Below.setCell ?_ ?_ _ | refine Below.alloc ?_ ?_ _)) <;> (first | omega | (simp; done) | (simp; omega))⟩
  · by_cases hm : method = 3 ∨ method = 10 ∨ method = 11 ∨ method = 12
    · have HV : Hid (resB kind method result = (result == 0 || result == 1)) := by unfold Hid resB; rw [if_neg h1, if_pos hm]
      obtain ⟨b, hb⟩ : ∃ b, (result == 1) = b := ⟨_, rfl⟩
      rw [hb] at HV
      clear h1
      cases ha : (result == 0) with
      | true =>
        rw [ha] at HV
        rcases hm with rfl | rfl | rfl | rfl
        all_goals
          go_enter Tryz.func174, Tryz.ntmps174
          go_wp2_with fail
          go_ret
          exact ⟨by rw [HV.out]; rfl, by (repeat' (with_reducible first | exact Below.refl _ _ | refine Ext.drewN ?_ _ | refine Below.drew ?_ | refine Below.setCell ?_ ?_ _ | refine Below.alloc ?_ ?_ _)) <;> (first | omega | (simp; done) | (simp; omega))⟩
      | false =>
        rw [ha] at HV
        rcases hm with rfl | rfl | rfl | rfl
        all_goals
          go_enter Tryz.func174, Tryz.ntmps174
          go_wp2_with fail
          go_ret
          exact ⟨by rw [HV.out]; rfl, by (repeat' (with_reducible first | exact Below.refl _ _ | refine Ext.drewN ?_ _ | refine Below.drew ?_ | refine Below.setCell ?_ ?_ _ | refine Below.alloc ?_ ?_ _)) <;> (first | omega | (simp; done) | (simp; omega))⟩
    · by_cases hm2 : method = 7 ∨ method = 9
      · have HV : Hid (resB kind method result = (result == -1 || valB result)) := by unfold Hid resB; rw [if_neg h1, if_neg hm, if_pos hm2]
        clear h1 hm
        obtain ⟨b, hb⟩ : ∃ b, valB result = b := ⟨_, rfl⟩
        rw [hb] at HV
        have HA := Lib.hid hb
        clear hb
        cases ha : (result == -1) with
        | true =>
          rw [ha] at HV
          rcases hm2 with rfl | rfl
          all_goals
            go_enter Tryz.func174, Tryz.ntmps174
            go_wp2_with fail
            go_ret
            exact ⟨by rw [HV.out]; rfl, by (repeat' (with_reducible first | exact Below.refl _ _ | refine Ext.drewN ?_ _ | refine Below.drew ?_ | refine Below.setCell ?_ ?_ _ | refine Below.alloc ?_ ?_ _)) <;> (first | omega | (simp; done) | (simp; omega))⟩
        | false =>
          rw [ha] at HV
          rcases hm2 with rfl | rfl
          all_goals
            go_enter Tryz.func174, Tryz.ntmps174
            go_wp2_with (go_at_call 212; refine (opValue_any _ _).mono ?_; rintro e w1 ⟨rfl, rfl⟩; rw [HA.out])
            go_ret
            exact ⟨by rw [HV.out]; rfl, by (repeat' (with_reducible first | exact Below.refl _ _ | refine Ext.drewN ?_ _ | refine Below.drew ?_ | refine Below.setCell ?_ ?_ _ | refine Below.alloc ?_ ?_ _)) <;> (first | omega | (simp; done) | (simp; omega))⟩
      · have HV : Hid (resB kind method result = (result == 0)) := by unfold Hid resB; rw [if_neg h1, if_neg hm, if_neg hm2]
        have q1 : (method == 1) = false := by simpa using h1
        have q3 : (method == 3) = false := by simp; omega
        have q10 : (method == 10) = false := by simp; omega
        have q11 : (method == 11) = false := by simp; omega
        have q12 : (method == 12) = false := by simp; omega
        have q7 : (method == 7) = false := by simp; omega
        have q9 : (method == 9) = false := by simp; omega
        clear h1 hm hm2
        go_enter Tryz.func174, Tryz.ntmps174
        go_wp2_with fail
        go_ret
        exact ⟨by rw [HV.out]; rfl, by (repeat' (with_reducible first | exact Below.refl _ _ | refine Ext.drewN ?_ _ | refine Below.drew ?_ | refine Below.setCell ?_ ?_ _ | refine Below.alloc ?_ ?_ _)) <;> (first | omega | (simp; done) | (simp; omega))⟩
end Go.Proofs.YtojoefcfimmipaaGreat
namespace Go.Proofs.YtojoefcfimmipaaGreat
set_option linter.unusedSimpArgs false
set_option linter.unusedVariables false
open Go.RowKit
def chk1 (o : OpD) : Bool := decide (o.id < 1) || decide (1073741824 < o.id) || decide (o.proc < 0) || decide (1023 < o.proc) || decide (o.object < 0) || decide (1023 < o.object)
def chk2 (o : OpD) : Bool := !fitsB o.kind o.method || !argsB o.method o.arg o.second || o.done && !resB o.kind o.method o.result || !o.done && o.result != 0
def chk3 (o : OpD) : Bool := decide (o.invoke < 0) || decide (1099511627776 < o.invoke) || o.done && (decide (o.ret ≤ o.invoke) || decide (1099511627776 < o.ret)) || !o.done && o.ret != 0
theorem opChk_parts (o : OpD) : opChk o = if chk1 o = true then 30 else if chk2 o = true then 33 else if chk3 o = true then 31 else 0 := rfl
set_option maxRecDepth 100000 in
set_option maxHeartbeats 3000000 in
theorem opCheck_any (o : OpD) (w : World) (hr : -9223372036854775808 ≤ o.result ∧ o.result ≤ 9223372036854775807) : Calls Tryz.prog 130 #[o.val] w fun e w' => e = .returned (.int .i64 (opChk o)) ∧ Ext w w' := by
  have HP := Lib.hid (opChk_parts o)
  have H1 : Hid (chk1 o = (decide (o.id < 1) || decide (1073741824 < o.id) || decide (o.proc < 0) || decide (1023 < o.proc) || decide (o.object < 0) || decide (1023 < o.object))) := rfl
  have H3 : Hid (chk3 o = (decide (o.invoke < 0) || decide (1099511627776 < o.invoke) || o.done && (decide (o.ret ≤ o.invoke) || decide (1099511627776 < o.ret)) || !o.done && o.ret != 0)) := rfl
  have H2 : Hid (chk2 o = (!fitsB o.kind o.method || !argsB o.method o.arg o.second || o.done && !resB o.kind o.method o.result || !o.done && o.result != 0)) := rfl
  have HRES := Lib.hid hr
  have HBX : Hid (∀ W : World, Ext (w.alloc (.cells #[.int .i64 o.id, .int .i64 o.proc, .int .i64 o.object, .int .i64 o.kind, .int .i64 o.method, .int .i64 o.arg, .int .i64 o.second, .bool o.done, .int .i64 o.result, .int .i64 o.invoke, .int .i64 o.ret] 53)) W → At11 W w.heap.size o) := fun W h => (At11.row (Row1.made w 53 o.cells)).ext h (by simp)
  clear hr
  obtain ⟨b1, hb1⟩ : ∃ b, chk1 o = b := ⟨_, rfl⟩
  obtain ⟨b2, hb2⟩ : ∃ b, chk2 o = b := ⟨_, rfl⟩
  obtain ⟨b3, hb3⟩ : ∃ b, chk3 o = b := ⟨_, rfl⟩
  rw [hb1] at H1
  rw [hb2] at H2
  rw [hb3] at H3
  rw [hb1, hb2, hb3] at HP
  clear hb1 hb2 hb3
  go_enter Tryz.func130, Tryz.ntmps130
  go_upto_region 1 with fail
  go_cut [3] (fun s wx => s = .bool b1 ∧ wx = w.alloc (.cells #[.int .i64 o.id, .int .i64 o.proc, .int .i64 o.object, .int .i64 o.kind, .int .i64 o.method, .int .i64 o.arg, .int .i64 o.second, .bool o.done, .int .i64 o.result, .int .i64 o.invoke, .int .i64 o.ret] 53))
  case first =>
    go_wp2_with fail
    all_goals go_meet
    all_goals (refine ⟨?_, rfl⟩)
    all_goals go_light
    all_goals (rw [H1.out])
    all_goals (simp_all; try omega)
  case rest =>
  obtain ⟨rfl, rfl⟩ := hcut
  cases b1 with
  | true =>
    rw [if_pos rfl] at HP
    go_wp2_with fail
    go_ret
    exact ⟨by rw [HP.out]; rfl, by (repeat' (with_reducible first | exact Below.refl _ _ | refine Ext.drewN ?_ _ | refine Below.drew ?_ | refine Below.setCell ?_ ?_ _ | refine Below.alloc ?_ ?_ _)) <;> (first | omega | (simp; done) | (simp; omega))⟩
  | false =>
    rw [if_neg (by decide)] at HP
    clear H1
    go_upto_region 3 with fail
    go_cut [32] (fun s wx => s = .bool b2 ∧ Ext (w.alloc (.cells #[.int .i64 o.id, .int .i64 o.proc, .int .i64 o.object, .int .i64 o.kind, .int .i64 o.method, .int .i64 o.arg, .int .i64 o.second, .bool o.done, .int .i64 o.result, .int .i64 o.invoke, .int .i64 o.ret] 53)) wx)
    case first =>
      cases hf : fitsB o.kind o.method with
      | false =>
        have HF := Lib.hid hf
        obtain rfl : b2 = true := by rw [H2.out, hf]; rfl
        clear hf H2 H3
        go_wp2_with (go_at_call 172; refine (opFits_any _ _ _).mono ?_; rintro e w1 ⟨rfl, rfl⟩; rw [HF.out])
        go_meet
        exact ⟨rfl, Ext.refl _⟩
      | true =>
        have HF := Lib.hid hf
        cases ha : argsB o.method o.arg o.second with
        | false =>
          have HA := Lib.hid ha
          obtain rfl : b2 = true := by rw [H2.out, hf, ha]; rfl
          clear hf ha H2 H3
          go_wp2_with (go_at_call 172; refine (opFits_any _ _ _).mono ?_; rintro e w1 ⟨rfl, rfl⟩; rw [HF.out])
          refine (opArgs_any o _).mono ?_
          rintro e w1 ⟨rfl, hb1⟩
          rw [HA.out]
          have K1 := Lib.hid hb1
          clear hb1
          go_wp2_with fail
          go_meet
          exact ⟨rfl, K1.out⟩
        | true =>
          have HA := Lib.hid ha
          obtain ⟨dn, hd⟩ : ∃ d, o.done = d := ⟨_, rfl⟩
          cases dn with
          | false =>
            obtain ⟨q, hq⟩ : ∃ q, (o.result != 0) = q := ⟨_, rfl⟩
            obtain rfl : b2 = q := by rw [H2.out, hf, ha, hd, hq]; rfl
            have HD := Lib.hid hd
            clear hf ha hd H2 H3
            go_wp2_with (go_at_call 172; refine (opFits_any _ _ _).mono ?_; rintro e w1 ⟨rfl, rfl⟩; rw [HF.out])
            refine (opArgs_any o _).mono ?_
            rintro e w1 ⟨rfl, hb1⟩
            rw [HA.out]
            have K1 := Lib.hid hb1
            obtain ⟨a0, a1, a2, a3, a4, a5, a6, a7, a8, a9, a10⟩ := HBX.out _ hb1
            rw [HD.out] at a7
            clear hb1
            go_wp2_with fail
            go_meet
            exact ⟨rfl, K1.out⟩
          | true =>
            obtain ⟨q, hq⟩ : ∃ q, resB o.kind o.method o.result = q := ⟨_, rfl⟩
            obtain rfl : b2 = !q := by rw [H2.out, hf, ha, hd, hq]; cases q <;> rfl
            have HD := Lib.hid hd
            have HR := Lib.hid hq
            clear hf ha hd hq H2 H3
            go_wp2_with (go_at_call 172; refine (opFits_any _ _ _).mono ?_; rintro e w1 ⟨rfl, rfl⟩; rw [HF.out])
            refine (opArgs_any o _).mono ?_
            rintro e w1 ⟨rfl, hb1⟩
            rw [HA.out]
            have K1 := Lib.hid hb1
            obtain ⟨a0, a1, a2, a3, a4, a5, a6, a7, a8, a9, a10⟩ := HBX.out _ hb1
            rw [HD.out] at a7
            clear hb1
            go_wp2_with fail
            have HRR := opResult_any o w1 HRES.out
            dsimp only [OpD.val] at HRR
            rw [HD.out] at HRR
            refine HRR.mono ?_
            rintro e w2 ⟨rfl, hb2⟩
            rw [HR.out]
            have K2 := Lib.hid (Ext.trans K1.out hb2)
            clear HRR a0 a1 a2 a3 a4 a5 a6 a7 a8 a9 a10
            obtain ⟨a0, a1, a2, a3, a4, a5, a6, a7, a8, a9, a10⟩ := HBX.out _ K2.out
            rw [HD.out] at a7
            clear hb2
            cases q <;> (go_wp2_with fail; go_meet; exact ⟨rfl, K2.out⟩)
    case rest =>
    obtain ⟨rfl, hbx⟩ := hcut
    have KC := Lib.hid hbx
    obtain ⟨a0, a1, a2, a3, a4, a5, a6, a7, a8, a9, a10⟩ := HBX.out _ hbx
    clear hbx H2
    cases b2 with
    | true =>
      rw [if_pos rfl] at HP
      go_wp2_with fail
      go_ret
      exact ⟨by rw [HP.out]; rfl, Ext.trans (Ext.alloc _ _) KC.out⟩
    | false =>
      rw [if_neg (by decide)] at HP
      go_upto_region 5 with fail
      go_cut [63] (fun s wx => s = .bool b3 ∧ Ext (w.alloc (.cells #[.int .i64 o.id, .int .i64 o.proc, .int .i64 o.object, .int .i64 o.kind, .int .i64 o.method, .int .i64 o.arg, .int .i64 o.second, .bool o.done, .int .i64 o.result, .int .i64 o.invoke, .int .i64 o.ret] 53)) wx)
      case first =>
        go_wp2_with fail
        all_goals go_meet
        all_goals (refine ⟨?_, KC.out⟩)
        all_goals go_light
        all_goals (rw [H3.out])
        all_goals (simp_all; try omega)
      case rest =>
      obtain ⟨rfl, hbx⟩ := hcut
      clear a0 a1 a2 a3 a4 a5 a6 a7 a8 a9 a10
      cases b3 with
      | true =>
        rw [if_pos rfl] at HP
        go_wp2_with fail
        go_ret
        exact ⟨by rw [HP.out]; rfl, Ext.trans (Ext.alloc _ _) hbx⟩
      | false =>
        rw [if_neg (by decide)] at HP
        go_wp2_with fail
        go_ret
        exact ⟨by rw [HP.out]; rfl, Ext.trans (Ext.alloc _ _) hbx⟩
end Go.Proofs.YtojoefcfimmipaaGreat
namespace Go.Proofs.YtojoefcfimmipaaGreat
set_option linter.unusedSimpArgs false
set_option linter.unusedVariables false
def varF : Nat → Nat → List UInt8
  | 0, n => [UInt8.ofNat n]
  | k + 1, n => if 128 ≤ n then UInt8.ofNat (n % 128 + 128) :: varF k (n / 128) else [UInt8.ofNat n]
/-- a number below 2^64, written -/
def varL (n : Nat) : List UInt8 := varF 9 n
def unvarF : List UInt8 → Nat → Nat → Nat × Nat
  | [], _, _ => (0, 0)
  | c :: r, i, acc =>
    if 10 ≤ i then (0, 0)
    else if i = 9 ∧ 1 < c.toNat then (0, 0)
    else if c.toNat < 128 then (if c.toNat = 0 ∧ 0 < i then (0, 0) else (acc + c.toNat % 128 * 128 ^ i, i + 1))
    else unvarF r (i + 1) (acc + c.toNat % 128 * 128 ^ i)
/-- a number read, and its bytes; none of these: it is not so written -/
def unvarL (s : List UInt8) : Nat × Nat := unvarF s 0 0
def foldN (n : Int) : Nat := if 0 ≤ n then (2 * n).toNat else (-2 * n - 1).toNat
def unfoldN (u : Nat) : Int := if u % 2 = 0 then (u / 2 : Nat) else -((u / 2 : Nat) : Int) - 1
theorem unfold_fold (n : Int) : unfoldN (foldN n) = n := by
  unfold unfoldN foldN
  split <;> split <;> omega
theorem foldN_lt {n : Int} (h1 : -9223372036854775808 ≤ n) (h2 : n ≤ 9223372036854775807) : foldN n < 18446744073709551616 := by
  unfold foldN
  split <;> omega
theorem byte_nat {n : Nat} (h : n < 256) : (UInt8.ofNat n).toNat = n := by simp; omega
theorem varF_pos : ∀ (k n : Nat), 0 < (varF k n).length
  | 0, n => by simp [varF]
  | k + 1, n => by unfold varF; split <;> simp
theorem varF_len : ∀ (k n : Nat), (varF k n).length ≤ k + 1
  | 0, n => by simp [varF]
  | k + 1, n => by
    unfold varF; split
    · simp only [List.length_cons]; have := varF_len k (n / 128); omega
    · simp
theorem varL_len (n : Nat) : 0 < (varL n).length ∧ (varL n).length ≤ 10 := ⟨varF_pos _ _, varF_len _ _⟩
theorem unvar_varF : ∀ (k i n acc : Nat) (t : List UInt8), i + k = 9 → n * 128 ^ i < 18446744073709551616 → (0 < i → 0 < n) → unvarF (varF k n ++ t) i acc = (acc + n * 128 ^ i, i + (varF k n).length)
  | 0, i, n, acc, t, hi, hn, hp => by
    obtain rfl : i = 9 := by omega
    have h1 : n < 2 := by omega
    have h2 : (UInt8.ofNat n).toNat = n := byte_nat (by omega)
    simp only [varF, List.singleton_append, unvarF, h2, List.length_singleton]
    have := hp (by omega)
    rw [if_neg (by omega), if_neg (by omega), if_pos (by omega), if_neg (by omega), Nat.mod_eq_of_lt (by omega)]
  | k + 1, i, n, acc, t, hi, hn, hp => by
    unfold varF
    split
    · rename_i h
      have h2 : (UInt8.ofNat (n % 128 + 128)).toNat = n % 128 + 128 := byte_nat (by omega)
      have e : n = n % 128 + 128 * (n / 128) := by omega
      have hs : n / 128 * 128 ^ (i + 1) ≤ n * 128 ^ i := by
        rw [Nat.pow_succ, Nat.mul_comm (128 ^ i) 128, ← Nat.mul_assoc]
        exact Nat.mul_le_mul_right _ (by omega)
      simp only [List.cons_append, unvarF, h2]
      rw [if_neg (by omega), if_neg (by omega), if_neg (by omega), unvar_varF k (i + 1) (n / 128) _ t (by omega) (by omega) (by omega)]
      have e2 : (n % 128 + 128) % 128 = n % 128 := by omega
      rw [e2]
      have e3 : n * 128 ^ i = n % 128 * 128 ^ i + n / 128 * 128 ^ (i + 1) := by
        conv => lhs; rw [e]
        rw [Nat.add_mul, Nat.pow_succ, Nat.mul_comm 128 (n / 128), Nat.mul_assoc, Nat.mul_comm 128 (128 ^ i)]
      rw [e3, List.length_cons]
      congr 1 <;> omega
    · rename_i h
      have h2 : (UInt8.ofNat n).toNat = n := byte_nat (by omega)
      simp only [List.singleton_append, unvarF, h2, List.length_singleton]
      rw [if_neg (by omega), if_neg (by omega), if_pos (by omega), if_neg (by omega), Nat.mod_eq_of_lt (by omega)]
/-- what is written is read as it was -/
theorem unvar_varL {n : Nat} (h : n < 18446744073709551616) (t : List UInt8) : unvarL (varL n ++ t) = (n, (varL n).length) := by
  unfold unvarL varL
  rw [unvar_varF 9 0 n 0 t rfl (by simpa using h) (by omega)]
  simp
def IsInt (n : Int) : Prop := -9223372036854775808 ≤ n ∧ n ≤ 9223372036854775807
end Go.Proofs.YtojoefcfimmipaaGreat
namespace Go.Proofs.YtojoefcfimmipaaGreat
set_option linter.unusedSimpArgs false
set_option linter.unusedVariables false
def opV (o : OpD) : List Int := [o.id, o.proc, o.object, o.kind, o.method, o.arg, o.second, o.invoke]
def opL (o : OpD) : List UInt8 := (opV o).flatMap (fun n => varL n.toNat) ++ if o.done = true then varL (o.ret - o.invoke).toNat ++ varL (foldN o.result) else []
/-- what an operation's numbers are, if it may be -/
structure OpIn (o : OpD) : Prop where
  nums : ∀ n ∈ opV o, 0 ≤ n ∧ n ≤ 1099511627776
  id : 1 ≤ o.id ∧ o.id ≤ 1073741824
  invoke : 0 ≤ o.invoke
  result : -1073741824 ≤ o.result ∧ o.result ≤ 1073741824
  yes : o.done = true → o.invoke < o.ret ∧ o.ret ≤ 1099511627776
  no : o.done = false → o.result = 0 ∧ o.ret = 0
theorem OpIn.of {o : OpD} (h : opChk o = 0) : OpIn o := by
  unfold opChk at h
  split at h
  · omega
  rename_i h1
  split at h
  · omega
  rename_i h2
  split at h
  · omega
  rename_i h3
  have hf : fitsB o.kind o.method = true := by
    cases q : fitsB o.kind o.method
    · rw [q] at h2; simp at h2
    · rfl
  have hkm : 1 ≤ o.kind ∧ o.kind ≤ 6 ∧ 1 ≤ o.method ∧ o.method ≤ 14 := by
    rcases fits_pairs _ _ hf with q | q | q | q | q | q | q | q | q | q | q | q | q | q | q <;> (obtain ⟨q1, q2⟩ := q; omega)
  have ha : argsB o.method o.arg o.second = true := by
    cases q : argsB o.method o.arg o.second
    · rw [q] at h2; simp at h2
    · rfl
  have has : (0 ≤ o.arg ∧ o.arg ≤ 1073741824) ∧ 0 ≤ o.second ∧ o.second ≤ 1073741824 := by
    unfold argsB at ha
    split at ha
    · simp [valB, betw] at ha; omega
    · split at ha
      · simp [valB, betw] at ha; omega
      · simp at ha; omega
  simp only [Bool.or_eq_true, decide_eq_true_eq, not_or] at h1
  refine ⟨?_, by omega, ?_, ?_, fun hd => ?_, fun hd => ?_⟩
  · intro n hn
    simp only [opV, List.mem_cons, List.not_mem_nil, or_false] at hn
    simp only [Bool.or_eq_true, decide_eq_true_eq, not_or] at h3
    rcases hn with rfl | rfl | rfl | rfl | rfl | rfl | rfl | rfl <;> omega
  · simp only [Bool.or_eq_true, decide_eq_true_eq, not_or] at h3; omega
  · cases hd : o.done
    · rw [hd] at h2
      have : o.result = 0 := by
        rw [hf, ha] at h2; simpa using h2
      omega
    · have hr : resB o.kind o.method o.result = true := by
        rw [hd, hf, ha] at h2; simpa using h2
      unfold resB at hr
      split at hr
      · simp [valB, betw] at hr; omega
      · split at hr
        · simp at hr; omega
        · split at hr
          · simp [valB, betw] at hr; omega
          · simp at hr; omega
  · rw [hd] at h3; simp at h3; omega
  · rw [hd, hf, ha] at h2
    rw [hd] at h3
    simp at h2 h3
    exact ⟨by omega, by omega⟩
theorem opL_pos (o : OpD) : opL o ≠ [] := by
  intro q
  have h := congrArg List.length q
  have h1 : opV o = o.id :: (opV o).tail := rfl
  unfold opL at h
  rw [h1, List.flatMap_cons, List.length_append, List.length_append, List.length_nil] at h
  have := (varL_len o.id.toNat).1
  omega
theorem varF_short : ∀ (j k n : Nat), n < 128 ^ (j + 1) → (varF k n).length ≤ j + 1
  | j, 0, n, h => by simp [varF]
  | 0, k + 1, n, h => by
    unfold varF
    rw [if_neg (by omega)]; simp
  | j + 1, k + 1, n, h => by
    unfold varF
    split
    · rw [List.length_cons]
      have := varF_short j k (n / 128) (by rw [Nat.div_lt_iff_lt_mul (by omega)]; rw [Nat.pow_succ] at h; exact h)
      omega
    · simp
theorem varL_short {n : Nat} (h : n ≤ 2199023255552) : (varL n).length ≤ 6 := varF_short 5 9 n (by omega)
theorem opV_flat_len (l : List Int) (h : ∀ n ∈ l, 0 ≤ n ∧ n ≤ 1099511627776) : (l.flatMap (fun n => varL n.toNat)).length ≤ 6 * l.length := by
  induction l with
  | nil => simp
  | cons a r ih =>
    rw [List.flatMap_cons, List.length_append, List.length_cons]
    have h1 := ih (fun n hn => h n (List.mem_cons_of_mem _ hn))
    have h2 := h a List.mem_cons_self
    have := varL_short (n := a.toNat) (by omega)
    omega
theorem opL_len {o : OpD} (h : OpIn o) : (opL o).length ≤ 60 := by
  unfold opL
  rw [List.length_append]
  have h1 := opV_flat_len (opV o) h.nums
  have h2 : (opV o).length = 8 := rfl
  split
  · rename_i hd
    have h3 := h.yes hd
    have h5 := h.invoke
    have h4 := h.result
    have h6 := varL_short (n := (o.ret - o.invoke).toNat) (by omega)
    have h7 := varL_short (n := foldN o.result) (by unfold foldN; split <;> omega)
    rw [List.length_append]; omega
  · rw [List.length_nil]; omega
end Go.Proofs.YtojoefcfimmipaaGreat
