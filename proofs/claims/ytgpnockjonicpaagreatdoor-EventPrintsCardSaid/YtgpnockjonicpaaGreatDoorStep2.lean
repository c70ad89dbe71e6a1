/- ref26.open; event.arguments. Conditions: that all can be read. -/
/- ref26.step at an invocation. Conditions: that all can be read, fewer than 10^8 operations. -/
/- ref26.step at an answer. Conditions: that all can be read, fewer than 10^8 operations. -/
import Derived.Test.YtgpnockjonicpaaGreatDoorOps2
import Derived.Test.YtgpnockjonicpaaGreatDoorOwnL
import Derived.Test.YtgpnockjonicpaaGreatDoorEv3
import Derived.Test.YtgpnockjonicpaaGreatDoorRChk2
import Derived.Test.YtgpnockjonicpaaGreatDoorWith2
import Derived.BigRegion
namespace Go.Proofs.YtgpnockjonicpaaGreatDoor
set_option linter.unusedSimpArgs false
set_option linter.unusedVariables false
open Go.RowKit

/-- the place of a process's operation without an answer; -1: there is none -/
def openAt (proc : Int) : Nat → List OpD → Int
  | _, [] => -1
  | k, x :: r => if (x.proc == proc && !x.done) = true then k else openAt proc (k + 1) r
def openL (l : List OpD) (proc : Int) : Int := openAt proc 0 l
theorem openAt_at (l : List OpD) (proc : Int) (k : Nat) (h : k < l.length) : openAt proc k (l.drop k) = if (l[k].proc == proc && !l[k].done) = true then (k : Int) else openAt proc (k + 1) (l.drop (k + 1)) := by
  rw [List.drop_eq_getElem_cons h, openAt]

set_option maxRecDepth 100000 in
set_option maxHeartbeats 1000000 in
theorem refOpen_any (V : Value) (l : List OpD) (proc : Int) (w : World) (hs : Sl w 11 ROp V l) :
    Calls Tryz.prog 41 #[V, .int .i64 proc] w fun e w' => e = .returned (.int .i64 (openL l proc)) ∧ w' = w := by
  obtain ⟨A, c, rfl⟩ := hs.form
  obtain ⟨_, hc1, hc2, hA⟩ := hs.at
  have HA := Lib.hid hA
  clear hs hA
  go_enter Tryz.func41, Tryz.ntmps41
  go_wp2_with fail
  go_loop [5] (fun i => ∃ k : Nat, k ≤ l.length ∧ i = .int .i64 k ∧ openL l proc = openAt proc k (l.drop k)) (fun i => l.length - (intOf i).toNat)
  case atStart => exact ⟨0, by omega, rfl, rfl⟩
  case round =>
    obtain ⟨k, hk, rfl, hf⟩ := hrel
    have HF := Lib.hid hf
    clear hf
    by_cases hlt : k < l.length
    · have hd : decide ((k : Int) < (l.length : Int)) = true := by simp; omega
      obtain ⟨b, off, rfl, hbl, hcell⟩ := HA.out (by omega)
      obtain ⟨cs, rfl, _, hcs⟩ := hcell k hlt
      have h1 := hcs 1 _ rfl
      have h7 := hcs 7 _ rfl
      have HAT := Lib.hid (openAt_at l proc k hlt)
      clear hcell hcs
      generalize l[k] = x at *
      cases q1 : (x.proc == proc) with
      | false =>
        have HN : Hid (openL l proc = openAt proc (k + 1) (l.drop (k + 1))) := by unfold Hid; rw [HF.out, HAT.out, q1]; rfl
        go_wp2_with fail
        go_round
        case rel => exact ⟨k + 1, by omega, by go_num, HN.out⟩
        case measure => simp [intOf]; omega
      | true =>
        obtain ⟨dn, hdn⟩ : ∃ dn, x.done = dn := ⟨_, rfl⟩
        rw [hdn] at h7
        cases dn with
        | true =>
          have HN : Hid (openL l proc = openAt proc (k + 1) (l.drop (k + 1))) := by unfold Hid; rw [HF.out, HAT.out, q1, hdn]; rfl
          clear hdn
          go_wp2_with fail
          go_round
          case rel => exact ⟨k + 1, by omega, by go_num, HN.out⟩
          case measure => simp [intOf]; omega
        | false =>
          have HN : Hid (openL l proc = (k : Int)) := by unfold Hid; rw [HF.out, HAT.out, q1, hdn]; rfl
          clear hdn
          go_wp2_with fail
          go_ret
          exact ⟨by rw [HN.out]; rfl, rfl⟩
    · have hd : decide ((k : Int) < (l.length : Int)) = false := by simp; omega
      have HN : Hid (openL l proc = -1) := by unfold Hid; rw [HF.out, show k = l.length by omega, List.drop_length]; rfl
      go_wp2_with fail
      go_ret
      exact ⟨by rw [HN.out]; rfl, rfl⟩

def argsN (m : Int) : Int := if m = 3 then 2 else if m = 2 ∨ m = 6 ∨ m = 8 ∨ m = 10 ∨ m = 11 ∨ m = 12 then 1 else 0
theorem arguments_any (m : Int) (w : World) : Calls Tryz.prog 51 #[.int .i64 m] w fun e w' => e = .returned (.int .i64 (argsN m)) ∧ w' = w := by
  by_cases h3 : m = 3
  · subst h3
    go_enter Tryz.func51, Tryz.ntmps51
    go_wp2_with fail
    go_ret
    exact ⟨rfl, rfl⟩
  · by_cases hm : m = 2 ∨ m = 6 ∨ m = 8 ∨ m = 10 ∨ m = 11 ∨ m = 12
    · rcases hm with rfl | rfl | rfl | rfl | rfl | rfl
      all_goals
        go_enter Tryz.func51, Tryz.ntmps51
        go_wp2_with fail
        go_ret
        exact ⟨rfl, rfl⟩
    · have HV : Hid (argsN m = 0) := by unfold Hid argsN; rw [if_neg h3, if_neg hm]
      have q3 : (m == 3) = false := by simpa using h3
      have q2 : (m == 2) = false := by simp; omega
      have q6 : (m == 6) = false := by simp; omega
      have q8 : (m == 8) = false := by simp; omega
      have q10 : (m == 10) = false := by simp; omega
      have q11 : (m == 11) = false := by simp; omega
      have q12 : (m == 12) = false := by simp; omega
      clear h3 hm
      go_enter Tryz.func51, Tryz.ntmps51
      go_wp2_with fail
      go_ret
      exact ⟨by rw [HV.out]; rfl, rfl⟩
end Go.Proofs.YtgpnockjonicpaaGreatDoor
namespace Go.Proofs.YtgpnockjonicpaaGreatDoor
set_option linter.unusedSimpArgs false
set_option linter.unusedVariables false
open Go.RowKit

def opOf (x : EvD) : OpD := ⟨x.id, x.proc, x.object, x.kind, x.method, x.arg, x.second, false, 0, x.time, 0⟩
def invCode (x : EvD) : Int := if chkL (opOf x) = 0 ∧ x.result ≠ 0 then 33 else chkL (opOf x)
def stepInv (l : List OpD) (x : EvD) : List OpD × Int := if (getL l x.id).isSome = true then (l, 7) else if 0 ≤ openL l x.proc then (l, 32) else (withL l (opOf x), invCode x)

set_option maxRecDepth 100000 in
set_option maxHeartbeats 4000000 in
theorem stepInv_lit (V : Value) (l : List OpD) (x : EvD) (w : World) (hs : Sl w 11 ROp V l) (hn : l.length ≤ 100000000) (hx : x.answer = false) :
    Calls Tryz.prog 22 #[V, .agg #[.int .i64 x.time, .int .i64 x.proc, .bool false, .int .i64 x.id, .int .i64 x.object, .int .i64 x.kind, .int .i64 x.method, .int .i64 x.arg, .int .i64 x.second, .int .i64 x.result]] w fun e w' => (∃ v, e = .returned (.tuple #[v, .int .i64 (stepInv l x).2]) ∧ Sl w' 11 ROp v (stepInv l x).1) ∧ Ext w w' := by
  obtain ⟨A, c, rfl⟩ := hs.form
  have HS := Lib.hid hs
  have HX := Lib.hid hx
  have HV : Hid (stepInv l x = if (getL l x.id).isSome = true then (l, 7) else if 0 ≤ openL l x.proc then (l, 32) else (withL l (opOf x), invCode x)) := rfl
  have HBX : Hid (∀ W : World, Ext (w.alloc (.cells #[.int .i64 x.time, .int .i64 x.proc, .bool false, .int .i64 x.id, .int .i64 x.object, .int .i64 x.kind, .int .i64 x.method, .int .i64 x.arg, .int .i64 x.second, .int .i64 x.result] 57)) W → At10 W w.heap.size x) := fun W h => (At10.row (Row1.made w 57 x.cells)).ext (by rw [show x.cells.toArray = #[.int .i64 x.time, .int .i64 x.proc, .bool false, .int .i64 x.id, .int .i64 x.object, .int .i64 x.kind, .int .i64 x.method, .int .i64 x.arg, .int .i64 x.second, .int .i64 x.result] from by simp [EvD.cells, hx]]; exact h) (by simp)
  clear hs hx
  obtain ⟨a0, a1, a2, a3, a4, a5, a6, a7, a8, a9⟩ := HBX.out _ (Ext.refl _)
  rw [HX.out] at a2
  go_enter Tryz.func22, Tryz.ntmps22
  go_upto_region 1 with fail
  go_cut [6] (fun s wx => s = .int .i64 (openL l x.proc) ∧ wx = w.alloc (.cells #[.int .i64 x.time, .int .i64 x.proc, .bool false, .int .i64 x.id, .int .i64 x.object, .int .i64 x.kind, .int .i64 x.method, .int .i64 x.arg, .int .i64 x.second, .int .i64 x.result] 57))
  case first =>
    go_wp2_with fail
    refine (refOpen_any _ l x.proc _ (HS.out.ext (by (repeat' (with_reducible first | exact Below.refl _ _ | refine Ext.drewN ?_ _ | refine Below.drew ?_ | refine Below.setCell ?_ ?_ _ | refine Below.alloc ?_ ?_ _)) <;> (first | omega | (simp; done) | (simp; omega))))).mono ?_
    rintro e w' ⟨rfl, rfl⟩
    go_wp2_with fail
    go_meet
    exact ⟨rfl, rfl⟩
  case rest =>
  obtain ⟨rfl, rfl⟩ := hcut
  go_wp2_with fail
  refine (refGet_any _ l x.id _ (HS.out.ext (by (repeat' (with_reducible first | exact Below.refl _ _ | refine Ext.drewN ?_ _ | refine Below.drew ?_ | refine Below.setCell ?_ ?_ _ | refine Below.alloc ?_ ?_ _)) <;> (first | omega | (simp; done) | (simp; omega))))).mono ?_
  rintro e w1 ⟨rfl, hb1⟩
  generalize (getL l x.id).getD opZero = g0
  generalize (getL l x.id).isSome = found at *
  have K1 := Lib.hid hb1
  have hz1 := hb1.size
  simp at hz1
  have hlt0 : w.heap.size < w1.heap.size := by omega
  clear hb1 a0 a1 a2 a3 a4 a5 a6 a7 a8 a9
  obtain ⟨a0, a1, a2, a3, a4, a5, a6, a7, a8, a9⟩ := HBX.out _ K1.out
  rw [HX.out] at a2
  have KW : Hid (Ext w w1) := Ext.trans (Ext.alloc _ _) K1.out
  cases found with
  | true =>
    rw [if_pos rfl] at HV
    go_wp2_with fail
    go_ret2
    exact ⟨⟨_, by rw [HV.out]; rfl, by rw [HV.out]; exact HS.out.ext (by (repeat' (with_reducible first | exact KW.out | exact Below.refl _ _ | refine Ext.drewN ?_ _ | refine Below.drew ?_ | refine Below.setCell ?_ ?_ _ | refine Below.alloc ?_ ?_ _)) <;> (first | omega | (simp; done) | (simp; omega)))⟩, by (repeat' (with_reducible first | exact KW.out | exact Below.refl _ _ | refine Ext.drewN ?_ _ | refine Below.drew ?_ | refine Below.setCell ?_ ?_ _ | refine Below.alloc ?_ ?_ _)) <;> (first | omega | (simp; done) | (simp; omega))⟩
  | false =>
    rw [if_neg (by decide)] at HV
    generalize openL l x.proc = k at *
    by_cases hk : 0 ≤ k
    · have q : decide (0 ≤ k) = true := by simpa using hk
      rw [if_pos hk] at HV
      clear hk
      go_wp2_with fail
      go_ret2
      exact ⟨⟨_, by rw [HV.out]; rfl, by rw [HV.out]; exact HS.out.ext (by (repeat' (with_reducible first | exact KW.out | exact Below.refl _ _ | refine Ext.drewN ?_ _ | refine Below.drew ?_ | refine Below.setCell ?_ ?_ _ | refine Below.alloc ?_ ?_ _)) <;> (first | omega | (simp; done) | (simp; omega)))⟩, by (repeat' (with_reducible first | exact KW.out | exact Below.refl _ _ | refine Ext.drewN ?_ _ | refine Below.drew ?_ | refine Below.setCell ?_ ?_ _ | refine Below.alloc ?_ ?_ _)) <;> (first | omega | (simp; done) | (simp; omega))⟩
    · have q : decide (0 ≤ k) = false := by simpa using hk
      rw [if_neg hk] at HV
      clear hk
      have HIC : Hid (invCode x = if chkL (opOf x) = 0 ∧ x.result ≠ 0 then 33 else chkL (opOf x)) := rfl
      go_upto_region 9 with fail
      go_wp2_with fail
      refine (refCheck_any (opOf x) _).mono ?_
      rintro e w2 ⟨rfl, hb2⟩
      have K2 := Lib.hid hb2
      have hz2 := hb2.size
      simp at hz2
      have hlt2 : w.heap.size < w2.heap.size := by omega
      have hlt3 : w1.heap.size + 1 < w2.heap.size := by omega
      have d := Lib.hid ((At11.row (Row1.made' (w := w1.alloc (.cells #[.int .i64 g0.id, .int .i64 g0.proc, .int .i64 g0.object, .int .i64 g0.kind, .int .i64 g0.method, .int .i64 g0.arg, .int .i64 g0.second, .bool g0.done, .int .i64 g0.result, .int .i64 g0.invoke, .int .i64 g0.ret] 43)) (n := w1.heap.size + 1) (by simp) 43 (opOf x).cells)).ext hb2 (by simp))
      clear hb2 a0 a1 a2 a3 a4 a5 a6 a7 a8 a9
      have KW2 : Hid (Ext w w2) := Ext.trans (by (repeat' (with_reducible first | exact KW.out | exact Below.refl _ _ | refine Ext.drewN ?_ _ | refine Below.drew ?_ | refine Below.setCell ?_ ?_ _ | refine Below.alloc ?_ ?_ _)) <;> (first | omega | (simp; done) | (simp; omega)) : Ext w _) K2.out
      have KB2 : Hid (Ext (w.alloc (.cells #[.int .i64 x.time, .int .i64 x.proc, .bool false, .int .i64 x.id, .int .i64 x.object, .int .i64 x.kind, .int .i64 x.method, .int .i64 x.arg, .int .i64 x.second, .int .i64 x.result] 57)) w2) := Ext.trans (by (repeat' (with_reducible first | exact K1.out | exact Below.refl _ _ | refine Ext.drewN ?_ _ | refine Below.drew ?_ | refine Below.setCell ?_ ?_ _ | refine Below.alloc ?_ ?_ _)) <;> (first | omega | (simp; done) | (simp; omega)) : Ext (w.alloc (.cells #[.int .i64 x.time, .int .i64 x.proc, .bool false, .int .i64 x.id, .int .i64 x.object, .int .i64 x.kind, .int .i64 x.method, .int .i64 x.arg, .int .i64 x.second, .int .i64 x.result] 57)) _) K2.out
      obtain ⟨a0, a1, a2, a3, a4, a5, a6, a7, a8, a9⟩ := HBX.out _ KB2.out
      obtain ⟨d0, d1, d2, d3, d4, d5, d6, d7, d8, d9, d10⟩ := d.out
      generalize chkL (opOf x) = f at *
      by_cases hf : f = 0
      · have q1 : (f == 0) = true := by simpa using hf
        by_cases hr : x.result = 0
        · have q2 : (x.result != 0) = false := by simpa using hr
          rw [if_neg (fun h => h.2 hr)] at HIC
          clear hf hr
          go_wp2_with fail; refine (refWith_any _ l (opOf x) _ (HS.out.ext (by (repeat' (with_reducible first | exact KW2.out | exact Below.refl _ _ | refine Ext.drewN ?_ _ | refine Below.drew ?_ | refine Below.setCell ?_ ?_ _ | refine Below.alloc ?_ ?_ _)) <;> (first | omega | (simp; done) | (simp; omega)))) hn).mono ?_; rintro e w3 ⟨⟨v, rfl, hown⟩, hb3⟩; have hz3 := hb3.size; (try simp at hz3); have KW3 : Hid (Ext w w3) := Ext.trans (by (repeat' (with_reducible first | exact KW2.out | exact Below.refl _ _ | refine Ext.drewN ?_ _ | refine Below.drew ?_ | refine Below.setCell ?_ ?_ _ | refine Below.alloc ?_ ?_ _)) <;> (first | omega | (simp; done) | (simp; omega)) : Ext w _) hb3; have HOW := Lib.hid hown; obtain ⟨vA, vc, rfl⟩ := hown.form; clear hown hb3 a0 a1 a2 a3 a4 a5 a6 a7 a8 a9 d0 d1 d2 d3 d4 d5 d6 d7 d8 d9 d10; go_wp2_with fail; go_ret2; exact ⟨⟨_, by rw [HV.out]; dsimp only; rw [HIC.out]; rfl, by rw [HV.out]; exact HOW.out.sl op_len (fun _ => rfl)⟩, by (repeat' (with_reducible first | exact KW3.out | exact Below.refl _ _ | refine Ext.drewN ?_ _ | refine Below.drew ?_ | refine Below.setCell ?_ ?_ _ | refine Below.alloc ?_ ?_ _)) <;> (first | omega | (simp; done) | (simp; omega))⟩
        · have q2 : (x.result != 0) = true := by simpa using hr
          rw [if_pos ⟨hf, hr⟩] at HIC
          clear hf hr
          go_wp2_with fail; refine (refWith_any _ l (opOf x) _ (HS.out.ext (by (repeat' (with_reducible first | exact KW2.out | exact Below.refl _ _ | refine Ext.drewN ?_ _ | refine Below.drew ?_ | refine Below.setCell ?_ ?_ _ | refine Below.alloc ?_ ?_ _)) <;> (first | omega | (simp; done) | (simp; omega)))) hn).mono ?_; rintro e w3 ⟨⟨v, rfl, hown⟩, hb3⟩; have hz3 := hb3.size; (try simp at hz3); have KW3 : Hid (Ext w w3) := Ext.trans (by (repeat' (with_reducible first | exact KW2.out | exact Below.refl _ _ | refine Ext.drewN ?_ _ | refine Below.drew ?_ | refine Below.setCell ?_ ?_ _ | refine Below.alloc ?_ ?_ _)) <;> (first | omega | (simp; done) | (simp; omega)) : Ext w _) hb3; have HOW := Lib.hid hown; obtain ⟨vA, vc, rfl⟩ := hown.form; clear hown hb3 a0 a1 a2 a3 a4 a5 a6 a7 a8 a9 d0 d1 d2 d3 d4 d5 d6 d7 d8 d9 d10; go_wp2_with fail; go_ret2; exact ⟨⟨_, by rw [HV.out]; dsimp only; rw [HIC.out]; rfl, by rw [HV.out]; exact HOW.out.sl op_len (fun _ => rfl)⟩, by (repeat' (with_reducible first | exact KW3.out | exact Below.refl _ _ | refine Ext.drewN ?_ _ | refine Below.drew ?_ | refine Below.setCell ?_ ?_ _ | refine Below.alloc ?_ ?_ _)) <;> (first | omega | (simp; done) | (simp; omega))⟩
      · have q1 : (f == 0) = false := by simpa using hf
        rw [if_neg (fun h => hf h.1)] at HIC
        clear hf
        go_wp2_with fail; refine (refWith_any _ l (opOf x) _ (HS.out.ext (by (repeat' (with_reducible first | exact KW2.out | exact Below.refl _ _ | refine Ext.drewN ?_ _ | refine Below.drew ?_ | refine Below.setCell ?_ ?_ _ | refine Below.alloc ?_ ?_ _)) <;> (first | omega | (simp; done) | (simp; omega)))) hn).mono ?_; rintro e w3 ⟨⟨v, rfl, hown⟩, hb3⟩; have hz3 := hb3.size; (try simp at hz3); have KW3 : Hid (Ext w w3) := Ext.trans (by (repeat' (with_reducible first | exact KW2.out | exact Below.refl _ _ | refine Ext.drewN ?_ _ | refine Below.drew ?_ | refine Below.setCell ?_ ?_ _ | refine Below.alloc ?_ ?_ _)) <;> (first | omega | (simp; done) | (simp; omega)) : Ext w _) hb3; have HOW := Lib.hid hown; obtain ⟨vA, vc, rfl⟩ := hown.form; clear hown hb3 a0 a1 a2 a3 a4 a5 a6 a7 a8 a9 d0 d1 d2 d3 d4 d5 d6 d7 d8 d9 d10; go_wp2_with fail; go_ret2; exact ⟨⟨_, by rw [HV.out]; dsimp only; rw [HIC.out]; rfl, by rw [HV.out]; exact HOW.out.sl op_len (fun _ => rfl)⟩, by (repeat' (with_reducible first | exact KW3.out | exact Below.refl _ _ | refine Ext.drewN ?_ _ | refine Below.drew ?_ | refine Below.setCell ?_ ?_ _ | refine Below.alloc ?_ ?_ _)) <;> (first | omega | (simp; done) | (simp; omega))⟩
end Go.Proofs.YtgpnockjonicpaaGreatDoor
namespace Go.Proofs.YtgpnockjonicpaaGreatDoor
set_option linter.unusedSimpArgs false
set_option linter.unusedVariables false
open Go.RowKit

theorem openAt_range (proc : Int) : ∀ (l : List OpD) (k : Nat), openAt proc k l = -1 ∨ ∃ j : Nat, openAt proc k l = ((k + j : Nat) : Int) ∧ j < l.length
  | [], _ => .inl rfl
  | x :: r, k => by
    unfold openAt
    split
    · exact .inr ⟨0, rfl, by simp⟩
    · rcases openAt_range proc r (k + 1) with h | ⟨j, h, hj⟩
      · exact .inl h
      · exact .inr ⟨j + 1, by rw [h]; congr 1; omega, by simp; omega⟩
theorem openL_range (l : List OpD) (proc : Int) : openL l proc = -1 ∨ ∃ j : Nat, openL l proc = (j : Int) ∧ j < l.length := by
  rcases openAt_range proc l 0 with h | ⟨j, h, hj⟩
  · exact .inl h
  · exact .inr ⟨j, by unfold openL; rw [h, Nat.zero_add], hj⟩
/-- an operation, answered -/
def answered (o : OpD) (x : EvD) : OpD := ⟨o.id, o.proc, o.object, o.kind, o.method, o.arg, o.second, true, x.result, o.invoke, x.time⟩
def saysMore (x : EvD) : Bool := x.object != 0 || (x.kind != 0 || (x.method != 0 || (x.arg != 0 || x.second != 0)))
def stepAt (l : List OpD) (x : EvD) : Option OpD → List OpD × Int
  | some o => if o.id = x.id then (if saysMore x = true then (l, 33) else (withL l (answered o x), chkL (answered o x))) else (l, 6)
  | none => (l, 6)
def stepAns (l : List OpD) (x : EvD) : List OpD × Int :=
  match openL l x.proc with
  | .ofNat k => stepAt l x l[k]?
  | .negSucc _ => (l, 6)

set_option maxRecDepth 100000 in
set_option maxHeartbeats 4000000 in
theorem stepAns_lit (V : Value) (l : List OpD) (x : EvD) (w : World) (hs : Sl w 11 ROp V l) (hn : l.length ≤ 100000000) (hx : x.answer = true) :
    Calls Tryz.prog 22 #[V, .agg #[.int .i64 x.time, .int .i64 x.proc, .bool true, .int .i64 x.id, .int .i64 x.object, .int .i64 x.kind, .int .i64 x.method, .int .i64 x.arg, .int .i64 x.second, .int .i64 x.result]] w fun e w' => (∃ v, e = .returned (.tuple #[v, .int .i64 (stepAns l x).2]) ∧ Sl w' 11 ROp v (stepAns l x).1) ∧ Ext w w' := by
  obtain ⟨A, c, rfl⟩ := hs.form
  have HS := Lib.hid hs
  obtain ⟨_, hc1, hc2, hA⟩ := hs.at
  have HA := Lib.hid hA
  have HX := Lib.hid hx
  have HR := Lib.hid (openL_range l x.proc)
  have HV : Hid (stepAns l x = match openL l x.proc with
    | .ofNat k => stepAt l x l[k]?
    | .negSucc _ => (l, 6)) := rfl
  have HBX : Hid (∀ W : World, Ext (w.alloc (.cells #[.int .i64 x.time, .int .i64 x.proc, .bool true, .int .i64 x.id, .int .i64 x.object, .int .i64 x.kind, .int .i64 x.method, .int .i64 x.arg, .int .i64 x.second, .int .i64 x.result] 57)) W → At10 W w.heap.size x) := fun W h => (At10.row (Row1.made w 57 x.cells)).ext (by rw [show x.cells.toArray = #[.int .i64 x.time, .int .i64 x.proc, .bool true, .int .i64 x.id, .int .i64 x.object, .int .i64 x.kind, .int .i64 x.method, .int .i64 x.arg, .int .i64 x.second, .int .i64 x.result] from by simp [EvD.cells, hx]]; exact h) (by simp)
  clear hs hA hx
  obtain ⟨a0, a1, a2, a3, a4, a5, a6, a7, a8, a9⟩ := HBX.out _ (Ext.refl _)
  rw [HX.out] at a2
  go_enter Tryz.func22, Tryz.ntmps22
  go_upto_region 1 with fail
  go_cut [6] (fun s wx => s = .int .i64 (openL l x.proc) ∧ wx = w.alloc (.cells #[.int .i64 x.time, .int .i64 x.proc, .bool true, .int .i64 x.id, .int .i64 x.object, .int .i64 x.kind, .int .i64 x.method, .int .i64 x.arg, .int .i64 x.second, .int .i64 x.result] 57))
  case first =>
    go_wp2_with fail
    refine (refOpen_any _ l x.proc _ (HS.out.ext (by (repeat' (with_reducible first | exact Below.refl _ _ | refine Ext.drewN ?_ _ | refine Below.drew ?_ | refine Below.setCell ?_ ?_ _ | refine Below.alloc ?_ ?_ _)) <;> (first | omega | (simp; done) | (simp; omega))))).mono ?_
    rintro e w' ⟨rfl, rfl⟩
    go_wp2_with fail
    go_meet
    exact ⟨rfl, rfl⟩
  case rest =>
  obtain ⟨rfl, rfl⟩ := hcut
  go_wp2_with fail
  rcases HR.out with hk | ⟨k, hk, hlt⟩
  · rw [hk] at HV ⊢
    have q : decide ((-1 : Int) < 0) = true := by decide
    clear hk
    go_quiet (fail)
    go_wp2_with fail
    go_ret2
    exact ⟨⟨_, by rw [HV.out]; rfl, by rw [HV.out]; exact HS.out.ext (by (repeat' (with_reducible first | exact Below.refl _ _ | refine Ext.drewN ?_ _ | refine Below.drew ?_ | refine Below.setCell ?_ ?_ _ | refine Below.alloc ?_ ?_ _)) <;> (first | omega | (simp; done) | (simp; omega)))⟩, by (repeat' (with_reducible first | exact Below.refl _ _ | refine Ext.drewN ?_ _ | refine Below.drew ?_ | refine Below.setCell ?_ ?_ _ | refine Below.alloc ?_ ?_ _)) <;> (first | omega | (simp; done) | (simp; omega))⟩
  · have HK := Lib.hid hk
    rw [hk] at HV ⊢
    have q : decide ((k : Int) < 0) = false := by simp
    have q2 : decide ((k : Int) < (l.length : Int)) = true := by simp; omega
    obtain ⟨b, off, rfl, hbl, hcell⟩ := HA.out (by omega)
    obtain ⟨cs, rfl, _, hcs⟩ := hcell k hlt
    have HE : Hid (∀ W : World, Ext w W → (W.cell? ⟨b, off + k * 11, none⟩ = some (.int .i64 l[k].id) ∧ W.cell? ⟨b, off + k * 11 + 1, none⟩ = some (.int .i64 l[k].proc) ∧ W.cell? ⟨b, off + k * 11 + 2, none⟩ = some (.int .i64 l[k].object) ∧ W.cell? ⟨b, off + k * 11 + 3, none⟩ = some (.int .i64 l[k].kind) ∧ W.cell? ⟨b, off + k * 11 + 4, none⟩ = some (.int .i64 l[k].method) ∧ W.cell? ⟨b, off + k * 11 + 5, none⟩ = some (.int .i64 l[k].arg) ∧ W.cell? ⟨b, off + k * 11 + 6, none⟩ = some (.int .i64 l[k].second) ∧ W.cell? ⟨b, off + k * 11 + 7, none⟩ = some (.bool l[k].done) ∧ W.cell? ⟨b, off + k * 11 + 8, none⟩ = some (.int .i64 l[k].result) ∧ W.cell? ⟨b, off + k * 11 + 9, none⟩ = some (.int .i64 l[k].invoke) ∧ W.cell? ⟨b, off + k * 11 + 10, none⟩ = some (.int .i64 l[k].ret))) := by
      intro W h
      have hw := fun j u hu => (h.cell (p := ⟨b, off + k * 11 + j, none⟩) hbl).trans (hcs j u hu)
      exact ⟨hw 0 _ rfl, hw 1 _ rfl, hw 2 _ rfl, hw 3 _ rfl, hw 4 _ rfl, hw 5 _ rfl, hw 6 _ rfl, hw 7 _ rfl, hw 8 _ rfl, hw 9 _ rfl, hw 10 _ rfl⟩
    have HV2 : Hid (stepAns l x = if l[k].id = x.id then (if saysMore x = true then (l, 33) else (withL l (answered l[k] x), chkL (answered l[k] x))) else (l, 6)) := by
      have h1 : stepAns l x = stepAt l x l[k]? := HV.out
      rw [List.getElem?_eq_getElem hlt] at h1
      exact h1
    clear hcell hcs HV
    generalize l[k] = o at *
    have hbw := Nat.lt_of_lt_of_le hbl (Ext.alloc w (.cells #[.int .i64 x.time, .int .i64 x.proc, .bool true, .int .i64 x.id, .int .i64 x.object, .int .i64 x.kind, .int .i64 x.method, .int .i64 x.arg, .int .i64 x.second, .int .i64 x.result] 57) : Ext w _).size
    obtain ⟨e0, e1, e2, e3, e4, e5, e6, e7, e8, e9, e10⟩ := HE.out _ (Ext.alloc w (.cells #[.int .i64 x.time, .int .i64 x.proc, .bool true, .int .i64 x.id, .int .i64 x.object, .int .i64 x.kind, .int .i64 x.method, .int .i64 x.arg, .int .i64 x.second, .int .i64 x.result] 57))
    by_cases h1 : o.id = x.id
    · have q3 : (o.id != x.id) = false := by simpa using h1
      rw [if_pos h1] at HV2
      clear h1
      go_quiet (fail)
      go_upto_region 15 with fail
      obtain ⟨sm, hsm⟩ : ∃ sm, saysMore x = sm := ⟨_, rfl⟩
      have HSM := Lib.hid hsm
      clear hsm
      generalize hwq : World.drewN _ _ = wq
      have KW : Hid (Ext (w.alloc (.cells #[.int .i64 x.time, .int .i64 x.proc, .bool true, .int .i64 x.id, .int .i64 x.object, .int .i64 x.kind, .int .i64 x.method, .int .i64 x.arg, .int .i64 x.second, .int .i64 x.result] 57)) wq) := by subst hwq; unfold Hid; (repeat' (with_reducible first | exact Below.refl _ _ | refine Ext.drewN ?_ _ | refine Below.drew ?_ | refine Below.setCell ?_ ?_ _ | refine Below.alloc ?_ ?_ _)) <;> (first | omega | (simp; done) | (simp; omega))
      clear hwq a0 a1 a2 a3 a4 a5 a6 a7 a8 a9 e0 e1 e2 e3 e4 e5 e6 e7 e8 e9 e10
      obtain ⟨a0, a1, a2, a3, a4, a5, a6, a7, a8, a9⟩ := HBX.out _ KW.out
      rw [HX.out] at a2
      generalize Value.agg #[.int .i64 x.time, .int .i64 x.proc, .bool true, .int .i64 x.id, .int .i64 x.object, .int .i64 x.kind, .int .i64 x.method, .int .i64 x.arg, .int .i64 x.second, .int .i64 x.result] = V1
      go_cut [96] (fun s wx => s = .bool sm ∧ wx = wq)
      case first =>
        go_wp2_with fail
        all_goals go_meet
        all_goals refine ⟨?_, rfl⟩
        all_goals go_light
        all_goals rw [← HSM.out]
        all_goals (clear HSM HBX HV2 HS HR HK KW a0 a1 a2 a3 a4 a5 a6 a7 a8 a9; simp_all [saysMore])
      case rest =>
      obtain ⟨rfl, rfl⟩ := hcut
      have KX : Hid (Ext w wc) := Ext.trans (Ext.alloc _ _) KW.out
      cases sm with
      | true =>
        rw [if_pos HSM.out] at HV2
        go_wp2_with fail
        go_ret2
        exact ⟨⟨_, by rw [HV2.out]; rfl, by rw [HV2.out]; exact HS.out.ext (by (repeat' (with_reducible first | exact KX.out | exact Below.refl _ _ | refine Ext.drewN ?_ _ | refine Below.drew ?_ | refine Below.setCell ?_ ?_ _ | refine Below.alloc ?_ ?_ _)) <;> (first | omega | (simp; done) | (simp; omega)))⟩, by (repeat' (with_reducible first | exact KX.out | exact Below.refl _ _ | refine Ext.drewN ?_ _ | refine Below.drew ?_ | refine Below.setCell ?_ ?_ _ | refine Below.alloc ?_ ?_ _)) <;> (first | omega | (simp; done) | (simp; omega))⟩
      | false =>
        rw [if_neg (by rw [HSM.out]; decide)] at HV2
        have hbw := Nat.lt_of_lt_of_le hbl KX.out.size
        obtain ⟨e0, e1, e2, e3, e4, e5, e6, e7, e8, e9, e10⟩ := HE.out _ KX.out
        go_upto_region 18 with fail
        have hl0 : w.heap.size < wc.heap.size := by have := KW.out.size; simp at this; omega
        have HKS : Hid (∀ W : World, Ext wc W → (W.cell? ⟨w.heap.size, 9, none⟩ = some (.int .i64 x.result) ∧ W.cell? ⟨w.heap.size, 0, none⟩ = some (.int .i64 x.time))) := fun W h => by
          obtain ⟨a0, a1, a2, a3, a4, a5, a6, a7, a8, a9⟩ := HBX.out _ (Ext.trans KW.out h)
          exact ⟨a9, a0⟩
        clear e0 e1 e2 e3 e4 e5 e6 e7 e8 e9 e10 a0 a1 a2 a3 a4 a5 a6 a7 a8 a9
        refine wp_region_held_drew (S := fun W => W.cell? ⟨w.heap.size, 9, none⟩ = some (.int .i64 x.result) ∧ W.cell? ⟨w.heap.size, 0, none⟩ = some (.int .i64 x.time)) (by kernel_rfl) (HKS.out _ (by (repeat' (with_reducible first | exact Below.refl _ _ | refine Ext.drewN ?_ _ | refine Below.drew ?_ | refine Below.setCell ?_ ?_ _ | refine Below.alloc ?_ ?_ _)) <;> (first | omega | (simp; done) | (simp; omega)))) (fun hHeld => ?_)
        refine' wpAnyH_take (i := 0) (oi := ?zoi0a) (v := ?zv0a) ?zhi0a (by kernel_rfl) (by kernel_rfl) (by kernel_rfl) ?zhQ0a (Or.inl ⟨?zhw0a, ?zhy0a⟩) (by assumption) ?zrest0a; (case zhi0a => simp only [List.getElem?_toArray, List.getElem?_cons_succ, List.getElem?_cons_zero]; exact rfl); (case zhQ0a => exact fun _ _ _ h => h); (case zhw0a => rfl); (case zhy0a => intro w hSw; (try dsimp only at hSw); go_simp; (try with_reducible rfl)); (try simp only [Act.put, List.setIfInBounds_toArray, List.set_cons_zero, List.set_cons_succ])
        refine' wpAnyH_take (i := 1) (oi := ?zoi1a) (v := ?zv1a) ?zhi1a (by kernel_rfl) (by kernel_rfl) (by kernel_rfl) ?zhQ1a (Or.inl ⟨?zhw1a, ?zhy1a⟩) (by assumption) ?zrest1a; (case zhi1a => simp only [List.getElem?_toArray, List.getElem?_cons_succ, List.getElem?_cons_zero]; exact rfl); (case zhQ1a => exact fun _ _ _ h => h); (case zhw1a => rfl); (case zhy1a => intro w hSw; (try dsimp only at hSw); go_simp; (try with_reducible rfl)); (try simp only [Act.put, List.setIfInBounds_toArray, List.set_cons_zero, List.set_cons_succ])
        refine' wpAnyH_take (i := 2) (oi := ?zoi2a) (v := ?zv2a) ?zhi2a (by kernel_rfl) (by kernel_rfl) (by kernel_rfl) ?zhQ2a (Or.inl ⟨?zhw2a, ?zhy2a⟩) (by assumption) ?zrest2a; (case zhi2a => simp only [List.getElem?_toArray, List.getElem?_cons_succ, List.getElem?_cons_zero]; exact rfl); (case zhQ2a => exact fun _ _ _ h => h); (case zhw2a => rfl); (case zhy2a => intro w hSw; (try dsimp only at hSw); go_simp; (try with_reducible rfl)); (try simp only [Act.put, List.setIfInBounds_toArray, List.set_cons_zero, List.set_cons_succ])
        refine' wpAnyH_take (i := 3) (oi := ?zoi3a) (v := ?zv3a) ?zhi3a (by kernel_rfl) (by kernel_rfl) (by kernel_rfl) ?zhQ3a (Or.inl ⟨?zhw3a, ?zhy3a⟩) (by assumption) ?zrest3a; (case zhi3a => simp only [List.getElem?_toArray, List.getElem?_cons_succ, List.getElem?_cons_zero]; exact rfl); (case zhQ3a => exact fun _ _ _ h => h); (case zhw3a => rfl); (case zhy3a => intro w hSw; (try dsimp only at hSw); go_simp; (try with_reducible rfl)); (try simp only [Act.put, List.setIfInBounds_toArray, List.set_cons_zero, List.set_cons_succ])
        refine' wpAnyH_take (i := 4) (oi := ?zoi4a) (v := ?zv4a) ?zhi4a (by kernel_rfl) (by kernel_rfl) (by kernel_rfl) ?zhQ4a (Or.inl ⟨?zhw4a, ?zhy4a⟩) (by assumption) ?zrest4a; (case zhi4a => simp only [List.getElem?_toArray, List.getElem?_cons_succ, List.getElem?_cons_zero]; exact rfl); (case zhQ4a => exact fun _ _ _ h => h); (case zhw4a => rfl); (case zhy4a => intro w hSw; (try dsimp only at hSw); go_simp; (try with_reducible rfl)); (try simp only [Act.put, List.setIfInBounds_toArray, List.set_cons_zero, List.set_cons_succ])
        refine wpAnyH_ready (rs := [5]) (by kernel_rfl) (by simp) ?_; refine AllReadyH.cons rfl (fun K hK => ?_) AllReadyH.nil; go_simp
        refine hK.out _ _ (HKS.out _ (by (repeat' (with_reducible first | exact Below.refl _ _ | refine Ext.drewN ?_ _ | refine Below.drew ?_ | refine Below.setCell ?_ ?_ _ | refine Below.alloc ?_ ?_ _)) <;> (first | omega | (simp; done) | (simp; omega)))) (fun hHeld => ?_)
        clear hK K
        (try simp only [Act.put, List.setIfInBounds_toArray, List.set_cons_zero, List.set_cons_succ])
        refine' wpAnyH_take (i := 6) (oi := ?zoi6a) (v := ?zv6a) ?zhi6a (by kernel_rfl) (by kernel_rfl) (by kernel_rfl) ?zhQ6a (Or.inl ⟨?zhw6a, ?zhy6a⟩) (by assumption) ?zrest6a; (case zhi6a => simp only [List.getElem?_toArray, List.getElem?_cons_succ, List.getElem?_cons_zero]; exact rfl); (case zhQ6a => exact fun _ _ _ h => h); (case zhw6a => rfl); (case zhy6a => intro w hSw; (try dsimp only at hSw); go_simp; (try with_reducible rfl)); (try simp only [Act.put, List.setIfInBounds_toArray, List.set_cons_zero, List.set_cons_succ])
        refine wpAnyH_ready (rs := [7]) (by kernel_rfl) (by simp) ?_; refine AllReadyH.cons rfl (fun K hK => ?_) AllReadyH.nil; go_simp
        refine hK.out _ _ (HKS.out _ (by (repeat' (with_reducible first | exact Below.refl _ _ | refine Ext.drewN ?_ _ | refine Below.drew ?_ | refine Below.setCell ?_ ?_ _ | refine Below.alloc ?_ ?_ _)) <;> (first | omega | (simp; done) | (simp; omega)))) (fun hHeld => ?_)
        clear hK K
        (try simp only [Act.put, List.setIfInBounds_toArray, List.set_cons_zero, List.set_cons_succ])
        refine' wpAnyH_take (i := 8) (oi := ?zoi8a) (v := ?zv8a) ?zhi8a (by kernel_rfl) (by kernel_rfl) (by kernel_rfl) ?zhQ8a (Or.inl ⟨?zhw8a, ?zhy8a⟩) (by assumption) ?zrest8a; (case zhi8a => simp only [List.getElem?_toArray, List.getElem?_cons_succ, List.getElem?_cons_zero]; exact rfl); (case zhQ8a => exact fun _ _ _ h => h); (case zhw8a => rfl); (case zhy8a => intro w hSw; (try dsimp only at hSw); go_simp; (try with_reducible rfl)); (try simp only [Act.put, List.setIfInBounds_toArray, List.set_cons_zero, List.set_cons_succ])
        refine wpAnyH_ready (rs := [9]) (by kernel_rfl) (by simp) ?_; refine AllReadyH.cons rfl (fun K hK => ?_) AllReadyH.nil; go_simp
        refine hK.out _ _ (HKS.out _ (by (repeat' (with_reducible first | exact Below.refl _ _ | refine Ext.drewN ?_ _ | refine Below.drew ?_ | refine Below.setCell ?_ ?_ _ | refine Below.alloc ?_ ?_ _)) <;> (first | omega | (simp; done) | (simp; omega)))) (fun hHeld => ?_)
        clear hK K
        (try simp only [Act.put, List.setIfInBounds_toArray, List.set_cons_zero, List.set_cons_succ])
        refine wpAnyH_done (by kernel_rfl) ?_ _
        go_wp2_with fail
        obtain ⟨y, hy⟩ : ∃ y, answered o x = y := ⟨_, rfl⟩
        have HKO : Hid (∀ W : World, Ext (wc.alloc (.cells #[.int .i64 o.id, .int .i64 o.proc, .int .i64 o.object, .int .i64 o.kind, .int .i64 o.method, .int .i64 o.arg, .int .i64 o.second, .bool true, .int .i64 x.result, .int .i64 o.invoke, .int .i64 x.time] 43)) W → At11 W wc.heap.size y) := fun W h => by
          have h1 : At11 W wc.heap.size (answered o x) := (At11.row (Row1.made wc 43 (answered o x).cells)).ext h (by simp)
          rw [hy] at h1
          exact h1
        have HKW : Hid (∀ W : World, Ext (wc.alloc (.cells #[.int .i64 o.id, .int .i64 o.proc, .int .i64 o.object, .int .i64 o.kind, .int .i64 o.method, .int .i64 o.arg, .int .i64 o.second, .bool true, .int .i64 x.result, .int .i64 o.invoke, .int .i64 x.time] 43)) W → Ext w W) := fun W h => Ext.trans KX.out (Ext.trans (Ext.alloc _ _) h)
        rw [hy] at HV2
        clear hy
        clear hHeld HKS
        refine wp_region_held_drew (S := fun W => (W.cell? ⟨wc.heap.size, 0, none⟩ = some (.int .i64 y.id) ∧ W.cell? ⟨wc.heap.size, 1, none⟩ = some (.int .i64 y.proc) ∧ W.cell? ⟨wc.heap.size, 2, none⟩ = some (.int .i64 y.object) ∧ W.cell? ⟨wc.heap.size, 3, none⟩ = some (.int .i64 y.kind) ∧ W.cell? ⟨wc.heap.size, 4, none⟩ = some (.int .i64 y.method) ∧ W.cell? ⟨wc.heap.size, 5, none⟩ = some (.int .i64 y.arg) ∧ W.cell? ⟨wc.heap.size, 6, none⟩ = some (.int .i64 y.second) ∧ W.cell? ⟨wc.heap.size, 7, none⟩ = some (.bool y.done) ∧ W.cell? ⟨wc.heap.size, 8, none⟩ = some (.int .i64 y.result) ∧ W.cell? ⟨wc.heap.size, 9, none⟩ = some (.int .i64 y.invoke) ∧ W.cell? ⟨wc.heap.size, 10, none⟩ = some (.int .i64 y.ret))) (by kernel_rfl) (HKO.out _ (by (repeat' (with_reducible first | exact Below.refl _ _ | refine Ext.drewN ?_ _ | refine Below.drew ?_ | refine Below.setCell ?_ ?_ _ | refine Below.alloc ?_ ?_ _)) <;> (first | omega | (simp; done) | (simp; omega)))) (fun hHeld => ?_)
        refine' wpAnyH_take (i := 0) (oi := ?zoi0b) (v := ?zv0b) ?zhi0b (by kernel_rfl) (by kernel_rfl) (by kernel_rfl) ?zhQ0b (Or.inl ⟨?zhw0b, ?zhy0b⟩) (by assumption) ?zrest0b; (case zhi0b => simp only [List.getElem?_toArray, List.getElem?_cons_succ, List.getElem?_cons_zero]; exact rfl); (case zhQ0b => exact fun _ _ _ h => h); (case zhw0b => rfl); (case zhy0b => intro w hSw; (try dsimp only at hSw); go_simp; (try with_reducible rfl)); (try simp only [Act.put, List.setIfInBounds_toArray, List.set_cons_zero, List.set_cons_succ])
        refine' wpAnyH_take (i := 1) (oi := ?zoi1b) (v := ?zv1b) ?zhi1b (by kernel_rfl) (by kernel_rfl) (by kernel_rfl) ?zhQ1b (Or.inl ⟨?zhw1b, ?zhy1b⟩) (by assumption) ?zrest1b; (case zhi1b => simp only [List.getElem?_toArray, List.getElem?_cons_succ, List.getElem?_cons_zero]; exact rfl); (case zhQ1b => exact fun _ _ _ h => h); (case zhw1b => rfl); (case zhy1b => intro w hSw; (try dsimp only at hSw); go_simp; (try with_reducible rfl)); (try simp only [Act.put, List.setIfInBounds_toArray, List.set_cons_zero, List.set_cons_succ])
        refine' wpAnyH_take (i := 3) (oi := ?zoi3b) (v := ?zv3b) ?zhi3b (by kernel_rfl) (by kernel_rfl) (by kernel_rfl) ?zhQ3b (Or.inl ⟨?zhw3b, ?zhy3b⟩) (by assumption) ?zrest3b; (case zhi3b => simp only [List.getElem?_toArray, List.getElem?_cons_succ, List.getElem?_cons_zero]; exact rfl); (case zhQ3b => exact fun _ _ _ h => h); (case zhw3b => rfl); (case zhy3b => intro w hSw; (try dsimp only at hSw); go_simp; (try with_reducible rfl)); (try simp only [Act.put, List.setIfInBounds_toArray, List.set_cons_zero, List.set_cons_succ])
        refine wpAnyH_ready (rs := [2]) (by kernel_rfl) (by simp) ?_; refine AllReadyH.cons rfl (fun K hK => ?_) AllReadyH.nil; go_simp
        refine (refWith_any _ l y _ (HS.out.ext (HKW.out _ (by (repeat' (with_reducible first | exact Below.refl _ _ | refine Ext.drewN ?_ _ | refine Below.drew ?_ | refine Below.setCell ?_ ?_ _ | refine Below.alloc ?_ ?_ _)) <;> (first | omega | (simp; done) | (simp; omega))))) (by omega)).mono ?_
        rintro e w2 ⟨⟨v2, rfl, hown⟩, hb2⟩
        have KB2 : Hid (Ext (wc.alloc (.cells #[.int .i64 o.id, .int .i64 o.proc, .int .i64 o.object, .int .i64 o.kind, .int .i64 o.method, .int .i64 o.arg, .int .i64 o.second, .bool true, .int .i64 x.result, .int .i64 o.invoke, .int .i64 x.time] 43)) w2) := Ext.trans (by (repeat' (with_reducible first | exact Below.refl _ _ | refine Ext.drewN ?_ _ | refine Below.drew ?_ | refine Below.setCell ?_ ?_ _ | refine Below.alloc ?_ ?_ _)) <;> (first | omega | (simp; done) | (simp; omega))) hb2
        have HOW := Lib.hid hown
        obtain ⟨vA, vc, rfl⟩ := hown.form
        clear hown hb2
        (try dsimp only)
        (try go_simp)
        refine hK.out _ _ (HKO.out _ (by (repeat' (with_reducible first | exact KB2.out | exact Below.refl _ _ | refine Ext.drewN ?_ _ | refine Below.drew ?_ | refine Below.setCell ?_ ?_ _ | refine Below.alloc ?_ ?_ _)) <;> (first | omega | (simp; done) | (simp; omega)))) (fun hHeld => ?_)
        clear hK K
        (try simp only [Act.put, List.setIfInBounds_toArray, List.set_cons_zero, List.set_cons_succ])
        refine wpAnyH_ready (rs := [4]) (by kernel_rfl) (by simp) ?_; refine AllReadyH.cons rfl (fun K hK => ?_) AllReadyH.nil; go_simp
        refine (refCheck_any y _).mono ?_
        rintro e w3 ⟨rfl, hb3⟩
        have KB2 : Hid (Ext (wc.alloc (.cells #[.int .i64 o.id, .int .i64 o.proc, .int .i64 o.object, .int .i64 o.kind, .int .i64 o.method, .int .i64 o.arg, .int .i64 o.second, .bool true, .int .i64 x.result, .int .i64 o.invoke, .int .i64 x.time] 43)) w3) := Ext.trans KB2.out hb3
        have HB3 := Lib.hid hb3
        clear hb3
        (try dsimp only)
        (try go_simp)
        refine hK.out _ _ (HKO.out _ (by (repeat' (with_reducible first | exact KB2.out | exact Below.refl _ _ | refine Ext.drewN ?_ _ | refine Below.drew ?_ | refine Below.setCell ?_ ?_ _ | refine Below.alloc ?_ ?_ _)) <;> (first | omega | (simp; done) | (simp; omega)))) (fun hHeld => ?_)
        clear hK K
        (try simp only [Act.put, List.setIfInBounds_toArray, List.set_cons_zero, List.set_cons_succ])
        refine' wpAnyH_take (i := 5) (oi := ?zoi5b) (v := ?zv5b) ?zhi5b (by kernel_rfl) (by kernel_rfl) (by kernel_rfl) ?zhQ5b (Or.inl ⟨?zhw5b, ?zhy5b⟩) (by assumption) ?zrest5b; (case zhi5b => simp only [List.getElem?_toArray, List.getElem?_cons_succ, List.getElem?_cons_zero]; exact rfl); (case zhQ5b => exact fun _ _ _ h => h); (case zhw5b => rfl); (case zhy5b => intro w hSw; (try dsimp only at hSw); go_simp; (try with_reducible rfl)); (try simp only [Act.put, List.setIfInBounds_toArray, List.set_cons_zero, List.set_cons_succ])
        refine' wpAnyH_take (i := 6) (oi := ?zoi6b) (v := ?zv6b) ?zhi6b (by kernel_rfl) (by kernel_rfl) (by kernel_rfl) ?zhQ6b (Or.inl ⟨?zhw6b, ?zhy6b⟩) (by assumption) ?zrest6b; (case zhi6b => simp only [List.getElem?_toArray, List.getElem?_cons_succ, List.getElem?_cons_zero]; exact rfl); (case zhQ6b => exact fun _ _ _ h => h); (case zhw6b => rfl); (case zhy6b => intro w hSw; (try dsimp only at hSw); go_simp; (try with_reducible rfl)); (try simp only [Act.put, List.setIfInBounds_toArray, List.set_cons_zero, List.set_cons_succ])
        refine wpAnyH_done (by kernel_rfl) ?_ _
        go_wp2_with fail
        go_ret2
        exact ⟨⟨_, by rw [HV2.out]; rfl, by rw [HV2.out]; exact (HOW.out.ext HB3.out).sl op_len (fun _ => rfl)⟩, HKW.out _ KB2.out⟩
    · have q3 : (o.id != x.id) = true := by simpa using h1
      rw [if_neg h1] at HV2
      clear h1
      go_quiet (fail)
      go_wp2_with fail
      go_ret2
      exact ⟨⟨_, by rw [HV2.out]; rfl, by rw [HV2.out]; exact HS.out.ext (by (repeat' (with_reducible first | exact Below.refl _ _ | refine Ext.drewN ?_ _ | refine Below.drew ?_ | refine Below.setCell ?_ ?_ _ | refine Below.alloc ?_ ?_ _)) <;> (first | omega | (simp; done) | (simp; omega)))⟩, by (repeat' (with_reducible first | exact Below.refl _ _ | refine Ext.drewN ?_ _ | refine Below.drew ?_ | refine Below.setCell ?_ ?_ _ | refine Below.alloc ?_ ?_ _)) <;> (first | omega | (simp; done) | (simp; omega))⟩
end Go.Proofs.YtgpnockjonicpaaGreatDoor
