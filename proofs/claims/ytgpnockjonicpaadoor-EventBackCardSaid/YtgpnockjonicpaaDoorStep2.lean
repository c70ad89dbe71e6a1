/- ref26.open; event.arguments. Conditions: that all can be read. -/
/- ref26.step at an invocation. Conditions: that all can be read, fewer than 10^8 operations. -/
/- ref26.step at an answer. Conditions: that all can be read, fewer than 10^8 operations. -/
import Derived.Test.YtgpnockjonicpaaDoorOps2
import Derived.Test.YtgpnockjonicpaaDoorOwnL
import Derived.Test.YtgpnockjonicpaaDoorEv3
import Derived.Test.YtgpnockjonicpaaDoorRChk2
import Derived.Test.YtgpnockjonicpaaDoorWith2
import Derived.BigRegion
namespace Go.Proofs.YtgpnockjonicpaaDoor
set_option linter.unusedSimpArgs false
set_option linter.unusedVariables false
open Go.RowKit

/-- the place of a process's operation without an answer; -1: there is none -/
def openAt (proc : Int) : Nat → List OpD → Int
  | _, [] => -1
  | k, x :: r => if (x.proc == proc && !x.done) = true then k else openAt proc (k + 1) r
def openL (l : List OpD) (proc : Int) : Int := openAt proc 0 l
theorem openAt_at (l : List OpD) (proc : Int) (k : Nat) (h : k < l.length) : openAt proc k (l.drop k) = if (l[k].proc == proc && !l[k].done) = true then (k : Int) else openAt proc (k + 1) (l.drop (k + 1)) := by
  rw [List.drop_eq_getElem_cons h, openAt]

def argsN (m : Int) : Int := if m = 3 then 2 else if m = 2 ∨ m = 6 ∨ m = 8 ∨ m = 10 ∨ m = 11 ∨ m = 12 then 1 else 0
theorem arguments_any (m : Int) (w : World) : Calls Tryd.prog 49 #[.int .i64 m] w fun e w' => e = .returned (.int .i64 (argsN m)) ∧ w' = w := by
  by_cases h3 : m = 3
  · subst h3
    go_enter Tryd.func49, Tryd.ntmps49
    go_wp2_with fail
    go_ret
    exact ⟨rfl, rfl⟩
  · by_cases hm : m = 2 ∨ m = 6 ∨ m = 8 ∨ m = 10 ∨ m = 11 ∨ m = 12
    · rcases hm with rfl | rfl | rfl | rfl | rfl | rfl
      all_goals
        go_enter Tryd.func49, Tryd.ntmps49
        go_wp2_with fail
        go_ret
        exact ⟨rfl, rfl⟩
    · have HV : Hid (argsN m = 0) := by unfold Hid argsN; rw [if_neg h3, if_neg hm]
      have q3 : (m == 3) = false := by simpa using h3
      have q2 : (m == 2) = false := by simp; omega
      have q6 : (m == 6) = false := by simp; omega
      have q8 : (m == 8) = false := by simp; omega
      have q10 : (m == 10) = false := by simp; omega
      have q11 : (m == 11) = false := by simp; omega
      have q12 : (m == 12) = false := by simp; omega
      clear h3 hm
      go_enter Tryd.func49, Tryd.ntmps49
      go_wp2_with fail
      go_ret
      exact ⟨by rw [HV.out]; rfl, rfl⟩
end Go.Proofs.YtgpnockjonicpaaDoor
namespace Go.Proofs.YtgpnockjonicpaaDoor
set_option linter.unusedSimpArgs false
set_option linter.unusedVariables false
open Go.RowKit

def opOf (x : EvD) : OpD := ⟨x.id, x.proc, x.object, x.kind, x.method, x.arg, x.second, false, 0, x.time, 0⟩
def invCode (x : EvD) : Int := if chkL (opOf x) = 0 ∧ x.result ≠ 0 then 33 else chkL (opOf x)
def stepInv (l : List OpD) (x : EvD) : List OpD × Int := if (getL l x.id).isSome = true then (l, 7) else if 0 ≤ openL l x.proc then (l, 32) else (withL l (opOf x), invCode x)

end Go.Proofs.YtgpnockjonicpaaDoor
namespace Go.Proofs.YtgpnockjonicpaaDoor
set_option linter.unusedSimpArgs false
set_option linter.unusedVariables false
open Go.RowKit

theorem openAt_range (proc : Int) : ∀ (l : List OpD) (k : Nat), openAt proc k l = -1 ∨ ∃ j : Nat, openAt proc k l = ((k + j : Nat) : Int) ∧ j < l.length
  | [], _ => .inl rfl
  | x :: r, k => by
    unfold openAt
    split
    · exact .inr ⟨0, rfl, by simp⟩
    · rcases openAt_range proc r (k + 1) with h | ⟨j, h, hj⟩
      · exact .inl h
      · exact .inr ⟨j + 1, by rw [h]; congr 1; omega, by simp; omega⟩
theorem openL_range (l : List OpD) (proc : Int) : openL l proc = -1 ∨ ∃ j : Nat, openL l proc = (j : Int) ∧ j < l.length := by
  rcases openAt_range proc l 0 with h | ⟨j, h, hj⟩
  · exact .inl h
  · exact .inr ⟨j, by unfold openL; rw [h, Nat.zero_add], hj⟩
/-- an operation, answered -/
def answered (o : OpD) (x : EvD) : OpD := ⟨o.id, o.proc, o.object, o.kind, o.method, o.arg, o.second, true, x.result, o.invoke, x.time⟩
def saysMore (x : EvD) : Bool := x.object != 0 || (x.kind != 0 || (x.method != 0 || (x.arg != 0 || x.second != 0)))
def stepAt (l : List OpD) (x : EvD) : Option OpD → List OpD × Int
  | some o => if o.id = x.id then (if saysMore x = true then (l, 33) else (withL l (answered o x), chkL (answered o x))) else (l, 6)
  | none => (l, 6)
def stepAns (l : List OpD) (x : EvD) : List OpD × Int :=
  match openL l x.proc with
  | .ofNat k => stepAt l x l[k]?
  | .negSucc _ => (l, 6)

end Go.Proofs.YtgpnockjonicpaaDoor
