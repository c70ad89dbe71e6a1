/- ref10.Ops: the same operations? Conditions: that both can be read. -/
import Derived.Test.YtcilkdohpcmbgaaHold2
namespace Go.Proofs.Ytcilkdohpcmbgaa
set_option linter.unusedSimpArgs false
set_option linter.unusedVariables false
open Go.RowKit

set_option maxRecDepth 100000 in
set_option maxHeartbeats 800000 in
theorem ops_same (V U : Value) (l : List OpD) (w : World) (hs : Sl w 11 ROp V l) (hu : Sl w 11 ROp U l) :
    Calls Try.prog 23 #[V, U] w fun e w' => e = .returned (.bool true) ∧ Ext w w' := by
  obtain ⟨A, c, rfl⟩ := hs.form
  obtain ⟨B, d, rfl⟩ := hu.form
  obtain ⟨_, hc1, hc2, hA⟩ := hs.at
  obtain ⟨_, hd1, hd2, hB⟩ := hu.at
  have HA := Lib.hid hA
  have HB := Lib.hid hB
  clear hs hu hA hB
  go_enter Try.func23, Try.ntmps23
  go_wp2_with fail
  go_loopw [5] (fun i wr => ∃ k : Nat, k ≤ l.length ∧ i = .int .i64 k ∧ ∃ q, wr = w.drewN q) (fun i _ => l.length - (intOf i).toNat)
  case atStart => exact ⟨0, by omega, rfl, 0, rfl⟩
  case round =>
    obtain ⟨k, hk, rfl, q, rfl⟩ := hrel
    by_cases hlt : k < l.length
    · have hdk : decide ((k : Int) < (l.length : Int)) = true := by simp; omega
      obtain ⟨b, off, rfl, hbl, hx⟩ := HA.out (by omega)
      obtain ⟨b', off', rfl, hbl', hx'⟩ := HB.out (by omega)
      obtain ⟨cs, rfl, _, hcs⟩ := hx k hlt
      obtain ⟨cs', rfl, _, hcs'⟩ := hx' k hlt
      have h0 := hcs 0 _ rfl
      have h1 := hcs 1 _ rfl
      have h2 := hcs 2 _ rfl
      have h3 := hcs 3 _ rfl
      have h4 := hcs 4 _ rfl
      have h5 := hcs 5 _ rfl
      have h6 := hcs 6 _ rfl
      have h7 := hcs 7 _ rfl
      have h8 := hcs 8 _ rfl
      have h9 := hcs 9 _ rfl
      have h10 := hcs 10 _ rfl
      have g0 := hcs' 0 _ rfl
      have g1 := hcs' 1 _ rfl
      have g2 := hcs' 2 _ rfl
      have g3 := hcs' 3 _ rfl
      have g4 := hcs' 4 _ rfl
      have g5 := hcs' 5 _ rfl
      have g6 := hcs' 6 _ rfl
      have g7 := hcs' 7 _ rfl
      have g8 := hcs' 8 _ rfl
      have g9 := hcs' 9 _ rfl
      have g10 := hcs' 10 _ rfl
      simp only [Nat.add_zero] at h0 g0
      clear hx hcs hx' hcs'
      generalize l[k] = o at *
      go_wp2_with fail
      go_quiet (fail)
      go_wp2_with fail
      go_roundw
      case rel => exact ⟨k + 1, by omega, by go_num, _, rfl⟩
      case measure => simp [intOf]; omega
    · obtain rfl : k = l.length := by omega
      have hdk : decide ((l.length : Int) < (l.length : Int)) = false := by simp
      go_wp2_with fail
      go_ret
      exact ⟨rfl, by (repeat' (with_reducible first | exact Below.refl _ _ | refine Ext.drewN ?_ _ | refine Below.drew ?_ | refine Below.setCell ?_ ?_ _ | refine Below.alloc ?_ ?_ _)) <;> (first | omega | (simp; done) | (simp; omega))⟩
end Go.Proofs.Ytcilkdohpcmbgaa
