/- scan.count, scan.Choose: the path with the least cost. Conditions: the groups rise, and are fewer than 10^9. -/
import Derived.Test.YtcilkdohpcmbgaaScan3
namespace Go.Proofs.Ytcilkdohpcmbgaa
set_option linter.unusedSimpArgs false
set_option linter.unusedVariables false
open Go.RowKit

set_option maxHeartbeats 400000 in
theorem scanCount_any (V : Value) (gs : List Grp) (v : Int) (w : World) (hs : Sl w 2 RG V gs) (hr : Rising gs) (hn : gs.length ≤ 1000000000) :
    Calls Try.prog 37 #[V, .int .i64 v] w fun e w' => e = .returned (.int .i64 (cntL v gs)) ∧ Ext w w' := by
  obtain ⟨A, c, rfl⟩ := hs.form
  obtain ⟨_, hc1, hc2, hA⟩ := hs.at
  have HS := Lib.hid hs
  have HR := Lib.hid hr
  clear hs hr
  go_enter Try.func37, Try.ntmps37
  go_wp2_with fail
  refine (binarySearch_any _ gs v _ HS.out HR.out hn).mono ?_
  rintro e w1 ⟨⟨i, ok, rfl, h1, h2, h3, h4⟩, hb1⟩
  have H2 := Lib.hid h2
  have HB1 := Lib.hid hb1
  clear hb1 h2
  cases ok with
  | true =>
    obtain ⟨hi, hv⟩ := h3 rfl
    have H3 := Lib.hid (cntL_hit v gs i hi hv (fun j hj => by have := H2.out j (by omega) hj; omega))
    clear h3 h4 hv
    obtain ⟨b, off, rfl, hbl, hx⟩ := hA (by omega)
    obtain ⟨cs, rfl, _, hcs⟩ := hx i hi
    have hw := fun j u hu => (HB1.out.cell (p := ⟨b, off + i * 2 + j, none⟩) hbl).trans (hcs j u hu)
    have h5 := hw 1 _ rfl
    clear hx hcs hw
    go_wp2_with fail
    rw [H3.out]
    go_ret
    exact ⟨rfl, HB1.out⟩
  | false =>
    have H3 := Lib.hid (cntL_miss v gs (h4 rfl))
    clear h3 h4
    go_wp2_with fail
    rw [H3.out]
    go_ret
    exact ⟨rfl, HB1.out⟩

def RI (x : Int) (cs : List Value) : Prop := cs = [.int .i64 x]

/-- two slices that read as one list of numbers are found alike -/
theorem ints_same (V U : Value) (xs : List Int) (w : World) (hs : Sl w 1 RI V xs) (hu : Sl w 1 RI U xs) :
    Calls Try.prog 16 #[V, U] w fun e w' => e = .returned (.bool true) ∧ Ext w w' := by
  obtain ⟨A, c, rfl⟩ := hs.form
  obtain ⟨_, hc1, hc2, hA⟩ := hs.at
  obtain ⟨A', c', rfl⟩ := hu.form
  obtain ⟨_, hc1', hc2', hA'⟩ := hu.at
  go_enter Try.func16, Try.ntmps16
  go_wp2_with fail
  go_loopw [5] (fun i wr => ∃ k : Nat, k ≤ xs.length ∧ i = .int .i64 k ∧ ∃ q, wr = w.drewN q) (fun i _ => xs.length - (intOf i).toNat)
  case atStart => exact ⟨0, Nat.zero_le _, rfl, 0, rfl⟩
  case round =>
    obtain ⟨k, hk, rfl, q, rfl⟩ := hrel
    by_cases hlt : k < xs.length
    · obtain ⟨b, off, rfl, hbl, hx⟩ := hA (by omega)
      obtain ⟨cs, rfl, _, hcs⟩ := hx k hlt
      have h0 := hcs 0 _ rfl
      obtain ⟨b', off', rfl, hbl', hx'⟩ := hA' (by omega)
      obtain ⟨cs', rfl, _, hcs'⟩ := hx' k hlt
      have h0' := hcs' 0 _ rfl
      simp only [Nat.add_zero, Nat.mul_one] at h0 h0'
      clear hx hcs hx' hcs' hA hA' hs hu
      go_wp2_with fail
      go_quiet (fail)
      go_wp2_with fail
      go_roundw
      case rel => exact ⟨k + 1, by omega, by go_num, _, rfl⟩
      case measure => simp [intOf]; omega
    · go_wp2_with fail
      go_ret
      exact ⟨rfl, by (repeat' (with_reducible first | exact Below.refl _ _ | refine Ext.drewN ?_ _ | refine Below.drew ?_ | refine Below.setCell ?_ ?_ _ | refine Below.alloc ?_ ?_ _)) <;> (first | omega | (simp; done) | (simp; omega))⟩

theorem bounds_same (V U : Value) (xs : List Bnd) (w : World) (hs : Sl w 3 RBnd V xs) (hu : Sl w 3 RBnd U xs) :
    Calls Try.prog 8 #[V, U] w fun e w' => e = .returned (.bool true) ∧ Ext w w' := by
  obtain ⟨A, c, rfl⟩ := hs.form
  obtain ⟨_, hc1, hc2, hA⟩ := hs.at
  obtain ⟨A', c', rfl⟩ := hu.form
  obtain ⟨_, hc1', hc2', hA'⟩ := hu.at
  go_enter Try.func8, Try.ntmps8
  go_wp2_with fail
  go_loopw [5] (fun i wr => ∃ k : Nat, k ≤ xs.length ∧ i = .int .i64 k ∧ ∃ q, wr = w.drewN q) (fun i _ => xs.length - (intOf i).toNat)
  case atStart => exact ⟨0, Nat.zero_le _, rfl, 0, rfl⟩
  case round =>
    obtain ⟨k, hk, rfl, q, rfl⟩ := hrel
    by_cases hlt : k < xs.length
    · obtain ⟨b, off, rfl, hbl, hx⟩ := hA (by omega)
      obtain ⟨cs, rfl, _, hcs⟩ := hx k hlt
      have h0 := hcs 0 _ rfl
      have h1 := hcs 1 _ rfl
      have h2 := hcs 2 _ rfl
      obtain ⟨b', off', rfl, hbl', hx'⟩ := hA' (by omega)
      obtain ⟨cs', rfl, _, hcs'⟩ := hx' k hlt
      have h0' := hcs' 0 _ rfl
      have h1' := hcs' 1 _ rfl
      have h2' := hcs' 2 _ rfl
      simp only [Nat.add_zero] at h0 h0'
      clear hx hcs hx' hcs' hA hA' hs hu
      go_wp2_with fail
      go_quiet (fail)
      go_wp2_with fail
      go_roundw
      case rel => exact ⟨k + 1, by omega, by go_num, _, rfl⟩
      case measure => simp [intOf]; omega
    · go_wp2_with fail
      go_ret
      exact ⟨rfl, by (repeat' (with_reducible first | exact Below.refl _ _ | refine Ext.drewN ?_ _ | refine Below.drew ?_ | refine Below.setCell ?_ ?_ _ | refine Below.alloc ?_ ?_ _)) <;> (first | omega | (simp; done) | (simp; omega))⟩

end Go.Proofs.Ytcilkdohpcmbgaa
