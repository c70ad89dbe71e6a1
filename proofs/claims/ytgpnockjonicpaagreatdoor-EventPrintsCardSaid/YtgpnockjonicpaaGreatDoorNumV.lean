/- Numbers as texts: event.digits, ref23.Number. Conditions: numbers of at most eighteen digits. -/
/- What a word may be as a number: the plain law. No program. -/
import Derived.Test.YtgpnockjonicpaaGreatDoorBase
import Derived.IntWalk
namespace Go.Proofs.YtgpnockjonicpaaGreatDoor
set_option linter.unusedSimpArgs false
set_option linter.unusedVariables false
open Go.RowKit

/-- a number's digits -/
def decL (n : Nat) : List UInt8 := if n < 10 then [UInt8.ofNat (48 + n)] else decL (n / 10) ++ [UInt8.ofNat (48 + n % 10)]
termination_by n
def numL (n : Int) : List UInt8 := if n < 0 then 45 :: decL n.natAbs else decL n.toNat
def strL (l : List UInt8) : ByteArray := ⟨l.toArray⟩
def numS (n : Int) : ByteArray := strL (numL n)
theorem strL_app (a b : List UInt8) : strL a ++ strL b = strL (a ++ b) := by
  apply ByteArray.ext
  simp [strL, ByteArray.data_append]
theorem strOf1 (x : Int) : strOfNums [x] = strL [UInt8.ofNat x.toNat] := rfl
theorem num_small (n : Int) (h0 : 0 ≤ n) (h1 : n < 10) : numS n = strOfNums [48 + n % 10] := by
  unfold numS numL
  rw [if_neg (by omega), decL, if_pos (by omega), strOf1]
  congr 2
  congr 1
  omega
theorem num_large (n : Int) (h1 : 10 ≤ n) : numS n = numS (n / 10) ++ strOfNums [48 + n % 10] := by
  unfold numS numL
  rw [if_neg (by omega), if_neg (by omega), strOf1, strL_app]
  conv => lhs; rw [decL, if_neg (by omega)]
  have e1 : n.toNat / 10 = (n / 10).toNat := by omega
  have e2 : 48 + n.toNat % 10 = (48 + n % 10).toNat := by omega
  rw [e1, e2]
theorem num_neg (n : Int) (h : n < 0) : numS n = strL [45] ++ numS (-n) := by
  unfold numS numL
  rw [if_pos h, if_neg (by omega), strL_app]
  have e : n.natAbs = (-n).toNat := by omega
  rw [e]
  rfl
theorem num_neg1 (n : Int) (h : -10 < n) (h0 : n < 0) : numS n = strL [45] ++ strOfNums [48 - n] := by
  rw [num_neg n h0, num_small (-n) (by omega) (by omega)]
  congr 3
  omega
theorem num_neg2 (n : Int) (h : n ≤ -10) : numS n = numS (n.tdiv 10) ++ strOfNums [48 - n.tmod 10] := by
  have hd : n.tdiv 10 = -((-n) / 10) := by have e := Int.neg_tdiv (-n) 10; rw [Int.neg_neg] at e; rw [e, Int.tdiv_eq_ediv_of_nonneg (by omega)]
  have hm : n.tmod 10 = -((-n) % 10) := by rw [Int.tmod_def, hd]; omega
  rw [num_neg n (by omega), num_large (-n) (by omega), num_neg (n.tdiv 10) (by omega), hd, hm, Int.neg_neg, ByteArray.append_assoc]
  congr 3
  congr 1
  omega
theorem dec_len : ∀ (k n : Nat), n < 10 ^ (k + 1) → 1 ≤ (decL n).length ∧ (decL n).length ≤ k + 1
  | 0, n, h => by rw [decL, if_pos (by simpa using h)]; simp
  | k + 1, n, h => by
    rw [decL]
    split
    · simp
    · have h2 := dec_len k (n / 10) (by rw [Nat.pow_succ] at h; omega)
      rw [List.length_append]
      simp
      omega
theorem num_size (n : Int) (h0 : -1000000000000000000 ≤ n) (h1 : n ≤ 1000000000000000000) : 1 ≤ (numS n).size ∧ (numS n).size ≤ 20 := by
  unfold numS numL strL
  split
  · have := dec_len 18 n.natAbs (by omega)
    simp [ByteArray.size]
    omega
  · have := dec_len 18 n.toNat (by omega)
    simp [ByteArray.size]
    omega
theorem one_size (x : Int) : (strOfNums [x]).size = 1 := rfl
/-- the text of one new byte -/
theorem byte_text (W : World) (b : Nat) (x : Int) (h : W.cell? ⟨b, 0, none⟩ = some (.int .u8 x)) : (convert 63 9 (.slice (some ⟨b, 0, none⟩) 1 1)).run Tryz.prog W = .ok (.string (strOfNums [x])) W :=
  run_convert_bytes_arg W 63 5 Tryz.underlying63 Tryz.underlying5 b 0 1 1 [x] rfl (fun i hi => by
    obtain rfl : i = 0 := by omega
    exact h) 9 Tryz.underlying9
theorem one_byte (w : World) (x : Int) : (convert 63 9 (.slice (some ⟨w.heap.size, 0, none⟩) 1 1)).run Tryz.prog (w.alloc (.cells #[.int .u8 x] 5)) = .ok (.string (strOfNums [x])) (w.alloc (.cells #[.int .u8 x] 5)) := by
  refine run_convert_bytes_arg (w.alloc (.cells #[.int .u8 x] 5)) 63 5 Tryz.underlying63 Tryz.underlying5 w.heap.size 0 1 1 [x] rfl (fun i hi => ?_) 9 Tryz.underlying9
  obtain rfl : i = 0 := by omega
  exact (Row1.made w 5 [.int .u8 x]).cell 0

set_option maxRecDepth 100000 in
set_option maxHeartbeats 800000 in
theorem digits_pos : ∀ (k : Nat) (n : Int) (w : World), n.toNat ≤ k → 0 ≤ n → n ≤ 1000000000000000000 →
    Calls Tryz.prog 48 #[.int .i64 n] w fun e w' => e = .returned (.string (numS n)) ∧ Ext w w' := by
  intro k
  induction k with
  | zero =>
    intro n w hk h0 h1
    obtain rfl : n = 0 := by omega
    have hcv := one_byte
    go_enter Tryz.func48, Tryz.ntmps48
    go_wp2_with fail
    go_ret
    exact ⟨by rw [num_small 0 (by omega) (by omega)]; rfl, by (repeat' (with_reducible first | exact Below.refl _ _ | refine Ext.drewN ?_ _ | refine Below.drew ?_ | refine Below.setCell ?_ ?_ _ | refine Below.alloc ?_ ?_ _)) <;> (first | omega | (simp; done) | (simp; omega))⟩
  | succ k ih =>
    intro n w hk h0 h1
    have hcv := one_byte
    have q1 : decide (n < 0) = false := by simp; omega
    by_cases h10 : 10 ≤ n
    · have q2 : decide (10 ≤ n) = true := by simpa using h10
      have HN := Lib.hid (num_large n h10)
      have HIH := Lib.hid (fun w => ih (n / 10) w (by omega) (by omega) (by omega))
      have z1 : (numS (n / 10)).size ≤ 20 := (num_size (n / 10) (by omega) (by omega)).2
      have z2 : (strOfNums [48 + n % 10]).size ≤ 1 := Nat.le_refl _
      have z3 : (numS (n / 10)).size + (strOfNums [48 + n % 10]).size ≤ 9223372036854775807 := by omega
      clear ih
      go_enter Tryz.func48, Tryz.ntmps48
      go_wp2_with fail
      refine (HIH.out _).mono ?_
      rintro e w1 ⟨rfl, hb1⟩
      have HB1 := Lib.hid (Ext.trans (by (repeat' (with_reducible first | exact Below.refl _ _ | refine Ext.drewN ?_ _ | refine Below.drew ?_ | refine Below.setCell ?_ ?_ _ | refine Below.alloc ?_ ?_ _)) <;> (first | omega | (simp; done) | (simp; omega)) : Ext w _) hb1)
      clear hb1
      go_wp2_with fail
      go_ret
      exact ⟨by rw [HN.out]; rfl, by (repeat' (with_reducible first | exact HB1.out | exact Below.refl _ _ | refine Ext.drewN ?_ _ | refine Below.drew ?_ | refine Below.setCell ?_ ?_ _ | refine Below.alloc ?_ ?_ _)) <;> (first | omega | (simp; done) | (simp; omega))⟩
    · have q2 : decide (10 ≤ n) = false := by simpa using h10
      have HN := Lib.hid (num_small n h0 (by omega))
      clear ih
      go_enter Tryz.func48, Tryz.ntmps48
      go_wp2_with fail
      go_ret
      exact ⟨by rw [HN.out]; rfl, by (repeat' (with_reducible first | exact Below.refl _ _ | refine Ext.drewN ?_ _ | refine Below.drew ?_ | refine Below.setCell ?_ ?_ _ | refine Below.alloc ?_ ?_ _)) <;> (first | omega | (simp; done) | (simp; omega))⟩
set_option maxHeartbeats 800000 in
theorem digits_any (n : Int) (w : World) (h0 : -1000000000000000000 ≤ n) (h1 : n ≤ 1000000000000000000) :
    Calls Tryz.prog 48 #[.int .i64 n] w fun e w' => e = .returned (.string (numS n)) ∧ Ext w w' := by
  by_cases hn : 0 ≤ n
  · exact digits_pos n.toNat n w (Nat.le_refl _) hn h1
  · have q1 : decide (n < 0) = true := by simpa using hn
    have s1 : IntKind.i64.wrap (-n) = -n := IntWalk.i64_in _ (by omega)
    have HN := Lib.hid (num_neg n (by omega))
    have z1 := (num_size (-n) (by omega) (by omega)).2
    have z2 : (⟨#[45]⟩ : ByteArray).size + (numS (-n)).size ≤ 9223372036854775807 := by have : (⟨#[45]⟩ : ByteArray).size = 1 := rfl; omega
    have z3 : 1 + (numS (-n)).size ≤ 9223372036854775807 := by omega
    go_enter Tryz.func48, Tryz.ntmps48
    go_wp2_with fail
    refine (digits_pos (-n).toNat (-n) _ (Nat.le_refl _) (by omega) (by omega)).mono ?_
    rintro e w1 ⟨rfl, hb1⟩
    have HB1 := Lib.hid (Ext.trans (by (repeat' (with_reducible first | exact Below.refl _ _ | refine Ext.drewN ?_ _ | refine Below.drew ?_ | refine Below.setCell ?_ ?_ _ | refine Below.alloc ?_ ?_ _)) <;> (first | omega | (simp; done) | (simp; omega)) : Ext w _) hb1)
    clear hb1
    go_wp2_with fail
    go_ret
    exact ⟨by rw [HN.out]; rfl, by (repeat' (with_reducible first | exact HB1.out | exact Below.refl _ _ | refine Ext.drewN ?_ _ | refine Below.drew ?_ | refine Below.setCell ?_ ?_ _ | refine Below.alloc ?_ ?_ _)) <;> (first | omega | (simp; done) | (simp; omega))⟩
set_option maxRecDepth 100000 in
set_option maxHeartbeats 4000000 in
theorem refNumber_any : ∀ (k : Nat) (n : Int) (w : World), n.natAbs ≤ k → -1000000000000000000 ≤ n → n ≤ 1000000000000000000 →
    Calls Tryz.prog 53 #[.int .i64 n] w fun e w' => e = .returned (.string (numS n)) ∧ Ext w w' := by
  intro k
  induction k with
  | zero =>
    intro n w hk h0 h1
    obtain rfl : n = 0 := by omega
    have hcv := one_byte
    go_enter Tryz.func53, Tryz.ntmps53
    go_wp2_with fail
    go_ret
    exact ⟨by rw [num_small 0 (by omega) (by omega)]; rfl, by (repeat' (with_reducible first | exact Below.refl _ _ | refine Ext.drewN ?_ _ | refine Below.drew ?_ | refine Below.setCell ?_ ?_ _ | refine Below.alloc ?_ ?_ _)) <;> (first | omega | (simp; done) | (simp; omega))⟩
  | succ k ih =>
    intro n w hk h0 h1
    have hcv := one_byte
    by_cases hn : n < 0
    · by_cases h10 : -10 < n
      · have q1 : decide (-10 < n) = true := by simpa using h10
        have q2 : decide (n < 0) = true := by simpa using hn
        have s1 : IntKind.i64.wrap (48 - n) = 48 - n := IntWalk.i64_in _ (by omega)
        have HN := Lib.hid (num_neg1 n h10 hn)
        clear ih
        go_enter Tryz.func53, Tryz.ntmps53
        go_wp2_with fail
        go_ret
        exact ⟨by rw [HN.out]; rfl, by (repeat' (with_reducible first | exact Below.refl _ _ | refine Ext.drewN ?_ _ | refine Below.drew ?_ | refine Below.setCell ?_ ?_ _ | refine Below.alloc ?_ ?_ _)) <;> (first | omega | (simp; done) | (simp; omega))⟩
      · have q1 : decide (-10 < n) = false := by simpa using h10
        have q2 : decide (n < 0) = true := by simpa using hn
        have HN := Lib.hid (num_neg2 n (by omega))
        have hd : n.tdiv 10 = -((-n) / 10) := by have e := Int.neg_tdiv (-n) 10; rw [Int.neg_neg] at e; rw [e, Int.tdiv_eq_ediv_of_nonneg (by omega)]
        have hm : n.tmod 10 = -((-n) % 10) := by rw [Int.tmod_def, hd]; omega
        have HIH := Lib.hid (fun w => ih (n.tdiv 10) w (by omega) (by omega) (by omega))
        have s2 : 38 ≤ n.tmod 10 + 48 ∧ n.tmod 10 ≤ 0 := by omega
        have s3 : IntKind.i64.wrap (48 - n.tmod 10) = 48 - n.tmod 10 := IntWalk.i64_in _ (by omega)
        have s5 : IntKind.i64.wrap (n.tdiv 10) = n.tdiv 10 := IntWalk.i64_in _ (by omega)
        have s4 : IntKind.u8.wrap (48 - n.tmod 10) = 48 - n.tmod 10 := by unfold IntKind.wrap; simp [IntKind.bits, IntKind.signed]; omega
        have HD := Lib.hid hd
        clear hd hm ih
        go_enter Tryz.func53, Tryz.ntmps53
        go_wp2_with fail
        clear hcv
        have z3 : ¬ 9223372036854775807 < (numS (n.tdiv 10)).size + (strOfNums [48 - n.tmod 10]).size := by have := (num_size (n.tdiv 10) (by rw [HD.out]; omega) (by rw [HD.out]; omega)).2; have := one_size (48 - n.tmod 10); omega
        have hcv := byte_text
        refine wp_region_held_drew (S := fun W => True) (by kernel_rfl) (trivial) (fun hHeld => ?_)
        refine' wpAnyH_take (i := 0) (oi := ?zoi0a) (v := ?zv0a) ?zhi0a (by kernel_rfl) (by kernel_rfl) (by kernel_rfl) ?zhQ0a (Or.inl ⟨?zhw0a, ?zhy0a⟩) (by assumption) ?zrest0a; (case zhi0a => simp only [List.getElem?_toArray, List.getElem?_cons_succ, List.getElem?_cons_zero]; exact rfl); (case zhQ0a => exact fun _ _ _ h => h); (case zhw0a => rfl); (case zhy0a => intro w hSw; (try dsimp only at hSw); go_simp; (try with_reducible rfl)); (try simp only [Act.put, List.setIfInBounds_toArray, List.set_cons_zero, List.set_cons_succ])
        refine' wpAnyH_take (i := 1) (oi := ?zoi1a) (v := ?zv1a) ?zhi1a (by kernel_rfl) (by kernel_rfl) (by kernel_rfl) ?zhQ1a (Or.inl ⟨?zhw1a, ?zhy1a⟩) (by assumption) ?zrest1a; (case zhi1a => simp only [List.getElem?_toArray, List.getElem?_cons_succ, List.getElem?_cons_zero]; exact rfl); (case zhQ1a => exact fun _ _ _ h => h); (case zhw1a => rfl); (case zhy1a => intro w hSw; (try dsimp only at hSw); go_simp; (try with_reducible rfl)); (try simp only [Act.put, List.setIfInBounds_toArray, List.set_cons_zero, List.set_cons_succ])
        refine' wpAnyH_take (i := 3) (oi := ?zoi3a) (v := ?zv3a) ?zhi3a (by kernel_rfl) (by kernel_rfl) (by kernel_rfl) ?zhQ3a (Or.inl ⟨?zhw3a, ?zhy3a⟩) (by assumption) ?zrest3a; (case zhi3a => simp only [List.getElem?_toArray, List.getElem?_cons_succ, List.getElem?_cons_zero]; exact rfl); (case zhQ3a => exact fun _ _ _ h => h); (case zhw3a => rfl); (case zhy3a => intro w hSw; (try dsimp only at hSw); go_simp; (try with_reducible rfl)); (try simp only [Act.put, List.setIfInBounds_toArray, List.set_cons_zero, List.set_cons_succ])
        refine' wpAnyH_take (i := 4) (oi := ?zoi4a) (v := ?zv4a) ?zhi4a (by kernel_rfl) (by kernel_rfl) (by kernel_rfl) ?zhQ4a (Or.inl ⟨?zhw4a, ?zhy4a⟩) (by assumption) ?zrest4a; (case zhi4a => simp only [List.getElem?_toArray, List.getElem?_cons_succ, List.getElem?_cons_zero]; exact rfl); (case zhQ4a => exact fun _ _ _ h => h); (case zhw4a => rfl); (case zhy4a => intro w hSw; (try dsimp only at hSw); go_simp; (try with_reducible rfl)); (try simp only [Act.put, List.setIfInBounds_toArray, List.set_cons_zero, List.set_cons_succ])
        refine' wpAnyH_take (i := 5) (oi := ?zoi5a) (v := ?zv5a) ?zhi5a (by kernel_rfl) (by kernel_rfl) (by kernel_rfl) ?zhQ5a (Or.inl ⟨?zhw5a, ?zhy5a⟩) (by assumption) ?zrest5a; (case zhi5a => simp only [List.getElem?_toArray, List.getElem?_cons_succ, List.getElem?_cons_zero]; exact rfl); (case zhQ5a => exact fun _ _ _ h => h); (case zhw5a => rfl); (case zhy5a => intro w hSw; (try dsimp only at hSw); go_simp; (try with_reducible rfl)); (try simp only [Act.put, List.setIfInBounds_toArray, List.set_cons_zero, List.set_cons_succ])
        refine' wpAnyH_take (i := 6) (oi := ?zoi6a) (v := ?zv6a) ?zhi6a (by kernel_rfl) (by kernel_rfl) (by kernel_rfl) ?zhQ6a (Or.inl ⟨?zhw6a, ?zhy6a⟩) (by assumption) ?zrest6a; (case zhi6a => simp only [List.getElem?_toArray, List.getElem?_cons_succ, List.getElem?_cons_zero]; exact rfl); (case zhQ6a => exact fun _ _ _ h => h); (case zhw6a => rfl); (case zhy6a => intro w hSw; (try dsimp only at hSw); go_simp; (try with_reducible rfl)); (try simp only [Act.put, List.setIfInBounds_toArray, List.set_cons_zero, List.set_cons_succ])
        refine wpAnyH_ready (rs := [2, 7]) (by kernel_rfl) (by simp) ?_; refine AllReadyH.cons rfl (fun K hK => ?_) (AllReadyH.cons rfl (fun K hK => ?_) (AllReadyH.nil))
        · go_simp
          (with_reducible refine (HIH.out _).mono ?_)
          rintro e w1 ⟨rfl, hb1⟩
          obtain ⟨hc1, hf1⟩ := bcell hb1
          have HB1 : Hid (Ext w w1) := Ext.trans (by (repeat' (with_reducible first | exact Below.refl _ _ | refine Ext.drewN ?_ _ | refine Below.drew ?_ | refine Below.setCell ?_ ?_ _ | refine Below.alloc ?_ ?_ _)) <;> (first | omega | (simp; done) | (simp; omega)) : Ext w _) hb1
          have hz1 := hb1.size
          simp at hz1
          (try dsimp only)
          (try go_simp)
          refine hK.out _ _ (trivial) (fun hHeld => ?_)
          clear hK K
          (try simp only [Act.put, List.setIfInBounds_toArray, List.set_cons_zero, List.set_cons_succ])
          refine wpAnyH_ready (rs := [7]) (by kernel_rfl) (by simp) ?_; refine AllReadyH.cons rfl (fun K hK => ?_) AllReadyH.nil; go_simp
          refine hK.out _ _ (trivial) (fun hHeld => ?_)
          clear hK K
          (try simp only [Act.put, List.setIfInBounds_toArray, List.set_cons_zero, List.set_cons_succ])
          refine wpAnyH_ready (rs := [8]) (by kernel_rfl) (by simp) ?_; refine AllReadyH.cons rfl (fun K hK => ?_) AllReadyH.nil; go_simp
          refine hK.out _ _ (trivial) (fun hHeld => ?_)
          clear hK K
          (try simp only [Act.put, List.setIfInBounds_toArray, List.set_cons_zero, List.set_cons_succ])
          refine' wpAnyH_take (i := 9) (oi := ?zoi9aA) (v := ?zv9aA) ?zhi9aA (by kernel_rfl) (by kernel_rfl) (by kernel_rfl) ?zhQ9aA (Or.inl ⟨?zhw9aA, ?zhy9aA⟩) (by assumption) ?zrest9aA; (case zhi9aA => simp only [List.getElem?_toArray, List.getElem?_cons_succ, List.getElem?_cons_zero]; exact rfl); (case zhQ9aA => exact fun _ _ _ h => h); (case zhw9aA => rfl); (case zhy9aA => intro w hSw; (try dsimp only at hSw); go_simp; (try with_reducible rfl)); (try simp only [Act.put, List.setIfInBounds_toArray, List.set_cons_zero, List.set_cons_succ])
          refine' wpAnyH_take (i := 10) (oi := ?zoi10aA) (v := ?zv10aA) ?zhi10aA (by kernel_rfl) (by kernel_rfl) (by kernel_rfl) ?zhQ10aA (Or.inl ⟨?zhw10aA, ?zhy10aA⟩) (by assumption) ?zrest10aA; (case zhi10aA => simp only [List.getElem?_toArray, List.getElem?_cons_succ, List.getElem?_cons_zero]; exact rfl); (case zhQ10aA => exact fun _ _ _ h => h); (case zhw10aA => rfl); (case zhy10aA => intro w hSw; (try dsimp only at hSw); go_simp; (try with_reducible rfl)); (try simp only [Act.put, List.setIfInBounds_toArray, List.set_cons_zero, List.set_cons_succ])
          refine wpAnyH_done (by kernel_rfl) ?_ _
          clear hcv
          go_wp2_with fail
          go_ret
          exact ⟨by rw [HN.out]; rfl, by (repeat' (with_reducible first | exact HB1.out | exact Below.refl _ _ | refine Ext.drewN ?_ _ | refine Below.drew ?_ | refine Below.setCell ?_ ?_ _ | refine Below.alloc ?_ ?_ _)) <;> (first | omega | (simp; done) | (simp; omega))⟩
        · go_simp
          refine hK.out _ _ (trivial) (fun hHeld => ?_)
          clear hK K
          (try simp only [Act.put, List.setIfInBounds_toArray, List.set_cons_zero, List.set_cons_succ])
          refine wpAnyH_ready (rs := [2, 8]) (by kernel_rfl) (by simp) ?_; refine AllReadyH.cons rfl (fun K hK => ?_) (AllReadyH.cons rfl (fun K hK => ?_) (AllReadyH.nil))
          · go_simp
            (with_reducible refine (HIH.out _).mono ?_)
            rintro e w1 ⟨rfl, hb1⟩
            obtain ⟨hc1, hf1⟩ := bcell hb1
            have HB1 : Hid (Ext w w1) := Ext.trans (by (repeat' (with_reducible first | exact Below.refl _ _ | refine Ext.drewN ?_ _ | refine Below.drew ?_ | refine Below.setCell ?_ ?_ _ | refine Below.alloc ?_ ?_ _)) <;> (first | omega | (simp; done) | (simp; omega)) : Ext w _) hb1
            have hz1 := hb1.size
            simp at hz1
            (try dsimp only)
            (try go_simp)
            refine hK.out _ _ (trivial) (fun hHeld => ?_)
            clear hK K
            (try simp only [Act.put, List.setIfInBounds_toArray, List.set_cons_zero, List.set_cons_succ])
            refine wpAnyH_ready (rs := [8]) (by kernel_rfl) (by simp) ?_; refine AllReadyH.cons rfl (fun K hK => ?_) AllReadyH.nil; go_simp
            refine hK.out _ _ (trivial) (fun hHeld => ?_)
            clear hK K
            (try simp only [Act.put, List.setIfInBounds_toArray, List.set_cons_zero, List.set_cons_succ])
            refine' wpAnyH_take (i := 9) (oi := ?zoi9aBA) (v := ?zv9aBA) ?zhi9aBA (by kernel_rfl) (by kernel_rfl) (by kernel_rfl) ?zhQ9aBA (Or.inl ⟨?zhw9aBA, ?zhy9aBA⟩) (by assumption) ?zrest9aBA; (case zhi9aBA => simp only [List.getElem?_toArray, List.getElem?_cons_succ, List.getElem?_cons_zero]; exact rfl); (case zhQ9aBA => exact fun _ _ _ h => h); (case zhw9aBA => rfl); (case zhy9aBA => intro w hSw; (try dsimp only at hSw); go_simp; (try with_reducible rfl)); (try simp only [Act.put, List.setIfInBounds_toArray, List.set_cons_zero, List.set_cons_succ])
            refine' wpAnyH_take (i := 10) (oi := ?zoi10aBA) (v := ?zv10aBA) ?zhi10aBA (by kernel_rfl) (by kernel_rfl) (by kernel_rfl) ?zhQ10aBA (Or.inl ⟨?zhw10aBA, ?zhy10aBA⟩) (by assumption) ?zrest10aBA; (case zhi10aBA => simp only [List.getElem?_toArray, List.getElem?_cons_succ, List.getElem?_cons_zero]; exact rfl); (case zhQ10aBA => exact fun _ _ _ h => h); (case zhw10aBA => rfl); (case zhy10aBA => intro w hSw; (try dsimp only at hSw); go_simp; (try with_reducible rfl)); (try simp only [Act.put, List.setIfInBounds_toArray, List.set_cons_zero, List.set_cons_succ])
            refine wpAnyH_done (by kernel_rfl) ?_ _
            clear hcv
            go_wp2_with fail
            go_ret
            exact ⟨by rw [HN.out]; rfl, by (repeat' (with_reducible first | exact HB1.out | exact Below.refl _ _ | refine Ext.drewN ?_ _ | refine Below.drew ?_ | refine Below.setCell ?_ ?_ _ | refine Below.alloc ?_ ?_ _)) <;> (first | omega | (simp; done) | (simp; omega))⟩
          · go_simp
            refine hK.out _ _ (trivial) (fun hHeld => ?_)
            clear hK K
            (try simp only [Act.put, List.setIfInBounds_toArray, List.set_cons_zero, List.set_cons_succ])
            refine wpAnyH_ready (rs := [2]) (by kernel_rfl) (by simp) ?_; refine AllReadyH.cons rfl (fun K hK => ?_) AllReadyH.nil; go_simp
            (with_reducible refine (HIH.out _).mono ?_)
            rintro e w1 ⟨rfl, hb1⟩
            obtain ⟨hc1, hf1⟩ := bcell hb1
            have HB1 : Hid (Ext w w1) := Ext.trans (by (repeat' (with_reducible first | exact Below.refl _ _ | refine Ext.drewN ?_ _ | refine Below.drew ?_ | refine Below.setCell ?_ ?_ _ | refine Below.alloc ?_ ?_ _)) <;> (first | omega | (simp; done) | (simp; omega)) : Ext w _) hb1
            have hz1 := hb1.size
            simp at hz1
            (try dsimp only)
            (try go_simp)
            refine hK.out _ _ (trivial) (fun hHeld => ?_)
            clear hK K
            (try simp only [Act.put, List.setIfInBounds_toArray, List.set_cons_zero, List.set_cons_succ])
            refine' wpAnyH_take (i := 9) (oi := ?zoi9aBB) (v := ?zv9aBB) ?zhi9aBB (by kernel_rfl) (by kernel_rfl) (by kernel_rfl) ?zhQ9aBB (Or.inl ⟨?zhw9aBB, ?zhy9aBB⟩) (by assumption) ?zrest9aBB; (case zhi9aBB => simp only [List.getElem?_toArray, List.getElem?_cons_succ, List.getElem?_cons_zero]; exact rfl); (case zhQ9aBB => exact fun _ _ _ h => h); (case zhw9aBB => rfl); (case zhy9aBB => intro w hSw; (try dsimp only at hSw); go_simp; (try with_reducible rfl)); (try simp only [Act.put, List.setIfInBounds_toArray, List.set_cons_zero, List.set_cons_succ])
            refine' wpAnyH_take (i := 10) (oi := ?zoi10aBB) (v := ?zv10aBB) ?zhi10aBB (by kernel_rfl) (by kernel_rfl) (by kernel_rfl) ?zhQ10aBB (Or.inl ⟨?zhw10aBB, ?zhy10aBB⟩) (by assumption) ?zrest10aBB; (case zhi10aBB => simp only [List.getElem?_toArray, List.getElem?_cons_succ, List.getElem?_cons_zero]; exact rfl); (case zhQ10aBB => exact fun _ _ _ h => h); (case zhw10aBB => rfl); (case zhy10aBB => intro w hSw; (try dsimp only at hSw); go_simp; (try with_reducible rfl)); (try simp only [Act.put, List.setIfInBounds_toArray, List.set_cons_zero, List.set_cons_succ])
            refine wpAnyH_done (by kernel_rfl) ?_ _
            clear hcv
            go_wp2_with fail
            go_ret
            exact ⟨by rw [HN.out]; rfl, by (repeat' (with_reducible first | exact HB1.out | exact Below.refl _ _ | refine Ext.drewN ?_ _ | refine Below.drew ?_ | refine Below.setCell ?_ ?_ _ | refine Below.alloc ?_ ?_ _)) <;> (first | omega | (simp; done) | (simp; omega))⟩
    · have q1 : decide (n < 0) = false := by simpa using hn
      by_cases h10 : n < 10
      · have q2 : decide (n < 10) = true := by simpa using h10
        have HN := Lib.hid (num_small n (by omega) h10)
        clear ih
        go_enter Tryz.func53, Tryz.ntmps53
        go_wp2_with fail
        go_ret
        exact ⟨by rw [HN.out, show n % 10 = n by omega]; rfl, by (repeat' (with_reducible first | exact Below.refl _ _ | refine Ext.drewN ?_ _ | refine Below.drew ?_ | refine Below.setCell ?_ ?_ _ | refine Below.alloc ?_ ?_ _)) <;> (first | omega | (simp; done) | (simp; omega))⟩
      · have q2 : decide (n < 10) = false := by simpa using h10
        have HN := Lib.hid (num_large n (by omega))
        have HIH := Lib.hid (fun w => ih (n / 10) w (by omega) (by omega) (by omega))
        have s6 : 0 ≤ n % 10 ∧ n % 10 ≤ 9 := by omega
        have s3 : IntKind.i64.wrap (48 + n % 10) = 48 + n % 10 := IntWalk.i64_in _ (by omega)
        have s5 : IntKind.i64.wrap (n / 10) = n / 10 := IntWalk.i64_in _ (by omega)
        have s7 : n.tdiv 10 = n / 10 := Int.tdiv_eq_ediv_of_nonneg (by omega)
        have s8 : n.tmod 10 = n % 10 := Int.tmod_eq_emod_of_nonneg (by omega)
        have s4 : IntKind.u8.wrap (48 + n % 10) = 48 + n % 10 := by unfold IntKind.wrap; simp [IntKind.bits, IntKind.signed]; omega
        clear ih
        go_enter Tryz.func53, Tryz.ntmps53
        go_wp2_with fail
        clear hcv
        have z3 : ¬ 9223372036854775807 < (numS (n / 10)).size + (strOfNums [48 + n % 10]).size := by have := (num_size (n / 10) (by omega) (by omega)).2; have := one_size (48 + n % 10); omega
        have hcv := byte_text
        refine wp_region_held_drew (S := fun W => True) (by kernel_rfl) (trivial) (fun hHeld => ?_)
        refine' wpAnyH_take (i := 0) (oi := ?zoi0b) (v := ?zv0b) ?zhi0b (by kernel_rfl) (by kernel_rfl) (by kernel_rfl) ?zhQ0b (Or.inl ⟨?zhw0b, ?zhy0b⟩) (by assumption) ?zrest0b; (case zhi0b => simp only [List.getElem?_toArray, List.getElem?_cons_succ, List.getElem?_cons_zero]; exact rfl); (case zhQ0b => exact fun _ _ _ h => h); (case zhw0b => rfl); (case zhy0b => intro w hSw; (try dsimp only at hSw); go_simp; (try with_reducible rfl)); (try simp only [Act.put, List.setIfInBounds_toArray, List.set_cons_zero, List.set_cons_succ])
        refine' wpAnyH_take (i := 1) (oi := ?zoi1b) (v := ?zv1b) ?zhi1b (by kernel_rfl) (by kernel_rfl) (by kernel_rfl) ?zhQ1b (Or.inl ⟨?zhw1b, ?zhy1b⟩) (by assumption) ?zrest1b; (case zhi1b => simp only [List.getElem?_toArray, List.getElem?_cons_succ, List.getElem?_cons_zero]; exact rfl); (case zhQ1b => exact fun _ _ _ h => h); (case zhw1b => rfl); (case zhy1b => intro w hSw; (try dsimp only at hSw); go_simp; (try with_reducible rfl)); (try simp only [Act.put, List.setIfInBounds_toArray, List.set_cons_zero, List.set_cons_succ])
        refine' wpAnyH_take (i := 3) (oi := ?zoi3b) (v := ?zv3b) ?zhi3b (by kernel_rfl) (by kernel_rfl) (by kernel_rfl) ?zhQ3b (Or.inl ⟨?zhw3b, ?zhy3b⟩) (by assumption) ?zrest3b; (case zhi3b => simp only [List.getElem?_toArray, List.getElem?_cons_succ, List.getElem?_cons_zero]; exact rfl); (case zhQ3b => exact fun _ _ _ h => h); (case zhw3b => rfl); (case zhy3b => intro w hSw; (try dsimp only at hSw); go_simp; (try with_reducible rfl)); (try simp only [Act.put, List.setIfInBounds_toArray, List.set_cons_zero, List.set_cons_succ])
        refine' wpAnyH_take (i := 4) (oi := ?zoi4b) (v := ?zv4b) ?zhi4b (by kernel_rfl) (by kernel_rfl) (by kernel_rfl) ?zhQ4b (Or.inl ⟨?zhw4b, ?zhy4b⟩) (by assumption) ?zrest4b; (case zhi4b => simp only [List.getElem?_toArray, List.getElem?_cons_succ, List.getElem?_cons_zero]; exact rfl); (case zhQ4b => exact fun _ _ _ h => h); (case zhw4b => rfl); (case zhy4b => intro w hSw; (try dsimp only at hSw); go_simp; (try with_reducible rfl)); (try simp only [Act.put, List.setIfInBounds_toArray, List.set_cons_zero, List.set_cons_succ])
        refine' wpAnyH_take (i := 5) (oi := ?zoi5b) (v := ?zv5b) ?zhi5b (by kernel_rfl) (by kernel_rfl) (by kernel_rfl) ?zhQ5b (Or.inl ⟨?zhw5b, ?zhy5b⟩) (by assumption) ?zrest5b; (case zhi5b => simp only [List.getElem?_toArray, List.getElem?_cons_succ, List.getElem?_cons_zero]; exact rfl); (case zhQ5b => exact fun _ _ _ h => h); (case zhw5b => rfl); (case zhy5b => intro w hSw; (try dsimp only at hSw); go_simp; (try with_reducible rfl)); (try simp only [Act.put, List.setIfInBounds_toArray, List.set_cons_zero, List.set_cons_succ])
        refine' wpAnyH_take (i := 6) (oi := ?zoi6b) (v := ?zv6b) ?zhi6b (by kernel_rfl) (by kernel_rfl) (by kernel_rfl) ?zhQ6b (Or.inl ⟨?zhw6b, ?zhy6b⟩) (by assumption) ?zrest6b; (case zhi6b => simp only [List.getElem?_toArray, List.getElem?_cons_succ, List.getElem?_cons_zero]; exact rfl); (case zhQ6b => exact fun _ _ _ h => h); (case zhw6b => rfl); (case zhy6b => intro w hSw; (try dsimp only at hSw); go_simp; (try with_reducible rfl)); (try simp only [Act.put, List.setIfInBounds_toArray, List.set_cons_zero, List.set_cons_succ])
        refine wpAnyH_ready (rs := [2, 7]) (by kernel_rfl) (by simp) ?_; refine AllReadyH.cons rfl (fun K hK => ?_) (AllReadyH.cons rfl (fun K hK => ?_) (AllReadyH.nil))
        · go_simp
          (with_reducible refine (HIH.out _).mono ?_)
          rintro e w1 ⟨rfl, hb1⟩
          obtain ⟨hc1, hf1⟩ := bcell hb1
          have HB1 : Hid (Ext w w1) := Ext.trans (by (repeat' (with_reducible first | exact Below.refl _ _ | refine Ext.drewN ?_ _ | refine Below.drew ?_ | refine Below.setCell ?_ ?_ _ | refine Below.alloc ?_ ?_ _)) <;> (first | omega | (simp; done) | (simp; omega)) : Ext w _) hb1
          have hz1 := hb1.size
          simp at hz1
          (try dsimp only)
          (try go_simp)
          refine hK.out _ _ (trivial) (fun hHeld => ?_)
          clear hK K
          (try simp only [Act.put, List.setIfInBounds_toArray, List.set_cons_zero, List.set_cons_succ])
          refine wpAnyH_ready (rs := [7]) (by kernel_rfl) (by simp) ?_; refine AllReadyH.cons rfl (fun K hK => ?_) AllReadyH.nil; go_simp
          refine hK.out _ _ (trivial) (fun hHeld => ?_)
          clear hK K
          (try simp only [Act.put, List.setIfInBounds_toArray, List.set_cons_zero, List.set_cons_succ])
          refine wpAnyH_ready (rs := [8]) (by kernel_rfl) (by simp) ?_; refine AllReadyH.cons rfl (fun K hK => ?_) AllReadyH.nil; go_simp
          refine hK.out _ _ (trivial) (fun hHeld => ?_)
          clear hK K
          (try simp only [Act.put, List.setIfInBounds_toArray, List.set_cons_zero, List.set_cons_succ])
          refine' wpAnyH_take (i := 9) (oi := ?zoi9bA) (v := ?zv9bA) ?zhi9bA (by kernel_rfl) (by kernel_rfl) (by kernel_rfl) ?zhQ9bA (Or.inl ⟨?zhw9bA, ?zhy9bA⟩) (by assumption) ?zrest9bA; (case zhi9bA => simp only [List.getElem?_toArray, List.getElem?_cons_succ, List.getElem?_cons_zero]; exact rfl); (case zhQ9bA => exact fun _ _ _ h => h); (case zhw9bA => rfl); (case zhy9bA => intro w hSw; (try dsimp only at hSw); go_simp; (try with_reducible rfl)); (try simp only [Act.put, List.setIfInBounds_toArray, List.set_cons_zero, List.set_cons_succ])
          refine' wpAnyH_take (i := 10) (oi := ?zoi10bA) (v := ?zv10bA) ?zhi10bA (by kernel_rfl) (by kernel_rfl) (by kernel_rfl) ?zhQ10bA (Or.inl ⟨?zhw10bA, ?zhy10bA⟩) (by assumption) ?zrest10bA; (case zhi10bA => simp only [List.getElem?_toArray, List.getElem?_cons_succ, List.getElem?_cons_zero]; exact rfl); (case zhQ10bA => exact fun _ _ _ h => h); (case zhw10bA => rfl); (case zhy10bA => intro w hSw; (try dsimp only at hSw); go_simp; (try with_reducible rfl)); (try simp only [Act.put, List.setIfInBounds_toArray, List.set_cons_zero, List.set_cons_succ])
          refine wpAnyH_done (by kernel_rfl) ?_ _
          clear hcv
          go_wp2_with fail
          go_ret
          exact ⟨by rw [HN.out]; rfl, by (repeat' (with_reducible first | exact HB1.out | exact Below.refl _ _ | refine Ext.drewN ?_ _ | refine Below.drew ?_ | refine Below.setCell ?_ ?_ _ | refine Below.alloc ?_ ?_ _)) <;> (first | omega | (simp; done) | (simp; omega))⟩
        · go_simp
          refine hK.out _ _ (trivial) (fun hHeld => ?_)
          clear hK K
          (try simp only [Act.put, List.setIfInBounds_toArray, List.set_cons_zero, List.set_cons_succ])
          refine wpAnyH_ready (rs := [2, 8]) (by kernel_rfl) (by simp) ?_; refine AllReadyH.cons rfl (fun K hK => ?_) (AllReadyH.cons rfl (fun K hK => ?_) (AllReadyH.nil))
          · go_simp
            (with_reducible refine (HIH.out _).mono ?_)
            rintro e w1 ⟨rfl, hb1⟩
            obtain ⟨hc1, hf1⟩ := bcell hb1
            have HB1 : Hid (Ext w w1) := Ext.trans (by (repeat' (with_reducible first | exact Below.refl _ _ | refine Ext.drewN ?_ _ | refine Below.drew ?_ | refine Below.setCell ?_ ?_ _ | refine Below.alloc ?_ ?_ _)) <;> (first | omega | (simp; done) | (simp; omega)) : Ext w _) hb1
            have hz1 := hb1.size
            simp at hz1
            (try dsimp only)
            (try go_simp)
            refine hK.out _ _ (trivial) (fun hHeld => ?_)
            clear hK K
            (try simp only [Act.put, List.setIfInBounds_toArray, List.set_cons_zero, List.set_cons_succ])
            refine wpAnyH_ready (rs := [8]) (by kernel_rfl) (by simp) ?_; refine AllReadyH.cons rfl (fun K hK => ?_) AllReadyH.nil; go_simp
            refine hK.out _ _ (trivial) (fun hHeld => ?_)
            clear hK K
            (try simp only [Act.put, List.setIfInBounds_toArray, List.set_cons_zero, List.set_cons_succ])
            refine' wpAnyH_take (i := 9) (oi := ?zoi9bBA) (v := ?zv9bBA) ?zhi9bBA (by kernel_rfl) (by kernel_rfl) (by kernel_rfl) ?zhQ9bBA (Or.inl ⟨?zhw9bBA, ?zhy9bBA⟩) (by assumption) ?zrest9bBA; (case zhi9bBA => simp only [List.getElem?_toArray, List.getElem?_cons_succ, List.getElem?_cons_zero]; exact rfl); (case zhQ9bBA => exact fun _ _ _ h => h); (case zhw9bBA => rfl); (case zhy9bBA => intro w hSw; (try dsimp only at hSw); go_simp; (try with_reducible rfl)); (try simp only [Act.put, List.setIfInBounds_toArray, List.set_cons_zero, List.set_cons_succ])
            refine' wpAnyH_take (i := 10) (oi := ?zoi10bBA) (v := ?zv10bBA) ?zhi10bBA (by kernel_rfl) (by kernel_rfl) (by kernel_rfl) ?zhQ10bBA (Or.inl ⟨?zhw10bBA, ?zhy10bBA⟩) (by assumption) ?zrest10bBA; (case zhi10bBA => simp only [List.getElem?_toArray, List.getElem?_cons_succ, List.getElem?_cons_zero]; exact rfl); (case zhQ10bBA => exact fun _ _ _ h => h); (case zhw10bBA => rfl); (case zhy10bBA => intro w hSw; (try dsimp only at hSw); go_simp; (try with_reducible rfl)); (try simp only [Act.put, List.setIfInBounds_toArray, List.set_cons_zero, List.set_cons_succ])
            refine wpAnyH_done (by kernel_rfl) ?_ _
            clear hcv
            go_wp2_with fail
            go_ret
            exact ⟨by rw [HN.out]; rfl, by (repeat' (with_reducible first | exact HB1.out | exact Below.refl _ _ | refine Ext.drewN ?_ _ | refine Below.drew ?_ | refine Below.setCell ?_ ?_ _ | refine Below.alloc ?_ ?_ _)) <;> (first | omega | (simp; done) | (simp; omega))⟩
          · go_simp
            refine hK.out _ _ (trivial) (fun hHeld => ?_)
            clear hK K
            (try simp only [Act.put, List.setIfInBounds_toArray, List.set_cons_zero, List.set_cons_succ])
            refine wpAnyH_ready (rs := [2]) (by kernel_rfl) (by simp) ?_; refine AllReadyH.cons rfl (fun K hK => ?_) AllReadyH.nil; go_simp
            (with_reducible refine (HIH.out _).mono ?_)
            rintro e w1 ⟨rfl, hb1⟩
            obtain ⟨hc1, hf1⟩ := bcell hb1
            have HB1 : Hid (Ext w w1) := Ext.trans (by (repeat' (with_reducible first | exact Below.refl _ _ | refine Ext.drewN ?_ _ | refine Below.drew ?_ | refine Below.setCell ?_ ?_ _ | refine Below.alloc ?_ ?_ _)) <;> (first | omega | (simp; done) | (simp; omega)) : Ext w _) hb1
            have hz1 := hb1.size
            simp at hz1
            (try dsimp only)
            (try go_simp)
            refine hK.out _ _ (trivial) (fun hHeld => ?_)
            clear hK K
            (try simp only [Act.put, List.setIfInBounds_toArray, List.set_cons_zero, List.set_cons_succ])
            refine' wpAnyH_take (i := 9) (oi := ?zoi9bBB) (v := ?zv9bBB) ?zhi9bBB (by kernel_rfl) (by kernel_rfl) (by kernel_rfl) ?zhQ9bBB (Or.inl ⟨?zhw9bBB, ?zhy9bBB⟩) (by assumption) ?zrest9bBB; (case zhi9bBB => simp only [List.getElem?_toArray, List.getElem?_cons_succ, List.getElem?_cons_zero]; exact rfl); (case zhQ9bBB => exact fun _ _ _ h => h); (case zhw9bBB => rfl); (case zhy9bBB => intro w hSw; (try dsimp only at hSw); go_simp; (try with_reducible rfl)); (try simp only [Act.put, List.setIfInBounds_toArray, List.set_cons_zero, List.set_cons_succ])
            refine' wpAnyH_take (i := 10) (oi := ?zoi10bBB) (v := ?zv10bBB) ?zhi10bBB (by kernel_rfl) (by kernel_rfl) (by kernel_rfl) ?zhQ10bBB (Or.inl ⟨?zhw10bBB, ?zhy10bBB⟩) (by assumption) ?zrest10bBB; (case zhi10bBB => simp only [List.getElem?_toArray, List.getElem?_cons_succ, List.getElem?_cons_zero]; exact rfl); (case zhQ10bBB => exact fun _ _ _ h => h); (case zhw10bBB => rfl); (case zhy10bBB => intro w hSw; (try dsimp only at hSw); go_simp; (try with_reducible rfl)); (try simp only [Act.put, List.setIfInBounds_toArray, List.set_cons_zero, List.set_cons_succ])
            refine wpAnyH_done (by kernel_rfl) ?_ _
            clear hcv
            go_wp2_with fail
            go_ret
            exact ⟨by rw [HN.out]; rfl, by (repeat' (with_reducible first | exact HB1.out | exact Below.refl _ _ | refine Ext.drewN ?_ _ | refine Below.drew ?_ | refine Below.setCell ?_ ?_ _ | refine Below.alloc ?_ ?_ _)) <;> (first | omega | (simp; done) | (simp; omega))⟩
end Go.Proofs.YtgpnockjonicpaaGreatDoor
namespace Go.Proofs.YtgpnockjonicpaaGreatDoor
set_option linter.unusedSimpArgs false
set_option linter.unusedVariables false
open Go.RowKit

def digB (c : UInt8) : Bool := decide (48 ≤ c.toNat) && decide (c.toNat ≤ 57)
def foldV (l : List UInt8) : Int := l.foldl (fun n c => 10 * n + ((c.toNat : Int) - 48)) 0
def minusB (w : ByteArray) : Bool := match w.data.toList with | c :: _ => c == 45 | [] => false
def bodyL (w : ByteArray) : List UInt8 := if minusB w = true then w.data.toList.tail else w.data.toList
/-- what a word may be -/
def numV (w : ByteArray) : Int := if 15 < (bodyL w).length then 0 else if minusB w = true then -(foldV (bodyL w)) else foldV (bodyL w)
/-- is a word what it may be, written so? -/
def okW (w : ByteArray) : Bool := decide (numS (numV w) = w)
def passB (w : ByteArray) : Bool := !(bodyL w).isEmpty && (bodyL w).all digB && decide ((bodyL w).length ≤ 15)

theorem foldV_snoc (l : List UInt8) (c : UInt8) : foldV (l ++ [c]) = 10 * foldV l + ((c.toNat : Int) - 48) := by simp [foldV, List.foldl_append]
theorem foldV_rev (P : List UInt8 → Prop) (h0 : P []) (h1 : ∀ l c, P l → P (l ++ [c])) : ∀ l, P l := by
  intro l
  have h : ∀ r : List UInt8, P r.reverse := by
    intro r
    induction r with
    | nil => exact h0
    | cons c r ih => rw [List.reverse_cons]; exact h1 _ _ ih
  have := h l.reverse
  rwa [List.reverse_reverse] at this
theorem foldV_abs : ∀ l : List UInt8, -(23 * (10 : Int) ^ l.length - 23) ≤ foldV l ∧ foldV l ≤ 23 * (10 : Int) ^ l.length - 23 := by
  refine foldV_rev _ (by simp [foldV]) (fun l c ih => ?_)
  rw [foldV_snoc, List.length_append]
  have hc : (c.toNat : Int) < 256 := by have := c.toNat_lt; omega
  have hc0 : (0 : Int) ≤ (c.toNat : Int) := by omega
  simp only [List.length_cons, List.length_nil, Nat.zero_add, Int.pow_succ]
  generalize (10 : Int) ^ l.length = p at *
  omega
theorem foldV_dig : ∀ l : List UInt8, l.all digB = true → 0 ≤ foldV l ∧ foldV l < (10 : Int) ^ l.length := by
  refine foldV_rev _ (fun _ => by simp [foldV]) (fun l c ih h => ?_)
  simp only [List.all_append, List.all_cons, List.all_nil, Bool.and_true, Bool.and_eq_true] at h
  have := ih h.1
  have hc := h.2
  simp only [digB, Bool.and_eq_true, decide_eq_true_eq] at hc
  rw [foldV_snoc, List.length_append]
  simp only [List.length_cons, List.length_nil, Nat.zero_add, Int.pow_succ]
  generalize (10 : Int) ^ l.length = p at *
  omega
theorem pow15 (k : Nat) (h : k ≤ 15) : (10 : Int) ^ k ≤ 1000000000000000 := by
  have h2 : (10 : Nat) ^ k ≤ 10 ^ 15 := Nat.pow_le_pow_right (by omega) h
  have e : ((10 ^ k : Nat) : Int) = (10 : Int) ^ k := Int.natCast_pow 10 k
  rw [← e]
  omega
theorem numV_abs (w : ByteArray) : -1000000000000000000 ≤ numV w ∧ numV w ≤ 1000000000000000000 := by
  unfold numV
  split
  · omega
  · rename_i h
    have h1 := foldV_abs (bodyL w)
    have h2 := pow15 (bodyL w).length (by omega)
    generalize (10 : Int) ^ (bodyL w).length = p at *
    split <;> omega
theorem dec_dig (n : Nat) : (decL n).all digB = true ∧ decL n ≠ [] := by
  induction n using Nat.strongRecOn with
  | ind n ih =>
    rw [decL]
    have hd : ∀ k, k < 10 → digB (UInt8.ofNat (48 + k)) = true := by
      intro k hk
      have h2 : k = 0 ∨ k = 1 ∨ k = 2 ∨ k = 3 ∨ k = 4 ∨ k = 5 ∨ k = 6 ∨ k = 7 ∨ k = 8 ∨ k = 9 := by omega
      rcases h2 with rfl | rfl | rfl | rfl | rfl | rfl | rfl | rfl | rfl | rfl <;> decide
    split
    · rename_i h
      simp only [List.all_cons, List.all_nil, Bool.and_true]
      exact ⟨hd n h, by simp⟩
    · rename_i h
      have := ih (n / 10) (by omega)
      simp only [List.all_append, List.all_cons, List.all_nil, Bool.and_true, this.1, Bool.true_and]
      exact ⟨hd (n % 10) (by omega), by simp⟩
theorem num_minus (v : Int) : minusB (numS v) = decide (v < 0) ∧ bodyL (numS v) = decL v.natAbs := by
  have hm : minusB (numS v) = decide (v < 0) := by
    unfold minusB numS strL numL
    simp only
    by_cases h : v < 0
    · simp [h]
    · simp only [h, if_false, decide_false]
      have := dec_dig v.toNat
      cases hd : decL v.toNat with
      | nil => rfl
      | cons c r =>
        rw [hd] at this
        have h1 := this.1
        simp only [List.all_cons, Bool.and_eq_true] at h1
        show (c == 45) = false
        have h2 := h1.1
        simp only [digB, Bool.and_eq_true, decide_eq_true_eq] at h2
        rw [beq_eq_false_iff_ne]
        intro e
        rw [e] at h2
        exact absurd h2.1 (by decide)
  refine ⟨hm, ?_⟩
  unfold bodyL
  rw [hm]
  unfold numS strL numL
  by_cases h : v < 0
  · simp [h]
  · simp only [h, if_false, decide_false, Bool.false_eq_true]
    congr 1
    omega
theorem ok_pass (w : ByteArray) (h : okW w = true) : passB w = true := by
  unfold okW at h
  rw [decide_eq_true_eq] at h
  have hb : bodyL w = decL (numV w).natAbs := by
    have := (num_minus (numV w)).2
    rw [h] at this
    exact this
  have hd := dec_dig (numV w).natAbs
  unfold passB
  have hl : (bodyL w).length ≤ 15 := by
    rcases Nat.lt_or_ge 15 (bodyL w).length with h1 | h1
    · exfalso
      have h0 : numV w = 0 := by unfold numV; rw [if_pos h1]
      rw [hb, h0] at h1
      rw [show (0 : Int).natAbs = 0 from rfl, decL] at h1
      simp at h1
    · exact h1
  have he : (bodyL w).isEmpty = false := by
    rw [hb]
    cases hq : decL (numV w).natAbs with
    | nil => exact absurd hq hd.2
    | cons _ _ => rfl
  rw [he, hb, hd.1, ← hb]
  simp [hl]
theorem not_pass_dig (w : ByteArray) (c : UInt8) (hc : c ∈ bodyL w) (hd : digB c = false) : okW w = false := by
  cases h : okW w with
  | false => rfl
  | true =>
    have := ok_pass w h
    simp only [passB, Bool.and_eq_true, List.all_eq_true] at this
    have := this.1.2 c hc
    rw [hd] at this
    cases this
theorem not_pass_len (w : ByteArray) (hl : 15 < (bodyL w).length) : okW w = false := by
  cases h : okW w with
  | false => rfl
  | true =>
    have := ok_pass w h
    simp only [passB, Bool.and_eq_true, decide_eq_true_eq] at this
    omega
theorem dig_nat (k : Nat) (h : k < 10) : (UInt8.ofNat (48 + k)).toNat = 48 + k := by
  have h2 : k = 0 ∨ k = 1 ∨ k = 2 ∨ k = 3 ∨ k = 4 ∨ k = 5 ∨ k = 6 ∨ k = 7 ∨ k = 8 ∨ k = 9 := by omega
  rcases h2 with rfl | rfl | rfl | rfl | rfl | rfl | rfl | rfl | rfl | rfl <;> decide
theorem fold_dec (n : Nat) : foldV (decL n) = (n : Int) := by
  induction n using Nat.strongRecOn with
  | ind n ih =>
    rw [decL]
    split
    · rename_i h
      have := foldV_snoc [] (UInt8.ofNat (48 + n))
      rw [List.nil_append] at this
      rw [this, dig_nat n h]
      simp [foldV]
      omega
    · rename_i h
      rw [foldV_snoc, ih (n / 10) (by omega), dig_nat (n % 10) (by omega)]
      omega
/-- a number's own text is what it may be -/
theorem num_num (v : Int) (h0 : -1000000000000000 < v) (h1 : v < 1000000000000000) : numV (numS v) = v := by
  obtain ⟨h2, h3⟩ := num_minus v
  unfold numV
  have hl := (dec_len 14 v.natAbs (by omega)).2
  rw [h3, if_neg (by omega), h2, fold_dec]
  by_cases h : v < 0
  · rw [if_pos (by simpa using h)]; omega
  · rw [if_neg (by simpa using h)]; omega
theorem okW_num (v : Int) (h0 : -1000000000000000 < v) (h1 : v < 1000000000000000) : okW (numS v) = true := by
  unfold okW
  rw [num_num v h0 h1]
  simp
theorem okW_bound (w : ByteArray) (h : okW w = true) : -1000000000000000 < numV w ∧ numV w < 1000000000000000 := by
  have hp := ok_pass w h
  simp only [passB, Bool.and_eq_true, decide_eq_true_eq] at hp
  have h1 := foldV_dig (bodyL w) hp.1.2
  have h2 := pow15 (bodyL w).length hp.2
  unfold numV
  rw [if_neg (by omega)]
  generalize (10 : Int) ^ (bodyL w).length = p at *
  split <;> omega
end Go.Proofs.YtgpnockjonicpaaGreatDoor
