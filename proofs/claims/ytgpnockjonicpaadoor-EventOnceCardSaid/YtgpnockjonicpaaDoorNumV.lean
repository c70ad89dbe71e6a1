/- Numbers as texts: event.digits, ref23.Number. Conditions: numbers of at most eighteen digits. -/
/- What a word may be as a number: the plain law. No program. -/
import Derived.Test.YtgpnockjonicpaaDoorBase
import Derived.IntWalk
namespace Go.Proofs.YtgpnockjonicpaaDoor
set_option linter.unusedSimpArgs false
set_option linter.unusedVariables false
open Go.RowKit

/-- a number's digits -/
def decL (n : Nat) : List UInt8 := if n < 10 then [UInt8.ofNat (48 + n)] else decL (n / 10) ++ [UInt8.ofNat (48 + n % 10)]
termination_by n
def numL (n : Int) : List UInt8 := if n < 0 then 45 :: decL n.natAbs else decL n.toNat
def strL (l : List UInt8) : ByteArray := ⟨l.toArray⟩
def numS (n : Int) : ByteArray := strL (numL n)
theorem strL_app (a b : List UInt8) : strL a ++ strL b = strL (a ++ b) := by
  apply ByteArray.ext
  simp [strL, ByteArray.data_append]
theorem strOf1 (x : Int) : strOfNums [x] = strL [UInt8.ofNat x.toNat] := rfl
theorem num_small (n : Int) (h0 : 0 ≤ n) (h1 : n < 10) : numS n = strOfNums [48 + n % 10] := by
  unfold numS numL
  rw [if_neg (by omega), decL, if_pos (by omega), strOf1]
  congr 2
  congr 1
  omega
theorem num_large (n : Int) (h1 : 10 ≤ n) : numS n = numS (n / 10) ++ strOfNums [48 + n % 10] := by
  unfold numS numL
  rw [if_neg (by omega), if_neg (by omega), strOf1, strL_app]
  conv => lhs; rw [decL, if_neg (by omega)]
  have e1 : n.toNat / 10 = (n / 10).toNat := by omega
  have e2 : 48 + n.toNat % 10 = (48 + n % 10).toNat := by omega
  rw [e1, e2]
theorem num_neg (n : Int) (h : n < 0) : numS n = strL [45] ++ numS (-n) := by
  unfold numS numL
  rw [if_pos h, if_neg (by omega), strL_app]
  have e : n.natAbs = (-n).toNat := by omega
  rw [e]
  rfl
theorem num_neg1 (n : Int) (h : -10 < n) (h0 : n < 0) : numS n = strL [45] ++ strOfNums [48 - n] := by
  rw [num_neg n h0, num_small (-n) (by omega) (by omega)]
  congr 3
  omega
theorem num_neg2 (n : Int) (h : n ≤ -10) : numS n = numS (n.tdiv 10) ++ strOfNums [48 - n.tmod 10] := by
  have hd : n.tdiv 10 = -((-n) / 10) := by have e := Int.neg_tdiv (-n) 10; rw [Int.neg_neg] at e; rw [e, Int.tdiv_eq_ediv_of_nonneg (by omega)]
  have hm : n.tmod 10 = -((-n) % 10) := by rw [Int.tmod_def, hd]; omega
  rw [num_neg n (by omega), num_large (-n) (by omega), num_neg (n.tdiv 10) (by omega), hd, hm, Int.neg_neg, ByteArray.append_assoc]
  congr 3
  congr 1
  omega
theorem dec_len : ∀ (k n : Nat), n < 10 ^ (k + 1) → 1 ≤ (decL n).length ∧ (decL n).length ≤ k + 1
  | 0, n, h => by rw [decL, if_pos (by simpa using h)]; simp
  | k + 1, n, h => by
    rw [decL]
    split
    · simp
    · have h2 := dec_len k (n / 10) (by rw [Nat.pow_succ] at h; omega)
      rw [List.length_append]
      simp
      omega
theorem num_size (n : Int) (h0 : -1000000000000000000 ≤ n) (h1 : n ≤ 1000000000000000000) : 1 ≤ (numS n).size ∧ (numS n).size ≤ 20 := by
  unfold numS numL strL
  split
  · have := dec_len 18 n.natAbs (by omega)
    simp [ByteArray.size]
    omega
  · have := dec_len 18 n.toNat (by omega)
    simp [ByteArray.size]
    omega
theorem one_size (x : Int) : (strOfNums [x]).size = 1 := rfl
/-- the text of one new byte -/
theorem byte_text (W : World) (b : Nat) (x : Int) (h : W.cell? ⟨b, 0, none⟩ = some (.int .u8 x)) : (convert 61 9 (.slice (some ⟨b, 0, none⟩) 1 1)).run Tryd.prog W = .ok (.string (strOfNums [x])) W :=
  run_convert_bytes_arg W 61 5 Tryd.underlying61 Tryd.underlying5 b 0 1 1 [x] rfl (fun i hi => by
    obtain rfl : i = 0 := by omega
    exact h) 9 Tryd.underlying9
theorem one_byte (w : World) (x : Int) : (convert 61 9 (.slice (some ⟨w.heap.size, 0, none⟩) 1 1)).run Tryd.prog (w.alloc (.cells #[.int .u8 x] 5)) = .ok (.string (strOfNums [x])) (w.alloc (.cells #[.int .u8 x] 5)) := by
  refine run_convert_bytes_arg (w.alloc (.cells #[.int .u8 x] 5)) 61 5 Tryd.underlying61 Tryd.underlying5 w.heap.size 0 1 1 [x] rfl (fun i hi => ?_) 9 Tryd.underlying9
  obtain rfl : i = 0 := by omega
  exact (Row1.made w 5 [.int .u8 x]).cell 0

set_option maxRecDepth 100000 in
set_option maxHeartbeats 800000 in
theorem digits_pos : ∀ (k : Nat) (n : Int) (w : World), n.toNat ≤ k → 0 ≤ n → n ≤ 1000000000000000000 →
    Calls Tryd.prog 46 #[.int .i64 n] w fun e w' => e = .returned (.string (numS n)) ∧ Ext w w' := by
  intro k
  induction k with
  | zero =>
    intro n w hk h0 h1
    obtain rfl : n = 0 := by omega
    have hcv := one_byte
    go_enter Tryd.func46, Tryd.ntmps46
    go_wp2_with fail
    go_ret
    exact ⟨by rw [num_small 0 (by omega) (by omega)]; rfl, by (repeat' (with_reducible first | exact Below.refl _ _ | refine Ext.drewN ?_ _ | refine Below.drew ?_ | refine Below.setCell ?_ ?_ _ | refine Below.alloc ?_ ?_ _)) <;> (first | omega | (simp; done) | (simp; omega))⟩
  | succ k ih =>
    intro n w hk h0 h1
    have hcv := one_byte
    have q1 : decide (n < 0) = false := by simp; omega
    by_cases h10 : 10 ≤ n
    · have q2 : decide (10 ≤ n) = true := by simpa using h10
      have HN := Lib.hid (num_large n h10)
      have HIH := Lib.hid (fun w => ih (n / 10) w (by omega) (by omega) (by omega))
      have z1 : (numS (n / 10)).size ≤ 20 := (num_size (n / 10) (by omega) (by omega)).2
      have z2 : (strOfNums [48 + n % 10]).size ≤ 1 := Nat.le_refl _
      have z3 : (numS (n / 10)).size + (strOfNums [48 + n % 10]).size ≤ 9223372036854775807 := by omega
      clear ih
      go_enter Tryd.func46, Tryd.ntmps46
      go_wp2_with fail
      refine (HIH.out _).mono ?_
      rintro e w1 ⟨rfl, hb1⟩
      have HB1 := Lib.hid (Ext.trans (by (repeat' (with_reducible first | exact Below.refl _ _ | refine Ext.drewN ?_ _ | refine Below.drew ?_ | refine Below.setCell ?_ ?_ _ | refine Below.alloc ?_ ?_ _)) <;> (first | omega | (simp; done) | (simp; omega)) : Ext w _) hb1)
      clear hb1
      go_wp2_with fail
      go_ret
      exact ⟨by rw [HN.out]; rfl, by (repeat' (with_reducible first | exact HB1.out | exact Below.refl _ _ | refine Ext.drewN ?_ _ | refine Below.drew ?_ | refine Below.setCell ?_ ?_ _ | refine Below.alloc ?_ ?_ _)) <;> (first | omega | (simp; done) | (simp; omega))⟩
    · have q2 : decide (10 ≤ n) = false := by simpa using h10
      have HN := Lib.hid (num_small n h0 (by omega))
      clear ih
      go_enter Tryd.func46, Tryd.ntmps46
      go_wp2_with fail
      go_ret
      exact ⟨by rw [HN.out]; rfl, by (repeat' (with_reducible first | exact Below.refl _ _ | refine Ext.drewN ?_ _ | refine Below.drew ?_ | refine Below.setCell ?_ ?_ _ | refine Below.alloc ?_ ?_ _)) <;> (first | omega | (simp; done) | (simp; omega))⟩
set_option maxHeartbeats 800000 in
theorem digits_any (n : Int) (w : World) (h0 : -1000000000000000000 ≤ n) (h1 : n ≤ 1000000000000000000) :
    Calls Tryd.prog 46 #[.int .i64 n] w fun e w' => e = .returned (.string (numS n)) ∧ Ext w w' := by
  by_cases hn : 0 ≤ n
  · exact digits_pos n.toNat n w (Nat.le_refl _) hn h1
  · have q1 : decide (n < 0) = true := by simpa using hn
    have s1 : IntKind.i64.wrap (-n) = -n := IntWalk.i64_in _ (by omega)
    have HN := Lib.hid (num_neg n (by omega))
    have z1 := (num_size (-n) (by omega) (by omega)).2
    have z2 : (⟨#[45]⟩ : ByteArray).size + (numS (-n)).size ≤ 9223372036854775807 := by have : (⟨#[45]⟩ : ByteArray).size = 1 := rfl; omega
    have z3 : 1 + (numS (-n)).size ≤ 9223372036854775807 := by omega
    go_enter Tryd.func46, Tryd.ntmps46
    go_wp2_with fail
    refine (digits_pos (-n).toNat (-n) _ (Nat.le_refl _) (by omega) (by omega)).mono ?_
    rintro e w1 ⟨rfl, hb1⟩
    have HB1 := Lib.hid (Ext.trans (by (repeat' (with_reducible first | exact Below.refl _ _ | refine Ext.drewN ?_ _ | refine Below.drew ?_ | refine Below.setCell ?_ ?_ _ | refine Below.alloc ?_ ?_ _)) <;> (first | omega | (simp; done) | (simp; omega)) : Ext w _) hb1)
    clear hb1
    go_wp2_with fail
    go_ret
    exact ⟨by rw [HN.out]; rfl, by (repeat' (with_reducible first | exact HB1.out | exact Below.refl _ _ | refine Ext.drewN ?_ _ | refine Below.drew ?_ | refine Below.setCell ?_ ?_ _ | refine Below.alloc ?_ ?_ _)) <;> (first | omega | (simp; done) | (simp; omega))⟩
end Go.Proofs.YtgpnockjonicpaaDoor
namespace Go.Proofs.YtgpnockjonicpaaDoor
set_option linter.unusedSimpArgs false
set_option linter.unusedVariables false
open Go.RowKit

def digB (c : UInt8) : Bool := decide (48 ≤ c.toNat) && decide (c.toNat ≤ 57)
def foldV (l : List UInt8) : Int := l.foldl (fun n c => 10 * n + ((c.toNat : Int) - 48)) 0
def minusB (w : ByteArray) : Bool := match w.data.toList with | c :: _ => c == 45 | [] => false
def bodyL (w : ByteArray) : List UInt8 := if minusB w = true then w.data.toList.tail else w.data.toList
/-- what a word may be -/
def numV (w : ByteArray) : Int := if 15 < (bodyL w).length then 0 else if minusB w = true then -(foldV (bodyL w)) else foldV (bodyL w)
/-- is a word what it may be, written so? -/
def okW (w : ByteArray) : Bool := decide (numS (numV w) = w)
def passB (w : ByteArray) : Bool := !(bodyL w).isEmpty && (bodyL w).all digB && decide ((bodyL w).length ≤ 15)

theorem foldV_snoc (l : List UInt8) (c : UInt8) : foldV (l ++ [c]) = 10 * foldV l + ((c.toNat : Int) - 48) := by simp [foldV, List.foldl_append]
theorem foldV_rev (P : List UInt8 → Prop) (h0 : P []) (h1 : ∀ l c, P l → P (l ++ [c])) : ∀ l, P l := by
  intro l
  have h : ∀ r : List UInt8, P r.reverse := by
    intro r
    induction r with
    | nil => exact h0
    | cons c r ih => rw [List.reverse_cons]; exact h1 _ _ ih
  have := h l.reverse
  rwa [List.reverse_reverse] at this
theorem foldV_abs : ∀ l : List UInt8, -(23 * (10 : Int) ^ l.length - 23) ≤ foldV l ∧ foldV l ≤ 23 * (10 : Int) ^ l.length - 23 := by
  refine foldV_rev _ (by simp [foldV]) (fun l c ih => ?_)
  rw [foldV_snoc, List.length_append]
  have hc : (c.toNat : Int) < 256 := by have := c.toNat_lt; omega
  have hc0 : (0 : Int) ≤ (c.toNat : Int) := by omega
  simp only [List.length_cons, List.length_nil, Nat.zero_add, Int.pow_succ]
  generalize (10 : Int) ^ l.length = p at *
  omega
theorem foldV_dig : ∀ l : List UInt8, l.all digB = true → 0 ≤ foldV l ∧ foldV l < (10 : Int) ^ l.length := by
  refine foldV_rev _ (fun _ => by simp [foldV]) (fun l c ih h => ?_)
  simp only [List.all_append, List.all_cons, List.all_nil, Bool.and_true, Bool.and_eq_true] at h
  have := ih h.1
  have hc := h.2
  simp only [digB, Bool.and_eq_true, decide_eq_true_eq] at hc
  rw [foldV_snoc, List.length_append]
  simp only [List.length_cons, List.length_nil, Nat.zero_add, Int.pow_succ]
  generalize (10 : Int) ^ l.length = p at *
  omega
theorem pow15 (k : Nat) (h : k ≤ 15) : (10 : Int) ^ k ≤ 1000000000000000 := by
  have h2 : (10 : Nat) ^ k ≤ 10 ^ 15 := Nat.pow_le_pow_right (by omega) h
  have e : ((10 ^ k : Nat) : Int) = (10 : Int) ^ k := Int.natCast_pow 10 k
  rw [← e]
  omega
theorem numV_abs (w : ByteArray) : -1000000000000000000 ≤ numV w ∧ numV w ≤ 1000000000000000000 := by
  unfold numV
  split
  · omega
  · rename_i h
    have h1 := foldV_abs (bodyL w)
    have h2 := pow15 (bodyL w).length (by omega)
    generalize (10 : Int) ^ (bodyL w).length = p at *
    split <;> omega
theorem dec_dig (n : Nat) : (decL n).all digB = true ∧ decL n ≠ [] := by
  induction n using Nat.strongRecOn with
  | ind n ih =>
    rw [decL]
    have hd : ∀ k, k < 10 → digB (UInt8.ofNat (48 + k)) = true := by
      intro k hk
      have h2 : k = 0 ∨ k = 1 ∨ k = 2 ∨ k = 3 ∨ k = 4 ∨ k = 5 ∨ k = 6 ∨ k = 7 ∨ k = 8 ∨ k = 9 := by omega
      rcases h2 with rfl | rfl | rfl | rfl | rfl | rfl | rfl | rfl | rfl | rfl <;> decide
    split
    · rename_i h
      simp only [List.all_cons, List.all_nil, Bool.and_true]
      exact ⟨hd n h, by simp⟩
    · rename_i h
      have := ih (n / 10) (by omega)
      simp only [List.all_append, List.all_cons, List.all_nil, Bool.and_true, this.1, Bool.true_and]
      exact ⟨hd (n % 10) (by omega), by simp⟩
theorem num_minus (v : Int) : minusB (numS v) = decide (v < 0) ∧ bodyL (numS v) = decL v.natAbs := by
  have hm : minusB (numS v) = decide (v < 0) := by
    unfold minusB numS strL numL
    simp only
    by_cases h : v < 0
    · simp [h]
    · simp only [h, if_false, decide_false]
      have := dec_dig v.toNat
      cases hd : decL v.toNat with
      | nil => rfl
      | cons c r =>
        rw [hd] at this
        have h1 := this.1
        simp only [List.all_cons, Bool.and_eq_true] at h1
        show (c == 45) = false
        have h2 := h1.1
        simp only [digB, Bool.and_eq_true, decide_eq_true_eq] at h2
        rw [beq_eq_false_iff_ne]
        intro e
        rw [e] at h2
        exact absurd h2.1 (by decide)
  refine ⟨hm, ?_⟩
  unfold bodyL
  rw [hm]
  unfold numS strL numL
  by_cases h : v < 0
  · simp [h]
  · simp only [h, if_false, decide_false, Bool.false_eq_true]
    congr 1
    omega
theorem ok_pass (w : ByteArray) (h : okW w = true) : passB w = true := by
  unfold okW at h
  rw [decide_eq_true_eq] at h
  have hb : bodyL w = decL (numV w).natAbs := by
    have := (num_minus (numV w)).2
    rw [h] at this
    exact this
  have hd := dec_dig (numV w).natAbs
  unfold passB
  have hl : (bodyL w).length ≤ 15 := by
    rcases Nat.lt_or_ge 15 (bodyL w).length with h1 | h1
    · exfalso
      have h0 : numV w = 0 := by unfold numV; rw [if_pos h1]
      rw [hb, h0] at h1
      rw [show (0 : Int).natAbs = 0 from rfl, decL] at h1
      simp at h1
    · exact h1
  have he : (bodyL w).isEmpty = false := by
    rw [hb]
    cases hq : decL (numV w).natAbs with
    | nil => exact absurd hq hd.2
    | cons _ _ => rfl
  rw [he, hb, hd.1, ← hb]
  simp [hl]
theorem not_pass_dig (w : ByteArray) (c : UInt8) (hc : c ∈ bodyL w) (hd : digB c = false) : okW w = false := by
  cases h : okW w with
  | false => rfl
  | true =>
    have := ok_pass w h
    simp only [passB, Bool.and_eq_true, List.all_eq_true] at this
    have := this.1.2 c hc
    rw [hd] at this
    cases this
theorem not_pass_len (w : ByteArray) (hl : 15 < (bodyL w).length) : okW w = false := by
  cases h : okW w with
  | false => rfl
  | true =>
    have := ok_pass w h
    simp only [passB, Bool.and_eq_true, decide_eq_true_eq] at this
    omega
theorem dig_nat (k : Nat) (h : k < 10) : (UInt8.ofNat (48 + k)).toNat = 48 + k := by
  have h2 : k = 0 ∨ k = 1 ∨ k = 2 ∨ k = 3 ∨ k = 4 ∨ k = 5 ∨ k = 6 ∨ k = 7 ∨ k = 8 ∨ k = 9 := by omega
  rcases h2 with rfl | rfl | rfl | rfl | rfl | rfl | rfl | rfl | rfl | rfl <;> decide
theorem fold_dec (n : Nat) : foldV (decL n) = (n : Int) := by
  induction n using Nat.strongRecOn with
  | ind n ih =>
    rw [decL]
    split
    · rename_i h
      have := foldV_snoc [] (UInt8.ofNat (48 + n))
      rw [List.nil_append] at this
      rw [this, dig_nat n h]
      simp [foldV]
      omega
    · rename_i h
      rw [foldV_snoc, ih (n / 10) (by omega), dig_nat (n % 10) (by omega)]
      omega
/-- a number's own text is what it may be -/
theorem num_num (v : Int) (h0 : -1000000000000000 < v) (h1 : v < 1000000000000000) : numV (numS v) = v := by
  obtain ⟨h2, h3⟩ := num_minus v
  unfold numV
  have hl := (dec_len 14 v.natAbs (by omega)).2
  rw [h3, if_neg (by omega), h2, fold_dec]
  by_cases h : v < 0
  · rw [if_pos (by simpa using h)]; omega
  · rw [if_neg (by simpa using h)]; omega
theorem okW_num (v : Int) (h0 : -1000000000000000 < v) (h1 : v < 1000000000000000) : okW (numS v) = true := by
  unfold okW
  rw [num_num v h0 h1]
  simp
theorem okW_bound (w : ByteArray) (h : okW w = true) : -1000000000000000 < numV w ∧ numV w < 1000000000000000 := by
  have hp := ok_pass w h
  simp only [passB, Bool.and_eq_true, decide_eq_true_eq] at hp
  have h1 := foldV_dig (bodyL w) hp.1.2
  have h2 := pow15 (bodyL w).length hp.2
  unfold numV
  rw [if_neg (by omega)]
  generalize (10 : Int) ^ (bodyL w).length = p at *
  split <;> omega
end Go.Proofs.YtgpnockjonicpaaDoor
