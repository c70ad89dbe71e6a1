/- A disk: ready, use, Len, Read. Conditions: a disk in memory, an int. -/
/- A disk's Read. Conditions: a disk in memory that has power. -/
/- Bits of numbers, as arithmetic. Plain; no conditions but the sizes. -/
/- bits.Fold, Unfold, Var, Fixed, Unfixed. Conditions: numbers that their types hold. -/
/- Bytes of a text, changed in place; bits.Not, Fixed. Conditions: sizes. -/
import Derived.Test.YtojoefcfimmipaaGreatQ03
import Derived.Test.YtojoefcfimmipaaGreatQ02
import Derived.Laws.Bits64b
import Derived.Laws.BitsLemmas
import Derived.Laws.BitsAllLaws
namespace Go.Proofs.YtojoefcfimmipaaGreat
set_option linter.unusedSimpArgs false
set_option linter.unusedVariables false
open Go.RowKit
theorem encS_flat (l : List ByteArray) (j : Nat) (hj : j < l.length) : (l.flatMap encS)[j]? = some (.string l[j]) := by
  have := flat_at encS 1 encS_len l j _ (List.getElem?_eq_getElem hj) 0 _ rfl
  simpa using this
/-- a list of texts in memory, opened -/
theorem ownS_open {w : World} {base : Nat} {e : TypeId} {v : Value} {l : List ByteArray} (h : OwnL w base e 1 encS v l) : ∃ A c, v = .slice A l.length c ∧ l.length ≤ c ∧ c ≤ 9223372036854775807 ∧
    (0 < l.length → ∃ b, A = some ⟨b, 0, none⟩ ∧ base ≤ b ∧ b < w.heap.size ∧ (∀ i, w.frozen? ⟨b, i, none⟩ = false) ∧ ∀ i (hi : i < l.length), w.cell? ⟨b, i, none⟩ = some (.string l[i])) := by
  have h' : w.ownsRow base e 1 v l.length (l.flatMap encS) := h
  obtain ⟨A, c, rfl, h1, h2, h3⟩ := own_form h'
  exact ⟨A, c, rfl, h1, h2, fun h0 => by
    obtain ⟨b, q1, q2, q3, q4, q5⟩ := h3 h0
    exact ⟨b, q1, q2, q3, q4, fun i hi => q5 i _ (encS_flat l i hi)⟩⟩
theorem encP_at (l : List (Nat × ByteArray)) (j : Nat) (hj : j < l.length) : (l.flatMap encP)[j * 2]? = some (.int .i64 l[j].1) ∧ (l.flatMap encP)[j * 2 + 1]? = some (.string l[j].2) :=
  ⟨flat_at encP 2 encP_len l j _ (List.getElem?_eq_getElem hj) 0 _ rfl, flat_at encP 2 encP_len l j _ (List.getElem?_eq_getElem hj) 1 _ rfl⟩
theorem ownP_open {w : World} {base : Nat} {e : TypeId} {v : Value} {l : List (Nat × ByteArray)} (h : OwnL w base e 2 encP v l) : ∃ A c, v = .slice A l.length c ∧ l.length ≤ c ∧ c ≤ 9223372036854775807 ∧
    (0 < l.length → ∃ b, A = some ⟨b, 0, none⟩ ∧ base ≤ b ∧ b < w.heap.size ∧ (∀ i, w.frozen? ⟨b, i, none⟩ = false) ∧ ∀ i (hi : i < l.length), w.cell? ⟨b, i * 2, none⟩ = some (.int .i64 l[i].1) ∧ w.cell? ⟨b, i * 2 + 1, none⟩ = some (.string l[i].2)) := by
  have h' : w.ownsRow base e 2 v l.length (l.flatMap encP) := h
  obtain ⟨A, c, rfl, h1, h2, h3⟩ := own_form h'
  exact ⟨A, c, rfl, h1, h2, fun h0 => by
    obtain ⟨b, q1, q2, q3, q4, q5⟩ := h3 h0
    exact ⟨b, q1, q2, q3, q4, fun i hi => ⟨q5 _ _ (encP_at l i hi).1, q5 _ _ (encP_at l i hi).2⟩⟩⟩
/-- a disk, opened -/
theorem DiskAs.open {w : World} {g : Nat} {F : Nat → Prop} {D : DiskD} {bv lv : Value} (h : DiskAs w g F D bv lv) : ∃ b c, bv = .slice (some ⟨b, 0, none⟩) D.blocks.length c ∧ D.blocks.length ≤ c ∧ c ≤ 9223372036854775807 ∧ F b ∧ b < w.heap.size ∧
    (∀ i, w.frozen? ⟨b, i, none⟩ = false) ∧ ∀ i (hi : i < D.blocks.length), w.cell? ⟨b, i, none⟩ = some (.string D.blocks[i]) := by
  obtain ⟨A, c, rfl, h1, h2, h3⟩ := ownS_open h.blocks
  obtain ⟨b, rfl, _, hlt, hf, hc⟩ := h3 (by have := h.wf.one; omega)
  exact ⟨b, c, rfl, h1, h2, h.fb b rfl, hlt, hf, hc⟩
set_option maxRecDepth 100000 in
set_option maxHeartbeats 1000000 in
theorem ready_any {g : Nat} {F : Nat → Prop} {D : DiskD} (n : Int) (w : World) (h : DiskAt w g F D) :
    Calls Tryz.prog 176 #[.pointer (some ⟨g, 0, none⟩), .int .i64 n] w fun e w' => e = .returned (.int .i64 (readyD D n)) ∧ w = w' := by
  obtain ⟨bv, lv, h⟩ := h
  obtain ⟨b, c, rfl, hc1, hc2, _, _, _, _⟩ := h.open
  have c0 : w.cell? ⟨g, 0, none⟩ = _ := h.row.cell 0
  obtain ⟨dd, hd⟩ : ∃ dd, D.dead = dd := ⟨_, rfl⟩
  have c3 : w.cell? ⟨g, 3, none⟩ = some (.bool dd) := by rw [← hd]; exact h.row.cell 3
  obtain ⟨N, hN⟩ : ∃ N, D.blocks.length = N := ⟨_, rfl⟩
  have hw := h.wf
  have h1 := hw.one
  have h2 := hw.many
  clear h hw
  rw [hN] at c0 hc1 h1 h2
  have HR : Hid (readyD D n = if dd = true then 11 else if n < 0 ∨ (N : Int) ≤ n then 10 else 0) := by unfold Hid readyD; rw [hd, hN]
  rw [HR.out]
  clear hd hN HR
  cases dd
  · by_cases hn : n < 0
    · have q1 : decide (n < 0) = true := decide_eq_true hn
      go_enter Tryz.func176, Tryz.ntmps176
      go_wp2_with fail; (try (rw [eqlNil _ _ _ _ _ _ Tryz.underlying184]; simp only [Result.andThen]; rw [Oper.upon_value]))
      go_wp2_with fail
      go_ret
      exact ⟨by simp [hn], rfl⟩
    · have q1 : decide (n < 0) = false := decide_eq_false hn
      by_cases hm : (N : Int) ≤ n
      · have q2 : decide ((N : Int) ≤ n) = true := decide_eq_true hm
        go_enter Tryz.func176, Tryz.ntmps176
        go_wp2_with fail; (try (rw [eqlNil _ _ _ _ _ _ Tryz.underlying184]; simp only [Result.andThen]; rw [Oper.upon_value]))
        go_wp2_with fail
        go_ret
        exact ⟨by simp [hm], rfl⟩
      · have q2 : decide ((N : Int) ≤ n) = false := decide_eq_false hm
        go_enter Tryz.func176, Tryz.ntmps176
        go_wp2_with fail; (try (rw [eqlNil _ _ _ _ _ _ Tryz.underlying184]; simp only [Result.andThen]; rw [Oper.upon_value]))
        go_wp2_with fail
        go_ret
        exact ⟨by simp [hn, hm], rfl⟩
  · go_enter Tryz.func176, Tryz.ntmps176
    go_wp2_with fail; (try (rw [eqlNil _ _ _ _ _ _ Tryz.underlying184]; simp only [Result.andThen]; rw [Oper.upon_value]))
    go_wp2_with fail
    go_ret
    exact ⟨by simp, rfl⟩
set_option maxRecDepth 100000 in
set_option maxHeartbeats 1000000 in
theorem diskLen_any {g : Nat} {F : Nat → Prop} {D : DiskD} (w : World) (h : DiskAt w g F D) :
    Calls Tryz.prog 135 #[.pointer (some ⟨g, 0, none⟩)] w fun e w' => e = .returned (.int .i64 D.blocks.length) ∧ w = w' := by
  obtain ⟨bv, lv, h⟩ := h
  obtain ⟨b, c, rfl, hc1, hc2, _, _, _, _⟩ := h.open
  have c0 : w.cell? ⟨g, 0, none⟩ = _ := h.row.cell 0
  clear h
  go_enter Tryz.func135, Tryz.ntmps135
  go_wp2_with fail
  go_ret
  exact ⟨rfl, rfl⟩
end Go.Proofs.YtojoefcfimmipaaGreat
namespace Go.Proofs.YtojoefcfimmipaaGreat
set_option linter.unusedSimpArgs false
set_option linter.unusedVariables false
open Go.RowKit
theorem lastW_snoc (n : Nat) (late : List (Nat × ByteArray)) (k : Nat) (hk : k < late.length) (s : ByteArray) : lastW n (late.take (k + 1)) s = if late[k].1 = n then late[k].2 else lastW n (late.take k) s := by
  unfold lastW
  rw [List.take_add_one, List.getElem?_eq_getElem hk, List.foldl_append]
  rfl
set_option maxRecDepth 100000 in
set_option maxHeartbeats 1000000 in
theorem diskRead_ok {g : Nat} {F : Nat → Prop} {D : DiskD} (n : Nat) (w : World) (h : DiskAt w g F D) (hd : D.dead = false) (hn : n < D.blocks.length) :
    Calls Tryz.prog 136 #[.pointer (some ⟨g, 0, none⟩), .int .i64 n] w fun e w' => e = .returned (.tuple #[.string (blockD D n), .int .i64 0]) ∧ Ext w w' := by
  have hr := ready_any (n : Int) w h
  have hr0 : readyD D n = 0 := by unfold readyD; rw [hd, if_neg (by simp), if_neg (by omega)]
  rw [hr0] at hr
  clear hr0
  obtain ⟨bv, lv, h⟩ := h
  obtain ⟨b, c, rfl, hc1, hc2, _, _, _, hcb⟩ := h.open
  obtain ⟨lA, lc, rfl, hl1, hl2, hlx⟩ := ownP_open h.late
  have c0 : w.cell? ⟨g, 0, none⟩ = _ := h.row.cell 0
  have c1 : w.cell? ⟨g, 1, none⟩ = _ := h.row.cell 1
  have cn := hcb n hn
  have hm := h.wf.many
  have HL := Lib.hid hlx
  obtain ⟨s0, hs0⟩ : ∃ s, D.blocks[n] = s := ⟨_, rfl⟩
  rw [hs0] at cn
  have HB : Hid (blockD D n = lastW n D.late s0) := by unfold Hid blockD; rw [List.getElem?_eq_getElem hn, hs0]; rfl
  rw [HB.out]
  clear HB hs0 hlx hcb h hd
  go_enter Tryz.func136, Tryz.ntmps136
  go_wp2_with (go_at_call 176; refine hr.mono ?_; clear hr; rintro e w1 ⟨rfl, rfl⟩)
  go_loopw [7, 28] (fun s i wr => ∃ k : Nat, k ≤ D.late.length ∧ i = .int .i64 k ∧ s = .string (lastW n (D.late.take k) s0) ∧ Ext w wr) (fun _ i _ => D.late.length - (intOf i).toNat)
  case atStart => exact ⟨0, by omega, rfl, rfl, Ext.refl _⟩
  case round =>
    obtain ⟨k, hk, rfl, rfl, hx⟩ := hrel
    have HX := Lib.hid hx
    have hz := hx.size
    clear hx
    by_cases hkl : k < D.late.length
    · obtain ⟨lb, rfl, _, hlb, _, hlc⟩ := HL.out (by omega)
      have d0 : wr.cell? ⟨lb, k * 2, none⟩ = _ := (HX.out.cell (p := ⟨lb, k * 2, none⟩) hlb).trans (hlc k hkl).1
      have d1 : wr.cell? ⟨lb, k * 2 + 1, none⟩ = _ := (HX.out.cell (p := ⟨lb, k * 2 + 1, none⟩) hlb).trans (hlc k hkl).2
      have HS := Lib.hid (lastW_snoc n D.late k hkl s0)
      obtain ⟨a, ha⟩ : ∃ a, D.late[k].1 = a := ⟨_, rfl⟩
      obtain ⟨t, ht⟩ : ∃ t, D.late[k].2 = t := ⟨_, rfl⟩
      rw [ha] at d0
      rw [ht] at d1
      have HS : Hid (lastW n (D.late.take (k + 1)) s0 = if a = n then t else lastW n (D.late.take k) s0) := by rw [← ha, ← ht]; exact HS.out
      obtain ⟨s, hs⟩ : ∃ s, lastW n (D.late.take k) s0 = s := ⟨_, rfl⟩
      rw [hs] at HS ⊢
      clear hs
      clear ha ht hlc hlb
      by_cases hq : a = n
      · have q1 : decide ((a : Int) = n) = true := decide_eq_true (by omega)
        go_wp2_with fail
        go_roundw
        case rel => exact ⟨k + 1, by omega, by go_num, by rw [HS.out, if_pos hq], by (repeat' (with_reducible first | exact HX.out | exact Below.refl _ _ | refine Ext.drewN ?_ _ | refine Below.drew ?_ | refine Below.setCell ?_ ?_ _ | refine Below.alloc ?_ ?_ _)) <;> (first | omega | (simp; done) | (simp; omega))⟩
        case measure => simp [intOf]; omega
      · have q1 : decide ((a : Int) = n) = false := decide_eq_false (by omega)
        go_wp2_with fail
        go_roundw
        case rel => exact ⟨k + 1, by omega, by go_num, by rw [HS.out, if_neg hq], by (repeat' (with_reducible first | exact HX.out | exact Below.refl _ _ | refine Ext.drewN ?_ _ | refine Below.drew ?_ | refine Below.setCell ?_ ?_ _ | refine Below.alloc ?_ ?_ _)) <;> (first | omega | (simp; done) | (simp; omega))⟩
        case measure => simp [intOf]; omega
    · obtain rfl : k = D.late.length := by omega
      go_wp2_with fail
      go_ret2
      rw [List.take_length]
      exact ⟨rfl, HX.out⟩
end Go.Proofs.YtojoefcfimmipaaGreat
namespace Go.Proofs.YtojoefcfimmipaaGreat
set_option linter.unusedSimpArgs false
set_option linter.unusedVariables false
open Go.RowKit
theorem or64 (a x j : Nat) (ha : a < 2 ^ j) (hx : x * 2 ^ j < 18446744073709551616) (h64 : 2 ^ j ≤ 18446744073709551616) : bits .or .u64 (a : Int) ((x * 2 ^ j : Nat) : Int) = ((a + x * 2 ^ j : Nat) : Int) := by
  rw [bits_or_u64_nat a _ (by omega) hx, Nat.or_comm, Nat.mul_comm x, ← Nat.two_pow_add_eq_or_of_lt ha x, Nat.add_comm]
set_option maxRecDepth 100000 in
theorem nat8 : ∀ x : Fin 256, (x.val ||| 128 = x.val % 128 + 128 ∧ x.val ^^^ 255 = 255 - x.val) ∧ x.val &&& 127 = x.val % 128 ∧ x.val &&& 1 = x.val % 2 := by decide
theorem or8 (x : Nat) (h : x < 256) : bits .or .u8 (x : Int) 128 = ((x % 128 + 128 : Nat) : Int) := by
  have := u8_or_nat x 128 h (by decide)
  rw [(nat8 ⟨x, h⟩).1.1] at this
  exact this
theorem xor8 (x : Nat) (h : x < 256) : bits .xor .u8 (x : Int) 255 = ((255 - x : Nat) : Int) := by
  have := u8_xor_nat x 255 h (by decide)
  rw [(nat8 ⟨x, h⟩).1.2] at this
  exact this
theorem and127 (x : Nat) (h : x < 256) : bits .and .u8 (x : Int) 127 = ((x % 128 : Nat) : Int) := by
  have := u8_and_nat x 127 h (by decide)
  rw [(nat8 ⟨x, h⟩).2.1] at this
  exact this
theorem and1 (x : Nat) (h : x < 256) : bits .and .u8 (x : Int) 1 = ((x % 2 : Nat) : Int) := by
  have := u8_and_nat x 1 h (by decide)
  rw [(nat8 ⟨x, h⟩).2.2] at this
  exact this
theorem xor_top (r : Nat) (h : r < 2 ^ 63) : r ^^^ 2 ^ 63 = r + 2 ^ 63 := by
  apply Nat.eq_of_testBit_eq
  intro i
  rw [Nat.testBit_xor, Nat.testBit_two_pow, Nat.add_comm]
  rcases Nat.lt_trichotomy i 63 with h1 | h1 | h1
  · rw [Nat.testBit_two_pow_add_gt h1]
    have e : decide (63 = i) = false := decide_eq_false (by omega)
    rw [e, Bool.xor_false]
  · subst h1
    rw [Nat.testBit_two_pow_add_eq, decide_eq_true rfl, Bool.xor_true]
  · have e1 : r.testBit i = false := Nat.testBit_lt_two_pow (Nat.lt_of_lt_of_le h (Nat.pow_le_pow_right (by decide) (by omega)))
    have e2 : (2 ^ 63 + r).testBit i = false := Nat.testBit_lt_two_pow (Nat.lt_of_lt_of_le (show 2 ^ 63 + r < 2 ^ 64 by omega) (Nat.pow_le_pow_right (by decide) (by omega)))
    have e : decide (63 = i) = false := decide_eq_false (by omega)
    rw [e1, e2, e]
    rfl
theorem xor63 (u : Nat) (h : u < 18446744073709551616) : u ^^^ 9223372036854775808 = (u + 9223372036854775808) % 18446744073709551616 := by
  have e : (9223372036854775808 : Nat) = 2 ^ 63 := by decide
  rw [e]
  by_cases h1 : u < 2 ^ 63
  · rw [xor_top u h1]; omega
  · have h2 : u - 2 ^ 63 < 2 ^ 63 := by omega
    have h3 := xor_top (u - 2 ^ 63) h2
    have h4 : u = (u - 2 ^ 63) ^^^ 2 ^ 63 := by rw [h3]; omega
    conv => lhs; rw [h4, Nat.xor_assoc, Nat.xor_self, Nat.xor_zero]
    omega
theorem not64 (x : Nat) (h : x < 18446744073709551616) : x ^^^ 18446744073709551615 = 18446744073709551615 - x := by
  have h1 : (BitVec.ofNat 64 x ^^^ BitVec.allOnes 64).toNat = (~~~ BitVec.ofNat 64 x).toNat := by rw [BitVec.xor_allOnes]
  rw [BitVec.toNat_xor, BitVec.toNat_not, BitVec.toNat_allOnes, BitVec.toNat_ofNat, Nat.mod_eq_of_lt (by simpa using h)] at h1
  simpa using h1
end Go.Proofs.YtojoefcfimmipaaGreat
namespace Go.Proofs.YtojoefcfimmipaaGreat
set_option linter.unusedSimpArgs false
set_option linter.unusedVariables false
open Go.RowKit
theorem elU8 : Elem Tryz.prog 126 5 1 1 := Elem.of Tryz.underlying126 Tryz.elemU8 rfl (by decide)
set_option maxRecDepth 100000 in
set_option maxHeartbeats 1000000 in
theorem fold_any (n : Int) (w : World) (h1 : -9223372036854775808 ≤ n) (h2 : n ≤ 9223372036854775807) : Calls Tryz.prog 54 #[.int .i64 n] w fun e w' => e = .returned (.int .u64 (foldN n)) ∧ w = w' := by
  have hx : bits .xor .u64 (IntKind.u64.wrap (IntKind.u64.wrap n * 2)) (IntKind.u64.wrap (n / 9223372036854775808)) = (foldN n : Int) := by
    rw [IntKind.wrap_u64, IntKind.wrap_u64, IntKind.wrap_u64]
    by_cases h0 : 0 ≤ n
    · have e1 : n / 9223372036854775808 % 18446744073709551616 = ((0 : Nat) : Int) := by omega
      have e2 : n % 18446744073709551616 * 2 % 18446744073709551616 = ((2 * n).toNat : Int) := by omega
      rw [e1, e2, bits_xor_u64_nat _ _ (by omega) (by omega), Nat.xor_zero]
      unfold foldN
      rw [if_pos h0]
    · have e1 : n / 9223372036854775808 % 18446744073709551616 = ((18446744073709551615 : Nat) : Int) := by omega
      have e2 : n % 18446744073709551616 * 2 % 18446744073709551616 = ((2 * n + 18446744073709551616).toNat : Int) := by omega
      rw [e1, e2, bits_xor_u64_nat _ _ (by omega) (by omega), not64 _ (by omega)]
      unfold foldN
      rw [if_neg h0]
      omega
  have HX := Lib.hid hx
  clear hx
  go_enter Tryz.func54, Tryz.ntmps54
  go_wp2_with fail
  go_ret
  exact ⟨by rw [← HX.out]; rfl, rfl⟩
theorem i64_xor0 (x : Int) (h1 : -9223372036854775808 ≤ x) (h2 : x ≤ 9223372036854775807) : bits .xor .i64 x 0 = x := by
  show IntKind.i64.wrap ((BitVec.ofInt 64 x ^^^ BitVec.ofInt 64 0).toNat : Int) = _
  rw [show BitVec.ofInt 64 0 = 0#64 from rfl, BitVec.xor_zero, IntKind.wrap_i64, BitVec.toNat_ofInt]
  omega
theorem i64_xor1 (x : Nat) (h2 : x < 9223372036854775808) : bits .xor .i64 (x : Int) (-1) = -(x : Int) - 1 := by
  show IntKind.i64.wrap ((BitVec.ofInt 64 (x : Int) ^^^ BitVec.ofInt 64 (-1)).toNat : Int) = _
  rw [show BitVec.ofInt 64 (-1) = BitVec.allOnes 64 from by decide, BitVec.xor_allOnes, BitVec.toNat_not, BitVec.toNat_ofInt, IntKind.wrap_i64]
  omega
set_option maxRecDepth 100000 in
set_option maxHeartbeats 1000000 in
theorem unfold_any (u : Nat) (w : World) (h : u < 18446744073709551616) : Calls Tryz.prog 116 #[.int .u64 u] w fun e w' => e = .returned (.int .i64 (unfoldN u)) ∧ w = w' := by
  have hx : bits .xor .i64 ((u : Int) / 2) (wrap64 (-wrap64 (bits .and .u64 (u : Int) 1))) = unfoldN u := by
    have e1 : bits .and .u64 (u : Int) 1 = ((u % 2 : Nat) : Int) := by
      have := bits_and_u64_nat u 1 h (by decide)
      rw [Nat.and_one_is_mod] at this
      exact this
    rw [e1]
    unfold unfoldN
    by_cases h0 : u % 2 = 0
    · have z : wrap64 (-wrap64 ((0 : Nat) : Int)) = 0 := by unfold wrap64; omega
      rw [h0, if_pos rfl, z]
      exact i64_xor0 ((u / 2 : Nat) : Int) (by omega) (by omega)
    · have h0 : u % 2 = 1 := by omega
      have z : wrap64 (-wrap64 ((1 : Nat) : Int)) = -1 := by unfold wrap64; omega
      rw [h0, if_neg (by decide), z]
      exact i64_xor1 (u / 2) (by omega)
  have HX := Lib.hid hx
  clear hx
  go_enter Tryz.func116, Tryz.ntmps116
  go_wp2_with fail
  go_ret
  exact ⟨by rw [← HX.out]; rfl, rfl⟩
theorem varF_step (k m : Nat) (h : 128 ≤ m) (hk : m < 2 * 128 ^ k) : ∃ j, k = j + 1 ∧ m / 128 < 2 * 128 ^ j ∧ varF k m = UInt8.ofNat (m % 128 + 128) :: varF j (m / 128) := by
  cases k with
  | zero => simp at hk; omega
  | succ j =>
    refine ⟨j, rfl, ?_, by rw [varF, if_pos h]⟩
    rw [Nat.pow_succ] at hk
    exact Nat.div_lt_of_lt_mul (by rw [Nat.mul_comm 128]; omega)
theorem varF_last (k m : Nat) (h : m < 128) : varF k m = [UInt8.ofNat m] := by
  cases k with
  | zero => rfl
  | succ j => rw [varF, if_neg (by omega)]
set_option maxRecDepth 100000 in
set_option maxHeartbeats 2000000 in
theorem var_any (n : Nat) (w : World) (h : n < 18446744073709551616) : Calls Tryz.prog 53 #[.int .u64 n] w fun e w' => e = .returned (.string (bts (varL n))) ∧ Ext w w' := by
  have H0 : Hid (n < 2 * 128 ^ 9) := by unfold Hid; omega
  go_enter Tryz.func53, Tryz.ntmps53
  go_wp2_with fail
  go_loopw [0, 3] (fun x v wr => ∃ (m k : Nat) (acc : List UInt8), x = .int .u64 m ∧ Hid (m < 2 * 128 ^ k) ∧ m < 18446744073709551616 ∧ acc.length + k = 9 ∧ Hid (varL n = acc ++ varF k m) ∧ OwnB wr w.heap.size v acc ∧ Ext w wr) (fun x _ _ => (intOf x).toNat)
  case atStart => exact ⟨n, 9, [], rfl, H0, h, rfl, rfl, OwnL.nil _ _ _ _ _, Ext.refl _⟩
  case round =>
    obtain ⟨m, k, acc, rfl, hk, hm, hl, hv, ho, hx⟩ := hrel
    have HO := Lib.hid ho
    have HX := Lib.hid hx
    have hz := hx.size
    obtain ⟨A, c, rfl⟩ := ho.form
    clear ho hx
    by_cases hq : 128 ≤ m
    · have q1 : decide (128 ≤ (m : Int)) = true := decide_eq_true (by omega)
      obtain ⟨b, hb⟩ : ∃ b : UInt8, b = UInt8.ofNat (m % 128 + 128) := ⟨_, rfl⟩
      have hbn : b.toNat = m % 128 + 128 := by rw [hb]; exact byte_nat (by omega)
      have hor : bits .or .u8 ((m : Int) % 256) 128 = (b.toNat : Int) := by
        have e : (m : Int) % 256 = ((m % 256 : Nat) : Int) := by omega
        rw [e, or8 _ (by omega), hbn]
        congr 1
        omega
      have HN : Hid (∃ j, k = j + 1 ∧ m / 128 < 2 * 128 ^ j ∧ varL n = (acc ++ [b]) ++ varF j (m / 128)) := by
        obtain ⟨j, q1, q2, q3⟩ := varF_step k m hq hk.out
        exact ⟨j, q1, q2, by rw [hv.out, q3, hb]; simp⟩
      clear hbn hb
      go_wp2_with (at_builtin; refine wpList_push2 elU8 encU_len encU_one rfl (.tmp 6) (.tmp 10) rfl (.slice A acc.length c) acc rfl (HO.out.ext (by (repeat' (with_reducible first | exact Below.refl _ _ | refine Ext.drewN ?_ _ | refine Below.drew ?_ | refine Below.setCell ?_ ?_ _ | refine Below.alloc ?_ ?_ _)) <;> (first | omega | (simp; done) | (simp; omega)))) (by simp; omega) _ 1 b rfl (Row1.made' (by simp) _ (encU b)) (by omega) (by decide) ?_; intro A' c' w2 hown2 hgr hwh)
      have hx2 : Ext w w2 := OwnL.grown (HO.out.ext (by (repeat' (with_reducible first | exact Below.refl _ _ | refine Ext.drewN ?_ _ | refine Below.drew ?_ | refine Below.setCell ?_ ?_ _ | refine Below.alloc ?_ ?_ _)) <;> (first | omega | (simp; done) | (simp; omega)))) (by (repeat' (with_reducible first | exact HX.out | exact Below.refl _ _ | refine Ext.drewN ?_ _ | refine Below.drew ?_ | refine Below.setCell ?_ ?_ _ | refine Below.alloc ?_ ?_ _)) <;> (first | omega | (simp; done) | (simp; omega))) hgr (Nat.le_refl _)
      rw [List.length_append, List.length_singleton] at hown2
      go_roundw
      case rel =>
        obtain ⟨j, r1, r2, r3⟩ := HN.out
        exact ⟨m / 128, j, acc ++ [b], by simp, r2, by omega, by simp; omega, r3, hown2, hx2⟩
      case measure => simp [intOf]; omega
    · have q1 : decide (128 ≤ (m : Int)) = false := decide_eq_false (by omega)
      obtain ⟨b, rfl⟩ : ∃ b : UInt8, b.toNat = m := ⟨UInt8.ofNat m, byte_nat (by omega)⟩
      have HV : Hid (varL n = acc ++ [b]) := by unfold Hid; rw [hv.out, varF_last k _ (by omega)]; simp
      go_wp2_with (at_builtin; refine wpList_push2 elU8 encU_len encU_one rfl (.tmp 14) (.tmp 17) rfl (.slice A acc.length c) acc rfl (HO.out.ext (by (repeat' (with_reducible first | exact Below.refl _ _ | refine Ext.drewN ?_ _ | refine Below.drew ?_ | refine Below.setCell ?_ ?_ _ | refine Below.alloc ?_ ?_ _)) <;> (first | omega | (simp; done) | (simp; omega)))) (by simp; omega) _ 1 b rfl (Row1.made' (by simp) _ (encU b)) (by omega) (by decide) ?_; intro A' c' w2 hown2 hgr hwh)
      have hx2 : Ext w w2 := OwnL.grown (HO.out.ext (by (repeat' (with_reducible first | exact Below.refl _ _ | refine Ext.drewN ?_ _ | refine Below.drew ?_ | refine Below.setCell ?_ ?_ _ | refine Below.alloc ?_ ?_ _)) <;> (first | omega | (simp; done) | (simp; omega)))) (by (repeat' (with_reducible first | exact HX.out | exact Below.refl _ _ | refine Ext.drewN ?_ _ | refine Below.drew ?_ | refine Below.setCell ?_ ?_ _ | refine Below.alloc ?_ ?_ _)) <;> (first | omega | (simp; done) | (simp; omega))) hgr (Nat.le_refl _)
      have hc := OwnB.text hown2
      rw [List.length_append, List.length_singleton, ← HV.out] at hc
      go_wp2_with fail; (try (rw [hc]; simp only [Result.andThen]; rw [Oper.upon_value]))
      go_wp2_with fail
      go_ret
      exact ⟨rfl, hx2⟩
/-- the lowest k bytes, the lowest one first -/
def fixedL (n k : Nat) : List UInt8 := (List.range k).map fun i => UInt8.ofNat (n / 2 ^ (8 * i) % 256)
theorem fixedL_len (n k : Nat) : (fixedL n k).length = k := by simp [fixedL]
theorem fixedL_snoc (n k : Nat) : fixedL n (k + 1) = fixedL n k ++ [UInt8.ofNat (n / 2 ^ (8 * k) % 256)] := by simp [fixedL, List.range_succ]
/-- the number of the first k bytes -/
def upN (l : List UInt8) : Nat → Nat
  | 0 => 0
  | k + 1 => upN l k + (l[k]?.getD 0).toNat * 2 ^ (8 * k)
theorem upN_lt (l : List UInt8) : ∀ k, upN l k < 2 ^ (8 * k)
  | 0 => by simp [upN]
  | k + 1 => by
    have h1 := upN_lt l k
    have h2 : (l[k]?.getD 0).toNat * 2 ^ (8 * k) ≤ 255 * 2 ^ (8 * k) := Nat.mul_le_mul_right _ (by have := (l[k]?.getD 0).toNat_lt; omega)
    have h3 : 2 ^ (8 * (k + 1)) = 256 * 2 ^ (8 * k) := by rw [Nat.mul_add, Nat.pow_add, Nat.mul_comm]
    unfold upN
    omega
theorem upN_fixed (n j : Nat) : ∀ k, k ≤ j → upN (fixedL n j) k = n % 2 ^ (8 * k)
  | 0, _ => by simp [upN, Nat.mod_one]
  | k + 1, h => by
    unfold upN
    rw [upN_fixed n j k (by omega)]
    have e : (fixedL n j)[k]?.getD 0 = UInt8.ofNat (n / 2 ^ (8 * k) % 256) := by
      unfold fixedL
      rw [List.getElem?_map, List.getElem?_range (by omega)]
      rfl
    rw [e, byte_nat (Nat.mod_lt _ (by decide))]
    have h3 : 2 ^ (8 * (k + 1)) = 2 ^ (8 * k) * 256 := by rw [Nat.mul_add, Nat.pow_add]
    rw [h3, Nat.mod_mul, Nat.mul_comm (2 ^ (8 * k))]
/-- the number of bytes, the lowest one first -/
def unfixedN (l : List UInt8) : Nat := upN l l.length
theorem unfixed_fixed (n k : Nat) : unfixedN (fixedL n k) = n % 2 ^ (8 * k) := by
  unfold unfixedN
  rw [fixedL_len]
  exact upN_fixed n k k (Nat.le_refl _)
theorem pow8 (k : Nat) (h : k ≤ 7) : 2 ^ (8 * k) * 256 ≤ 18446744073709551616 := by
  have : k = 0 ∨ k = 1 ∨ k = 2 ∨ k = 3 ∨ k = 4 ∨ k = 5 ∨ k = 6 ∨ k = 7 := by omega
  rcases this with h | h | h | h | h | h | h | h <;> subst h <;> decide
set_option maxRecDepth 100000 in
set_option maxHeartbeats 2000000 in
theorem unfixed_any (s : ByteArray) (h8 : s.size ≤ 8) (w : World) : Calls Tryz.prog 155 #[.string s] w fun e w' => e = .returned (.int .u64 (unfixedN s.data.toList)) ∧ w = w' := by
  have h8' : ¬ (8 : Int) < s.size := by omega
  have hl : s.data.toList.length = s.size := by rw [Array.length_toList]; rfl
  have HU : Hid (unfixedN s.data.toList = upN s.data.toList s.size) := by unfold Hid unfixedN; rw [hl]
  rw [HU.out]
  go_enter Tryz.func155, Tryz.ntmps155
  go_wp2_with fail
  go_loopw [3, 8] (fun n v wr => ∃ (k : Nat), n = .int .u64 (upN s.data.toList k) ∧ v = .int .i64 k ∧ k ≤ s.size ∧ w = wr) (fun _ v _ => s.size - (intOf v).toNat)
  case atStart => exact ⟨0, rfl, rfl, by omega, rfl⟩
  case round =>
    obtain ⟨k, rfl, rfl, hk, rfl⟩ := hrel
    by_cases hq : k < s.size
    · have hq2 : k < 8 := by omega
      have hq3 : (k : Int) < s.size := by omega
      have hq4 : (8 : Int) * k < 64 := by omega
      have hor : bits .or .u64 (upN s.data.toList k : Int) (IntKind.u64.wrap (IntKind.u64.wrap (s[k].toNat : Int) * 2 ^ (8 * k))) = (upN s.data.toList (k + 1) : Int) := by
        have hb := s[k].toNat_lt
        have e0 : s.data.toList[k]?.getD 0 = s[k] := by
          rw [List.getElem?_eq_getElem (by omega)]
          simp [ByteArray.getElem_eq_getElem_data]
        have h1 : s[k].toNat * 2 ^ (8 * k) < 18446744073709551616 := Nat.lt_of_lt_of_le (by rw [Nat.mul_comm]; exact (Nat.mul_lt_mul_left (Nat.two_pow_pos _)).2 hb) (pow8 k (by omega))
        have e1 : IntKind.u64.wrap (s[k].toNat : Int) = (s[k].toNat : Int) := by rw [IntKind.wrap_u64]; omega
        have e2 : (s[k].toNat : Int) * 2 ^ (8 * k) = ((s[k].toNat * 2 ^ (8 * k) : Nat) : Int) := by simp
        have e3 : IntKind.u64.wrap ((s[k].toNat * 2 ^ (8 * k) : Nat) : Int) = ((s[k].toNat * 2 ^ (8 * k) : Nat) : Int) := by rw [IntKind.wrap_u64]; omega
        rw [e1, e2, e3, or64 _ _ _ (upN_lt _ k) h1 (by have := pow8 k (by omega); omega)]
        show _ = ((upN s.data.toList k + (s.data.toList[k]?.getD 0).toNat * 2 ^ (8 * k) : Nat) : Int)
        rw [e0]
      go_wp2_with fail
      go_roundw
      case rel => exact ⟨k + 1, rfl, by go_num, by omega, trivial⟩
      case measure => simp [intOf]; omega
    · obtain rfl : k = s.size := by omega
      go_wp2_with fail
      go_ret
      exact ⟨rfl, rfl⟩
end Go.Proofs.YtojoefcfimmipaaGreat
namespace Go.Proofs.YtojoefcfimmipaaGreat
set_option linter.unusedSimpArgs false
set_option linter.unusedVariables false
open Go.RowKit
/-- block 'g' begins with these bytes, which may be changed -/
def BytesAt (w : World) (g : Nat) (l : List UInt8) : Prop := ∃ (rest : List Value) (z : Nat × Nat), w.heap[g]? = some (.cells (l.flatMap encU ++ rest).toArray 5 z) ∧ l.length ≤ z.1
section
variable {w w' : World} {g : Nat} {l : List UInt8}
theorem flatU_len (l : List UInt8) : (l.flatMap encU).length = l.length := by rw [flat_len encU 1 encU_len, Nat.mul_one]
theorem BytesAt.lt (h : BytesAt w g l) : g < w.heap.size := let ⟨_, _, h, _⟩ := h; (Array.getElem?_eq_some_iff.1 h).1
theorem BytesAt.same (h : BytesAt w g l) (hb : w'.heap[g]? = w.heap[g]?) : BytesAt w' g l := let ⟨r, z, h, h2⟩ := h; ⟨r, z, hb.trans h, h2⟩
theorem BytesAt.ext (h : BytesAt w g l) (hb : Ext w w') : BytesAt w' g l := h.same (hb.block g h.lt)
theorem BytesAt.cell (h : BytesAt w g l) (i : Nat) (hi : i < l.length) : w.cell? ⟨g, i, none⟩ = some (.int .u8 (l[i].toNat : Int)) := by
  obtain ⟨r, z, h, h2⟩ := h
  simp only [World.cell?, h]
  rw [List.getElem?_toArray, List.getElem?_append_left (by rw [flatU_len]; exact hi), flatU l i hi]
  rfl
theorem BytesAt.soft (h : BytesAt w g l) (i : Nat) (hi : i < l.length) : w.frozen? ⟨g, i, none⟩ = false := by
  obtain ⟨r, z, h, h2⟩ := h
  simp only [World.frozen?, h]
  simp
  omega
theorem BytesAt.set (h : BytesAt w g l) (i : Nat) (hi : i < l.length) (b : UInt8) : BytesAt (w.setCell ⟨g, i, none⟩ (.int .u8 (b.toNat : Int))) g (l.set i b) := by
  obtain ⟨r, z, h, h2⟩ := h
  have e := flat_set encU 1 encU_len l i l[i] 0 (.int .u8 (b.toNat : Int)) b hi rfl (by omega) rfl
  rw [Nat.mul_one, Nat.add_zero] at e
  refine ⟨r, z, ?_, by rw [List.length_set]; exact h2⟩
  rw [← e]
  simp [World.setCell, Array.getElem?_modify, h, List.set_append_left _ _ (show i < (l.flatMap encU).length by rw [flatU_len]; exact hi)]
theorem BytesAt.text (h : BytesAt w g l) (c n : Nat) (hn : n = l.length) : (convert 126 9 (.slice (some ⟨g, 0, none⟩) n c)).run Tryz.prog w = .ok (.string (bts l)) w := by
  subst hn
  exact run_convert_bytes_back (P := Tryz.prog) w 126 9 5 ⟨g, 0, none⟩ c l Tryz.underlying126 Tryz.underlying5 Tryz.underlying9 (fun j hj => by rw [Addr.add_lit, Nat.zero_add]; exact h.cell j hj)
end
theorem bytes_of (w : World) (s : ByteArray) : ∃ (c : Nat) (w1 : World), (convert 9 126 (.string s)).run Tryz.prog w = .ok (.slice (some ⟨w.heap.size, 0, none⟩) s.size c) w1 ∧ BytesAt w1 w.heap.size s.data.toList ∧ Ext w w1 ∧ w1.heap.size = w.heap.size + 1 := by
  refine ⟨_, _, run_bytes_of_string w 9 126 5 s Tryz.underlying9 Tryz.underlying126 Tryz.underlying5, ?_, Below.alloc (Below.drew (Ext.refl w)) (Nat.le_refl _) _, by simp⟩
  refine ⟨List.replicate (grownCap w s.size 0 5 - s.size) (.int .u8 0), ((bytesRow s (grownCap w s.size 0 5)).size, (bytesRow s (grownCap w s.size 0 5)).size + 1), ?_, ?_⟩
  · refine (heap_alloc_new w.drew _).trans ?_
    congr 2
    unfold bytesRow
    apply Array.ext'
    have e : ∀ l : List UInt8, l.flatMap encU = l.map (fun b => Value.int .u8 (b.toNat : Int)) := fun l => by
      induction l with
      | nil => rfl
      | cons b r ih => rw [List.flatMap_cons, ih]; rfl
    simp [e]
  · simp [bytesRow]
set_option maxRecDepth 100000 in
set_option maxHeartbeats 2000000 in
theorem not_any (s : ByteArray) (w : World) (hs : s.size ≤ 1000000000) : Calls Tryz.prog 214 #[.string s] w fun e w' => e = .returned (.string (bts (s.data.toList.map fun b => UInt8.ofNat (255 - b.toNat)))) ∧ Ext w w' := by
  have hl : s.data.toList.length = s.size := by rw [Array.length_toList]; rfl
  obtain ⟨l, hl0⟩ : ∃ l, s.data.toList = l := ⟨_, rfl⟩
  obtain ⟨c, w1, hc, hB, hx, hz⟩ := bytes_of w s
  rw [hl0] at hl hB
  rw [hl0]
  obtain ⟨f, hf⟩ : ∃ f : UInt8 → UInt8, f = fun b => UInt8.ofNat (255 - b.toNat) := ⟨_, rfl⟩
  rw [← hf]
  rw [← hl] at hc
  have HB := Lib.hid hB
  have HX := Lib.hid hx
  clear hB hx hl0
  go_enter Tryz.func214, Tryz.ntmps214
  go_wp2_with fail
  clear hc
  go_loopw [9] (fun i wr => ∃ k : Nat, k ≤ l.length ∧ i = .int .i64 k ∧ BytesAt wr w.heap.size ((l.take k).map f ++ l.drop k) ∧ Ext w wr) (fun i _ => l.length - (intOf i).toNat)
  case atStart => exact ⟨0, by omega, rfl, by simpa using HB.out, HX.out⟩
  case round =>
    obtain ⟨k, hk, rfl, hb, hx⟩ := hrel
    have HK := Lib.hid hb
    have HXK := Lib.hid hx
    have hzr := hx.size
    clear hb hx
    by_cases hq : k < l.length
    · have hlen : ((l.take k).map f ++ l.drop k).length = l.length := by simp; omega
      have hel : ((l.take k).map f ++ l.drop k)[k]'(by rw [hlen]; exact hq) = l[k] := by
        rw [List.getElem_append_right (by simp; omega)]
        simp [Nat.min_eq_left hk]
      have hxx : bits .xor .u8 (l[k].toNat : Int) 255 = ((f l[k]).toNat : Int) := by
        rw [xor8 _ l[k].toNat_lt, hf, byte_nat (by omega)]
      have hck : wr.cell? ⟨w.heap.size, k, none⟩ = some (.int .u8 (l[k].toNat : Int)) := by rw [HK.out.cell k (by rw [hlen]; exact hq), hel]
      have hfk : wr.frozen? ⟨w.heap.size, k, none⟩ = false := HK.out.soft k (by rw [hlen]; exact hq)
      have HS : Hid (((l.take k).map f ++ l.drop k).set k (f l[k]) = (l.take (k + 1)).map f ++ l.drop (k + 1)) := by
        unfold Hid
        have e : k - ((l.take k).map f).length = 0 := by simp; omega
        rw [List.set_append_right _ _ (by simp; omega), e, List.drop_eq_getElem_cons hq, List.set_cons_zero, List.take_add_one, List.getElem?_eq_getElem hq, List.map_append]
        simp
      have HT := Lib.hid (HK.out.set k (by rw [hlen]; exact hq) (f l[k]))
      rw [HS.out] at HT
      clear hel hf
      generalize f l[k] = b at *
      go_wp2_with fail
      go_roundw
      case rel => exact ⟨k + 1, by omega, by go_num, HT.out, by (repeat' (with_reducible first | exact HXK.out | exact Below.refl _ _ | refine Ext.drewN ?_ _ | refine Below.drew ?_ | refine Below.setCell ?_ ?_ _ | refine Below.alloc ?_ ?_ _)) <;> (first | omega | (simp; done) | (simp; omega))⟩
      case measure => simp [intOf]; omega
    · obtain rfl : k = l.length := by omega
      have hc := HK.out.text c s.size (by simp; omega)
      rw [List.take_length, List.drop_length, List.append_nil] at hc
      clear hf
      go_wp2_with fail
      go_ret
      exact ⟨rfl, HXK.out⟩
set_option maxRecDepth 100000 in
set_option maxHeartbeats 2000000 in
theorem fixed_any (n z : Nat) (hz : z ≤ 8) (hn : n < 18446744073709551616) (w : World) : Calls Tryz.prog 161 #[.int .u64 n, .int .i64 z] w fun e w' => e = .returned (.string (bts (fixedL n z))) ∧ Ext w w' := by
  go_enter Tryz.func161, Tryz.ntmps161
  go_upto_region 2 with (at_make; refine wpList_make0 _ rfl _ _ rfl 8 rfl rfl rfl (by omega) ?_; intro w1 h1 hb1)
  go_cut [8, 9, 10, 11] (fun _ _ v i wx => v = .int .i64 z ∧ i = .int .i64 0 ∧ w1 = wx)
  case first =>
    have q1 : ¬ (8 : Int) < z := by omega
    have q2 : ¬ (z : Int) < 0 := by omega
    go_wp2_with fail
    all_goals (go_meet; exact ⟨by first | rfl | (congr 1; omega), rfl, rfl⟩)
  case rest =>
  obtain ⟨rfl, rfl, rfl⟩ := hcut
  have H1 := Lib.hid h1
  have HB1 := Lib.hid hb1
  have hz1 := hb1.size
  clear h1 hb1
  go_wp2_with fail
  go_loopw [5, 11] (fun v i wr => ∃ k : Nat, k ≤ z ∧ i = .int .i64 k ∧ OwnB wr w.heap.size v (fixedL n k) ∧ Ext w wr) (fun _ i _ => z - (intOf i).toNat)
  case atStart => exact ⟨0, by omega, rfl, H1.out, HB1.out⟩
  case round =>
    obtain ⟨k, hk, rfl, ho, hx⟩ := hrel
    obtain ⟨A, c, rfl⟩ := OwnL.form ho
    have HFL := Lib.hid (fixedL_len n k)
    have HO := Lib.hid ho
    have HX := Lib.hid hx
    have hzr := hx.size
    clear ho hx
    by_cases hq : k < z
    · have hq4 : (8 : Int) * k < 64 := by omega
      obtain ⟨b, hb⟩ : ∃ b : UInt8, b = UInt8.ofNat (n / 2 ^ (8 * k) % 256) := ⟨_, rfl⟩
      have hbn : ((n : Int) / 2 ^ (8 * k)) % 256 = (b.toNat : Int) := by rw [hb, byte_nat (Nat.mod_lt _ (by decide))]; simp
      have HN : Hid (fixedL n k ++ [b] = fixedL n (k + 1)) := by unfold Hid; rw [fixedL_snoc, hb]
      have HBN := Lib.hid hbn
      clear hb hbn
      go_wp2_with (at_builtin; refine wpList_push2 elU8 encU_len encU_one rfl (.tmp 14) (.tmp 21) rfl (.slice A (fixedL n k).length c) (fixedL n k) rfl (HO.out.ext (by (repeat' (with_reducible first | exact Below.refl _ _ | refine Ext.drewN ?_ _ | refine Below.drew ?_ | refine Below.setCell ?_ ?_ _ | refine Below.alloc ?_ ?_ _)) <;> (first | omega | (simp; done) | (simp; omega)))) (by simp; omega) _ 1 b rfl (by unfold encU; rw [← HBN.out]; exact Row1.made' (by simp) _ [_]) (by rw [HFL.out]; omega) (by decide) ?_; intro A' c' w2 hown2 hgr hwh)
      have hx2 : Ext w w2 := OwnL.grown (HO.out.ext (by (repeat' (with_reducible first | exact Below.refl _ _ | refine Ext.drewN ?_ _ | refine Below.drew ?_ | refine Below.setCell ?_ ?_ _ | refine Below.alloc ?_ ?_ _)) <;> (first | omega | (simp; done) | (simp; omega)))) (by (repeat' (with_reducible first | exact HX.out | exact Below.refl _ _ | refine Ext.drewN ?_ _ | refine Below.drew ?_ | refine Below.setCell ?_ ?_ _ | refine Below.alloc ?_ ?_ _)) <;> (first | omega | (simp; done) | (simp; omega))) hgr (Nat.le_refl _)
      rw [HN.out] at hown2
      have HFL2 := fixedL_len n (k + 1)
      rw [HFL2] at hown2
      go_roundw
      case rel => exact ⟨k + 1, by omega, by go_num, by rw [HFL.out]; exact hown2, hx2⟩
      case measure => simp [intOf]; omega
    · obtain rfl : k = z := by omega
      have hc := OwnB.text HO.out
      go_wp2_with fail
      go_ret
      exact ⟨rfl, HX.out⟩
end Go.Proofs.YtojoefcfimmipaaGreat
