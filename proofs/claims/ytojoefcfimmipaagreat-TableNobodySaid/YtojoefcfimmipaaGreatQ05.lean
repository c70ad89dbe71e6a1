/- bits.Ordered, Unordered, Unvar. Conditions: numbers that their types hold. -/
/- bits.Unvar. Conditions: fewer than 10^9 bytes. -/
/- Sets of small numbers, a bit each: bitmap.Has, With, Empty. Conditions: sizes. -/
/- bitmap.Lowest, Count, Empty. Conditions: sizes. -/
import Derived.Test.YtojoefcfimmipaaGreatQ04
namespace Go.Proofs.YtojoefcfimmipaaGreat
set_option linter.unusedSimpArgs false
set_option linter.unusedVariables false
open Go.RowKit
/-- a number as eight bytes, the highest one first, so that texts are in the numbers' order -/
def ordU (n : Int) : Nat := (n + 9223372036854775808).toNat
def ordL (n : Int) : List UInt8 := (List.range 8).map fun i => UInt8.ofNat (ordU n / 2 ^ (56 - 8 * i) % 256)
theorem ordL_len (n : Int) : (ordL n).length = 8 := by simp [ordL]
theorem ordL_at (n : Int) (i : Nat) (h : i < 8) : (ordL n)[i]'(by rw [ordL_len]; exact h) = UInt8.ofNat (ordU n / 2 ^ (56 - 8 * i) % 256) := by simp [ordL]
theorem text_row {w : World} {g : Nat} {t : TypeId} {l : List UInt8} (h : Row1 w g t (l.flatMap encU)) (n c : Nat) (hn : n = l.length) : (convert 126 9 (.slice (some ⟨g, 0, none⟩) n c)).run Tryz.prog w = .ok (.string (bts l)) w := by
  subst hn
  exact run_convert_bytes_back (P := Tryz.prog) w 126 9 5 ⟨g, 0, none⟩ c l Tryz.underlying126 Tryz.underlying5 Tryz.underlying9 (fun j hj => by rw [Addr.add_lit, Nat.zero_add, h.cell j]; exact flatU l j hj)
theorem rowU_set {w : World} {g : Nat} {t : TypeId} {l : List UInt8} (h : Row1 w g t (l.flatMap encU)) (i : Nat) (hi : i < l.length) (b : UInt8) : Row1 (w.setCell ⟨g, i, none⟩ (.int .u8 (b.toNat : Int))) g t ((l.set i b).flatMap encU) := by
  have e := flat_set encU 1 encU_len l i l[i] 0 (.int .u8 (b.toNat : Int)) b hi rfl (by omega) rfl
  rw [Nat.mul_one, Nat.add_zero] at e
  rw [← e]
  exact h.set i _
theorem rowU_cell {w : World} {g : Nat} {t : TypeId} {l : List UInt8} (h : Row1 w g t (l.flatMap encU)) (i : Nat) (hi : i < l.length) : w.cell? ⟨g, i, none⟩ = some (.int .u8 (l[i].toNat : Int)) := by rw [h.cell i]; exact flatU l i hi
set_option maxRecDepth 100000 in
set_option maxHeartbeats 2000000 in
theorem ordered_any (n : Int) (w : World) (h1 : -9223372036854775808 ≤ n) (h2 : n ≤ 9223372036854775807) : Calls Tryz.prog 120 #[.int .i64 n] w fun e w' => e = .returned (.string (bts (ordL n))) ∧ Ext w w' := by
  have hU : ordU n < 18446744073709551616 := by unfold ordU; omega
  have hx : bits .xor .u64 (IntKind.u64.wrap n) 9223372036854775808 = (ordU n : Int) := by
    have e1 : IntKind.u64.wrap n = ((n % 18446744073709551616).toNat : Int) := by rw [IntKind.wrap_u64]; omega
    have h3 := bits_xor_u64_nat (n % 18446744073709551616).toNat 9223372036854775808 (by omega) (by decide)
    rw [xor63 _ (by omega)] at h3
    rw [e1]
    have e2 : ((n % 18446744073709551616).toNat + 9223372036854775808) % 18446744073709551616 = ordU n := by unfold ordU; omega
    rw [e2] at h3
    exact h3
  obtain ⟨u, hu⟩ : ∃ u, ordU n = u := ⟨_, rfl⟩
  have HL : Hid (∀ i (h : i < 8), (ordL n)[i]'(by rw [ordL_len]; exact h) = UInt8.ofNat (u / 2 ^ (56 - 8 * i) % 256)) := fun i h => by rw [← hu]; exact ordL_at n i h
  rw [hu] at hx hU
  have HX := Lib.hid hx
  obtain ⟨l, hl⟩ : ∃ l, ordL n = l := ⟨_, rfl⟩
  have hl8 : l.length = 8 := by rw [← hl]; exact ordL_len n
  have HL : Hid (∀ i (h : i < 8), l[i]'(by rw [hl8]; exact h) = UInt8.ofNat (u / 2 ^ (56 - 8 * i) % 256)) := by subst hl; exact HL.out
  rw [hl]
  clear hl hu HX
  go_enter Tryz.func120, Tryz.ntmps120
  go_wp2_with fail
  go_loopw [9] (fun i wr => ∃ k : Nat, k ≤ 8 ∧ i = .int .i64 k ∧ Row1 wr w.heap.size 256 ((l.take k ++ List.replicate (8 - k) 0).flatMap encU) ∧ Ext w wr) (fun i _ => 8 - (intOf i).toNat)
  case atStart => exact ⟨0, by omega, rfl, Row1.made w _ _, by (repeat' (with_reducible first | exact Below.refl _ _ | refine Ext.drewN ?_ _ | refine Below.drew ?_ | refine Below.setCell ?_ ?_ _ | refine Below.alloc ?_ ?_ _)) <;> (first | omega | (simp; done) | (simp; omega))⟩
  case round =>
    obtain ⟨k, hk, rfl, hr, hxr⟩ := hrel
    have HR := Lib.hid hr
    have HXR := Lib.hid hxr
    have hzr := hxr.size
    have hgl := hr.lt
    clear hr hxr
    by_cases hq : k < 8
    · have hlen : (l.take k ++ List.replicate (8 - k) (0 : UInt8)).length = 8 := by simp; omega
      have hck := rowU_cell HR.out k (by rw [hlen]; exact hq)
      generalize ((l.take k ++ List.replicate (8 - k) (0 : UInt8))[k]'(by rw [hlen]; exact hq)).toNat = v0 at hck
      have hfk : wr.frozen? ⟨w.heap.size, k, none⟩ = false := HR.out.soft k
      obtain ⟨b, hb⟩ : ∃ b : UInt8, b = UInt8.ofNat (u / 2 ^ (56 - 8 * k) % 256) := ⟨_, rfl⟩
      have hbn : ((u : Int) / 2 ^ (56 - 8 * k)) % 256 = (b.toNat : Int) := by rw [hb, byte_nat (Nat.mod_lt _ (by decide))]; simp
      have HS := Lib.hid (rowU_set HR.out k (by rw [hlen]; exact hq) b)
      have HE : Hid ((l.take k ++ List.replicate (8 - k) 0).set k b = l.take (k + 1) ++ List.replicate (8 - (k + 1)) 0) := by
        unfold Hid
        have e1 : List.replicate (8 - k) (0 : UInt8) = 0 :: List.replicate (8 - (k + 1)) 0 := by rw [← List.replicate_succ]; congr 1; omega
        have e2 : k - (l.take k).length = 0 := by simp; omega
        rw [List.set_append_right _ _ (by simp; omega), e2, e1, List.set_cons_zero, List.take_add_one, List.getElem?_eq_getElem (by omega), HL.out k hq, ← hb]
        simp
      rw [HE.out] at HS
      have q4 : (8 : Int) * k ≤ 56 := by omega
      have q5 : (0 : Int) ≤ 56 - 8 * k := by omega
      have q6 : (56 : Int) - 8 * k < 64 := by omega
      clear hb
      go_wp2_with fail
      go_roundw
      case rel => exact ⟨k + 1, by omega, by go_num, HS.out, by (repeat' (with_reducible first | exact HXR.out | exact Below.refl _ _ | refine Ext.drewN ?_ _ | refine Below.drew ?_ | refine Below.setCell ?_ ?_ _ | refine Below.alloc ?_ ?_ _)) <;> (first | omega | (simp; done) | (simp; omega))⟩
      case measure => simp [intOf]; omega
    · obtain rfl : k = 8 := by omega
      have e8 : (l.take 8 ++ List.replicate (8 - 8) (0 : UInt8)) = l := by rw [← hl8, List.take_length]; simp
      rw [e8] at HR
      have hc := text_row HR.out 8 8 hl8.symm
      go_wp2_with fail
      go_ret
      exact ⟨rfl, HXR.out⟩
/-- the number of bytes, the highest one first -/
def beN (l : List UInt8) : Nat := l.foldl (fun u c => u * 256 + c.toNat) 0
theorem beN_snoc (l : List UInt8) (c : UInt8) : beN (l ++ [c]) = beN l * 256 + c.toNat := by unfold beN; rw [List.foldl_append]; rfl
theorem beF_lt : ∀ (l : List UInt8) (u : Nat), l.foldl (fun u c => u * 256 + c.toNat) u < (u + 1) * 256 ^ l.length
  | [], u => by simp
  | c :: r, u => by
    have h := beF_lt r (u * 256 + c.toNat)
    have hc := c.toNat_lt
    rw [List.foldl_cons, List.length_cons, Nat.pow_succ]
    refine Nat.lt_of_lt_of_le h ?_
    rw [Nat.mul_comm (256 ^ r.length), ← Nat.mul_assoc]
    exact Nat.mul_le_mul_right _ (by omega)
theorem beN_lt (l : List UInt8) : beN l < 256 ^ l.length := by have := beF_lt l 0; simpa [beN] using this
def unordI (l : List UInt8) : Int := (beN l : Int) - 9223372036854775808
theorem beN_range (u k : Nat) : ∀ j, j ≤ k → beN ((List.range j).map fun i => UInt8.ofNat (u / 2 ^ (8 * k - 8 - 8 * i) % 256)) = u / 2 ^ (8 * k - 8 * j) % 2 ^ (8 * j)
  | 0, _ => by simp [beN, Nat.mod_one]
  | j + 1, h => by
    rw [List.range_succ, List.map_append, List.map_singleton, beN_snoc, beN_range u k j (by omega), byte_nat (Nat.mod_lt _ (by decide))]
    have e1 : 8 * k - 8 * j = (8 * k - 8 * (j + 1)) + 8 := by omega
    have e2 : 8 * k - 8 - 8 * j = 8 * k - 8 * (j + 1) := by omega
    have e3 : 2 ^ (8 * (j + 1)) = 256 * 2 ^ (8 * j) := by rw [Nat.mul_add, Nat.pow_add, Nat.mul_comm]
    have e4 : u / 2 ^ ((8 * k - 8 * (j + 1)) + 8) = u / 2 ^ (8 * k - 8 * (j + 1)) / 256 := by rw [Nat.pow_add, Nat.div_div_eq_div_mul]
    rw [e1, e2, e3, e4, Nat.mod_mul]
    omega
theorem unord_ord (n : Int) (h1 : -9223372036854775808 ≤ n) (h2 : n ≤ 9223372036854775807) : unordI (ordL n) = n := by
  unfold unordI ordL
  have h := beN_range (ordU n) 8 8 (by omega)
  rw [h]
  unfold ordU
  simp
  omega
set_option maxRecDepth 100000 in
set_option maxHeartbeats 2000000 in
theorem unordered_any (s : ByteArray) (h8 : s.size = 8) (w : World) : Calls Tryz.prog 125 #[.string s] w fun e w' => e = .returned (.tuple #[.int .i64 (unordI s.data.toList), .int .i64 0]) ∧ w = w' := by
  have hl : s.data.toList.length = 8 := by rw [Array.length_toList]; exact h8
  obtain ⟨l, hl0⟩ : ∃ l, s.data.toList = l := ⟨_, rfl⟩
  have HC : Hid (∀ k (h : k < 8), s[k]'(by omega) = l[k]'(by rw [← hl0]; omega)) := fun k h => by subst hl0; simp [ByteArray.getElem_eq_getElem_data]
  rw [hl0] at hl ⊢
  have q8 : (s.size : Int) = 8 := by omega
  have HT : Hid (∀ k, k ≤ 8 → beN (l.take k) < 256 ^ k) := fun k hk => by
    have := beN_lt (l.take k)
    rwa [List.length_take, hl, Nat.min_eq_left hk] at this
  go_enter Tryz.func125, Tryz.ntmps125
  go_wp2_with fail
  go_loopw [4, 11] (fun n v wr => ∃ (k : Nat), n = .int .u64 (beN (l.take k)) ∧ v = .int .i64 k ∧ k ≤ 8 ∧ w = wr) (fun _ v _ => 8 - (intOf v).toNat)
  case atStart => exact ⟨0, rfl, rfl, by omega, rfl⟩
  case round =>
    obtain ⟨k, rfl, rfl, hk, rfl⟩ := hrel
    by_cases hq : k < 8
    · have hq3 : (k : Int) < 8 := by omega
      have hks : k < s.size := by omega
      have hkl : k < l.length := by omega
      have hor : bits .or .u64 (IntKind.u64.wrap ((beN (l.take k) : Int) * 256)) (IntKind.u64.wrap (s[k].toNat : Int)) = (beN (l.take (k + 1)) : Int) := by
        have hb := s[k].toNat_lt
        have h1 := HT.out k (by omega)
        have h2 : 256 ^ k ≤ 256 ^ 7 := Nat.pow_le_pow_right (by decide) (by omega)
        have e1 : IntKind.u64.wrap ((beN (l.take k) : Int) * 256) = ((2 ^ 8 * beN (l.take k) : Nat) : Int) := by rw [IntKind.wrap_u64]; omega
        have e2 : IntKind.u64.wrap (s[k].toNat : Int) = (s[k].toNat : Int) := by rw [IntKind.wrap_u64]; omega
        rw [e1, e2, bits_or_u64_nat _ _ (by omega) (by omega), ← Nat.two_pow_add_eq_or_of_lt hb, List.take_add_one, List.getElem?_eq_getElem hkl, Option.toList_some, beN_snoc, HC.out k hq]
        congr 1
        omega
      go_wp2_with fail
      go_roundw
      case rel => exact ⟨k + 1, rfl, by go_num, by omega, trivial⟩
      case measure => simp [intOf]; omega
    · obtain rfl : k = 8 := by omega
      have HB := HT.out 8 (by omega)
      rw [show l.take 8 = l by rw [← hl, List.take_length]] at *
      have hx : bits .xor .u64 (beN l : Int) 9223372036854775808 = (((beN l + 9223372036854775808) % 18446744073709551616 : Nat) : Int) := by
        have := bits_xor_u64_nat (beN l) 9223372036854775808 (by omega) (by decide)
        rwa [xor63 _ (by omega)] at this
      have hv : wrap64 (((beN l + 9223372036854775808) % 18446744073709551616 : Nat) : Int) = unordI l := by unfold wrap64 unordI; omega
      generalize (beN l + 9223372036854775808) % 18446744073709551616 = v at hx hv
      go_wp2_with fail
      go_ret2
      exact ⟨by rw [← hv]; rfl, rfl⟩
end Go.Proofs.YtojoefcfimmipaaGreat
namespace Go.Proofs.YtojoefcfimmipaaGreat
set_option linter.unusedSimpArgs false
set_option linter.unusedVariables false
open Go.RowKit
theorem pow7 (k : Nat) (h : k ≤ 8) : 128 * 2 ^ (7 * k) ≤ 9223372036854775808 := by
  have : k = 0 ∨ k = 1 ∨ k = 2 ∨ k = 3 ∨ k = 4 ∨ k = 5 ∨ k = 6 ∨ k = 7 ∨ k = 8 := by omega
  rcases this with h | h | h | h | h | h | h | h | h <;> subst h <;> decide
theorem pow7' (k : Nat) : (128 : Nat) ^ k = 2 ^ (7 * k) := by rw [Nat.pow_mul]
theorem unvarF_cons (c : UInt8) (r : List UInt8) (i acc : Nat) (h : i < 10) : unvarF (c :: r) i acc = if i = 9 ∧ 1 < c.toNat then (0, 0) else if c.toNat < 128 then (if c.toNat = 0 ∧ 0 < i then (0, 0) else (acc + c.toNat % 128 * 2 ^ (7 * i), i + 1)) else unvarF r (i + 1) (acc + c.toNat % 128 * 2 ^ (7 * i)) := by
  rw [unvarF, if_neg (by omega), pow7']
theorem unvarF_end (r : List UInt8) (acc : Nat) : unvarF r 10 acc = (0, 0) := by
  cases r with
  | nil => rfl
  | cons c r => rw [unvarF, if_pos (by omega)]
set_option maxRecDepth 100000 in
set_option maxHeartbeats 4000000 in
theorem unvar_any (s : ByteArray) (hs : s.size ≤ 1000000000) (w : World) : Calls Tryz.prog 115 #[.string s] w fun e w' => e = .returned (.tuple #[.int .u64 (unvarL s.data.toList).1, .int .i64 (unvarL s.data.toList).2]) ∧ w = w' := by
  obtain ⟨l, hl0⟩ : ∃ l, s.data.toList = l := ⟨_, rfl⟩
  have hl : l.length = s.size := by rw [← hl0, Array.length_toList]; rfl
  have HC : Hid (∀ k (h : k < s.size), l[k]? = some s[k]) := fun k h => by subst hl0; rw [List.getElem?_eq_getElem (by omega)]; simp [ByteArray.getElem_eq_getElem_data]
  have HL := Lib.hid hl
  rw [hl0]
  clear hl0 hl
  obtain ⟨R, hR⟩ : ∃ R, unvarL l = R := ⟨_, rfl⟩
  have HR := Lib.hid hR
  rw [hR]
  clear hR
  go_enter Tryz.func115, Tryz.ntmps115
  go_upto_region 2 with fail
  go_cut [7, 8, 9, 10] (fun _ _ v i wx => v = .int .i64 (min s.size 10 : Nat) ∧ i = .int .i64 0 ∧ w = wx)
  case first =>
    by_cases h : (10 : Int) < s.size
    · go_wp2_with fail
      go_meet
      exact ⟨by congr 1; omega, rfl, rfl⟩
    · go_wp2_with fail
      go_meet
      exact ⟨by congr 1; omega, rfl, rfl⟩
  case rest =>
  obtain ⟨rfl, rfl, rfl⟩ := hcut
  obtain ⟨M, hM⟩ : ∃ M, min s.size 10 = M := ⟨_, rfl⟩
  have hM1 : M ≤ s.size := by omega
  have hM2 : M ≤ 10 := by omega
  have HM : Hid (M = s.size ∨ M = 10) := by unfold Hid; omega
  rw [hM]
  clear hM
  go_wp2_with fail
  go_loopw [4, 10] (fun n v wr => ∃ (m : Nat) (k : Nat), n = .int .u64 m ∧ v = .int .i64 k ∧ k ≤ M ∧ Hid (m < 2 ^ (7 * k)) ∧ Hid (R = unvarF (l.drop k) k m) ∧ w = wr) (fun _ v _ => M - (intOf v).toNat)
  case atStart => exact ⟨0, 0, rfl, rfl, by omega, by simp [Hid], HR.out.symm, rfl⟩
  case round =>
    obtain ⟨m, k, rfl, rfl, hk, hm, hu, rfl⟩ := hrel
    by_cases hq : k < M
    · have hks : k < s.size := by omega
      have hq3 : (k : Int) < s.size := by omega
      have hq4 : (7 : Int) * k < 64 := by omega
      obtain ⟨c, hc⟩ : ∃ c, s[k] = c := ⟨_, rfl⟩
      have HD : Hid (l.drop k = c :: l.drop (k + 1)) := by
        unfold Hid
        obtain ⟨h1, h2⟩ := List.getElem?_eq_some_iff.1 (HC.out k hks)
        rw [List.drop_eq_getElem_cons h1, h2, hc]
      have HU : Hid (R = if k = 9 ∧ 1 < c.toNat then (0, 0) else if c.toNat < 128 then (if c.toNat = 0 ∧ 0 < k then (0, 0) else (m + c.toNat % 128 * 2 ^ (7 * k), k + 1)) else unvarF (l.drop (k + 1)) (k + 1) (m + c.toNat % 128 * 2 ^ (7 * k))) := by
        unfold Hid
        rw [hu.out, HD.out, unvarF_cons _ _ _ _ (by omega)]
      have hcl := c.toNat_lt
      have ha := and127 c.toNat hcl
      by_cases h9 : k = 9 ∧ 1 < c.toNat
      · obtain ⟨rfl, h1⟩ := h9
        have q1 : decide (1 < (c.toNat : Int)) = true := decide_eq_true (by omega)
        have HU2 : Hid (R = (0, 0)) := by unfold Hid; rw [HU.out, if_pos ⟨rfl, h1⟩]
        go_wp2_with fail
        go_ret2
        rw [HU2.out]
        exact ⟨rfl, rfl⟩
      · have HU3 : Hid (R = if c.toNat < 128 then (if c.toNat = 0 ∧ 0 < k then (0, 0) else (m + c.toNat % 128 * 2 ^ (7 * k), k + 1)) else unvarF (l.drop (k + 1)) (k + 1) (m + c.toNat % 128 * 2 ^ (7 * k))) := by unfold Hid; rw [HU.out, if_neg h9]
        have hx : c.toNat % 128 * 2 ^ (7 * k) < 18446744073709551616 := by
          by_cases hk9 : k = 9
          · subst hk9
            have : c.toNat ≤ 1 := by omega
            have h2 : c.toNat % 128 * 2 ^ (7 * 9) ≤ 1 * 2 ^ (7 * 9) := Nat.mul_le_mul_right _ (by omega)
            omega
          · have h1 := pow7 k (by omega)
            have h2 : c.toNat % 128 * 2 ^ (7 * k) ≤ 128 * 2 ^ (7 * k) := Nat.mul_le_mul_right _ (by omega)
            omega
        have hor : bits .or .u64 (m : Int) (IntKind.u64.wrap (IntKind.u64.wrap ((c.toNat % 128 : Nat) : Int) * 2 ^ (7 * k))) = ((m + c.toNat % 128 * 2 ^ (7 * k) : Nat) : Int) := by
          have e1 : IntKind.u64.wrap ((c.toNat % 128 : Nat) : Int) = ((c.toNat % 128 : Nat) : Int) := by rw [IntKind.wrap_u64]; omega
          have e2 : ((c.toNat % 128 : Nat) : Int) * 2 ^ (7 * k) = ((c.toNat % 128 * 2 ^ (7 * k) : Nat) : Int) := by simp
          have e3 : IntKind.u64.wrap ((c.toNat % 128 * 2 ^ (7 * k) : Nat) : Int) = ((c.toNat % 128 * 2 ^ (7 * k) : Nat) : Int) := by rw [IntKind.wrap_u64]; omega
          have h64 : 2 ^ (7 * k) ≤ 18446744073709551616 := Nat.le_trans (Nat.pow_le_pow_right (by decide) (show 7 * k ≤ 63 by omega)) (by decide)
          rw [e1, e2, e3, or64 _ _ _ hm.out hx h64]
        obtain ⟨m2, hm2⟩ : ∃ m2, m + c.toNat % 128 * 2 ^ (7 * k) = m2 := ⟨_, rfl⟩
        rw [hm2] at hor HU3
        have hor2 : bits .or .u64 (m : Int) (IntKind.u64.wrap ((c.toNat : Int) % 128 * 2 ^ (7 * k))) = (m2 : Int) := by
          have e1 : IntKind.u64.wrap ((c.toNat % 128 : Nat) : Int) = (c.toNat : Int) % 128 := by rw [IntKind.wrap_u64]; omega
          rw [e1] at hor
          exact hor
        have HM2 : Hid (m2 < 2 ^ (7 * (k + 1))) := by
          unfold Hid
          have h1 := hm.out
          have h2 : c.toNat % 128 * 2 ^ (7 * k) ≤ 127 * 2 ^ (7 * k) := Nat.mul_le_mul_right _ (by omega)
          have e : 2 ^ (7 * (k + 1)) = 128 * 2 ^ (7 * k) := by rw [Nat.mul_add, Nat.pow_add, Nat.mul_comm]
          omega
        clear hm2 hx HU hm hu HD
        have q9 : ((k : Int) == 9) = true → decide (1 < (c.toNat : Int)) = false := fun h => by
          have : k = 9 := by have h := eq_of_beq h; omega
          exact decide_eq_false (by omega)
        by_cases h128 : c.toNat < 128
        · have q1 : decide ((c.toNat : Int) < 128) = true := decide_eq_true (by omega)
          rw [if_pos h128] at HU3
          obtain ⟨b9, hb9⟩ : ∃ b9, ((k : Int) == 9) = b9 := ⟨_, rfl⟩
          obtain ⟨b0, hb0⟩ : ∃ b0, ((c.toNat : Int) == 0) = b0 := ⟨_, rfl⟩
          have q5 : b9 = true → decide (1 < (c.toNat : Int)) = false := fun h => q9 (hb9.trans h)
          obtain ⟨bk, hbk⟩ : ∃ bk, decide (0 < (k : Int)) = bk := ⟨_, rfl⟩
          have HU4 : Hid (R = if b0 = true ∧ bk = true then (0, 0) else (m2, k + 1)) := by
            unfold Hid
            rw [HU3.out, ← hb0, ← hbk]
            have e : (((c.toNat : Int) == 0) = true ∧ decide (0 < (k : Int)) = true) = (c.toNat = 0 ∧ 0 < k) := by
              rw [beq_iff_eq, decide_eq_true_iff]
              exact propext ⟨fun h => ⟨by omega, by omega⟩, fun h => ⟨by omega, by omega⟩⟩
            simp only [e]
          clear HU3
          cases b9 <;> cases b0 <;> cases bk
          all_goals (try have q5 := q5 rfl)
          all_goals go_wp2_with fail
          all_goals go_ret2
          all_goals (rw [HU4.out]; refine ⟨?_, rfl⟩; first | (simp; done) | (exfalso; first | (have := of_decide_eq_false hbk; omega) | (have := of_decide_eq_true hbk; omega)))
        · have q1 : decide ((c.toNat : Int) < 128) = false := decide_eq_false (by omega)
          have h9' : ((k : Int) == 9) = false := by simp; omega
          rw [if_neg h128] at HU3
          go_wp2_with fail
          go_roundw
          case rel => exact ⟨m2, k + 1, rfl, by go_num, by omega, HM2, HU3, trivial⟩
          case measure => simp [intOf]; omega
    · obtain rfl : k = M := by omega
      have HE : Hid (R = (0, 0)) := by
        unfold Hid
        rw [hu.out]
        rcases HM.out with h | h
        · rw [List.drop_eq_nil_of_le (by rw [HL.out]; omega)]; rfl
        · rw [h]; exact unvarF_end _ _
      go_wp2_with fail
      go_ret2
      rw [HE.out]
      exact ⟨rfl, rfl⟩
end Go.Proofs.YtojoefcfimmipaaGreat
namespace Go.Proofs.YtojoefcfimmipaaGreat
set_option linter.unusedSimpArgs false
set_option linter.unusedVariables false
open Go.RowKit
def hasL (l : List UInt8) (i : Nat) : Bool := (l[i / 8]?.getD 0).toNat.testBit (i % 8)
def bitU (x : UInt8) (k : Nat) (b : Bool) : UInt8 := UInt8.ofNat (if b then x.toNat ||| 2 ^ k else x.toNat &&& (255 - 2 ^ k))
def withL (l : List UInt8) (i : Nat) (b : Bool) : List UInt8 := l.set (i / 8) (bitU (l[i / 8]?.getD 0) (i % 8) b)
theorem withL_len (l : List UInt8) (i : Nat) (b : Bool) : (withL l i b).length = l.length := by simp [withL]
theorem pow_lt8 (k : Nat) (h : k < 8) : 2 ^ k ≤ 128 := by
  have : 2 ^ k ≤ 2 ^ 7 := Nat.pow_le_pow_right (by decide) (by omega)
  omega
theorem sub_bit (k j : Nat) (hk : k < 8) (hj : j < 8) : (255 - 2 ^ k).testBit j = decide (j ≠ k) := by
  have : k = 0 ∨ k = 1 ∨ k = 2 ∨ k = 3 ∨ k = 4 ∨ k = 5 ∨ k = 6 ∨ k = 7 := by omega
  have h2 : j = 0 ∨ j = 1 ∨ j = 2 ∨ j = 3 ∨ j = 4 ∨ j = 5 ∨ j = 6 ∨ j = 7 := by omega
  rcases this with h | h | h | h | h | h | h | h <;> subst h <;> rcases h2 with h | h | h | h | h | h | h | h <;> subst h <;> decide
theorem bitU_bit (x : UInt8) (k j : Nat) (b : Bool) (hk : k < 8) (hj : j < 8) : (bitU x k b).toNat.testBit j = if j = k then b else x.toNat.testBit j := by
  have hx := x.toNat_lt
  have hp := pow_lt8 k hk
  unfold bitU
  cases b
  · rw [if_neg (by decide), byte_nat (Nat.lt_of_le_of_lt Nat.and_le_left (by omega)), Nat.testBit_and, sub_bit k j hk hj]
    by_cases h : j = k <;> simp [h]
  · have h1 : x.toNat ||| 2 ^ k < 2 ^ 8 := Nat.or_lt_two_pow (by omega) (by omega)
    rw [if_pos rfl, byte_nat (by omega), Nat.testBit_or, Nat.testBit_two_pow]
    by_cases h : j = k
    · subst h; simp
    · have h' : ¬ k = j := fun e => h e.symm
      simp [h, h']
/-- what is in a set behind a change -/
theorem has_with (l : List UInt8) (i j : Nat) (b : Bool) (hi : i / 8 < l.length) : hasL (withL l i b) j = if j = i then b else hasL l j := by
  unfold hasL withL
  by_cases h : j / 8 = i / 8
  · rw [h, List.getElem?_set_self hi, Option.getD_some, bitU_bit _ _ _ _ (Nat.mod_lt _ (by decide)) (Nat.mod_lt _ (by decide))]
    by_cases h2 : j = i
    · subst h2; simp
    · rw [if_neg h2, if_neg (by omega)]
  · rw [List.getElem?_set_ne (by omega), if_neg (by intro e; subst e; exact h rfl)]
theorem has_empty (n j : Nat) : hasL (List.replicate n 0) j = false := by
  unfold hasL
  rw [List.getElem?_replicate]
  split <;> simp
theorem testBit_div (x k : Nat) : (((x / 2 ^ k % 2 : Nat) : Int) == 1) = x.testBit k := by
  rw [Nat.testBit_eq_decide_div_mod_eq]
  rcases Nat.mod_two_eq_zero_or_one (x / 2 ^ k) with h | h <;> rw [h] <;> rfl
set_option maxRecDepth 100000 in
set_option maxHeartbeats 1000000 in
theorem has_any (s : ByteArray) (i : Nat) (w : World) (hi : i < 1000000000) (hs : i / 8 < s.size) : Calls Tryz.prog 114 #[.string s, .int .i64 i] w fun e w' => e = .returned (.bool (hasL s.data.toList i)) ∧ w = w' := by
  have hq2 : (i : Int) / 8 < s.size := by omega
  have hx := s[i / 8].toNat_lt
  have he : s.data.toList[i / 8]?.getD 0 = s[i / 8] := by
    rw [List.getElem?_eq_getElem (show i / 8 < s.data.toList.length by rw [Array.length_toList]; exact hs)]
    simp [ByteArray.getElem_eq_getElem_data]
  have HE : Hid ((bits .and .u8 ((s[i / 8].toNat : Int) / 2 ^ (i % 8)) 1 == 1) = hasL s.data.toList i) := by
    unfold Hid hasL
    rw [he]
    have e1 : (s[i / 8].toNat : Int) / 2 ^ (i % 8) = ((s[i / 8].toNat / 2 ^ (i % 8) : Nat) : Int) := by simp
    rw [e1, and1 _ (Nat.lt_of_le_of_lt (Nat.div_le_self _ _) hx)]
    exact testBit_div _ _
  clear he hx
  go_enter Tryz.func114, Tryz.ntmps114
  go_wp2_with fail
  go_ret
  exact ⟨by rw [← HE.out]; rfl, rfl⟩
set_option maxRecDepth 100000 in
set_option maxHeartbeats 2000000 in
theorem with_any (s : ByteArray) (i : Nat) (b : Bool) (w : World) (hi : i < 1000000000) (hs : i / 8 < s.size) (hbig : s.size ≤ 1000000000) : Calls Tryz.prog 146 #[.string s, .int .i64 i, .bool b] w fun e w' => e = .returned (.tuple #[.string (bts (withL s.data.toList i b)), .bool true]) ∧ Ext w w' := by
  have hq2 : (i : Int) / 8 < s.size := by omega
  have hl : s.data.toList.length = s.size := by rw [Array.length_toList]; rfl
  obtain ⟨l, hl0⟩ : ∃ l, s.data.toList = l := ⟨_, rfl⟩
  obtain ⟨c, w1, hc, hB, hx, hz⟩ := bytes_of w s
  rw [hl0] at hl hB
  rw [hl0]
  obtain ⟨x, hxx⟩ : ∃ x, l[i / 8]? = some x := ⟨_, List.getElem?_eq_getElem (by omega)⟩
  obtain ⟨hk, hx2⟩ := List.getElem?_eq_some_iff.1 hxx
  have hcl := hB.cell (i / 8) hk
  have hfl := hB.soft (i / 8) hk
  rw [hx2] at hcl
  have HB := Lib.hid (hB.set (i / 8) hk (bitU x (i % 8) b))
  have HW : Hid (withL l i b = l.set (i / 8) (bitU x (i % 8) b)) := by unfold Hid withL; rw [hxx]; rfl
  rw [HW.out]
  have hxn := x.toNat_lt
  have hp := pow_lt8 (i % 8) (Nat.mod_lt _ (by decide))
  have HX := Lib.hid hx
  obtain ⟨y, hy⟩ : ∃ y, bitU x (i % 8) b = y := ⟨_, rfl⟩
  have HY : Hid (∀ z : UInt8, z = bitU x (i % 8) b → z = y) := fun z h => by rw [h, hy]
  have e0 : (2 : Int) ^ (i % 8) % 256 = ((2 ^ (i % 8) : Nat) : Int) := by
    have h3 : ((2 ^ (i % 8) : Nat) : Int) = 2 ^ (i % 8) := by simp
    rw [← h3]
    exact Int.emod_eq_of_lt (Int.natCast_nonneg _) (Int.ofNat_lt.2 (show 2 ^ (i % 8) < 256 by omega))
  have HL2 : Hid (l.length = s.size) := hl
  rw [hy] at HB
  rw [hy]
  clear hB hx hl0 hxx hx2
  cases b
  · have hv : bits .andNot .u8 (x.toNat : Int) (2 ^ (i % 8) % 256) = (y.toNat : Int) := by
      rw [e0]
      have h1 := u8_andNot_nat x.toNat (2 ^ (i % 8)) hxn (by omega)
      rw [h1, ← hy]
      unfold bitU
      rw [if_neg (by decide), byte_nat (Nat.lt_of_le_of_lt Nat.and_le_left (by omega))]
    clear hy e0
    go_enter Tryz.func146, Tryz.ntmps146
    go_wp2_with fail
    have hc2 := HB.out.text c s.size (by rw [List.length_set]; exact HL2.out.symm)
    rw [hc2]
    simp only [Result.andThen]
    rw [Oper.upon_value]
    go_wp2_with fail
    go_ret2
    exact ⟨rfl, by (repeat' (with_reducible first | exact HX.out | exact Below.refl _ _ | refine Ext.drewN ?_ _ | refine Below.drew ?_ | refine Below.setCell ?_ ?_ _ | refine Below.alloc ?_ ?_ _)) <;> (first | omega | (simp; done) | (simp; omega))⟩
  · have hv : bits .or .u8 (x.toNat : Int) (2 ^ (i % 8) % 256) = (y.toNat : Int) := by
      rw [e0]
      have h1 := u8_or_nat x.toNat (2 ^ (i % 8)) hxn (by omega)
      have h2 : x.toNat ||| 2 ^ (i % 8) < 2 ^ 8 := Nat.or_lt_two_pow (by omega) (by omega)
      rw [h1, ← hy]
      unfold bitU
      rw [if_pos rfl, byte_nat (by omega)]
    clear hy e0
    go_enter Tryz.func146, Tryz.ntmps146
    go_wp2_with fail
    have hc2 := HB.out.text c s.size (by rw [List.length_set]; exact HL2.out.symm)
    rw [hc2]
    simp only [Result.andThen]
    rw [Oper.upon_value]
    go_wp2_with fail
    go_ret2
    exact ⟨rfl, by (repeat' (with_reducible first | exact HX.out | exact Below.refl _ _ | refine Ext.drewN ?_ _ | refine Below.drew ?_ | refine Below.setCell ?_ ?_ _ | refine Below.alloc ?_ ?_ _)) <;> (first | omega | (simp; done) | (simp; omega))⟩
end Go.Proofs.YtojoefcfimmipaaGreat
namespace Go.Proofs.YtojoefcfimmipaaGreat
set_option linter.unusedSimpArgs false
set_option linter.unusedVariables false
open Go.RowKit
/-- the least number from a first one on that isn't in a set, below a bound -/
def lowL (l : List UInt8) (a b : Nat) : Option Nat := (List.range b).find? fun j => decide (a ≤ j) && !hasL l j
theorem lowL_some {l : List UInt8} {a b i : Nat} (h1 : a ≤ i) (h2 : i < b) (h3 : hasL l i = false) (h4 : ∀ j, a ≤ j → j < i → hasL l j = true) : lowL l a b = some i := by
  unfold lowL
  rw [List.find?_range_eq_some]
  refine ⟨by simp [h1, h3], by simpa using h2, fun j hj => ?_⟩
  by_cases h : a ≤ j
  · simp [h4 j h hj]
  · simp [h]
theorem lowL_none {l : List UInt8} {a b : Nat} (h4 : ∀ j, a ≤ j → j < b → hasL l j = true) : lowL l a b = none := by
  unfold lowL
  rw [List.find?_eq_none]
  intro j hj
  simp only [List.mem_range] at hj
  by_cases h : a ≤ j
  · simp [h4 j h hj]
  · simp [h]
theorem full_bit : ∀ k, k < 8 → (255 : Nat).testBit k = true := by decide
set_option maxRecDepth 100000 in
set_option maxHeartbeats 4000000 in
theorem lowest_any (s : ByteArray) (a b : Nat) (w : World) (hs : s.size ≤ 100000000) (hb : b ≤ 8 * s.size) (ha : 0 < a) : Calls Tryz.prog 162 #[.string s, .int .i64 a, .int .i64 b] w fun e w' => e = .returned (.tuple #[.int .i64 ((lowL s.data.toList a b).getD 0), .bool (lowL s.data.toList a b).isSome]) ∧ w = w' := by
  obtain ⟨l, hl0⟩ : ∃ l, s.data.toList = l := ⟨_, rfl⟩
  have HG : Hid (∀ i (h : i / 8 < s.size), l[i / 8]?.getD 0 = s[i / 8]) := fun i h => by
    subst hl0
    rw [List.getElem?_eq_getElem (show i / 8 < s.data.toList.length by rw [Array.length_toList]; exact h)]
    simp [ByteArray.getElem_eq_getElem_data]
  have HH : Hid (∀ (i : Nat) (W : World), i < 1000000000 → i / 8 < s.size → Calls Tryz.prog 114 #[.string s, .int .i64 i] W fun e w' => e = .returned (.bool (hasL l i)) ∧ W = w') := fun i W h1 h2 => by
    have := has_any s i W h1 h2
    rwa [hl0] at this
  rw [hl0]
  obtain ⟨R, hR⟩ : ∃ R, lowL l a b = R := ⟨_, rfl⟩
  have HR := Lib.hid hR
  rw [hR]
  clear hR hl0
  have q0 : ¬ (a : Int) < 0 := by omega
  have q00 : (0 : Int) < a := by omega
  by_cases hab : a < b
  case neg =>
    have q1 : decide ((a : Int) < b) = false := decide_eq_false (by omega)
    have HN : Hid (R = none) := by unfold Hid; rw [← HR.out]; exact lowL_none (fun j h1 h2 => by omega)
    go_enter Tryz.func162, Tryz.ntmps162
    go_wp2_with fail
    go_loopw [8] (fun i wr => i = .int .i64 a ∧ w = wr) (fun _ _ => 0)
    case atStart => exact ⟨rfl, rfl⟩
    case round =>
      obtain ⟨rfl, rfl⟩ := hrel
      go_wp2_with fail
      go_ret2
      rw [HN.out]
      exact ⟨rfl, rfl⟩
  go_enter Tryz.func162, Tryz.ntmps162
  go_wp2_with fail
  go_loopw [8] (fun i wr => ∃ k : Nat, i = .int .i64 k ∧ a ≤ k ∧ k ≤ b + 7 ∧ Hid (∀ j, a ≤ j → j < k → hasL l j = true) ∧ w = wr) (fun i _ => b - (intOf i).toNat)
  case atStart => exact ⟨a, rfl, Nat.le_refl _, by omega, fun j h1 h2 => by omega, rfl⟩
  case round =>
    obtain ⟨k, rfl, hk1, hk2, hk3, rfl⟩ := hrel
    by_cases hq : k < b
    · have q1 : decide ((k : Int) < b) = true := decide_eq_true (by omega)
      have q2 : decide ((k : Int) / 8 < s.size) = true := decide_eq_true (by omega)
      have q2' : (k : Int) / 8 < s.size := by omega
      have h8 : k / 8 < s.size := by omega
      obtain ⟨x, hx⟩ : ∃ x, s[k / 8] = x := ⟨_, rfl⟩
      have HX : Hid (l[k / 8]?.getD 0 = x) := (HG.out k h8).trans hx
      have cH := HH.out k w (by omega) h8
      by_cases hf : k % 8 = 0 ∧ x.toNat = 255
      · obtain ⟨hf1, hf2⟩ := hf
        have q3 : ((k : Int) % 8 == 0) = true := by simp; omega
        have q4 : ((x.toNat : Int) == 255) = true := by simp; omega
        have HK : Hid (∀ j, a ≤ j → j < k + 7 + 1 → hasL l j = true) := fun j h1 h2 => by
          by_cases hj : j < k
          · exact hk3.out j h1 hj
          · unfold hasL
            rw [show j / 8 = k / 8 by omega, HX.out, hf2]
            exact full_bit _ (Nat.mod_lt _ (by decide))
        go_wp2_with fail
        go_roundw
        case rel => exact ⟨k + 7 + 1, by go_num, by omega, by omega, HK, trivial⟩
        case measure => simp [intOf]; omega
      · obtain ⟨b3, hb3⟩ : ∃ b3, ((k : Int) % 8 == 0) = b3 := ⟨_, rfl⟩
        have q4 : b3 = true → ((x.toNat : Int) == 255) = false := fun h => by
          subst h
          have := eq_of_beq hb3
          simp; omega
        obtain ⟨bh, hbh⟩ : ∃ bh, hasL l k = bh := ⟨_, rfl⟩
        rw [hbh] at cH
        cases bh
        · have HS : Hid (R = some k) := by unfold Hid; rw [← HR.out]; exact lowL_some hk1 hq hbh hk3.out
          cases b3
          · go_wp2_with (go_at_call 114; refine cH.mono ?_; clear cH; rintro e w1 ⟨rfl, rfl⟩)
            go_ret2
            rw [HS.out]
            exact ⟨rfl, rfl⟩
          · have q4 := q4 rfl
            go_wp2_with (go_at_call 114; refine cH.mono ?_; clear cH; rintro e w1 ⟨rfl, rfl⟩)
            go_ret2
            rw [HS.out]
            exact ⟨rfl, rfl⟩
        · have HK : Hid (∀ j, a ≤ j → j < k + 1 → hasL l j = true) := fun j h1 h2 => by
            by_cases hj : j < k
            · exact hk3.out j h1 hj
            · obtain rfl : j = k := by omega
              exact hbh
          cases b3
          · go_wp2_with (go_at_call 114; refine cH.mono ?_; clear cH; rintro e w1 ⟨rfl, rfl⟩)
            go_roundw
            case rel => exact ⟨k + 1, by go_num, by omega, by omega, HK, trivial⟩
            case measure => simp [intOf]; omega
          · have q4 := q4 rfl
            go_wp2_with (go_at_call 114; refine cH.mono ?_; clear cH; rintro e w1 ⟨rfl, rfl⟩)
            go_roundw
            case rel => exact ⟨k + 1, by go_num, by omega, by omega, HK, trivial⟩
            case measure => simp [intOf]; omega
    · have q1 : decide ((k : Int) < b) = false := decide_eq_false (by omega)
      have HN : Hid (R = none) := by unfold Hid; rw [← HR.out]; exact lowL_none (fun j h1 h2 => hk3.out j h1 (by omega))
      go_wp2_with fail
      go_ret2
      rw [HN.out]
      exact ⟨rfl, rfl⟩
end Go.Proofs.YtojoefcfimmipaaGreat
