/- bitmap.Empty, Count; key.Under. Conditions: sizes. -/
/- journal.WriteHead. Conditions: numbers that their places hold. -/
/- journal.ReadHead, at a block. Conditions: at least 40 bytes. -/
/- How many entries a map from ints has whose keys lie below a bound. Conditions: such keys. -/
import Derived.Test.YtojoefcfimmipaaGreatQ05
import Derived.Laws.ResultCell
import Derived.Test.YtojoefcfimmipaaGreatQ03
namespace Go.Proofs.YtojoefcfimmipaaGreat
set_option linter.unusedSimpArgs false
set_option linter.unusedVariables false
open Go.RowKit
set_option maxRecDepth 100000 in
set_option maxHeartbeats 1000000 in
theorem empty_any (w : World) : Calls Tryz.prog 145 #[.int .i64 2048] w fun e w' => e = .returned (.string zeroB) ∧ Ext w w' := by
  go_enter Tryz.func145, Tryz.ntmps145
  go_wp2_with (at_make; refine wpList_makeB _ rfl _ _ rfl 256 rfl rfl rfl rfl (by omega) ?_; intro w1 h1 hb1)
  have hc := h1.text
  rw [bts_zero] at hc
  go_wp2_with fail; (try (rw [hc]; simp only [Result.andThen]; rw [Oper.upon_value]))
  go_wp2_with fail
  go_ret
  exact ⟨rfl, hb1⟩
/-- how many bits are set in a byte -/
def popN (n : Nat) : Nat := (List.range 8).countP fun i => n.testBit i
theorem popN_le (n : Nat) : popN n ≤ 8 := by
  have := List.countP_le_length (p := fun i => n.testBit i) (l := List.range 8)
  simpa [popN] using this
set_option maxRecDepth 100000 in
set_option maxHeartbeats 1000000 in
theorem ones8_any (c : UInt8) (w : World) : Calls Tryz.prog 168 #[.int .u8 c.toNat] w fun e w' => e = .returned (.int .i64 (popN c.toNat)) ∧ w = w' := by
  have hc : (c.toNat : Int) < 256 := by have := c.toNat_lt; omega
  have hn : c.toNat < 256 := c.toNat_lt
  generalize c.toNat = n at *
  go_enter Tryz.func168, Tryz.ntmps168
  go_wp2_with fail
  go_ret
  refine ⟨ret_int ?_, rfl⟩
  unfold wrap64
  rw [← getElem!_pos]
  obtain ⟨m, rfl⟩ : ∃ m : Fin 256, n = m.val := ⟨⟨n, hn⟩, rfl⟩
  clear hn hc
  revert m
  decide +kernel
/-- how many numbers are in a set -/
def countL (l : List UInt8) : Nat := (l.map fun c => popN c.toNat).sum
theorem countL_le (l : List UInt8) : countL l ≤ 8 * l.length := by
  induction l with
  | nil => simp [countL]
  | cons c r ih =>
    have := popN_le c.toNat
    simp only [countL, List.map_cons, List.sum_cons, List.length_cons] at *
    omega
theorem countL_snoc (l : List UInt8) (k : Nat) (x : UInt8) (h : l[k]? = some x) : countL (l.take (k + 1)) = countL (l.take k) + popN x.toNat := by
  unfold countL
  rw [List.take_add_one, h, Option.toList_some, List.map_append, List.sum_append]
  simp
set_option maxRecDepth 100000 in
set_option maxHeartbeats 1000000 in
theorem count_any (s : ByteArray) (w : World) (hs : s.size ≤ 100000000) : Calls Tryz.prog 113 #[.string s] w fun e w' => e = .returned (.int .i64 (countL s.data.toList)) ∧ w = w' := by
  obtain ⟨l, hl0⟩ : ∃ l, s.data.toList = l := ⟨_, rfl⟩
  have hl : l.length = s.size := by rw [← hl0, Array.length_toList]; rfl
  have HC : Hid (∀ k (h : k < s.size), l[k]? = some s[k]) := fun k h => by subst hl0; rw [List.getElem?_eq_getElem (by omega)]; simp [ByteArray.getElem_eq_getElem_data]
  have HB : Hid (∀ k, countL (l.take k) ≤ 8 * s.size) := fun k => by
    have h1 := countL_le (l.take k)
    have h2 : (l.take k).length ≤ l.length := by simp; omega
    omega
  have HT : Hid (l.take s.size = l) := by unfold Hid; rw [← hl, List.take_length]
  rw [hl0]
  clear hl0 hl
  go_enter Tryz.func113, Tryz.ntmps113
  go_wp2_with fail
  go_loopw [3, 7] (fun n v wr => ∃ (k : Nat), n = .int .i64 (countL (l.take k)) ∧ v = .int .i64 k ∧ k ≤ s.size ∧ w = wr) (fun _ v _ => s.size - (intOf v).toNat)
  case atStart => exact ⟨0, rfl, rfl, by omega, rfl⟩
  case round =>
    obtain ⟨k, rfl, rfl, hk, rfl⟩ := hrel
    by_cases hq : k < s.size
    · have hq3 : (k : Int) < s.size := by omega
      have HS := Lib.hid (countL_snoc l k _ (HC.out k hq))
      have hb := HB.out (k + 1)
      obtain ⟨c, hc⟩ : ∃ c, s[k] = c := ⟨_, rfl⟩
      rw [hc] at HS
      obtain ⟨x, hx⟩ : ∃ x, countL (l.take k) = x := ⟨_, rfl⟩
      obtain ⟨y, hy⟩ : ∃ y, countL (l.take (k + 1)) = y := ⟨_, rfl⟩
      obtain ⟨z, hz⟩ : ∃ z, popN c.toNat = z := ⟨_, rfl⟩
      have cO := ones8_any c w
      have HY := Lib.hid hy
      have hs2 := HS.out
      rw [hx, hy, hz] at hs2
      rw [hz] at cO
      rw [hy] at hb
      rw [hx]
      have hsum : (x : Int) + z = y := by omega
      clear hs2 hx hy hz HS
      go_wp2_with (go_at_call 168; refine cO.mono ?_; clear cO; rintro e w1 ⟨rfl, rfl⟩)
      go_roundw
      case rel => exact ⟨k + 1, by rw [HY.out], by go_num, by omega, trivial⟩
      case measure => simp [intOf]; omega
    · obtain rfl : k = s.size := by omega
      go_wp2_with fail
      go_ret
      rw [HT.out]
      exact ⟨rfl, rfl⟩
def underB (s f : ByteArray) : Bool := decide (f.size ≤ s.size) && ((s.extract 0 f.size).toList == f.toList)
set_option maxRecDepth 100000 in
set_option maxHeartbeats 1000000 in
theorem under_any (s f : ByteArray) (w : World) : Calls Tryz.prog 60 #[.string s, .string f] w fun e w' => e = .returned (.bool (underB s f)) ∧ w = w' := by
  by_cases h : f.size ≤ s.size
  · have q1 : decide ((f.size : Int) ≤ s.size) = true := decide_eq_true (by omega)
    have q2 : (f.size : Int) ≤ s.size := by omega
    have HU : Hid (underB s f = ((s.extract 0 f.size).toList == f.toList)) := by unfold Hid underB; rw [decide_eq_true h, Bool.true_and]
    go_enter Tryz.func60, Tryz.ntmps60
    go_wp2_with fail
    go_ret
    exact ⟨by rw [HU.out]; rfl, rfl⟩
  · have q1 : decide ((f.size : Int) ≤ s.size) = false := decide_eq_false (by omega)
    have HU : Hid (underB s f = false) := by unfold Hid underB; rw [decide_eq_false h, Bool.false_and]
    go_enter Tryz.func60, Tryz.ntmps60
    go_wp2_with fail
    go_ret
    exact ⟨by rw [HU.out]; rfl, rfl⟩
end Go.Proofs.YtojoefcfimmipaaGreat
namespace Go.Proofs.YtojoefcfimmipaaGreat
set_option linter.unusedSimpArgs false
set_option linter.unusedVariables false
open Go.RowKit
structure HeadD where
  seq : Nat
  used : Nat
  room : Nat
  pages : Nat
structure HeadOk (h : HeadD) : Prop where
  seq : h.seq < 18446744073709551616
  used : h.used < 4294967296
  room : h.room < 4294967296
  pages : h.pages < 4294967296
def HeadD.cells (h : HeadD) : List Value := [.int .u64 h.seq, .int .i64 h.used, .int .i64 h.room, .int .i64 h.pages]
def HeadD.val (h : HeadD) : Value := .agg h.cells.toArray
def headL (h : HeadD) : List UInt8 := fixedL h.seq 8 ++ fixedL h.used 4 ++ fixedL h.room 4 ++ fixedL h.pages 4
def notL (l : List UInt8) : List UInt8 := l.map fun b => UInt8.ofNat (255 - b.toNat)
theorem headL_len (h : HeadD) : (headL h).length = 20 := by simp [headL, fixedL_len]
theorem notL_len (l : List UInt8) : (notL l).length = l.length := by simp [notL]
theorem notA (l : List UInt8) (w : World) (hs : l.length ≤ 1000000000) : Calls Tryz.prog 214 #[.string (bts l)] w fun e w' => e = .returned (.string (bts (notL l))) ∧ Ext w w' := by
  have := not_any (bts l) w (by rw [bts_size]; exact hs)
  rwa [bts_data] at this
set_option maxRecDepth 100000 in
set_option maxHeartbeats 4000000 in
theorem writeHead_any (h : HeadD) (w : World) (hh : HeadOk h) : Calls Tryz.prog 178 #[.agg #[.int .u64 h.seq, .int .i64 h.used, .int .i64 h.room, .int .i64 h.pages]] w fun e w' => e = .returned (.string (bts (headL h ++ notL (headL h)))) ∧ Ext w w' := by
  obtain ⟨h1, h2, h3, h4⟩ := hh
  have b1 : bts (fixedL h.seq 8) ++ bts (fixedL h.used 4) = bts (fixedL h.seq 8 ++ fixedL h.used 4) := bts_app _ _
  have b2 : bts (fixedL h.seq 8 ++ fixedL h.used 4) ++ bts (fixedL h.room 4) = bts (fixedL h.seq 8 ++ fixedL h.used 4 ++ fixedL h.room 4) := bts_app _ _
  have b3 : bts (fixedL h.seq 8 ++ fixedL h.used 4 ++ fixedL h.room 4) ++ bts (fixedL h.pages 4) = bts (headL h) := bts_app _ _
  have b4 : bts (headL h) ++ bts (notL (headL h)) = bts (headL h ++ notL (headL h)) := bts_app _ _
  have s1 : ¬ 9223372036854775807 < (bts (fixedL h.seq 8)).size + (bts (fixedL h.used 4)).size := by rw [bts_size, bts_size, fixedL_len, fixedL_len]; omega
  have s2 : ¬ 9223372036854775807 < (bts (fixedL h.seq 8 ++ fixedL h.used 4)).size + (bts (fixedL h.room 4)).size := by rw [bts_size, bts_size, List.length_append, fixedL_len, fixedL_len, fixedL_len]; omega
  have s3 : ¬ 9223372036854775807 < (bts (fixedL h.seq 8 ++ fixedL h.used 4 ++ fixedL h.room 4)).size + (bts (fixedL h.pages 4)).size := by rw [bts_size, bts_size, List.length_append, List.length_append, fixedL_len, fixedL_len, fixedL_len, fixedL_len]; omega
  have s4 : ¬ 9223372036854775807 < (bts (headL h)).size + (bts (notL (headL h))).size := by rw [bts_size, bts_size, notL_len, headL_len]; omega
  have c1 : Hid (∀ W, Calls Tryz.prog 161 #[.int .u64 h.seq, .int .i64 8] W fun e w' => e = .returned (.string (bts (fixedL h.seq 8))) ∧ Ext W w') := fun W => fixed_any h.seq 8 (by omega) h1 W
  have c2 : Hid (∀ W, Calls Tryz.prog 161 #[.int .u64 h.used, .int .i64 4] W fun e w' => e = .returned (.string (bts (fixedL h.used 4))) ∧ Ext W w') := fun W => fixed_any h.used 4 (by omega) (by omega) W
  have c3 : Hid (∀ W, Calls Tryz.prog 161 #[.int .u64 h.room, .int .i64 4] W fun e w' => e = .returned (.string (bts (fixedL h.room 4))) ∧ Ext W w') := fun W => fixed_any h.room 4 (by omega) (by omega) W
  have c4 : Hid (∀ W, Calls Tryz.prog 161 #[.int .u64 h.pages, .int .i64 4] W fun e w' => e = .returned (.string (bts (fixedL h.pages 4))) ∧ Ext W w') := fun W => fixed_any h.pages 4 (by omega) (by omega) W
  have c5 := Lib.hid (fun W => notA (headL h) W (by rw [headL_len]; omega))
  obtain ⟨f1, hf1⟩ : ∃ f, bts (fixedL h.seq 8) = f := ⟨_, rfl⟩
  obtain ⟨f2, hf2⟩ : ∃ f, bts (fixedL h.used 4) = f := ⟨_, rfl⟩
  obtain ⟨f3, hf3⟩ : ∃ f, bts (fixedL h.room 4) = f := ⟨_, rfl⟩
  obtain ⟨f4, hf4⟩ : ∃ f, bts (fixedL h.pages 4) = f := ⟨_, rfl⟩
  obtain ⟨f12, hf12⟩ : ∃ f, bts (fixedL h.seq 8 ++ fixedL h.used 4) = f := ⟨_, rfl⟩
  obtain ⟨f123, hf123⟩ : ∃ f, bts (fixedL h.seq 8 ++ fixedL h.used 4 ++ fixedL h.room 4) = f := ⟨_, rfl⟩
  obtain ⟨fh, hfh⟩ : ∃ f, bts (headL h) = f := ⟨_, rfl⟩
  obtain ⟨fn, hfn⟩ : ∃ f, bts (notL (headL h)) = f := ⟨_, rfl⟩
  obtain ⟨fz, hfz⟩ : ∃ f, bts (headL h ++ notL (headL h)) = f := ⟨_, rfl⟩
  rw [hf1] at b1 s1 c1
  rw [hf2] at b1 s1 c2
  rw [hf3] at b2 s2 c3
  rw [hf4] at b3 s3 c4
  rw [hf12] at b1 b2 s2
  rw [hf123] at b2 b3 s3
  rw [hfh] at b3 b4 s4 c5
  rw [hfn] at b4 s4 c5
  rw [hfz] at b4 ⊢
  clear hf1 hf2 hf3 hf4 hf12 hf123 hfh hfn hfz
  obtain ⟨sq, us, ro, pa⟩ := h
  dsimp only at *
  have u2 : IntKind.u64.wrap (us : Int) = (us : Int) := by rw [IntKind.wrap_u64]; omega
  have u3 : IntKind.u64.wrap (ro : Int) = (ro : Int) := by rw [IntKind.wrap_u64]; omega
  have u4 : IntKind.u64.wrap (pa : Int) = (pa : Int) := by rw [IntKind.wrap_u64]; omega
  have HKS : Hid (∀ W, Ext (w.alloc (.cells #[.int .u64 sq, .int .i64 us, .int .i64 ro, .int .i64 pa] 227)) W → W.cell? ⟨w.heap.size, 0, none⟩ = some (.int .u64 sq) ∧ W.cell? ⟨w.heap.size, 1, none⟩ = some (.int .i64 us) ∧ W.cell? ⟨w.heap.size, 2, none⟩ = some (.int .i64 ro) ∧ W.cell? ⟨w.heap.size, 3, none⟩ = some (.int .i64 pa)) := fun W hW => by
    have hr := (Row1.made w 227 [.int .u64 sq, .int .i64 us, .int .i64 ro, .int .i64 pa]).ext hW (by simp)
    exact ⟨hr.cell 0, hr.cell 1, hr.cell 2, hr.cell 3⟩
  have HX0 : Hid (Ext (w.alloc (.cells #[.int .u64 sq, .int .i64 us, .int .i64 ro, .int .i64 pa] 227)) (w.alloc (.cells #[.int .u64 sq, .int .i64 us, .int .i64 ro, .int .i64 pa] 227))) := Ext.refl _
  go_enter Tryz.func178, Tryz.ntmps178
  go_upto_region 1 with fail
  refine wp_region_held_drew (S := fun W => W.cell? ⟨w.heap.size, 0, none⟩ = some (.int .u64 sq) ∧ W.cell? ⟨w.heap.size, 1, none⟩ = some (.int .i64 us) ∧ W.cell? ⟨w.heap.size, 2, none⟩ = some (.int .i64 ro) ∧ W.cell? ⟨w.heap.size, 3, none⟩ = some (.int .i64 pa)) (by kernel_rfl) (HKS.out _ (by (repeat' (with_reducible first | exact HX0.out | exact Below.refl _ _ | refine Ext.drewN ?_ _ | refine Below.drew ?_ | refine Below.setCell ?_ ?_ _ | refine Below.alloc ?_ ?_ _)) <;> (first | omega | (simp; done) | (simp; omega)))) (fun hHeld => ?_)
  refine' tk 0 ?_; (try simp only [Act.put, List.setIfInBounds_toArray, List.set_cons_zero, List.set_cons_succ])
  refine' tk 1 ?_; (try simp only [Act.put, List.setIfInBounds_toArray, List.set_cons_zero, List.set_cons_succ])
  refine' tk 3 ?_; (try simp only [Act.put, List.setIfInBounds_toArray, List.set_cons_zero, List.set_cons_succ])
  refine' tk 4 ?_; (try simp only [Act.put, List.setIfInBounds_toArray, List.set_cons_zero, List.set_cons_succ])
  refine' tk 5 ?_; (try simp only [Act.put, List.setIfInBounds_toArray, List.set_cons_zero, List.set_cons_succ])
  refine' tk 8 ?_; (try simp only [Act.put, List.setIfInBounds_toArray, List.set_cons_zero, List.set_cons_succ])
  refine' tk 9 ?_; (try simp only [Act.put, List.setIfInBounds_toArray, List.set_cons_zero, List.set_cons_succ])
  refine' tk 10 ?_; (try simp only [Act.put, List.setIfInBounds_toArray, List.set_cons_zero, List.set_cons_succ])
  refine' tk 13 ?_; (try simp only [Act.put, List.setIfInBounds_toArray, List.set_cons_zero, List.set_cons_succ])
  refine' tk 14 ?_; (try simp only [Act.put, List.setIfInBounds_toArray, List.set_cons_zero, List.set_cons_succ])
  refine' tk 15 ?_; (try simp only [Act.put, List.setIfInBounds_toArray, List.set_cons_zero, List.set_cons_succ])
  refine stp 2 (fun K hK => ?_); go_simp
  refine (c1.out _).mono ?_
  rintro e w1 ⟨rfl, hb1⟩
  have HB : Hid (Ext (w.alloc (.cells #[.int .u64 sq, .int .i64 us, .int .i64 ro, .int .i64 pa] 227)) w1) := Ext.trans (by (repeat' (with_reducible first | exact HX0.out | exact Below.refl _ _ | refine Ext.drewN ?_ _ | refine Below.drew ?_ | refine Below.setCell ?_ ?_ _ | refine Below.alloc ?_ ?_ _)) <;> (first | omega | (simp; done) | (simp; omega))) hb1
  clear hb1
  (try dsimp only)
  (try go_simp)
  refine hK.out _ _ (HKS.out _ HB.out) (fun hHeld => ?_)
  clear hK K
  (try simp only [Act.put, List.setIfInBounds_toArray, List.set_cons_zero, List.set_cons_succ])
  refine stp 6 (fun K hK => ?_); go_simp
  refine (c2.out _).mono ?_
  rintro e w2 ⟨rfl, hb2⟩
  have HB : Hid (Ext (w.alloc (.cells #[.int .u64 sq, .int .i64 us, .int .i64 ro, .int .i64 pa] 227)) w2) := Ext.trans (by (repeat' (with_reducible first | exact HB.out | exact Below.refl _ _ | refine Ext.drewN ?_ _ | refine Below.drew ?_ | refine Below.setCell ?_ ?_ _ | refine Below.alloc ?_ ?_ _)) <;> (first | omega | (simp; done) | (simp; omega))) hb2
  clear hb2
  (try dsimp only)
  (try go_simp)
  refine hK.out _ _ (HKS.out _ HB.out) (fun hHeld => ?_)
  clear hK K
  (try simp only [Act.put, List.setIfInBounds_toArray, List.set_cons_zero, List.set_cons_succ])
  refine' tk 7 ?_; (try simp only [Act.put, List.setIfInBounds_toArray, List.set_cons_zero, List.set_cons_succ])
  refine stp 11 (fun K hK => ?_); go_simp
  refine (c3.out _).mono ?_
  rintro e w3 ⟨rfl, hb3⟩
  have HB : Hid (Ext (w.alloc (.cells #[.int .u64 sq, .int .i64 us, .int .i64 ro, .int .i64 pa] 227)) w3) := Ext.trans (by (repeat' (with_reducible first | exact HB.out | exact Below.refl _ _ | refine Ext.drewN ?_ _ | refine Below.drew ?_ | refine Below.setCell ?_ ?_ _ | refine Below.alloc ?_ ?_ _)) <;> (first | omega | (simp; done) | (simp; omega))) hb3
  clear hb3
  (try dsimp only)
  (try go_simp)
  refine hK.out _ _ (HKS.out _ HB.out) (fun hHeld => ?_)
  clear hK K
  (try simp only [Act.put, List.setIfInBounds_toArray, List.set_cons_zero, List.set_cons_succ])
  refine' tk 12 ?_; (try simp only [Act.put, List.setIfInBounds_toArray, List.set_cons_zero, List.set_cons_succ])
  refine stp 16 (fun K hK => ?_); go_simp
  refine (c4.out _).mono ?_
  rintro e w4 ⟨rfl, hb4⟩
  have HB : Hid (Ext (w.alloc (.cells #[.int .u64 sq, .int .i64 us, .int .i64 ro, .int .i64 pa] 227)) w4) := Ext.trans (by (repeat' (with_reducible first | exact HB.out | exact Below.refl _ _ | refine Ext.drewN ?_ _ | refine Below.drew ?_ | refine Below.setCell ?_ ?_ _ | refine Below.alloc ?_ ?_ _)) <;> (first | omega | (simp; done) | (simp; omega))) hb4
  clear hb4
  (try dsimp only)
  (try go_simp)
  refine hK.out _ _ (HKS.out _ HB.out) (fun hHeld => ?_)
  clear hK K
  (try simp only [Act.put, List.setIfInBounds_toArray, List.set_cons_zero, List.set_cons_succ])
  refine' tk 17 ?_; (try simp only [Act.put, List.setIfInBounds_toArray, List.set_cons_zero, List.set_cons_succ])
  refine' tk 18 ?_; (try simp only [Act.put, List.setIfInBounds_toArray, List.set_cons_zero, List.set_cons_succ])
  refine wpAnyH_done (by kernel_rfl) ?_ _
  go_wp2_with (go_at_call 214; refine (c5.out _).mono ?_; rintro e w5 ⟨rfl, hb5⟩)
  go_ret
  exact ⟨rfl, Ext.trans (Ext.trans (by (repeat' (with_reducible first | exact Below.refl _ _ | refine Ext.drewN ?_ _ | refine Below.drew ?_ | refine Below.setCell ?_ ?_ _ | refine Below.alloc ?_ ?_ _)) <;> (first | omega | (simp; done) | (simp; omega))) HB.out) (Ext.trans (by (repeat' (with_reducible first | exact Below.refl _ _ | refine Ext.drewN ?_ _ | refine Below.drew ?_ | refine Below.setCell ?_ ?_ _ | refine Below.alloc ?_ ?_ _)) <;> (first | omega | (simp; done) | (simp; omega))) hb5)⟩
end Go.Proofs.YtojoefcfimmipaaGreat
namespace Go.Proofs.YtojoefcfimmipaaGreat
set_option linter.unusedSimpArgs false
set_option linter.unusedVariables false
open Go.RowKit
def partN (b : ByteArray) (i j : Nat) : Nat := unfixedN (b.extract i j).data.toList
theorem unfixedN_lt (l : List UInt8) : unfixedN l < 2 ^ (8 * l.length) := upN_lt l l.length
theorem partN_lt (b : ByteArray) (i : Nat) (h : i + 4 ≤ b.size) : partN b i (i + 4) < 4294967296 := by
  have h1 := unfixedN_lt (b.extract i (i + 4)).data.toList
  have h2 : (b.extract i (i + 4)).data.toList.length = 4 := by
    rw [Array.length_toList]
    show (b.extract i (i + 4)).size = 4
    rw [ByteArray.size_extract]; omega
  rw [h2] at h1
  exact h1
set_option maxRecDepth 100000 in
set_option maxHeartbeats 1000000 in
theorem readAt_any (b : ByteArray) (f B : Nat) (w : World) (h : w.cell? ⟨B, 0, none⟩ = some (.string b)) (hf : f + 4 ≤ b.size) (hb : b.size ≤ 1000000) :
    Calls Tryz.prog 215 #[.int .i64 f, .pointer (some ⟨B, 0, none⟩)] w fun e w' => e = .returned (.int .i64 (partN b f (f + 4))) ∧ w = w' := by
  have q1 : (f : Int) + 4 ≤ b.size := by omega
  have q2 : ((f : Int) + 4).toNat = f + 4 := by omega
  have q3 : (0 : Int) ≤ (f : Int) + 4 := by omega
  have q4 : (f : Int) ≤ (f : Int) + 4 := by omega
  have hs : (b.extract f (f + 4)).size ≤ 8 := by rw [ByteArray.size_extract]; omega
  have cU := unfixed_any (b.extract f (f + 4)) hs w
  have hlt := partN_lt b f hf
  have hw : wrap64 (partN b f (f + 4) : Int) = (partN b f (f + 4) : Int) := by unfold wrap64; omega
  change Calls _ _ _ _ (fun e w' => e = .returned (.int .u64 (partN b f (f + 4))) ∧ w = w') at cU
  generalize partN b f (f + 4) = n at *
  clear hs
  go_enter Tryz.func215, Tryz.ntmps215
  go_wp2_with (go_at_call 155; refine cU.mono ?_; clear cU; rintro e w1 ⟨rfl, rfl⟩)
  go_ret
  first | exact ⟨rfl, rfl⟩ | exact ⟨by rw [← hw]; rfl, rfl⟩
set_option maxRecDepth 100000 in
theorem res_head {fn : Func} (h : fn.results = #[.cell 2 227, .tmp 3]) (tmps : Array Value) (w : World) (B : Nat) (hd : HeadD) (v : Value) (hB : tmps.getD 2 undef = .pointer (some ⟨B, 0, none⟩)) (hv : tmps.getD 3 undef = v) (hr : Row1 w B 227 hd.cells) :
    (results fn tmps).run Tryz.prog w = .ok (.tuple #[hd.val, v]) w := by
  rw [results_cell_tmp h, hB, hv]
  have c0 : w.cell? ⟨B, 0, none⟩ = some (.int .u64 hd.seq) := hr.cell 0
  have c1 : w.cell? ⟨B, 1, none⟩ = some (.int .i64 hd.used) := hr.cell 1
  have c2 : w.cell? ⟨B, 2, none⟩ = some (.int .i64 hd.room) := hr.cell 2
  have c3 : w.cell? ⟨B, 3, none⟩ = some (.int .i64 hd.pages) := hr.cell 3
  unfold HeadD.val HeadD.cells
  go_simp
/-- what a block's head is, if it has one -/
def readH (b : ByteArray) : HeadD × Bool :=
  if (bts (notL (b.extract 0 20).data.toList)).toList == (b.extract 20 40).toList then (⟨partN b 0 8, partN b 8 12, partN b 12 16, partN b 16 20⟩, true) else (⟨0, 0, 0, 0⟩, false)
set_option maxRecDepth 100000 in
set_option maxHeartbeats 4000000 in
theorem readHead_any (b : ByteArray) (w : World) (hb1 : 40 ≤ b.size) (hb2 : b.size ≤ 1000000) :
    Calls Tryz.prog 180 #[.string b] w fun e w' => e = .returned (.tuple #[(readH b).1.val, .bool (readH b).2]) ∧ Ext w w' := by
  have q1 : decide ((b.size : Int) < 40) = false := decide_eq_false (by omega)
  have q2 : (20 : Int) ≤ b.size := by omega
  have q3 : (40 : Int) ≤ b.size := by omega
  have q4 : (8 : Int) ≤ b.size := by omega
  have cN : Hid (∀ W, Calls Tryz.prog 214 #[.string (b.extract 0 20)] W fun e w' => e = .returned (.string (bts (notL (b.extract 0 20).data.toList))) ∧ Ext W w') := fun W => not_any (b.extract 0 20) W (by rw [ByteArray.size_extract]; omega)
  have HKS : Hid (∀ W, Ext (w.alloc (.cells #[.string b] 9)) W → W.cell? ⟨w.heap.size, 0, none⟩ = some (.string b)) := fun W hW => ((Row1.made w 9 [.string b]).ext hW (by simp)).cell 0
  have HA : Hid (∀ (f : Nat) (W : World), W.cell? ⟨w.heap.size, 0, none⟩ = some (.string b) → f + 4 ≤ b.size → Calls Tryz.prog 215 #[.int .i64 f, .pointer (some ⟨w.heap.size, 0, none⟩)] W fun e w' => e = .returned (.int .i64 (partN b f (f + 4))) ∧ W = w') := fun f W h1 h2 => readAt_any b f _ W h1 h2 hb2
  have cU : Hid (∀ W, Calls Tryz.prog 155 #[.string (b.extract 0 8)] W fun e w' => e = .returned (.int .u64 (partN b 0 8)) ∧ W = w') := fun W => unfixed_any (b.extract 0 8) (by rw [ByteArray.size_extract]; omega) W
  have HRH : Hid (readH b = if (bts (notL (b.extract 0 20).data.toList)).toList == (b.extract 20 40).toList then (⟨partN b 0 8, partN b 8 12, partN b 12 16, partN b 16 20⟩, true) else (⟨0, 0, 0, 0⟩, false)) := rfl
  obtain ⟨N, hN⟩ : ∃ N, bts (notL (b.extract 0 20).data.toList) = N := ⟨_, rfl⟩
  rw [hN] at cN HRH
  obtain ⟨bb, hbb⟩ : ∃ bb, (N.toList == (b.extract 20 40).toList) = bb := ⟨_, rfl⟩
  rw [hbb] at HRH
  obtain ⟨R, hR⟩ : ∃ R, readH b = R := ⟨_, rfl⟩
  rw [hR] at HRH ⊢
  clear hR hN
  obtain ⟨W0, hW0⟩ : ∃ W0, (w.alloc (.cells #[.string b] 9)).alloc (.cells #[.int .u64 0, .int .i64 0, .int .i64 0, .int .i64 0] 227) = W0 := ⟨_, rfl⟩
  have HW0 : Hid (Ext (w.alloc (.cells #[.string b] 9)) W0 ∧ Row1 W0 (w.heap.size + 1) 227 (⟨0, 0, 0, 0⟩ : HeadD).cells ∧ W0.heap.size = w.heap.size + 2) := by
    subst hW0
    exact ⟨by (repeat' (with_reducible first | exact Below.refl _ _ | refine Ext.drewN ?_ _ | refine Below.drew ?_ | refine Below.setCell ?_ ?_ _ | refine Below.alloc ?_ ?_ _)) <;> (first | omega | (simp; done) | (simp; omega)), Row1.made' (by simp) _ _, by simp⟩
  go_enter Tryz.func180, Tryz.ntmps180
  go_upto_region 1 with fail
  clear hW0
  refine wp_region_held_drew (S := fun W => W.cell? ⟨w.heap.size, 0, none⟩ = some (.string b)) (by kernel_rfl) (HKS.out _ (Ext.trans HW0.out.1 (by (repeat' (with_reducible first | exact Below.refl _ _ | refine Ext.drewN ?_ _ | refine Below.drew ?_ | refine Below.setCell ?_ ?_ _ | refine Below.alloc ?_ ?_ _)) <;> (first | omega | (simp; done) | (simp; omega))))) (fun hHeld => ?_)
  refine' tk 0 ?_; (try simp only [Act.put, List.setIfInBounds_toArray, List.set_cons_zero, List.set_cons_succ])
  refine' tk 1 ?_; (try simp only [Act.put, List.setIfInBounds_toArray, List.set_cons_zero, List.set_cons_succ])
  refine' tk 2 ?_; (try simp only [Act.put, List.setIfInBounds_toArray, List.set_cons_zero, List.set_cons_succ])
  refine' tk 3 ?_; (try simp only [Act.put, List.setIfInBounds_toArray, List.set_cons_zero, List.set_cons_succ])
  refine' tk 4 ?_; (try simp only [Act.put, List.setIfInBounds_toArray, List.set_cons_zero, List.set_cons_succ])
  refine' tk 5 ?_; (try simp only [Act.put, List.setIfInBounds_toArray, List.set_cons_zero, List.set_cons_succ])
  refine' tk 7 ?_; (try simp only [Act.put, List.setIfInBounds_toArray, List.set_cons_zero, List.set_cons_succ])
  refine' tk 8 ?_; (try simp only [Act.put, List.setIfInBounds_toArray, List.set_cons_zero, List.set_cons_succ])
  refine stp 6 (fun K hK => ?_); go_simp
  refine (cN.out _).mono ?_
  rintro e w1 ⟨rfl, hb1⟩
  have HB : Hid (Ext W0 w1) := Ext.trans (by (repeat' (with_reducible first | exact Below.refl _ _ | refine Ext.drewN ?_ _ | refine Below.drew ?_ | refine Below.setCell ?_ ?_ _ | refine Below.alloc ?_ ?_ _)) <;> (first | omega | (simp; done) | (simp; omega))) hb1
  clear hb1
  (try dsimp only)
  (try go_simp)
  refine hK.out _ _ (HKS.out _ (Ext.trans HW0.out.1 HB.out)) (fun hHeld => ?_)
  clear hK K
  (try simp only [Act.put, List.setIfInBounds_toArray, List.set_cons_zero, List.set_cons_succ])
  refine' tk 9 ?_; (try simp only [Act.put, List.setIfInBounds_toArray, List.set_cons_zero, List.set_cons_succ])
  refine' tk 10 ?_; (try simp only [Act.put, List.setIfInBounds_toArray, List.set_cons_zero, List.set_cons_succ])
  refine wpAnyH_done (by kernel_rfl) ?_ _
  have hz0 := HW0.out.2.2
  have hlt : w.heap.size + 1 < W0.heap.size := by omega
  have HR1 : Hid (Row1 w1 (w.heap.size + 1) 227 (⟨0, 0, 0, 0⟩ : HeadD).cells) := HW0.out.2.1.ext HB.out hlt
  have k0 : w1.cell? ⟨w.heap.size, 0, none⟩ = some (.string b) := HKS.out _ (Ext.trans HW0.out.1 HB.out)
  have b0 : w1.cell? ⟨w.heap.size + 1, 0, none⟩ = some (.int .u64 0) := HR1.out.cell 0
  have b1 : w1.cell? ⟨w.heap.size + 1, 1, none⟩ = some (.int .i64 0) := HR1.out.cell 1
  have b2 : w1.cell? ⟨w.heap.size + 1, 2, none⟩ = some (.int .i64 0) := HR1.out.cell 2
  have b3 : w1.cell? ⟨w.heap.size + 1, 3, none⟩ = some (.int .i64 0) := HR1.out.cell 3
  have f0 := HR1.out.soft 0
  have f1 := HR1.out.soft 1
  have f2 := HR1.out.soft 2
  have f3 := HR1.out.soft 3
  have HXF : Hid (Ext w w1) := Ext.trans (Ext.trans (by (repeat' (with_reducible first | exact Below.refl _ _ | refine Ext.drewN ?_ _ | refine Below.drew ?_ | refine Below.setCell ?_ ?_ _ | refine Below.alloc ?_ ?_ _)) <;> (first | omega | (simp; done) | (simp; omega))) HW0.out.1) HB.out
  have hb0 := HR1.out.lt
  cases bb
  · rw [if_neg (by decide)] at HRH
    go_wp2_with fail
    refine bodyPost_ret (res_head rfl _ _ (w.heap.size + 1) ⟨0, 0, 0, 0⟩ _ rfl rfl ((((HR1.out.set 0 _).set 1 _).set 2 _).set 3 _)) rfl ?_
    rw [HRH.out]
    exact ⟨rfl, by (repeat' (with_reducible first | exact HXF.out | exact Below.refl _ _ | refine Ext.drewN ?_ _ | refine Below.drew ?_ | refine Below.setCell ?_ ?_ _ | refine Below.alloc ?_ ?_ _)) <;> (first | omega | (simp; done) | (simp; omega))⟩
  · rw [if_pos rfl] at HRH
    have a1 : Calls Tryz.prog 215 #[.int .i64 8, .pointer (some ⟨w.heap.size, 0, none⟩)] w1 fun e w' => e = .returned (.int .i64 (partN b 8 12)) ∧ w1 = w' := HA.out 8 w1 k0 (by omega)
    have a2 : Calls Tryz.prog 215 #[.int .i64 12, .pointer (some ⟨w.heap.size, 0, none⟩)] w1 fun e w' => e = .returned (.int .i64 (partN b 12 16)) ∧ w1 = w' := HA.out 12 w1 k0 (by omega)
    have a3 : Calls Tryz.prog 215 #[.int .i64 16, .pointer (some ⟨w.heap.size, 0, none⟩)] w1 fun e w' => e = .returned (.int .i64 (partN b 16 20)) ∧ w1 = w' := HA.out 16 w1 k0 (by omega)
    go_wp2_with fail
    refine (cU.out _).mono ?_
    rintro e w2 ⟨rfl, rfl⟩
    go_wp2_with fail
    refine a1.mono ?_
    rintro e w2 ⟨rfl, rfl⟩
    go_wp2_with fail
    refine a2.mono ?_
    rintro e w2 ⟨rfl, rfl⟩
    go_wp2_with fail
    refine a3.mono ?_
    rintro e w2 ⟨rfl, rfl⟩
    go_wp2_with fail
    refine bodyPost_ret (res_head rfl _ _ (w.heap.size + 1) ⟨partN b 0 8, partN b 8 12, partN b 12 16, partN b 16 20⟩ _ rfl rfl ((((HR1.out.set 0 _).set 1 _).set 2 _).set 3 _)) rfl ?_
    rw [HRH.out]
    exact ⟨rfl, by (repeat' (with_reducible first | exact HXF.out | exact Below.refl _ _ | refine Ext.drewN ?_ _ | refine Below.drew ?_ | refine Below.setCell ?_ ?_ _ | refine Below.alloc ?_ ?_ _)) <;> (first | omega | (simp; done) | (simp; omega))⟩
/-- a block's head, written, is read as it was -/
theorem fixed4 (n : Nat) (h : n < 4294967296) : unfixedN (fixedL n 4) = n := by rw [unfixed_fixed]; exact Nat.mod_eq_of_lt (by simpa using h)
theorem partN_bts (l a m r : List UInt8) (i j : Nat) (hl : l = a ++ m ++ r) (hi : a.length = i) (hj : i + m.length = j) : partN (bts l) i j = unfixedN m := by
  unfold partN
  have e : ((bts l).extract i j).data.toList = m := by
    subst hl hi hj
    simp [bts]
  rw [e]
theorem readH_head (h : HeadD) (hh : HeadOk h) (r : List UInt8) : readH (bts (headL h ++ notL (headL h) ++ r)) = (h, true) := by
  have hl := headL_len h
  have hn : (notL (headL h)).length = 20 := by rw [notL_len, hl]
  have e1 : ((bts (headL h ++ notL (headL h) ++ r)).extract 0 20).data.toList = headL h := by
    have : ((bts (headL h ++ notL (headL h) ++ r)).extract 0 20).data.toList = (headL h ++ notL (headL h) ++ r).take 20 := by simp [bts]
    rw [this, List.append_assoc, List.take_left' hl]
  have e2 : ((bts (headL h ++ notL (headL h) ++ r)).extract 20 40).data.toList = notL (headL h) := by
    have : ((bts (headL h ++ notL (headL h) ++ r)).extract 20 40).data.toList = ((headL h ++ notL (headL h) ++ r).drop 20).take 20 := by simp [bts]
    rw [this, List.append_assoc, List.drop_left' hl, List.take_left' hn]
  unfold readH
  rw [e1, ByteArray.toList_eq, ByteArray.toList_eq, e2, bts_data, beq_self_eq_true, if_pos rfl]
  have p1 := partN_bts (headL h ++ notL (headL h) ++ r) [] (fixedL h.seq 8) (fixedL h.used 4 ++ fixedL h.room 4 ++ fixedL h.pages 4 ++ notL (headL h) ++ r) 0 8 (by simp [headL]) rfl (by simp [fixedL_len])
  have p2 := partN_bts (headL h ++ notL (headL h) ++ r) (fixedL h.seq 8) (fixedL h.used 4) (fixedL h.room 4 ++ fixedL h.pages 4 ++ notL (headL h) ++ r) 8 12 (by simp [headL]) (fixedL_len _ _) (by simp [fixedL_len])
  have p3 := partN_bts (headL h ++ notL (headL h) ++ r) (fixedL h.seq 8 ++ fixedL h.used 4) (fixedL h.room 4) (fixedL h.pages 4 ++ notL (headL h) ++ r) 12 16 (by simp [headL]) (by simp [fixedL_len]) (by simp [fixedL_len])
  have p4 := partN_bts (headL h ++ notL (headL h) ++ r) (fixedL h.seq 8 ++ fixedL h.used 4 ++ fixedL h.room 4) (fixedL h.pages 4) (notL (headL h) ++ r) 16 20 (by simp [headL]) (by simp [fixedL_len]) (by simp [fixedL_len])
  rw [p1, p2, p3, p4, fixed4 _ hh.used, fixed4 _ hh.room, fixed4 _ hh.pages, unfixed_fixed, Nat.mod_eq_of_lt (by simpa using hh.seq)]
theorem readH_zero : (readH zeroB).2 = false := by
  rw [← bts_zero]
  unfold readH
  rw [if_neg]
  decide +kernel
end Go.Proofs.YtojoefcfimmipaaGreat
namespace Go.Proofs.YtojoefcfimmipaaGreat
set_option linter.unusedSimpArgs false
set_option linter.unusedVariables false
open Go.RowKit Go.Maps
/-- the keys below a bound, rising -/
def keysOf {α : Type} (N : Nat) (f : Int → Option α) : List Nat := (List.range N).filter fun (i : Nat) => (f (i : Int)).isSome
theorem mem_keysOf {α : Type} {N : Nat} {f : Int → Option α} {i : Nat} : i ∈ keysOf N f ↔ i < N ∧ (f (i : Int)).isSome = true := by simp [keysOf]
theorem keysOf_nodup {α : Type} (N : Nat) (f : Int → Option α) : (keysOf N f).Nodup := List.nodup_range.sublist List.filter_sublist
theorem keysOf_len {α : Type} (N : Nat) (f : Int → Option α) : (keysOf N f).length ≤ N := by
  have := (List.filter_sublist (l := List.range N) (p := fun (i : Nat) => (f (i : Int)).isSome)).length_le
  simpa [keysOf] using this
def Small {α : Type} (N : Nat) (f : Int → Option α) : Prop := ∀ x, (f x).isSome = true → 0 ≤ x ∧ x < N
theorem keysOf_int {k : TypeId} (hk : Tryz.prog.underlying k = some (.int .i64)) {l : Lit} (h : KeysOf Tryz.prog k l) : ∃ a, l = .int .i64 a := by
  obtain ⟨v, hv⟩ := h
  cases v <;> simp [keyOf, hk, mapKey] at hv
  rename_i q a
  obtain ⟨⟨rfl, _⟩, rfl⟩ := hv
  exact ⟨a, rfl⟩
theorem MapI.count {α : Type} {enc : α → Value} {f : Int → Option α} {w : World} {k : TypeId} {b n : Nat} (h : MapI w k b n enc f) (hk : Tryz.prog.underlying k = some (.int .i64)) {N : Nat} (hf : Small N f) :
    ∃ D : DataW Value, w.ownsMap Tryz.prog k Rv b (keysOf N f).length D ∧ MapD enc f D ∧ Maps.size D = (keysOf N f).length := by
  obtain ⟨D, ⟨es, clock, hb, F, hs, rfl⟩, h2⟩ := h
  have hap := fit_apart (int_keyed hk) F
  have hke := fit_keys F
  have hsz : (es.toList.map (WideElems.rg Tryz.prog k Rv)).length = es.size := by simp
  have hh : ∀ x : Int, Maps.has (DataW.map ((es.toList.map (WideElems.rg Tryz.prog k Rv)).foldr DataW.insert [])) (.int .i64 x) = (f x).isSome := h2.has
  generalize hL : es.toList.map (WideElems.rg Tryz.prog k Rv) = L at *
  have hmem : ∀ x : Int, (∃ p ∈ L, p.1 = Lit.int .i64 x) ↔ (f x).isSome = true := fun x => by
    rw [← hh x, has_eq, List.any_eq_true]
    constructor
    · rintro ⟨p, hp, he⟩
      exact ⟨p, mem_sorted.2 hp, by rw [he]; simp [Lit.sameKey]⟩
    · rintro ⟨p, hp, he⟩
      exact ⟨p, mem_sorted.1 hp, WideAt.sameKey_eq he⟩
  have hlen : L.length = (keysOf N f).length := by
    obtain ⟨g, hg⟩ : ∃ g : Lit × DataW Value → Nat, ∀ p a, p.1 = Lit.int .i64 a → g p = a.toNat := ⟨fun p => match p.1 with | .int _ a => a.toNat | _ => 0, fun p a h => by simp [h]⟩
    have hnd : (L.map g).Nodup := by
      rw [List.nodup_iff_pairwise_ne, List.pairwise_map]
      refine List.Pairwise.imp_of_mem ?_ hap
      intro p q hp hq hne e
      obtain ⟨a, ha⟩ := keysOf_int hk (hke p hp)
      obtain ⟨c, hc⟩ := keysOf_int hk (hke q hq)
      rw [hg p a ha, hg q c hc] at e
      have h1 := hf a ((hmem a).1 ⟨p, hp, ha⟩)
      have h2 := hf c ((hmem c).1 ⟨q, hq, hc⟩)
      exact hne (by rw [ha, hc, show a = c by omega])
    have hp : (L.map g).Perm (keysOf N f) := by
      rw [List.perm_ext_iff_of_nodup hnd (keysOf_nodup N f)]
      intro i
      rw [List.mem_map, mem_keysOf]
      constructor
      · rintro ⟨p, hp, rfl⟩
        obtain ⟨a, ha⟩ := keysOf_int hk (hke p hp)
        have h1 := (hmem a).1 ⟨p, hp, ha⟩
        have h2 := hf a h1
        rw [hg p a ha, show ((a.toNat : Nat) : Int) = a by omega]
        exact ⟨by omega, h1⟩
      · rintro ⟨_, h1⟩
        obtain ⟨p, hp, he⟩ := (hmem i).2 h1
        exact ⟨p, hp, by rw [hg p _ he]; simp⟩
    have := hp.length_eq
    simpa using this
  refine ⟨_, ⟨es, clock, hb, F, by omega, by rw [hL]⟩, h2, ?_⟩
  rw [size_eq, length_sorted, hlen]
theorem MapI.tight {α : Type} {enc : α → Value} {f : Int → Option α} {w : World} {k : TypeId} {b n : Nat} (h : MapI w k b n enc f) (hk : Tryz.prog.underlying k = some (.int .i64)) {N : Nat} (hf : Small N f) : MapI w k b N enc f := by
  obtain ⟨D, h1, h2, _⟩ := h.count hk hf
  exact ⟨D, h1.mono (keysOf_len N f), h2⟩
/-- how long a map is -/
theorem MapI.len {α : Type} {enc : α → Value} {f : Int → Option α} {w : World} {k t e : TypeId} {b n : Nat} (h : MapI w k b n enc f) (hk : Tryz.prog.underlying k = some (.int .i64)) (ht : Tryz.prog.underlying t = some (.map k e)) {N : Nat} (hf : Small N f) (ty : TypeId) :
    (Builtin.len_ #[t] ty #[.map (some b)]).run Tryz.prog w = .ok (.int .i64 ((keysOf N f).length : Int)) w := by
  obtain ⟨D, h1, h2, h3⟩ := h.count hk hf
  rw [← h3]
  exact h1.len ht ty
end Go.Proofs.YtojoefcfimmipaaGreat
