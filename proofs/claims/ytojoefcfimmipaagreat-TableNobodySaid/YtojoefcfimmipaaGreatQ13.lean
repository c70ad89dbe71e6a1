/- A pager's SetRoot, Room, New, Format. Conditions: a pager in memory; numbers in their bounds. -/
/- A pager's Room, New, Format. Conditions: a pager in memory; a store in memory. -/
/- Rows of cells with one more, or one fewer, inside: plain lists. No conditions. -/
import Derived.Test.YtojoefcfimmipaaGreatQ12
import Derived.Test.YtojoefcfimmipaaGreatQ11
namespace Go.Proofs.YtojoefcfimmipaaGreat
set_option linter.unusedSimpArgs false
set_option linter.unusedVariables false
open Go.RowKit
/-- the roots, one of them set -/
def rootB (v : ByteArray) (i n : Nat) : ByteArray := v.extract 0 (4 * i) ++ bts (fixedL n 4) ++ v.extract (4 * i + 4) v.size
theorem rootB_size {v : ByteArray} (hv : v.size = 256) {i : Nat} (hi : i < 16) (n : Nat) : (rootB v i n).size = 256 := by
  unfold rootB
  rw [ByteArray.size_append, ByteArray.size_append, ByteArray.size_extract, ByteArray.size_extract, bts_size, fixedL_len, hv]
  omega
theorem rootB_list (v : ByteArray) (i n : Nat) : rootB v i n = bts (v.data.toList.take (4 * i) ++ fixedL n 4 ++ v.data.toList.drop (4 * i + 4)) := by
  unfold rootB
  rw [ByteArray.ext_iff]
  simp [bts]
  rw [List.take_of_length_le]
  rw [List.length_drop, Array.length_toList]
  exact Nat.le_refl _
theorem partN_list (l : List UInt8) (i j : Nat) : partN (bts l) i j = unfixedN ((l.take j).drop i) := by
  unfold partN
  congr 1
  have e : ((bts l).extract i j).data.toList = (l.drop i).take (j - i) := by simp only [bts, ByteArray.data_extract, Array.toList_extract, List.extract_eq_take_drop]
  rw [e, List.drop_take]
theorem partN_rootB {v : ByteArray} (hv : v.size = 256) {i j n : Nat} (hi : i < 16) (hj : j < 16) (hn : n < 4294967296) : partN (rootB v i n) (4 * j) (4 * j + 4) = if j = i then n else partN v (4 * j) (4 * j + 4) := by
  have hl : v.data.toList.length = 256 := by rw [Array.length_toList]; exact hv
  have hv2 : v = bts v.data.toList := (bts_of v).symm
  rw [rootB_list]
  by_cases e : j = i
  · subst e
    rw [if_pos rfl, partN_bts _ (v.data.toList.take (4 * j)) (fixedL n 4) (v.data.toList.drop (4 * j + 4)) _ _ rfl (by rw [List.length_take]; omega) (by rw [fixedL_len]), fixed4 n hn]
  · rw [if_neg e]
    conv => rhs; rw [hv2]
    rw [partN_list, partN_list]
    congr 1
    apply List.ext_getElem?
    intro k
    simp only [List.getElem?_drop, List.getElem?_take]
    by_cases hk : 4 * j + k < 4 * j + 4
    · rw [if_pos hk, if_pos hk]
      rcases Nat.lt_or_gt_of_ne e with h | h
      · rw [List.append_assoc, List.getElem?_append_left (by rw [List.length_take]; omega), List.getElem?_take, if_pos (by omega)]
      · rw [List.getElem?_append_right (by rw [List.length_append, List.length_take, fixedL_len]; omega), List.getElem?_drop, List.length_append, List.length_take, fixedL_len]
        congr 1
        omega
    · rw [if_neg hk, if_neg hk]
def setRootP (S : StoreD) (i n : Nat) : StoreD := putP S 1 (rootB (viewS S 1) i n)
theorem root_set {S : StoreD} (h : FullV S) {i j n : Nat} (hi : i < 16) (hj : j < 16) (hn : n < 4294967296) : rootS (setRootP S i n) j = if j = i then n else rootS S j := by
  unfold rootS setRootP
  rw [view_put, if_pos rfl, padB_full _ (rootB_size (h 1) hi n)]
  exact partN_rootB (h 1) hi hj hn
theorem used_set (S : StoreD) (i n k : Nat) : usedS (setRootP S i n) k = usedS S k := used_put (by omega) _ _
theorem view_set (S : StoreD) (i n k : Nat) (hk : k ≠ 1) : viewS (setRootP S i n) k = viewS S k := by unfold setRootP; rw [view_put, if_neg hk]
set_option maxRecDepth 100000 in
set_option maxHeartbeats 4000000 in
theorem setRoot_any {p : Nat} {F : Nat → Prop} {S : StoreD} (i n : Nat) (w : World) (h : PagerAt w p F S) (hi : i < 16) (hn : n = 0 ∨ GivenS S n) :
    Calls Tryz.prog 105 #[.pointer (some ⟨p, 0, none⟩), .int .i64 i, .int .i64 n] w fun e w' => e = .returned (.int .i64 0) ∧ ∃ F', PagerAt w' p F' (setRootP S i n) ∧ Keeps F F' w w' := by
  have cT := root_any i w h hi
  have hm := h.most
  have hn2 : n < 1024 := by
    rcases hn with h | h
    · omega
    · have := h.2.1; omega
  have hsz := h.size 1
  have cC : Hid (∀ W F1, PagerAt W p F1 S → n ≠ 0 → Calls Tryz.prog 160 #[.pointer (some ⟨p, 0, none⟩), .int .i64 n] W fun e w' => e = .returned (.int .i64 0) ∧ ∃ F', PagerAt w' p F' S ∧ Keeps F1 F' W w') := fun W F1 hW h0 => check_ok n W hW (by rcases hn with r | r; exact absurd r h0; exact r)
  have cR : Hid (∀ W F1, PagerAt W p F1 S → Calls Tryz.prog 154 #[.pointer (some ⟨p, 0, none⟩), .int .i64 1] W fun e w' => e = .returned (.tuple #[.string (viewS S 1), .int .i64 0]) ∧ ∃ F', PagerAt w' p F' S ∧ Keeps F1 F' W w') := fun W F1 hW => pread_any 1 W hW (by have := hW.pages; omega)
  obtain ⟨v, hv⟩ : ∃ v, viewS S 1 = v := ⟨_, rfl⟩
  rw [hv] at cR hsz
  have cF : Hid (∀ W, Calls Tryz.prog 161 #[.int .u64 n, .int .i64 4] W fun e w' => e = .returned (.string (bts (fixedL n 4))) ∧ Ext W w') := fun W => fixed_any n 4 (by omega) (by omega) W
  have HRB : Hid (rootB v i n = v.extract 0 (4 * i) ++ bts (fixedL n 4) ++ v.extract (4 * i + 4) 256) := by unfold Hid rootB; rw [hsz]
  have hrs := rootB_size hsz hi n
  have cP : Hid (∀ W F1, PagerAt W p F1 S → Calls Tryz.prog 147 #[.pointer (some ⟨p, 0, none⟩), .int .i64 1, .string (rootB v i n)] W fun e w' => e = .returned (.int .i64 0) ∧ ∃ F', PagerAt w' p F' (setRootP S i n) ∧ Keeps F1 F' W w') := fun W F1 hW => by
    have h1 := pwrite_any 1 (rootB v i n) W hW (by have := hW.pages; omega) (by omega)
    unfold setRootP
    rw [hv]
    exact h1
  obtain ⟨fx, hfx⟩ : ∃ fx, bts (fixedL n 4) = fx := ⟨_, rfl⟩
  have hfs : fx.size = 4 := by rw [← hfx, bts_size, fixedL_len]
  rw [hfx] at cF HRB
  have hsi : (v.size : Int) = 256 := by omega
  have hi2 : (i : Int) < 16 := by omega
  have u1 : IntKind.i64.wrap ((4 : Int) * i) = 4 * i := by rw [IntKind.wrap_i64]; omega
  have u2 : IntKind.i64.wrap ((4 : Int) * i + 4) = 4 * i + 4 := by rw [IntKind.wrap_i64]; omega
  have q0 : n ≠ 0 → decide ((n : Int) = 0) = false := fun h0 => decide_eq_false (by omega)
  have a1 : (0 : Int) ≤ 4 * i := by omega
  have a2 : (4 : Int) * i ≤ 256 := by omega
  have a3 : (4 : Int) * i + 4 ≤ 256 := by omega
  have a4 : (0 : Int) ≤ 4 * i + 4 := by omega
  have a5 : ((4 : Int) * i).toNat = 4 * i := by omega
  have a6 : ((4 : Int) * i + 4).toNat = 4 * i + 4 := by omega
  have a7 : ¬ 9223372036854775807 < min (4 * i) 256 + 4 := by omega
  have a8 : ¬ 9223372036854775807 < min (4 * i) 256 + 4 + (252 - 4 * i) := by omega
  clear h hv hfx hn
  have u0 : IntKind.u64.wrap (n : Int) = n := by rw [IntKind.wrap_u64]; omega
  by_cases h0 : n = 0
  · have q1 : decide ((n : Int) = 0) = true := decide_eq_true (by omega)
    have q2 : (n == 0) = true := by simpa using h0
    clear q0
    have HZ := Lib.hid h0
    clear h0
    go_enter Tryz.func105, Tryz.ntmps105
    go_upto_region 11 with (first
      | (go_at_call 98; refine cT.mono ?_; clear cT; rintro e w1 ⟨rfl, F1, hp1, k1⟩; have HP1 := Lib.hid hp1; have HK1 := Lib.hid k1; clear hp1 k1)
      | (go_at_call 154; refine (cR.out _ _ HP1.out).mono ?_; clear cR; rintro e w2 ⟨rfl, F2, hp2, k2⟩; have HP2 := Lib.hid hp2; have HK2 := Lib.hid (HK1.out.trans k2); clear hp2 k2))
    refine wp_region_held_drew (S := fun W => 0 ≤ W.heap.size) (by kernel_rfl) (Nat.zero_le _) (fun hHeld => ?_)
    refine' tk 0 ?_; (try simp only [Act.put, List.setIfInBounds_toArray, List.set_cons_zero, List.set_cons_succ])
    refine' tk 1 ?_; (try simp only [Act.put, List.setIfInBounds_toArray, List.set_cons_zero, List.set_cons_succ])
    refine' tk 2 ?_; (try simp only [Act.put, List.setIfInBounds_toArray, List.set_cons_zero, List.set_cons_succ])
    refine' tk 3 ?_; (try simp only [Act.put, List.setIfInBounds_toArray, List.set_cons_zero, List.set_cons_succ])
    refine' tk 4 ?_; (try simp only [Act.put, List.setIfInBounds_toArray, List.set_cons_zero, List.set_cons_succ])
    refine' tk 5 ?_; (try simp only [Act.put, List.setIfInBounds_toArray, List.set_cons_zero, List.set_cons_succ])
    refine' tk 6 ?_; (try simp only [Act.put, List.setIfInBounds_toArray, List.set_cons_zero, List.set_cons_succ])
    refine' tk 9 ?_; (try simp only [Act.put, List.setIfInBounds_toArray, List.set_cons_zero, List.set_cons_succ])
    refine' tk 10 ?_; (try simp only [Act.put, List.setIfInBounds_toArray, List.set_cons_zero, List.set_cons_succ])
    refine' tk 11 ?_; (try simp only [Act.put, List.setIfInBounds_toArray, List.set_cons_zero, List.set_cons_succ])
    refine' tk 12 ?_; (try simp only [Act.put, List.setIfInBounds_toArray, List.set_cons_zero, List.set_cons_succ])
    refine' tk 13 ?_; (try simp only [Act.put, List.setIfInBounds_toArray, List.set_cons_zero, List.set_cons_succ])
    refine stp 7 (fun K hK => ?_); go_simp
    (with_reducible refine (cF.out _).mono ?_)
    rintro e w3 ⟨rfl, hb3⟩
    have HP3 : Hid (PagerAt w3 p F2 S) := HP2.out.ext (Ext.trans (by (repeat' (with_reducible first | exact Below.refl _ _ | refine Ext.drewN ?_ _ | refine Below.drew ?_ | refine Below.setCell ?_ ?_ _ | refine Below.alloc ?_ ?_ _)) <;> (first | omega | (simp; done) | (simp; omega))) hb3)
    have HK3 : Hid (Keeps F F2 w w3) := HK2.out.ext (Ext.trans (by (repeat' (with_reducible first | exact Below.refl _ _ | refine Ext.drewN ?_ _ | refine Below.drew ?_ | refine Below.setCell ?_ ?_ _ | refine Below.alloc ?_ ?_ _)) <;> (first | omega | (simp; done) | (simp; omega))) hb3)
    clear hb3
    (try dsimp only)
    (try go_simp)
    refine hK.out _ _ (Nat.zero_le _) (fun hHeld => ?_)
    clear hK K
    (try simp only [Act.put, List.setIfInBounds_toArray, List.set_cons_zero, List.set_cons_succ])
    refine' tk 8 ?_; (try simp only [Act.put, List.setIfInBounds_toArray, List.set_cons_zero, List.set_cons_succ])
    refine' tk 14 ?_; (try simp only [Act.put, List.setIfInBounds_toArray, List.set_cons_zero, List.set_cons_succ])
    refine stp 15 (fun K hK => ?_); go_simp
    rw [← HRB.out]
    (with_reducible refine (cP.out _ _ HP3.out).mono ?_)
    rintro e w4 ⟨rfl, F4, hp4, k4⟩
    have HP4 := Lib.hid hp4
    have HK4 := Lib.hid (HK3.out.trans k4)
    clear hp4 k4
    (try dsimp only)
    (try go_simp)
    refine hK.out _ _ (Nat.zero_le _) (fun hHeld => ?_)
    clear hK K
    (try simp only [Act.put, List.setIfInBounds_toArray, List.set_cons_zero, List.set_cons_succ])
    refine' tk 16 ?_; (try simp only [Act.put, List.setIfInBounds_toArray, List.set_cons_zero, List.set_cons_succ])
    refine wpAnyH_done (by kernel_rfl) ?_ _
    go_wp2_with fail
    go_ret
    exact ⟨rfl, F4, HP4.out, HK4.out⟩
  · have q0 := q0 h0
    go_enter Tryz.func105, Tryz.ntmps105
    go_upto_region 11 with (first
      | (go_at_call 98; refine cT.mono ?_; clear cT; rintro e w1 ⟨rfl, F1, hp1, k1⟩; have HP1 := Lib.hid hp1; have HK1 := Lib.hid k1; clear hp1 k1)
      | (go_at_call 160; refine (cC.out _ _ HP1.out h0).mono ?_; clear cC; rintro e w5 ⟨rfl, F5, hp5, k5⟩; have HP5 := Lib.hid hp5; have HK5 := Lib.hid (HK1.out.trans k5); clear hp5 k5)
      | (go_at_call 154; refine (cR.out _ _ HP5.out).mono ?_; clear cR; rintro e w2 ⟨rfl, F2, hp2, k2⟩; have HP2 := Lib.hid hp2; have HK2 := Lib.hid (HK5.out.trans k2); clear hp2 k2))
    refine wp_region_held_drew (S := fun W => 0 ≤ W.heap.size) (by kernel_rfl) (Nat.zero_le _) (fun hHeld => ?_)
    refine' tk 0 ?_; (try simp only [Act.put, List.setIfInBounds_toArray, List.set_cons_zero, List.set_cons_succ])
    refine' tk 1 ?_; (try simp only [Act.put, List.setIfInBounds_toArray, List.set_cons_zero, List.set_cons_succ])
    refine' tk 2 ?_; (try simp only [Act.put, List.setIfInBounds_toArray, List.set_cons_zero, List.set_cons_succ])
    refine' tk 3 ?_; (try simp only [Act.put, List.setIfInBounds_toArray, List.set_cons_zero, List.set_cons_succ])
    refine' tk 4 ?_; (try simp only [Act.put, List.setIfInBounds_toArray, List.set_cons_zero, List.set_cons_succ])
    refine' tk 5 ?_; (try simp only [Act.put, List.setIfInBounds_toArray, List.set_cons_zero, List.set_cons_succ])
    refine' tk 6 ?_; (try simp only [Act.put, List.setIfInBounds_toArray, List.set_cons_zero, List.set_cons_succ])
    refine' tk 9 ?_; (try simp only [Act.put, List.setIfInBounds_toArray, List.set_cons_zero, List.set_cons_succ])
    refine' tk 10 ?_; (try simp only [Act.put, List.setIfInBounds_toArray, List.set_cons_zero, List.set_cons_succ])
    refine' tk 11 ?_; (try simp only [Act.put, List.setIfInBounds_toArray, List.set_cons_zero, List.set_cons_succ])
    refine' tk 12 ?_; (try simp only [Act.put, List.setIfInBounds_toArray, List.set_cons_zero, List.set_cons_succ])
    refine' tk 13 ?_; (try simp only [Act.put, List.setIfInBounds_toArray, List.set_cons_zero, List.set_cons_succ])
    refine stp 7 (fun K hK => ?_); go_simp
    (with_reducible refine (cF.out _).mono ?_)
    rintro e w3 ⟨rfl, hb3⟩
    have HP3 : Hid (PagerAt w3 p F2 S) := HP2.out.ext (Ext.trans (by (repeat' (with_reducible first | exact Below.refl _ _ | refine Ext.drewN ?_ _ | refine Below.drew ?_ | refine Below.setCell ?_ ?_ _ | refine Below.alloc ?_ ?_ _)) <;> (first | omega | (simp; done) | (simp; omega))) hb3)
    have HK3 : Hid (Keeps F F2 w w3) := HK2.out.ext (Ext.trans (by (repeat' (with_reducible first | exact Below.refl _ _ | refine Ext.drewN ?_ _ | refine Below.drew ?_ | refine Below.setCell ?_ ?_ _ | refine Below.alloc ?_ ?_ _)) <;> (first | omega | (simp; done) | (simp; omega))) hb3)
    clear hb3
    (try dsimp only)
    (try go_simp)
    refine hK.out _ _ (Nat.zero_le _) (fun hHeld => ?_)
    clear hK K
    (try simp only [Act.put, List.setIfInBounds_toArray, List.set_cons_zero, List.set_cons_succ])
    refine' tk 8 ?_; (try simp only [Act.put, List.setIfInBounds_toArray, List.set_cons_zero, List.set_cons_succ])
    refine' tk 14 ?_; (try simp only [Act.put, List.setIfInBounds_toArray, List.set_cons_zero, List.set_cons_succ])
    refine stp 15 (fun K hK => ?_); go_simp
    rw [← HRB.out]
    (with_reducible refine (cP.out _ _ HP3.out).mono ?_)
    rintro e w4 ⟨rfl, F4, hp4, k4⟩
    have HP4 := Lib.hid hp4
    have HK4 := Lib.hid (HK3.out.trans k4)
    clear hp4 k4
    (try dsimp only)
    (try go_simp)
    refine hK.out _ _ (Nat.zero_le _) (fun hHeld => ?_)
    clear hK K
    (try simp only [Act.put, List.setIfInBounds_toArray, List.set_cons_zero, List.set_cons_succ])
    refine' tk 16 ?_; (try simp only [Act.put, List.setIfInBounds_toArray, List.set_cons_zero, List.set_cons_succ])
    refine wpAnyH_done (by kernel_rfl) ?_ _
    go_wp2_with fail
    go_ret
    exact ⟨rfl, F4, HP4.out, HK4.out⟩
end Go.Proofs.YtojoefcfimmipaaGreat
namespace Go.Proofs.YtojoefcfimmipaaGreat
set_option linter.unusedSimpArgs false
set_option linter.unusedVariables false
open Go.RowKit
theorem countL_bits (l : List UInt8) : ∀ k, k ≤ l.length → countL (l.take k) = ((List.range (8 * k)).filter (hasL l)).length
  | 0, _ => by simp [countL]
  | k + 1, hk => by
    have ih := countL_bits l k (by omega)
    rw [countL_snoc l k l[k] (List.getElem?_eq_getElem (by omega)), ih, show 8 * (k + 1) = 8 * k + 8 by omega, List.range_add, List.filter_append, List.length_append]
    congr 1
    unfold popN
    rw [List.countP_eq_length_filter, List.filter_map, List.length_map]
    congr 1
    apply List.filter_congr
    intro i hi
    have hi : i < 8 := by simpa using hi
    simp only [Function.comp, hasL]
    rw [show (8 * k + i) / 8 = k by omega, show (8 * k + i) % 8 = i by omega, List.getElem?_eq_getElem (by omega)]
    rfl
/-- how many of the first pages are given out -/
def takenS (S : StoreD) (n : Nat) : Nat := ((List.range n).filter (usedS S)).length
theorem takenS_le (S : StoreD) (n : Nat) : takenS S n ≤ n := by
  have := List.length_filter_le (usedS S) (List.range n)
  simpa [takenS] using this
theorem takenS_succ (S : StoreD) (n : Nat) : takenS S (n + 1) = takenS S n + if usedS S n = true then 1 else 0 := by
  unfold takenS
  rw [List.range_succ, List.filter_append, List.length_append]
  by_cases h : usedS S n = true <;> simp [h]
def roomS (S : StoreD) : Nat := S.head.pages - takenS S S.head.pages
set_option maxRecDepth 100000 in
set_option maxHeartbeats 4000000 in
theorem proom_any {p : Nat} {F : Nat → Prop} {S : StoreD} (w : World) (h : PagerAt w p F S) :
    Calls Tryz.prog 50 #[.pointer (some ⟨p, 0, none⟩)] w fun e w' => e = .returned (.int .i64 (roomS S)) ∧ ∃ F', PagerAt w' p F' S ∧ Keeps F F' w w' := by
  have cU := used_any w h
  have hm := h.most
  have hsz := h.size 0
  have HT : Hid (∀ k, takenS S (k + 1) = takenS S k + if usedS S k = true then 1 else 0) := takenS_succ S
  have HTL : Hid (∀ k, takenS S k ≤ k) := takenS_le S
  have HU : Hid (∀ k, usedS S k = hasL (viewS S 0).data.toList k) := fun k => rfl
  have HRM : Hid (roomS S = S.head.pages - takenS S S.head.pages) := rfl
  obtain ⟨N, hN⟩ : ∃ N, S.head.pages = N := ⟨_, rfl⟩
  have cL : Hid (∀ W s Fs, StoreAt W s Fs S → Calls Tryz.prog 112 #[.pointer (some ⟨s, 0, none⟩)] W fun e w' => e = .returned (.int .i64 N) ∧ W = w') := fun W s Fs hs => by rw [← hN]; exact storeLen_any W hs
  obtain ⟨v, hv⟩ : ∃ v, viewS S 0 = v := ⟨_, rfl⟩
  have hlen : v.data.toList.length = 256 := by rw [← hv]; exact h.full.len 0
  have HC0 : Hid (countL (v.data.toList.take (N / 8)) = takenS S (8 * (N / 8))) := by
    unfold Hid
    rw [countL_bits _ _ (by omega), ← hv]
    rfl
  rw [hv] at cU hsz HU
  rw [hN] at HRM hm
  have cC : Hid (∀ W, Calls Tryz.prog 113 #[.string (v.extract 0 (N / 8))] W fun e w' => e = .returned (.int .i64 (takenS S (8 * (N / 8)))) ∧ W = w') := fun W => by
    have h1 := count_any (v.extract 0 (N / 8)) W (by rw [ByteArray.size_extract]; omega)
    have e : (v.extract 0 (N / 8)).data.toList = v.data.toList.take (N / 8) := by simp
    rw [e, HC0.out] at h1
    exact h1
  have cH : Hid (∀ k W, k < N → Calls Tryz.prog 114 #[.string v, .int .i64 k] W fun e w' => e = .returned (.bool (usedS S k)) ∧ W = w') := fun k W hk => by
    rw [HU.out]
    exact has_any v k W (by omega) (by omega)
  obtain ⟨M, hM⟩ : ∃ M, N / 8 = M := ⟨_, rfl⟩
  rw [hM] at cC
  have hM1 : 8 * M ≤ N := by omega
  have hM2 : N < 8 * M + 8 := by omega
  have u1 : (N : Int).tdiv 8 = (M : Int) := by rw [← hM, Int.tdiv_eq_ediv_of_nonneg (by omega)]; omega
  have u2 : IntKind.i64.wrap (M : Int) = (M : Int) := by rw [IntKind.wrap_i64]; omega
  have hsi : (v.size : Int) = 256 := by omega
  have hMi : (M : Int) ≤ 128 := by omega
  have htm := HTL.out (8 * M)
  clear h hN hv HU HC0 hlen hM
  go_enter Tryz.func50, Tryz.ntmps50
  go_wp2_with (first
    | (go_at_call 111; refine cU.mono ?_; clear cU; rintro e w1 ⟨rfl, F1, hp1, k1⟩; obtain ⟨s1, Fs1, d1, hs1⟩ := hp1.open; have HP := Lib.hid hp1; have HK := Lib.hid k1; have cL1 := cL.out _ _ _ hs1; clear hp1 k1 hs1)
    | (go_at_call 112; refine cL1.mono ?_; clear cL1; rintro e w2 ⟨rfl, rfl⟩)
    | (go_at_call 113; (with_reducible refine (cC.out _).mono ?_); rintro e w3 ⟨rfl, rfl⟩))
  go_loop [6, 7] (fun r i => ∃ k : Nat, 8 * M ≤ k ∧ k ≤ N ∧ i = .int .i64 k ∧ r = .int .i64 ((N : Int) - takenS S k)) (fun _ i => N - (intOf i).toNat)
  case atStart => exact ⟨8 * M, by omega, by omega, by go_num, by first | rfl | trivial⟩
  case round =>
    obtain ⟨k, hk1, hk2, rfl, rfl⟩ := hrel
    have htk : takenS S k ≤ k := HTL.out k
    have HTk := HT.out k
    have HTK : Hid (takenS S (k + 1) = takenS S k + if usedS S k = true then 1 else 0) := HTk
    clear HTk
    by_cases hkl : k < N
    · have q1 : decide ((k : Int) < N) = true := decide_eq_true (by omega)
      have q1' : decide (k < N) = true := decide_eq_true hkl
      have cHk := cH.out k w1 hkl
      generalize usedS S k = b at HTK cHk
      cases b
      · go_wp2_with (go_at_call 114; (with_reducible refine cHk.mono ?_); rintro e w3 ⟨rfl, rfl⟩)
        go_round
        case rel => exact ⟨k + 1, by omega, by omega, by go_num, by rw [HTK.out]; simp⟩
        case measure => simp [intOf]; omega
      · go_wp2_with (go_at_call 114; (with_reducible refine cHk.mono ?_); rintro e w3 ⟨rfl, rfl⟩)
        go_round
        case rel => exact ⟨k + 1, by omega, by omega, by go_num, by rw [HTK.out]; simp; omega⟩
        case measure => simp [intOf]; omega
    · obtain rfl : k = N := by omega
      go_wp2_with fail
      go_ret
      exact ⟨ret_int (by rw [HRM.out]; omega), F1, HP.out, HK.out⟩
def fmtU : ByteArray := bts (withL (withL (List.replicate 256 0) 0 true) 1 true)
/-- a store made ready: no page is given out, no tree has a root -/
def fmtP (S : StoreD) : StoreD := putP (putP S 0 fmtU) 1 ⟨#[]⟩
theorem fmtU_size : fmtU.size = 256 := by unfold fmtU; rw [bts_size, withL_len, withL_len, List.length_replicate]
theorem used_fmt (S : StoreD) (n : Nat) : usedS (fmtP S) n = decide (n < 2) := by
  unfold usedS fmtP
  rw [view_put, if_neg (by omega), view_put, if_pos rfl, padB_full _ fmtU_size]
  unfold fmtU
  rw [bts_data, has_with _ _ _ _ (by rw [withL_len, List.length_replicate]; omega), has_with _ _ _ _ (by rw [List.length_replicate]; omega), has_empty]
  by_cases h1 : n = 1
  · simp [h1]
  · by_cases h0 : n = 0
    · simp [h0]
    · rw [if_neg h1, if_neg h0]; symm; exact decide_eq_false (by omega)
theorem root_fmt (S : StoreD) (i : Nat) : rootS (fmtP S) i = 0 := by
  unfold rootS fmtP
  rw [view_put, if_pos rfl, padB_empty, ← bts_zero, partN_list]
  have h : ∀ l : List UInt8, (∀ x ∈ l, x = 0) → ∀ k, upN l k = 0 := fun l hl k => by
    induction k with
    | zero => rfl
    | succ k ih =>
      unfold upN
      rw [ih]
      cases hq : l[k]? with
      | none => simp
      | some x => rw [hl x (List.mem_of_getElem? hq)]; simp
  exact h _ (fun x hx => List.eq_of_mem_replicate (List.mem_of_mem_take (List.mem_of_mem_drop hx))) _
set_option maxRecDepth 100000 in
set_option maxHeartbeats 4000000 in
theorem pformat_any {p : Nat} {F : Nat → Prop} {S : StoreD} (w : World) (h : PagerAt w p F S) :
    Calls Tryz.prog 84 #[.pointer (some ⟨p, 0, none⟩)] w fun e w' => e = .returned (.int .i64 0) ∧ ∃ F', PagerAt w' p F' (fmtP S) ∧ Keeps F F' w w' := by
  have cM := pmade_any w h
  obtain ⟨s1, Fs1, d1, hs1⟩ := h.open
  have cL := storeLen_any w hs1
  have hp2 := h.pages
  have q0 : decide ((S.head.pages : Int) ≤ 2) = false := decide_eq_false (by omega)
  have HP := Lib.hid h
  have cE : Hid (∀ W, Calls Tryz.prog 145 #[.int .i64 2048] W fun e w' => e = .returned (.string zeroB) ∧ Ext W w') := fun W => empty_any W
  obtain ⟨U, hU⟩ : ∃ U : Nat → ByteArray, U = fun k => if k = 0 then zeroB else if k = 1 then bts (withL (List.replicate 256 0) 0 true) else fmtU := ⟨_, rfl⟩
  have HU0 : Hid (U 0 = zeroB) := by rw [hU]; rfl
  have HU2 : Hid (U 2 = fmtU) := by rw [hU]; rfl
  have cW : Hid (∀ k W, k < 2 → Calls Tryz.prog 146 #[.string (U k), .int .i64 k, .bool true] W fun e w' => e = .returned (.tuple #[.string (U (k + 1)), .bool true]) ∧ Ext W w') := fun k W hk => by
    rcases (by omega : k = 0 ∨ k = 1) with rfl | rfl
    · have h1 := with_any zeroB 0 true W (by omega) (by rw [zeroB_size]; omega) (by rw [zeroB_size]; omega)
      rw [HU0.out, show U 1 = bts (withL (List.replicate 256 0) 0 true) by rw [hU]; rfl]
      rw [← bts_zero, bts_data] at h1
      rw [← bts_zero]
      exact h1
    · have e1 : U 1 = bts (withL (List.replicate 256 0) 0 true) := by rw [hU]; rfl
      have h1 := with_any (U 1) 1 true W (by omega) (by rw [e1, bts_size, withL_len, List.length_replicate]; omega) (by rw [e1, bts_size, withL_len, List.length_replicate]; omega)
      rw [HU2.out]
      rw [e1, bts_data] at h1
      rw [e1]
      exact h1
  have cP0 : Hid (∀ W F1, PagerAt W p F1 S → Calls Tryz.prog 147 #[.pointer (some ⟨p, 0, none⟩), .int .i64 0, .string (U 2)] W fun e w' => e = .returned (.int .i64 0) ∧ ∃ F', PagerAt w' p F' (putP S 0 fmtU) ∧ Keeps F1 F' W w') := fun W F1 hW => by rw [HU2.out]; exact pwrite_any 0 fmtU W hW (by omega) (by rw [fmtU_size]; omega)
  have cP1 : Hid (∀ W F1, PagerAt W p F1 (putP S 0 fmtU) → Calls Tryz.prog 147 #[.pointer (some ⟨p, 0, none⟩), .int .i64 1, .string ⟨#[]⟩] W fun e w' => e = .returned (.int .i64 0) ∧ ∃ F', PagerAt w' p F' (fmtP S) ∧ Keeps F1 F' W w') := fun W F1 hW => pwrite_any 1 ⟨#[]⟩ W hW (by have := hW.pages; omega) (by simp [ByteArray.size])
  clear h hs1 hU
  go_enter Tryz.func84, Tryz.ntmps84
  go_wp2_with (first
    | (go_at_call 144; refine cM.mono ?_; clear cM; rintro e w1 ⟨rfl, rfl⟩)
    | (go_at_call 112; refine cL.mono ?_; clear cL; rintro e w2 ⟨rfl, rfl⟩)
    | (go_at_call 145; refine (cE.out _).mono ?_; rintro e w3 ⟨rfl, hb3⟩; have HB3 := Lib.hid hb3; clear hb3))
  rw [← HU0.out]
  go_loopw [3, 16] (fun u i wr => ∃ k : Nat, k ≤ 2 ∧ i = .int .i64 k ∧ u = .string (U k) ∧ Ext w wr) (fun _ i _ => 2 - (intOf i).toNat)
  case atStart => exact ⟨0, by omega, rfl, rfl, HB3.out⟩
  case round =>
    obtain ⟨k, hk, rfl, rfl, hx⟩ := hrel
    have HX := Lib.hid hx
    clear hx
    by_cases hkl : k < 2
    · have q1 : decide ((k : Int) < 2) = true := decide_eq_true (by omega)
      have cWk := cW.out k wr hkl
      go_wp2_with (go_at_call 146; (with_reducible refine cWk.mono ?_); rintro e w4 ⟨rfl, hb4⟩)
      go_roundw
      case rel => exact ⟨k + 1, by omega, by go_num, rfl, Ext.trans HX.out hb4⟩
      case measure => simp [intOf]; omega
    · obtain rfl : k = 2 := by omega
      go_wp2_with (first
        | (go_at_call 147; (with_reducible refine (cP0.out _ _ (HP.out.ext HX.out)).mono ?_); clear cP0; rintro e w5 ⟨rfl, F5, hp5, k5⟩; have HP5 := Lib.hid hp5; have HK5 := Lib.hid ((Keeps.of HX.out).trans k5); clear hp5 k5)
        | (go_at_call 147; (with_reducible refine (cP1.out _ _ HP5.out).mono ?_); clear cP1; rintro e w6 ⟨rfl, F6, hp6, k6⟩; have HP6 := Lib.hid hp6; have HK6 := Lib.hid (HK5.out.trans k6); clear hp6 k6))
      go_ret
      exact ⟨rfl, F6, HP6.out, HK6.out⟩
set_option maxRecDepth 100000 in
set_option maxHeartbeats 2000000 in
theorem pagerNew_any {s : Nat} {F : Nat → Prop} {S : StoreD} (w : World) (h : StoreAt w s F S) (hl : Live S) (hp : 2 < S.head.pages) :
    Calls Tryz.prog 83 #[.pointer (some ⟨s, 0, none⟩)] w fun e w' => ∃ p F', e = .returned (.tuple #[.pointer (some ⟨p, 0, none⟩), .int .i64 0]) ∧ PagerAt w' p F' S ∧ Keeps F F' w w' ∧ w.heap.size ≤ p := by
  have cR := storeRead_any 0 w h hl (by omega)
  have cC : Hid (∀ W, Calls Tryz.prog 143 #[.int .i64 64] W fun e w' => ∃ c F, e = .returned (.tuple #[.pointer (some ⟨c, 0, none⟩), .int .i64 0]) ∧ CacheAt w' c F [] ∧ Ext W w' ∧ ∀ i, F i → W.heap.size ≤ i) := fun W => cacheNew_any W
  have HH := Lib.hid h.shrink
  clear h
  go_enter Tryz.func83, Tryz.ntmps83
  go_wp2_with (first
    | (go_at_call 142; refine cR.mono ?_; clear cR; rintro e w1 ⟨rfl, hb1⟩; have HB1 := Lib.hid hb1; clear hb1)
    | (go_at_call 143; refine (cC.out _).mono ?_; rintro e w2 ⟨c, Fc, rfl, hc2, hb2, hf2⟩; have HC2 := Lib.hid hc2; have HB2 := Lib.hid (Ext.trans HB1.out hb2); have HF2 := Lib.hid hf2; have HZ1 := Lib.hid HB1.out.size; clear hc2 hb2 hf2))
  go_ret2
  have hx : Ext w2 (w2.alloc (.cells #[.pointer (some ⟨s, 0, none⟩), .pointer (some ⟨c, 0, none⟩)] 195)) := Ext.alloc _ _
  have hX := Ext.trans HB2.out hx
  have hz := HB2.out.size
  obtain ⟨lv, q1, q2, q3⟩ := HC2.out
  refine ⟨w2.heap.size, fun i => i = w2.heap.size ∨ (F i ∧ i < w.heap.size) ∨ (Fc i ∧ i < w2.heap.size), rfl, ⟨s, c, fun i => F i ∧ i < w.heap.size, fun i => Fc i ∧ i < w2.heap.size, [], ⟨Row1.made _ _ _, HH.out.ext hX, CacheAt.ext ⟨lv, q1, ⟨q2, q1.row.lt⟩, fun b e => ⟨q3 b e, (q1.own.lt b e).2⟩⟩ hx, CGood.nil S, hl, hp, fun i a b => ?_, fun a => by omega, fun a => by omega, .inl rfl, fun i a => .inr (.inl a), fun i a => .inr (.inr a), fun i a => Nat.lt_of_lt_of_le a.2 hX.size, fun i a => Nat.lt_of_lt_of_le a.2 hx.size⟩⟩, ⟨Only.of hX, fun i a => ?_⟩, hz⟩
  · have := HF2.out i b.1
    have := HZ1.out
    omega
  · rcases a with a | a | a
    · exact .inr (by omega)
    · exact .inl a.1
    · exact .inr (by have := HF2.out i a.1; have := HZ1.out; omega)
end Go.Proofs.YtojoefcfimmipaaGreat
namespace Go.Proofs.YtojoefcfimmipaaGreat
set_option linter.unusedSimpArgs false
set_option linter.unusedVariables false
open Go.RowKit
/-- ints as cells -/
def encN (n : Int) : List Value := [.int .i64 n]
theorem encN_len (n : Int) : (encN n).length = 1 := rfl
theorem encN_one (n : Int) : ∀ u ∈ encN n, u.oneCell' = true := by
  intro u hu
  simp only [encN, List.mem_cons, List.not_mem_nil, or_false] at hu
  rcases hu with rfl
  rfl
theorem Tryz.infoInt1 : (Tryz.prog.info? 3).map (fun i => (i.zero, i.size, i.bytes)) = some (some (.int .i64 0), 1, 8) := by kernel_rfl
theorem elInt : Elem Tryz.prog 54 3 1 8 := Elem.of Tryz.underlying54 Tryz.infoInt1 rfl (by decide)
theorem sizeStr : (Tryz.prog.info? 9).map (·.size) = some 1 := by kernel_rfl
theorem sizeInt : (Tryz.prog.info? 3).map (·.size) = some 1 := by kernel_rfl
section
variable {α : Type} {enc : α → List Value}
theorem flat1_len (h : ∀ x, (enc x).length = 1) (l : List α) : (l.flatMap enc).length = l.length := by rw [flat_len enc 1 h, Nat.mul_one]
theorem flat1_take (h : ∀ x, (enc x).length = 1) : ∀ (l : List α) (i : Nat), (l.flatMap enc).take i = (l.take i).flatMap enc
  | [], i => by simp
  | x :: l, 0 => by simp
  | x :: l, i + 1 => by
    rw [List.flatMap_cons, List.take_append, h, List.take_of_length_le (by rw [h]; omega), show i + 1 - 1 = i by omega, flat1_take h l i, List.take_succ_cons, List.flatMap_cons]
theorem flat1_drop (h : ∀ x, (enc x).length = 1) : ∀ (l : List α) (i : Nat), (l.flatMap enc).drop i = (l.drop i).flatMap enc
  | [], i => by simp
  | x :: l, 0 => by simp
  | x :: l, i + 1 => by
    rw [List.flatMap_cons, List.drop_append, h, List.drop_of_length_le (by rw [h]; omega), show i + 1 - 1 = i by omega, flat1_drop h l i, List.drop_succ_cons, List.nil_append]
theorem flat1_one (h1 : ∀ x, ∀ u ∈ enc x, u.oneCell' = true) (l : List α) : ∀ v ∈ l.flatMap enc, v.oneCell' = true := fun v hv => by
  obtain ⟨x, _, hx⟩ := List.mem_flatMap.1 hv
  exact h1 x v hx
/-- one more at a place -/
def insL (l : List α) (i : Nat) (x : α) : List α := l.take i ++ x :: l.drop i
theorem insL_len (l : List α) (i : Nat) (x : α) : (insL l i x).length = l.length + 1 := by
  unfold insL
  simp
  omega
theorem insL_flat (h : ∀ x, (enc x).length = 1) (l : List α) (i : Nat) (x : α) : (insL l i x).flatMap enc = (l.flatMap enc).take i ++ enc x ++ (l.flatMap enc).drop i := by
  unfold insL
  rw [List.flatMap_append, List.flatMap_cons, flat1_take h, flat1_drop h, List.append_assoc]
theorem ins_rowR (L spare X : List Value) (i : Nat) (hi : i ≤ L.length) (hs : 1 ≤ spare.length) (hX : X.length = 1) :
    ((L ++ spare).take (i + 1) ++ L.drop i ++ (L ++ spare).drop (i + 1 + (L.drop i).length)).take i ++ X ++ ((L ++ spare).take (i + 1) ++ L.drop i ++ (L ++ spare).drop (i + 1 + (L.drop i).length)).drop (i + X.length) = L.take i ++ X ++ L.drop i ++ spare.drop 1 := by
  have e0 : ((L ++ spare).take (i + 1)).length = i + 1 := by rw [List.length_take, List.length_append]; omega
  have e1 : (L ++ spare).drop (i + 1 + (L.drop i).length) = spare.drop 1 := by
    rw [List.length_drop, show i + 1 + (L.length - i) = L.length + 1 by omega, ← List.drop_drop, List.drop_left]
  rw [e1, hX, List.append_assoc ((L ++ spare).take (i + 1)), List.drop_left' e0, List.take_append_of_le_length (by omega), List.take_take, show min i (i + 1) = i by omega, List.take_append_of_le_length hi, List.append_assoc, List.append_assoc, List.append_assoc]
theorem ins_rowG (L Z X : List Value) (i : Nat) (hi : i ≤ L.length) (hZ : L.length + 1 ≤ (L.take i ++ Z).length) (hX : X.length = 1) :
    ((L.take i ++ Z).take i ++ X ++ (L.take i ++ Z).drop (i + X.length)).take (i + 1) ++ L.drop i ++ ((L.take i ++ Z).take i ++ X ++ (L.take i ++ Z).drop (i + X.length)).drop (i + 1 + (L.drop i).length) = L.take i ++ X ++ L.drop i ++ Z.drop (L.length + 1 - i) := by
  have e0 : (L.take i).length = i := by rw [List.length_take]; omega
  have e1 : (L.take i ++ X).length = i + 1 := by rw [List.length_append, e0, hX]
  have e2 : (L.take i ++ Z).drop (i + 1) = Z.drop 1 := by rw [← List.drop_drop, List.drop_left' e0]
  rw [hX, List.take_left' e0, e2, List.take_left' e1, ← List.drop_drop, List.drop_left' e1, List.drop_drop, List.length_drop]
  congr 2
  omega
end
end Go.Proofs.YtojoefcfimmipaaGreat
