/- store.Format of a new disk. Conditions: its sizes. -/
/- store.newest: the head that counts. Conditions: a disk that has power, whose first blocks bear heads that fit, or none. -/
import Derived.Test.YtojoefcfimmipaaGreatQ07
namespace Go.Proofs.YtojoefcfimmipaaGreat
set_option linter.unusedSimpArgs false
set_option linter.unusedVariables false
open Go.RowKit
/-- a disk of empty blocks, made ready -/
def fmtD (n room pages : Nat) : DiskD := ⟨(List.replicate n zeroB).set 1 zeroB |>.set 0 (padB (headB ⟨2, 0, room, pages⟩)), [], -1, false⟩
theorem readyD_new (n : Nat) (late : List (Nat × ByteArray)) (bl : List ByteArray) (k : Int) (h0 : 0 ≤ k) (h1 : k < bl.length) : readyD ⟨bl, late, -1, false⟩ k = 0 := by
  unfold readyD
  rw [if_neg (by simp), if_neg (by dsimp only; omega)]
theorem useD_new (late : List (Nat × ByteArray)) (bl : List ByteArray) : useD ⟨bl, late, -1, false⟩ = (⟨bl, late, -1, false⟩, 0) := by
  unfold useD
  rw [if_neg (by simp), if_neg (by simp)]
theorem padB_rep (n : Nat) : (⟨#[]⟩ : ByteArray) ++ (⟨Array.replicate n 0⟩ : ByteArray).extract (⟨#[]⟩ : ByteArray).size n = ⟨Array.replicate n 0⟩ := by
  rw [ByteArray.ext_iff, ByteArray.data_append, ByteArray.data_extract]
  simp [ByteArray.size]
theorem padB_empty : padB ⟨#[]⟩ = zeroB := padB_rep 256
set_option maxRecDepth 100000 in
set_option maxHeartbeats 4000000 in
theorem format_new {g : Nat} {F : Nat → Prop} (n room pg : Nat) (w : World) (hd : DiskAt w g F (newD n)) (hn : n ≤ 2048) (hr1 : 1 ≤ room) (hr2 : room + 3 ≤ n) (hpg : pg = min (n - 2 - room) 1024) :
    Calls Tryz.prog 81 #[.pointer (some ⟨g, 0, none⟩), .int .i64 room] w fun e w' => e = .returned (.int .i64 0) ∧ ∃ F', DiskAt w' g F' (fmtD n room pg) ∧ Keeps F F' w w' := by
  have hln : (newD n).blocks.length = n := by simp [newD]
  have cL := diskLen_any w hd
  rw [hln] at cL
  have cR := diskRead_ok 0 w hd rfl (by rw [hln]; omega)
  have HD := Lib.hid hd.shrink
  have HW : Hid (writeD (newD n) 1 ⟨#[]⟩ = (⟨List.replicate n zeroB, [(1, zeroB)], -1, false⟩, 0)) := by
    unfold Hid writeD newD
    rw [readyD_new n _ _ _ (by omega) (by simp; omega), if_neg (by simp), if_neg (by simp [ByteArray.size]), useD_new, if_neg (by simp)]
    rw [padB_empty]
    rfl
  have cW : Hid (∀ W, Ext w W → Calls Tryz.prog 137 #[.pointer (some ⟨g, 0, none⟩), .int .i64 1, .string ⟨#[]⟩] W fun e w' => e = .returned (.int .i64 0) ∧ ∃ F', DiskAt w' g F' ⟨List.replicate n zeroB, [(1, zeroB)], -1, false⟩ ∧ Keeps F F' W w') := fun W hW => by
    have h1 := diskWrite_any 1 ⟨#[]⟩ W (hd.ext hW) (by simp [newD])
    rw [HW.out] at h1
    exact h1
  have HP : Hid (putD ⟨List.replicate n zeroB, [(1, zeroB)], -1, false⟩ ⟨2, 0, room, pg⟩ = (fmtD n room pg, 0)) := by
    unfold Hid putD
    have e1 : writeD ⟨List.replicate n zeroB, [(1, zeroB)], -1, false⟩ ((2 % 2 : Nat) : Int) (headB ⟨2, 0, room, pg⟩) = (⟨List.replicate n zeroB, [(1, zeroB), (0, padB (headB ⟨2, 0, room, pg⟩))], -1, false⟩, 0) := by
      unfold writeD
      rw [readyD_new n _ _ _ (by omega) (by simp; omega), if_neg (by simp), if_neg (by rw [headB_size]; omega), useD_new, if_neg (by simp)]
      rfl
    dsimp only
    rw [e1]
    rw [if_neg (by simp)]
    unfold flushD
    rw [readyD_new n _ _ _ (by omega) (by simp; omega), if_neg (by simp), useD_new, if_neg (by simp)]
    rfl
  obtain ⟨V, hV, hmin⟩ : ∃ V : Int, V = pg ∧ ((1024 : Int) < (n : Int) - 2 - room ∧ V = 1024 ∨ ¬ (1024 : Int) < (n : Int) - 2 - room ∧ V = (n : Int) - 2 - room) := ⟨pg, rfl, by omega⟩
  have cP : Hid (∀ (W : World) (F1 : Nat → Prop), DiskAt W g F1 ⟨List.replicate n zeroB, [(1, zeroB)], -1, false⟩ → Calls Tryz.prog 138 #[.pointer (some ⟨g, 0, none⟩), .agg #[.int .u64 2, .int .i64 0, .int .i64 room, .int .i64 V]] W fun e w' => e = .returned (.int .i64 0) ∧ ∃ F', DiskAt w' g F' (fmtD n room pg) ∧ Keeps F1 F' W w') := fun W F1 hW => by
    have h1 := put_any ⟨2, 0, room, pg⟩ W hW ⟨by dsimp only; omega, by dsimp only; omega, by dsimp only; omega, by dsimp only; omega⟩ (by simp)
    rw [HP.out] at h1
    rw [hV]
    exact h1
  obtain ⟨FD, hFD⟩ : ∃ FD, fmtD n room pg = FD := ⟨_, rfl⟩
  rw [hFD] at cP ⊢
  have q1 : decide ((room : Int) < 1) = false := decide_eq_false (by omega)
  have q2 : decide ((n : Int) < room) = false := decide_eq_false (by omega)
  have q3 : decide ((n : Int) - 2 - room < 1) = false := decide_eq_false (by omega)
  obtain ⟨bx, hbx⟩ : ∃ bx, blockD (newD n) 0 = bx := ⟨_, rfl⟩
  rw [hbx] at cR
  clear hbx hFD hd hln HW HP hV hpg
  rcases hmin with ⟨q4, rfl⟩ | ⟨q4, rfl⟩ <;> (
    go_enter Tryz.func81, Tryz.ntmps81
    go_wp2_with (first
      | (go_at_call 135; refine cL.mono ?_; clear cL; rintro e w1 ⟨rfl, rfl⟩)
      | (go_at_call 136; refine cR.mono ?_; clear cR; rintro e w1 ⟨rfl, hb1⟩)
      | (go_at_call 137; refine (cW.out _ hb1).mono ?_; rintro e w2 ⟨rfl, F2, hd2, hk2⟩)
      | (go_at_call 138; refine (cP.out _ _ hd2).mono ?_; rintro e w3 ⟨rfl, F3, hd3, hk3⟩))
    go_ret
    exact ⟨rfl, F3, hd3, Keeps.trans (Keeps.trans (Keeps.of hb1) hk2) hk3⟩)
end Go.Proofs.YtojoefcfimmipaaGreat
namespace Go.Proofs.YtojoefcfimmipaaGreat
set_option linter.unusedSimpArgs false
set_option linter.unusedVariables false
open Go.RowKit
def zeroH : HeadD := ⟨0, 0, 0, 0⟩
structure FitsH (N : Nat) (h : HeadD) : Prop where
  ok : HeadOk h
  room : 1 ≤ h.room
  pages : 1 ≤ h.pages
  most : h.pages ≤ 1024
  used : h.used ≤ h.room
  fits : 2 + h.room + h.pages ≤ N
/-- what a block is as a head: it is one that fits, or none -/
def IsHead (N : Nat) (b : ByteArray) : Prop := readH b = (zeroH, false) ∨ ∃ h, readH b = (h, true) ∧ FitsH N h
def bestH (D : DiskD) : Nat → HeadD × Bool
  | 0 => (zeroH, false)
  | k + 1 => if (readH (blockD D k)).2 = true ∧ (bestH D k).1.seq < (readH (blockD D k)).1.seq ∧ (readH (blockD D k)).1.seq % 2 = k then ((readH (blockD D k)).1, true) else bestH D k
theorem bestH_ok (D : DiskD) (hD : ∀ i, i < 2 → IsHead D.blocks.length (blockD D i)) : ∀ k, k ≤ 2 → HeadOk (bestH D k).1 ∧ ((bestH D k).2 = true → FitsH D.blocks.length (bestH D k).1)
  | 0, _ => ⟨⟨by simp [bestH, zeroH], by simp [bestH, zeroH], by simp [bestH, zeroH], by simp [bestH, zeroH]⟩, fun h => by cases h⟩
  | k + 1, hk => by
    have ih := bestH_ok D hD k (by omega)
    unfold bestH
    split
    · rename_i hc
      rcases hD k (by omega) with h | ⟨h, h1, h2⟩
      · rw [h] at hc; exact absurd hc.1 (by simp)
      · rw [h1]; exact ⟨h2.ok, fun _ => h2⟩
    · exact ih
def newestH (D : DiskD) : HeadD × Bool := bestH D 2
def newestE (D : DiskD) : Int := if (newestH D).2 = true then 0 else 14
set_option maxRecDepth 100000 in
set_option maxHeartbeats 4000000 in
theorem newest_any {g : Nat} {F : Nat → Prop} {D : DiskD} (w : World) (h : DiskAt w g F D) (hd : D.dead = false) (hN : 2 ≤ D.blocks.length) (hD : ∀ i, i < 2 → IsHead D.blocks.length (blockD D i)) (hsz : ∀ i, (blockD D i).size = 256) :
    Calls Tryz.prog 139 #[.pointer (some ⟨g, 0, none⟩)] w fun e w' => e = .returned (.tuple #[(newestH D).1.val, .int .i64 (newestE D)]) ∧ Ext w w' := by
  have cR : Hid (∀ (k : Nat) W, k < 2 → Ext w W → Calls Tryz.prog 136 #[.pointer (some ⟨g, 0, none⟩), .int .i64 k] W fun e w' => e = .returned (.tuple #[.string (blockD D k), .int .i64 0]) ∧ Ext W w') := fun k W hk hW => diskRead_ok k W (h.ext hW) hd (by omega)
  have cH : Hid (∀ (b : ByteArray) W, b.size = 256 → Calls Tryz.prog 180 #[.string b] W fun e w' => e = .returned (.tuple #[(readH b).1.val, .bool (readH b).2]) ∧ Ext W w') := fun b W hb => readHead_any b W (by omega) (by omega)
  have cL : Hid (∀ W, Ext w W → Calls Tryz.prog 135 #[.pointer (some ⟨g, 0, none⟩)] W fun e w' => e = .returned (.int .i64 D.blocks.length) ∧ W = w') := fun W hW => diskLen_any W (h.ext hW)
  have HSZ := Lib.hid hsz
  have HB := Lib.hid (bestH_ok D hD)
  have HD := Lib.hid hD
  have HN := Lib.hid h.wf.many
  clear h hd hsz hD
  go_enter Tryz.func139, Tryz.ntmps139
  go_wp2_with fail
  go_loopw [12, 5] (fun i fd wr => ∃ k : Nat, k ≤ 2 ∧ i = .int .i64 k ∧ fd = .bool (bestH D k).2 ∧ Row1 wr w.heap.size 227 zeroH.cells ∧ Row1 wr (w.heap.size + 1) 227 (bestH D k).1.cells ∧ Ext w wr) (fun i _ _ => 2 - (intOf i).toNat)
  case atStart => exact ⟨0, by omega, rfl, rfl, (Row1.made w _ zeroH.cells).alloc _, Row1.made' (by simp) _ zeroH.cells, by (repeat' (with_reducible first | exact Below.refl _ _ | refine Ext.drewN ?_ _ | refine Below.drew ?_ | refine Below.setCell ?_ ?_ _ | refine Below.alloc ?_ ?_ _)) <;> (first | omega | (simp; done) | (simp; omega))⟩
  case round =>
    obtain ⟨k, hk, rfl, rfl, hr0, hr1, hx⟩ := hrel
    have HX := Lib.hid hx
    have hz := hx.size
    have HR0 := Lib.hid hr0
    have HR1 := Lib.hid hr1
    clear hx hr0 hr1
    by_cases hkl : k < 2
    · have q1 : decide ((k : Int) < 2) = true := decide_eq_true (by omega)
      obtain ⟨bk, hbk⟩ : ∃ bk, blockD D k = bk := ⟨_, rfl⟩
      have HSK : Hid (bk.size = 256) := by unfold Hid; rw [← hbk]; exact HSZ.out k
      have cR2 : Hid (∀ W, Ext w W → Calls Tryz.prog 136 #[.pointer (some ⟨g, 0, none⟩), .int .i64 k] W fun e w' => e = .returned (.tuple #[.string bk, .int .i64 0]) ∧ Ext W w') := fun W hW => by rw [← hbk]; exact cR.out k W hkl hW
      have HS : Hid (bestH D (k + 1) = if (readH bk).2 = true ∧ (bestH D k).1.seq < (readH bk).1.seq ∧ (readH bk).1.seq % 2 = k then ((readH bk).1, true) else bestH D k) := by unfold Hid; rw [← hbk]; rfl
      have HDK := HD.out k hkl
      rw [hbk] at HDK
      clear hbk
      rcases HDK with hv | ⟨h, hv, hfit⟩
      · have HS1 : Hid (bestH D (k + 1) = bestH D k) := by unfold Hid; rw [HS.out, hv, if_neg (by simp)]
        have cH2 : Hid (∀ W, Calls Tryz.prog 180 #[.string bk] W fun e w' => e = .returned (.tuple #[.agg #[.int .u64 0, .int .i64 0, .int .i64 0, .int .i64 0], .bool false]) ∧ Ext W w') := fun W => by
          have h1 := cH.out bk W HSK.out
          rw [hv] at h1
          exact h1
        clear hv HS
        go_upto_region 11 with (first | (go_at_call 136; refine (cR2.out _ HX.out).mono ?_; rintro e w1 ⟨rfl, hb1⟩; have HB1 := Lib.hid (Ext.trans HX.out hb1); have HB1r := Lib.hid hb1; clear hb1) | (go_at_call 180; refine (cH2.out _).mono ?_; rintro e w2 ⟨rfl, hb2⟩; have HB2 := Lib.hid (Ext.trans HB1.out hb2); have HBR := Lib.hid (Ext.trans HB1r.out hb2); clear hb2))
        have HKS : Hid (∀ W, Ext (w2.alloc (.cells #[.int .u64 0, .int .i64 0, .int .i64 0, .int .i64 0] 227)) W → W.cell? ⟨w2.heap.size, 2, none⟩ = some (.int .i64 0) ∧ W.cell? ⟨w2.heap.size, 3, none⟩ = some (.int .i64 0)) := fun W hW => by
          have hr := (Row1.made w2 227 zeroH.cells).ext hW (by simp)
          exact ⟨hr.cell 2, hr.cell 3⟩
        refine wp_region_held_drew (S := fun W => W.cell? ⟨w2.heap.size, 2, none⟩ = some (.int .i64 0) ∧ W.cell? ⟨w2.heap.size, 3, none⟩ = some (.int .i64 0)) (by kernel_rfl) (HKS.out _ (by (repeat' (with_reducible first | exact Below.refl _ _ | refine Ext.drewN ?_ _ | refine Below.drew ?_ | refine Below.setCell ?_ ?_ _ | refine Below.alloc ?_ ?_ _)) <;> (first | omega | (simp; done) | (simp; omega)))) (fun hHeld => ?_)
        refine' tk 0 ?_; (try simp only [Act.put, List.setIfInBounds_toArray, List.set_cons_zero, List.set_cons_succ])
        refine' tk 1 ?_; (try simp only [Act.put, List.setIfInBounds_toArray, List.set_cons_zero, List.set_cons_succ])
        refine' tk 2 ?_; (try simp only [Act.put, List.setIfInBounds_toArray, List.set_cons_zero, List.set_cons_succ])
        refine' tk 3 ?_; (try simp only [Act.put, List.setIfInBounds_toArray, List.set_cons_zero, List.set_cons_succ])
        refine' tkn 4 ?_; (try simp only [Act.put, List.setIfInBounds_toArray, List.set_cons_zero, List.set_cons_succ])
        refine' tkn 5 ?_; (try simp only [Act.put, List.setIfInBounds_toArray, List.set_cons_zero, List.set_cons_succ])
        refine' tkn 6 ?_; (try simp only [Act.put, List.setIfInBounds_toArray, List.set_cons_zero, List.set_cons_succ])
        refine' tk 7 ?_; (try simp only [Act.put, List.setIfInBounds_toArray, List.set_cons_zero, List.set_cons_succ])
        refine' tk 8 ?_; (try simp only [Act.put, List.setIfInBounds_toArray, List.set_cons_zero, List.set_cons_succ])
        refine' tkn 9 ?_; (try simp only [Act.put, List.setIfInBounds_toArray, List.set_cons_zero, List.set_cons_succ])
        refine' tkn 10 ?_; (try simp only [Act.put, List.setIfInBounds_toArray, List.set_cons_zero, List.set_cons_succ])
        refine' tkn 11 ?_; (try simp only [Act.put, List.setIfInBounds_toArray, List.set_cons_zero, List.set_cons_succ])
        refine' tk 12 ?_; (try simp only [Act.put, List.setIfInBounds_toArray, List.set_cons_zero, List.set_cons_succ])
        refine' tk 13 ?_; (try simp only [Act.put, List.setIfInBounds_toArray, List.set_cons_zero, List.set_cons_succ])
        refine' tkn 14 ?_; (try simp only [Act.put, List.setIfInBounds_toArray, List.set_cons_zero, List.set_cons_succ])
        refine' tkn 15 ?_; (try simp only [Act.put, List.setIfInBounds_toArray, List.set_cons_zero, List.set_cons_succ])
        refine' tkn 16 ?_; (try simp only [Act.put, List.setIfInBounds_toArray, List.set_cons_zero, List.set_cons_succ])
        refine' tkn 17 ?_; (try simp only [Act.put, List.setIfInBounds_toArray, List.set_cons_zero, List.set_cons_succ])
        refine' tkn 18 ?_; (try simp only [Act.put, List.setIfInBounds_toArray, List.set_cons_zero, List.set_cons_succ])
        refine' tk 19 ?_; (try simp only [Act.put, List.setIfInBounds_toArray, List.set_cons_zero, List.set_cons_succ])
        refine' tk 20 ?_; (try simp only [Act.put, List.setIfInBounds_toArray, List.set_cons_zero, List.set_cons_succ])
        refine' tkn 21 ?_; (try simp only [Act.put, List.setIfInBounds_toArray, List.set_cons_zero, List.set_cons_succ])
        refine' tkn 22 ?_; (try simp only [Act.put, List.setIfInBounds_toArray, List.set_cons_zero, List.set_cons_succ])
        refine' tkn 23 ?_; (try simp only [Act.put, List.setIfInBounds_toArray, List.set_cons_zero, List.set_cons_succ])
        refine' tkn 24 ?_; (try simp only [Act.put, List.setIfInBounds_toArray, List.set_cons_zero, List.set_cons_succ])
        refine' tkn 25 ?_; (try simp only [Act.put, List.setIfInBounds_toArray, List.set_cons_zero, List.set_cons_succ])
        refine' tk 26 ?_; (try simp only [Act.put, List.setIfInBounds_toArray, List.set_cons_zero, List.set_cons_succ])
        refine' tk 27 ?_; (try simp only [Act.put, List.setIfInBounds_toArray, List.set_cons_zero, List.set_cons_succ])
        refine' tkn 28 ?_; (try simp only [Act.put, List.setIfInBounds_toArray, List.set_cons_zero, List.set_cons_succ])
        refine' tkn 29 ?_; (try simp only [Act.put, List.setIfInBounds_toArray, List.set_cons_zero, List.set_cons_succ])
        refine' tkn 30 ?_; (try simp only [Act.put, List.setIfInBounds_toArray, List.set_cons_zero, List.set_cons_succ])
        refine' tkn 31 ?_; (try simp only [Act.put, List.setIfInBounds_toArray, List.set_cons_zero, List.set_cons_succ])
        refine' tkn 32 ?_; (try simp only [Act.put, List.setIfInBounds_toArray, List.set_cons_zero, List.set_cons_succ])
        refine' tkn 33 ?_; (try simp only [Act.put, List.setIfInBounds_toArray, List.set_cons_zero, List.set_cons_succ])
        refine' tkn 34 ?_; (try simp only [Act.put, List.setIfInBounds_toArray, List.set_cons_zero, List.set_cons_succ])
        refine' tkn 35 ?_; (try simp only [Act.put, List.setIfInBounds_toArray, List.set_cons_zero, List.set_cons_succ])
        refine' tkn 36 ?_; (try simp only [Act.put, List.setIfInBounds_toArray, List.set_cons_zero, List.set_cons_succ])
        refine' tk 37 ?_; (try simp only [Act.put, List.setIfInBounds_toArray, List.set_cons_zero, List.set_cons_succ])
        refine' tk 38 ?_; (try simp only [Act.put, List.setIfInBounds_toArray, List.set_cons_zero, List.set_cons_succ])
        refine wpAnyH_done (by kernel_rfl) ?_ _
        go_wp2_with fail
        go_roundw
        case rel => exact ⟨k + 1, by omega, by go_num, by rw [HS1.out], HR0.out.ext (Ext.trans HBR.out (by (repeat' (with_reducible first | exact Below.refl _ _ | refine Ext.drewN ?_ _ | refine Below.drew ?_ | refine Below.setCell ?_ ?_ _ | refine Below.alloc ?_ ?_ _)) <;> (first | omega | (simp; done) | (simp; omega)))) HR0.out.lt, by rw [HS1.out]; exact HR1.out.ext (Ext.trans HBR.out (by (repeat' (with_reducible first | exact Below.refl _ _ | refine Ext.drewN ?_ _ | refine Below.drew ?_ | refine Below.setCell ?_ ?_ _ | refine Below.alloc ?_ ?_ _)) <;> (first | omega | (simp; done) | (simp; omega)))) HR1.out.lt, Ext.trans HB2.out (by (repeat' (with_reducible first | exact Below.refl _ _ | refine Ext.drewN ?_ _ | refine Below.drew ?_ | refine Below.setCell ?_ ?_ _ | refine Below.alloc ?_ ?_ _)) <;> (first | omega | (simp; done) | (simp; omega)))⟩
        case measure => simp [intOf]; omega
      · obtain ⟨h1, h2, h3, h4⟩ := hfit.ok
        obtain ⟨s, us, ro, pa⟩ := h
        have h5 := hfit.room
        have h6 := hfit.pages
        have h7 := hfit.most
        have h8 := hfit.used
        have h9 := hfit.fits
        dsimp only at h1 h2 h3 h4 h5 h6 h7 h8 h9
        have cH2 : Hid (∀ W, Calls Tryz.prog 180 #[.string bk] W fun e w' => e = .returned (.tuple #[.agg #[.int .u64 s, .int .i64 us, .int .i64 ro, .int .i64 pa], .bool true]) ∧ Ext W w') := fun W => by
          have h1 := cH.out bk W HSK.out
          rw [hv] at h1
          exact h1
        have HS1 : Hid (bestH D (k + 1) = if (bestH D k).1.seq < s ∧ s % 2 = k then (⟨s, us, ro, pa⟩, true) else bestH D k) := by unfold Hid; rw [HS.out, hv]; simp
        clear hv HS
        go_upto_region 11 with (first | (go_at_call 136; refine (cR2.out _ HX.out).mono ?_; rintro e w1 ⟨rfl, hb1⟩; have HB1 := Lib.hid (Ext.trans HX.out hb1); have HB1r := Lib.hid hb1; clear hb1) | (go_at_call 180; refine (cH2.out _).mono ?_; rintro e w2 ⟨rfl, hb2⟩; have HB2 := Lib.hid (Ext.trans HB1.out hb2); have HBR := Lib.hid (Ext.trans HB1r.out hb2); clear hb2))
        have HKS : Hid (∀ W, Ext (w2.alloc (.cells #[.int .u64 s, .int .i64 us, .int .i64 ro, .int .i64 pa] 227)) W → W.cell? ⟨w2.heap.size, 0, none⟩ = some (.int .u64 s) ∧ W.cell? ⟨w2.heap.size, 1, none⟩ = some (.int .i64 us) ∧ W.cell? ⟨w2.heap.size, 2, none⟩ = some (.int .i64 ro) ∧ W.cell? ⟨w2.heap.size, 3, none⟩ = some (.int .i64 pa)) := fun W hW => by
          have hr := (Row1.made w2 227 [.int .u64 s, .int .i64 us, .int .i64 ro, .int .i64 pa]).ext hW (by simp)
          exact ⟨hr.cell 0, hr.cell 1, hr.cell 2, hr.cell 3⟩
        have p1 : decide (1 ≤ (ro : Int)) = true := decide_eq_true (by omega)
        have p2 : decide (1 ≤ (pa : Int)) = true := decide_eq_true (by omega)
        have p3 : decide ((pa : Int) ≤ 1024) = true := decide_eq_true (by omega)
        have p4 : decide ((us : Int) ≤ ro) = true := decide_eq_true (by omega)
        have p5 : decide ((ro : Int) ≤ D.blocks.length) = true := decide_eq_true (by omega)
        have p5' : decide (ro ≤ D.blocks.length) = true := decide_eq_true (by omega)
        have p6 : decide ((2 : Int) + ro + pa ≤ D.blocks.length) = true := decide_eq_true (by omega)
        refine wp_region_held_drew (S := fun W => W.cell? ⟨w2.heap.size, 0, none⟩ = some (.int .u64 s) ∧ W.cell? ⟨w2.heap.size, 1, none⟩ = some (.int .i64 us) ∧ W.cell? ⟨w2.heap.size, 2, none⟩ = some (.int .i64 ro) ∧ W.cell? ⟨w2.heap.size, 3, none⟩ = some (.int .i64 pa)) (by kernel_rfl) (HKS.out _ (by (repeat' (with_reducible first | exact Below.refl _ _ | refine Ext.drewN ?_ _ | refine Below.drew ?_ | refine Below.setCell ?_ ?_ _ | refine Below.alloc ?_ ?_ _)) <;> (first | omega | (simp; done) | (simp; omega)))) (fun hHeld => ?_)
        refine' tk 0 ?_; (try simp only [Act.put, List.setIfInBounds_toArray, List.set_cons_zero, List.set_cons_succ])
        refine' tk 1 ?_; (try simp only [Act.put, List.setIfInBounds_toArray, List.set_cons_zero, List.set_cons_succ])
        refine' tk 2 ?_; (try simp only [Act.put, List.setIfInBounds_toArray, List.set_cons_zero, List.set_cons_succ])
        refine' tk 3 ?_; (try simp only [Act.put, List.setIfInBounds_toArray, List.set_cons_zero, List.set_cons_succ])
        refine' tk 4 ?_; (try simp only [Act.put, List.setIfInBounds_toArray, List.set_cons_zero, List.set_cons_succ])
        refine' tk 5 ?_; (try simp only [Act.put, List.setIfInBounds_toArray, List.set_cons_zero, List.set_cons_succ])
        refine' tk 6 ?_; (try simp only [Act.put, List.setIfInBounds_toArray, List.set_cons_zero, List.set_cons_succ])
        refine' tk 7 ?_; (try simp only [Act.put, List.setIfInBounds_toArray, List.set_cons_zero, List.set_cons_succ])
        refine' tk 8 ?_; (try simp only [Act.put, List.setIfInBounds_toArray, List.set_cons_zero, List.set_cons_succ])
        refine' tk 9 ?_; (try simp only [Act.put, List.setIfInBounds_toArray, List.set_cons_zero, List.set_cons_succ])
        refine' tk 10 ?_; (try simp only [Act.put, List.setIfInBounds_toArray, List.set_cons_zero, List.set_cons_succ])
        refine' tk 11 ?_; (try simp only [Act.put, List.setIfInBounds_toArray, List.set_cons_zero, List.set_cons_succ])
        refine' tk 12 ?_; (try simp only [Act.put, List.setIfInBounds_toArray, List.set_cons_zero, List.set_cons_succ])
        refine' tk 13 ?_; (try simp only [Act.put, List.setIfInBounds_toArray, List.set_cons_zero, List.set_cons_succ])
        refine' tk 14 ?_; (try simp only [Act.put, List.setIfInBounds_toArray, List.set_cons_zero, List.set_cons_succ])
        refine' tk 15 ?_; (try simp only [Act.put, List.setIfInBounds_toArray, List.set_cons_zero, List.set_cons_succ])
        refine' tk 16 ?_; (try simp only [Act.put, List.setIfInBounds_toArray, List.set_cons_zero, List.set_cons_succ])
        refine' tk 17 ?_; (try simp only [Act.put, List.setIfInBounds_toArray, List.set_cons_zero, List.set_cons_succ])
        refine' tk 18 ?_; (try simp only [Act.put, List.setIfInBounds_toArray, List.set_cons_zero, List.set_cons_succ])
        refine' tk 19 ?_; (try simp only [Act.put, List.setIfInBounds_toArray, List.set_cons_zero, List.set_cons_succ])
        refine' tk 20 ?_; (try simp only [Act.put, List.setIfInBounds_toArray, List.set_cons_zero, List.set_cons_succ])
        refine' tk 21 ?_; (try simp only [Act.put, List.setIfInBounds_toArray, List.set_cons_zero, List.set_cons_succ])
        refine' tk 22 ?_; (try simp only [Act.put, List.setIfInBounds_toArray, List.set_cons_zero, List.set_cons_succ])
        refine' tk 23 ?_; (try simp only [Act.put, List.setIfInBounds_toArray, List.set_cons_zero, List.set_cons_succ])
        refine stp 24 (fun K hK => ?_); go_simp
        refine (cL.out _ (Ext.trans HB2.out (by (repeat' (with_reducible first | exact Below.refl _ _ | refine Ext.drewN ?_ _ | refine Below.drew ?_ | refine Below.setCell ?_ ?_ _ | refine Below.alloc ?_ ?_ _)) <;> (first | omega | (simp; done) | (simp; omega))))).mono ?_
        rintro e w3 ⟨rfl, rfl⟩
        (try dsimp only)
        (try go_simp)
        refine hK.out _ _ (HKS.out _ (by (repeat' (with_reducible first | exact Below.refl _ _ | refine Ext.drewN ?_ _ | refine Below.drew ?_ | refine Below.setCell ?_ ?_ _ | refine Below.alloc ?_ ?_ _)) <;> (first | omega | (simp; done) | (simp; omega)))) (fun hHeld => ?_)
        clear hK K
        (try simp only [Act.put, List.setIfInBounds_toArray, List.set_cons_zero, List.set_cons_succ])
        refine' tk 25 ?_; (try simp only [Act.put, List.setIfInBounds_toArray, List.set_cons_zero, List.set_cons_succ])
        refine' tk 26 ?_; (try simp only [Act.put, List.setIfInBounds_toArray, List.set_cons_zero, List.set_cons_succ])
        refine' tk 27 ?_; (try simp only [Act.put, List.setIfInBounds_toArray, List.set_cons_zero, List.set_cons_succ])
        refine' tk 28 ?_; (try simp only [Act.put, List.setIfInBounds_toArray, List.set_cons_zero, List.set_cons_succ])
        refine' tk 29 ?_; (try simp only [Act.put, List.setIfInBounds_toArray, List.set_cons_zero, List.set_cons_succ])
        refine' tk 30 ?_; (try simp only [Act.put, List.setIfInBounds_toArray, List.set_cons_zero, List.set_cons_succ])
        refine' tk 31 ?_; (try simp only [Act.put, List.setIfInBounds_toArray, List.set_cons_zero, List.set_cons_succ])
        refine' tk 32 ?_; (try simp only [Act.put, List.setIfInBounds_toArray, List.set_cons_zero, List.set_cons_succ])
        refine' tk 33 ?_; (try simp only [Act.put, List.setIfInBounds_toArray, List.set_cons_zero, List.set_cons_succ])
        refine' tk 34 ?_; (try simp only [Act.put, List.setIfInBounds_toArray, List.set_cons_zero, List.set_cons_succ])
        refine stp 35 (fun K hK => ?_); go_simp
        refine (cL.out _ (Ext.trans HB2.out (by (repeat' (with_reducible first | exact Below.refl _ _ | refine Ext.drewN ?_ _ | refine Below.drew ?_ | refine Below.setCell ?_ ?_ _ | refine Below.alloc ?_ ?_ _)) <;> (first | omega | (simp; done) | (simp; omega))))).mono ?_
        rintro e w3 ⟨rfl, rfl⟩
        (try dsimp only)
        (try go_simp)
        refine hK.out _ _ (HKS.out _ (by (repeat' (with_reducible first | exact Below.refl _ _ | refine Ext.drewN ?_ _ | refine Below.drew ?_ | refine Below.setCell ?_ ?_ _ | refine Below.alloc ?_ ?_ _)) <;> (first | omega | (simp; done) | (simp; omega)))) (fun hHeld => ?_)
        clear hK K
        (try simp only [Act.put, List.setIfInBounds_toArray, List.set_cons_zero, List.set_cons_succ])
        refine' tk 36 ?_; (try simp only [Act.put, List.setIfInBounds_toArray, List.set_cons_zero, List.set_cons_succ])
        refine' tk 37 ?_; (try simp only [Act.put, List.setIfInBounds_toArray, List.set_cons_zero, List.set_cons_succ])
        refine' tk 38 ?_; (try simp only [Act.put, List.setIfInBounds_toArray, List.set_cons_zero, List.set_cons_succ])
        refine wpAnyH_done (by kernel_rfl) ?_ _
        obtain ⟨wz, hwz⟩ : ∃ wz, (w2.alloc (.cells #[.int .u64 s, .int .i64 us, .int .i64 ro, .int .i64 pa] 227)).drew = wz := ⟨_, rfl⟩
        rw [hwz]
        have HZ : Hid (Ext w2 wz ∧ Row1 wz w2.heap.size 227 [.int .u64 s, .int .i64 us, .int .i64 ro, .int .i64 pa]) := by
          subst hwz
          exact ⟨by (repeat' (with_reducible first | exact Below.refl _ _ | refine Ext.drewN ?_ _ | refine Below.drew ?_ | refine Below.setCell ?_ ?_ _ | refine Below.alloc ?_ ?_ _)) <;> (first | omega | (simp; done) | (simp; omega)), (Row1.made w2 227 [.int .u64 s, .int .i64 us, .int .i64 ro, .int .i64 pa])⟩
        have HXZ : Hid (Ext w wz ∧ Ext wr wz) := ⟨Ext.trans HB2.out HZ.out.1, Ext.trans HBR.out HZ.out.1⟩
        have HB1' := Lib.hid (HR1.out.ext HXZ.out.2 HR1.out.lt)
        have HB0' := Lib.hid (HR0.out.ext HXZ.out.2 HR0.out.lt)
        have d0 : wz.cell? ⟨w2.heap.size, 0, none⟩ = some (.int .u64 s) := HZ.out.2.cell 0
        have d1 : wz.cell? ⟨w2.heap.size, 1, none⟩ = some (.int .i64 us) := HZ.out.2.cell 1
        have d2 : wz.cell? ⟨w2.heap.size, 2, none⟩ = some (.int .i64 ro) := HZ.out.2.cell 2
        have d3 : wz.cell? ⟨w2.heap.size, 3, none⟩ = some (.int .i64 pa) := HZ.out.2.cell 3
        have g0 : wz.frozen? ⟨w.heap.size + 1, 0, none⟩ = false := HB1'.out.soft 0
        have g1 : wz.frozen? ⟨w.heap.size + 1, 1, none⟩ = false := HB1'.out.soft 1
        have g2 : wz.frozen? ⟨w.heap.size + 1, 2, none⟩ = false := HB1'.out.soft 2
        have g3 : wz.frozen? ⟨w.heap.size + 1, 3, none⟩ = false := HB1'.out.soft 3
        obtain ⟨⟨bs, b1, b2, b3⟩, hbs⟩ : ∃ bs, (bestH D k).1 = bs := ⟨_, rfl⟩
        rw [hbs] at HB1' HS1
        have e0 : wz.cell? ⟨w.heap.size + 1, 0, none⟩ = some (.int .u64 bs) := HB1'.out.cell 0
        have e1 : wz.cell? ⟨w.heap.size + 1, 1, none⟩ = some (.int .i64 b1) := HB1'.out.cell 1
        have e2 : wz.cell? ⟨w.heap.size + 1, 2, none⟩ = some (.int .i64 b2) := HB1'.out.cell 2
        have e3 : wz.cell? ⟨w.heap.size + 1, 3, none⟩ = some (.int .i64 b3) := HB1'.out.cell 3
        have HBS := Lib.hid hbs
        dsimp only at HS1
        clear hwz hbs hHeld
        have u1 : (s : Int).tmod 2 = ((s % 2 : Nat) : Int) := by rw [Int.tmod_eq_emod_of_nonneg (by omega)]; omega
        obtain ⟨m2, hm2⟩ : ∃ m2, s % 2 = m2 := ⟨_, rfl⟩
        have hm3 : m2 < 2 := by omega
        rw [hm2] at u1 HS1
        clear hm2
        by_cases c1 : bs < s
        · have q2 : decide ((bs : Int) < s) = true := decide_eq_true (by omega)
          have q2' : decide (bs < s) = true := decide_eq_true (by omega)
          by_cases c2 : m2 = k
          · subst c2
            rw [if_pos ⟨c1, rfl⟩] at HS1
            have q3 : decide ((m2 : Int) = m2) = true := decide_eq_true rfl
            go_wp2_with fail
            go_roundw
            case rel =>
              have hne : w.heap.size + 1 ≠ w.heap.size := by omega
              refine ⟨m2 + 1, by omega, by go_num, by rw [HS1.out], ?_, ?_, ?_⟩
              · exact (((HB0'.out.setFar (by simp) _).setFar (by simp) _).setFar (by simp) _).setFar (by simp) _
              · rw [HS1.out]
                exact (((HB1'.out.set 0 _).set 1 _).set 2 _).set 3 _
              · have := HXZ.out.1
                (repeat' (with_reducible first | exact HXZ.out.1 | exact Below.refl _ _ | refine Ext.drewN ?_ _ | refine Below.drew ?_ | refine Below.setCell ?_ ?_ _ | refine Below.alloc ?_ ?_ _)) <;> (first | omega | (simp; done) | (simp; omega))
            case measure => simp [intOf]; omega
          · have q3 : decide ((m2 : Int) = k) = false := decide_eq_false (by omega)
            have q3' : ((m2 : Int) == k) = false := by simp; omega
            rw [if_neg (fun h => c2 h.2)] at HS1
            go_wp2_with fail
            go_roundw
            case rel => exact ⟨k + 1, by omega, by go_num, by rw [HS1.out], HB0'.out, by rw [HS1.out, HBS.out]; exact HB1'.out, HXZ.out.1⟩
            case measure => simp [intOf]; omega
        · have q2 : decide ((bs : Int) < s) = false := decide_eq_false (by omega)
          have q2' : decide (bs < s) = false := decide_eq_false (by omega)
          rw [if_neg (fun h => c1 h.1)] at HS1
          go_wp2_with fail
          go_roundw
          case rel => exact ⟨k + 1, by omega, by go_num, by rw [HS1.out], HB0'.out, by rw [HS1.out, HBS.out]; exact HB1'.out, HXZ.out.1⟩
          case measure => simp [intOf]; omega
    · obtain rfl : k = 2 := by omega
      have z0 : wr.cell? ⟨w.heap.size, 0, none⟩ = some (.int .u64 0) := HR0.out.cell 0
      have z1 : wr.cell? ⟨w.heap.size, 1, none⟩ = some (.int .i64 0) := HR0.out.cell 1
      have z2 : wr.cell? ⟨w.heap.size, 2, none⟩ = some (.int .i64 0) := HR0.out.cell 2
      have z3 : wr.cell? ⟨w.heap.size, 3, none⟩ = some (.int .i64 0) := HR0.out.cell 3
      have f0 : wr.frozen? ⟨w.heap.size, 0, none⟩ = false := HR0.out.soft 0
      have f1 : wr.frozen? ⟨w.heap.size, 1, none⟩ = false := HR0.out.soft 1
      have f2 : wr.frozen? ⟨w.heap.size, 2, none⟩ = false := HR0.out.soft 2
      have f3 : wr.frozen? ⟨w.heap.size, 3, none⟩ = false := HR0.out.soft 3
      obtain ⟨bh, bf, hbb⟩ : ∃ bh bf, bestH D 2 = (bh, bf) := ⟨_, _, rfl⟩
      have HQ : Hid (newestH D = (bh, bf)) := hbb
      have HE : Hid (newestE D = if bf = true then 0 else 14) := by unfold Hid newestE; rw [HQ.out]
      have HRQ : Hid (Row1 wr (w.heap.size + 1) 227 bh.cells) := by have := HR1.out; rw [hbb] at this; exact this
      obtain ⟨s, us, ro, pa⟩ := bh
      have m0 : wr.cell? ⟨w.heap.size + 1, 0, none⟩ = some (.int .u64 s) := HRQ.out.cell 0
      have m1 : wr.cell? ⟨w.heap.size + 1, 1, none⟩ = some (.int .i64 us) := HRQ.out.cell 1
      have m2 : wr.cell? ⟨w.heap.size + 1, 2, none⟩ = some (.int .i64 ro) := HRQ.out.cell 2
      have m3 : wr.cell? ⟨w.heap.size + 1, 3, none⟩ = some (.int .i64 pa) := HRQ.out.cell 3
      rw [hbb]
      clear hbb
      cases bf
      · go_wp2_with fail
        refine bodyPost_ret (res_head rfl _ _ w.heap.size ⟨s, us, ro, pa⟩ _ rfl rfl ((((HR0.out.set 0 _).set 1 _).set 2 _).set 3 _)) rfl ?_
        rw [HE.out, HQ.out]
        exact ⟨rfl, by (repeat' (with_reducible first | exact HX.out | exact Below.refl _ _ | refine Ext.drewN ?_ _ | refine Below.drew ?_ | refine Below.setCell ?_ ?_ _ | refine Below.alloc ?_ ?_ _)) <;> (first | omega | (simp; done) | (simp; omega))⟩
      · go_wp2_with fail
        refine bodyPost_ret (res_head rfl _ _ w.heap.size ⟨s, us, ro, pa⟩ _ rfl rfl ((((HR0.out.set 0 _).set 1 _).set 2 _).set 3 _)) rfl ?_
        rw [HE.out, HQ.out]
        exact ⟨rfl, by (repeat' (with_reducible first | exact HX.out | exact Below.refl _ _ | refine Ext.drewN ?_ _ | refine Below.drew ?_ | refine Below.setCell ?_ ?_ _ | refine Below.alloc ?_ ?_ _)) <;> (first | omega | (simp; done) | (simp; omega))⟩
end Go.Proofs.YtojoefcfimmipaaGreat
