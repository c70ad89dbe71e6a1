/- An inner node is read off a page. Conditions: a page that bears one. -/
/- How many bytes a node takes. Conditions: lists that are not too long. -/
/- A node is written. Conditions: a node that a page holds. -/
import Derived.Test.YtojoefcfimmipaaGreatQ19
namespace Go.Proofs.YtojoefcfimmipaaGreat
set_option linter.unusedSimpArgs false
set_option linter.unusedVariables false
open Go.RowKit
theorem kidsL_le (n : NodeD) (j : Nat) : (kidsL n j).length ≤ (kidsL n 0).length := by
  have h : ∀ l : List Int, (l.flatMap kidL).length = 2 * l.length := fun l => by
    induction l with
    | nil => rfl
    | cons c r ih => rw [List.flatMap_cons, List.length_append, ih, List.length_cons]; show 2 + _ = _; omega
  unfold kidsL
  rw [h, h, List.length_drop, List.length_drop]
  omega
theorem or16 (a b : Nat) (ha : a < 256) (hb : b < 256) : bits .or .i64 (a : Int) ((b : Int) * 256) = ((a + b * 256 : Nat) : Int) := by
  have e : (b : Int) * 256 = ((b * 256 : Nat) : Int) := by omega
  rw [e]
  show IntKind.i64.wrap ((BitVec.ofInt 64 ((a : Nat) : Int) ||| BitVec.ofInt 64 ((b * 256 : Nat) : Int)).toNat : Int) = _
  rw [BitVec.toNat_or, BitVec.ofInt_natCast, BitVec.ofInt_natCast, BitVec.toNat_ofNat, BitVec.toNat_ofNat, Nat.mod_eq_of_lt (by omega), Nat.mod_eq_of_lt (by omega), Nat.or_comm, Nat.mul_comm b, show (256 : Nat) = 2 ^ 8 from rfl, ← Nat.two_pow_add_eq_or_of_lt (show a < 2 ^ 8 by omega) b, IntKind.wrap_i64]
  omega
theorem entsL_end' (n : NodeD) {m : Nat} (h : n.keys.length = m) : entsL n m = [] := by rw [← h]; exact entsL_end n
theorem take_snocN (l : List Int) (k : Nat) (h : k < l.length) : l.take (k + 1) = l.take k ++ [l[k]] := by rw [List.take_add_one, List.getElem?_eq_getElem h]; rfl
set_option maxRecDepth 100000 in
set_option maxHeartbeats 4000000 in
theorem parse_inner (n : NodeD) (tail : List UInt8) (w : World) (hn : NodeOk n) (hl : n.leaf = false) (hsz : (nodeL n).length + tail.length ≤ 100000) :
    Calls Tryz.prog 159 #[.string (bts (nodeL n ++ tail))] w fun e w' => ∃ kv vv cv, e = .returned (.tuple #[nodeV n kv vv cv, .int .i64 0]) ∧ NodeAs w' (fun i => w.heap.size ≤ i) n kv vv cv ∧ Ext w w' := by
  obtain ⟨hvl, hkids⟩ := hn.inner hl
  have hnl : nodeL n ++ tail = 2 :: UInt8.ofNat n.keys.length :: (entsL n 0 ++ (kidsL n 0 ++ tail)) := by
    unfold nodeL
    rw [if_neg (by rw [hl]; simp), List.cons_append, List.cons_append, List.append_assoc]
  rw [hnl]
  obtain ⟨tail1, ht1⟩ : ∃ t, kidsL n 0 ++ tail = t := ⟨_, rfl⟩
  have HT1 := Lib.hid ht1
  rw [ht1] at hnl ⊢
  have hsz : (entsL n 0).length + tail1.length + 2 ≤ 100000 := by
    have h1 := congrArg List.length hnl
    simp only [List.length_append, List.length_cons] at h1
    omega
  obtain ⟨L, hL⟩ : ∃ L, entsL n 0 ++ tail1 = L := ⟨_, rfl⟩
  have hLl : L.length = (entsL n 0).length + tail1.length := by rw [← hL, List.length_append]
  rw [hL]
  obtain ⟨s, hs⟩ : ∃ s, bts (2 :: UInt8.ofNat n.keys.length :: L) = s := ⟨_, rfl⟩
  have hss : s.size = 2 + L.length := by rw [← hs, bts_size]; simp; omega
  have hs0 : 0 < s.size := by omega
  have hs1 : 1 < s.size := by omega
  have hb0 : s[0] = 2 := by subst hs; exact bts_at [] _ 2 0 rfl hs0
  have hb1 : s[1] = UInt8.ofNat n.keys.length := by subst hs; exact bts_at [2] _ _ 1 rfl hs1
  have hbn : (s[1].toNat : Int) = n.keys.length := by rw [hb1, UInt8.toNat_ofNat_of_lt' (by have := hn.many; show n.keys.length < 256; omega)]
  have hbz : (s[0].toNat : Int) = 2 := by rw [hb0]; rfl
  have he2 : s.extract 2 s.size = bts (entsL n 0 ++ tail1) := by
    rw [hss, ← hs, hL]
    exact bts_extract_end [2, UInt8.ofNat n.keys.length] L 2 _ rfl rfl
  have hsl : s.size ≤ 100000 := by omega
  have HTX : Hid (∀ (x : ByteArray) (r : List UInt8) W, x.size ≤ 255 → r.length ≤ 100000 → Calls Tryz.prog 204 #[.string (bts (lenL x ++ r))] W fun e w' => e = .returned (.tuple #[.string x, .string (bts r), .bool true]) ∧ Ext W w') := fun x r W h1 h2 => text_any x r W h1 h2
  obtain ⟨m, hm⟩ : ∃ m, n.keys.length = m := ⟨_, rfl⟩
  have HM := Lib.hid hm
  have HVL : Hid (n.vals = [] ∧ n.kids.length = m + 1) := ⟨hvl, by rw [hkids, hm]⟩
  rw [hs]
  rw [hm] at hbn
  have hm255 : m ≤ 255 := by rw [← hm]; exact hn.many
  have HLEN : Hid (∀ k, (entsL n k ++ tail1).length ≤ 100000) := fun k => by
    have := entsL_le n k
    rw [List.length_append]
    omega
  have q1 : decide ((s.size : Int) < 2) = false := decide_eq_false (by omega)
  have q2 : (1 : Int) < s.size := by omega
  have q3 : (0 : Int) < s.size := by omega
  have q4 : (2 : Int) ≤ s.size := by omega
  have HN := Lib.hid hn
  have HLF := Lib.hid hl
  have HTL : Hid (∀ j, (kidsL n j ++ tail).length ≤ 100000) := fun j => by
    have h1 := kidsL_le n j
    have h2 := congrArg List.length ht1
    rw [List.length_append] at h2 ⊢
    omega
  clear hs hss hb0 hb1 hnl hm hn hl hvl hkids hsz hL hLl ht1
  go_enter Tryz.func159, Tryz.ntmps159
  go_wp2_with fail
  go_loopw [0, 34] (fun sv i wr => ∃ (k : Nat) (kv : Value), k ≤ m ∧ i = .int .i64 k ∧ sv = .string (bts (entsL n k ++ tail1)) ∧ PM w wr n.leaf (n.keys.take k) [] [] kv (.slice none 0 0) (.slice none 0 0)) (fun _ i _ => m - (intOf i).toNat)
  case atStart =>
    refine ⟨0, .slice none 0 0, by omega, rfl, rfl, ?_⟩
    rw [List.take_zero, HLF.out]
    exact ⟨(Row1.made w _ _).alloc _, Row1.made' (by simp) _ _, OwnL.nil _ _ _ _ _, OwnL.nil _ _ _ _ _, OwnL.nil _ _ _ _ _, (fun b q => by cases q), by (repeat' (with_reducible first | exact Below.refl _ _ | refine Ext.drewN ?_ _ | refine Below.drew ?_ | refine Below.setCell ?_ ?_ _ | refine Below.alloc ?_ ?_ _)) <;> (first | omega | (simp; done) | (simp; omega))⟩
  case round =>
    obtain ⟨k, kv, hk, rfl, rfl, hp⟩ := hrel
    obtain ⟨K, hK⟩ : ∃ K, n.keys.take k = K := ⟨_, rfl⟩
    have hKl : K.length = k := by rw [← hK, List.length_take, HM.out]; omega
    have hok := hp.ok
    rw [hK] at hok
    obtain ⟨kA, kc, rfl⟩ := OwnL.form hok
    rw [hKl] at hp
    have HP := Lib.hid hp
    have HK := Lib.hid hK
    have HKL := Lib.hid hKl
    have hz := hp.ext.size
    have hb4 := hp.r4.lt
    have r40 : wr.cell? ⟨w.heap.size + 1, 0, none⟩ = some (.bool false) := by rw [← HLF.out]; exact hp.r4.cell 0
    have r41 : wr.cell? ⟨w.heap.size + 1, 1, none⟩ = some (.slice kA k kc) := hp.r4.cell 1
    have r42 : wr.cell? ⟨w.heap.size + 1, 2, none⟩ = some (.slice none 0 0) := hp.r4.cell 2
    have r43 : wr.cell? ⟨w.heap.size + 1, 3, none⟩ = some (.slice none 0 0) := hp.r4.cell 3
    clear hp hok hK hKl
    by_cases hkl : k < m
    · have q5 : decide ((k : Int) < m) = true := decide_eq_true (by omega)
      have q5' : decide (k < m) = true := decide_eq_true hkl
      have hkk : k < n.keys.length := by rw [HM.out]; exact hkl
      have HST : Hid (entsL n k ++ tail1 = lenL n.keys[k] ++ (entsL n (k + 1) ++ tail1)) := by
        unfold Hid
        rw [entsL_step n hkk]
        unfold entL
        rw [if_neg (by rw [HLF.out]; simp), List.getElem?_eq_getElem hkk]
        simp only [Option.getD_some, List.append_assoc, List.nil_append]
      have hk1 := HN.out.keys _ (List.getElem_mem hkk)
      have HK1 := Lib.hid (take_snocS n.keys k hkk)
      obtain ⟨x, hx⟩ : ∃ x, n.keys[k] = x := ⟨_, rfl⟩
      obtain ⟨R, hR⟩ : ∃ R, entsL n (k + 1) ++ tail1 = R := ⟨_, rfl⟩
      have HRR := Lib.hid hR
      rw [hx] at HST HK1 hk1
      rw [hR] at HST
      rw [HST.out]
      have hRl : R.length ≤ 100000 := by rw [← hR]; exact HLEN.out (k + 1)
      have cT1 := fun W => HTX.out x R W hk1 hRl
      have HK1000 : Hid (K.length + 1 ≤ 1000000000) := by have := HKL.out; unfold Hid; omega
      have CT1 := Lib.hid cT1
      clear hx hR cT1
      go_wp2_with (first
        | (go_at_call 204; (with_reducible refine (CT1.out _).mono ?_); clear CT1; rintro e w1 ⟨rfl, hb1⟩; have hz1 := hb1.size; have HP1 := Lib.hid (HP.out.more hb1); have d40 : w1.cell? ⟨w.heap.size + 1, 0, none⟩ = some (.bool false) := (by rw [← HLF.out]; exact HP1.out.r4.cell 0); have d41 : w1.cell? ⟨w.heap.size + 1, 1, none⟩ = some (.slice kA k kc) := HP1.out.r4.cell 1; have HP3a := HP1.out.more (Ext.alloc _ (.cells #[.string x] 9)); have HNK : Hid (some (w.heap.size + 1) ≠ (Value.slice kA k kc).ownBlock) := (fun e => HP3a.ok.apartRow HP3a.r4 (by decide) e.symm); rw [HK.out] at HP3a; have HP3a := Lib.hid HP3a; have G3 : Hid (w.heap.size + 2 ≤ (w1.alloc (.cells #[.string x] 9)).heap.size) := (by unfold Hid; rw [World.size_alloc]; have := HP1.out.r4.lt; omega); clear hb1)
        | (at_builtin; go_loud (refine wpList_push2 elStr encS_len encS_one rfl (.tmp 64) (.tmp 66) rfl (.slice kA k kc) K rfl HP3a.out.ok G3.out w1.heap.size 1 x rfl (Row1.made w1 _ (encS x)) HK1000.out (by decide) ?_; intro A4 c4 w4 hown4 hgr4 hwh4; have HLK : (K ++ [x]).length = k + 1 := (by rw [List.length_append, HKL.out]; rfl); rw [HLK] at hown4 hwh4 ⊢; have HP4 := Lib.hid (PM.pushK HP3a.out hown4 hgr4 hwh4); have HR4 := HP3a.out.r4.grown hgr4 HNK.out; have v41 : w4.cell? ⟨w.heap.size + 1, 1, none⟩ = some (.slice kA k kc) := HR4.cell 1; have vf1 : w4.frozen? ⟨w.heap.size + 1, 1, none⟩ = false := HR4.soft 1; clear hown4 hgr4 hwh4 HR4 HLK)))
      go_roundw
      case rel => exact ⟨k + 1, _, by omega, by go_num, by rw [HRR.out], by rw [HK1.out, HK.out]; exact HP4.out⟩
      case measure => simp [intOf]; omega
    · obtain rfl : k = m := by omega
      have q5 : decide ((k : Int) < k) = false := decide_eq_false (by omega)
      have HKE : Hid (K = n.keys) := by rw [← HK.out, List.take_of_length_le (by rw [HM.out]; exact Nat.le_refl _)]; exact rfl
      have HP := Lib.hid (show PM w wr n.leaf n.keys [] [] (.slice kA k kc) (.slice none 0 0) (.slice none 0 0) by rw [← HKE.out, ← HK.out]; exact HP.out)
      rw [entsL_end' n HM.out, List.nil_append, ← HT1.out]
      go_wp2_with fail
      clear r40 r41 r42 r43
      go_loopw [0, 76] (fun sv i wq => ∃ (j : Nat) (cv : Value), j ≤ k + 1 ∧ i = .int .i64 j ∧ sv = .string (bts (kidsL n j ++ tail)) ∧ PM w wq n.leaf n.keys [] (n.kids.take j) (.slice kA k kc) (.slice none 0 0) cv) (fun _ i _ => k + 1 - (intOf i).toNat)
      case atStart => exact ⟨0, _, by omega, rfl, rfl, by rw [List.take_zero]; exact HP.out⟩
      case round =>
        obtain ⟨j, cv, hj, rfl, rfl, hp⟩ := hrel
        obtain ⟨C, hC⟩ : ∃ C, n.kids.take j = C := ⟨_, rfl⟩
        have hCl : C.length = j := by rw [← hC, List.length_take, HVL.out.2]; omega
        have hoc := hp.oc
        rw [hC] at hoc
        obtain ⟨cA, cc, rfl⟩ := OwnL.form hoc
        rw [hCl] at hp
        have HQ := Lib.hid hp
        have HC := Lib.hid hC
        have HCL := Lib.hid hCl
        have hzq := hp.ext.size
        have hq4 := hp.r4.lt
        have r40 : wr.cell? ⟨w.heap.size + 1, 0, none⟩ = some (.bool false) := by rw [← HLF.out]; exact hp.r4.cell 0
        have r41 : wr.cell? ⟨w.heap.size + 1, 1, none⟩ = some (.slice kA k kc) := hp.r4.cell 1
        have r42 : wr.cell? ⟨w.heap.size + 1, 2, none⟩ = some (.slice none 0 0) := hp.r4.cell 2
        have r43 : wr.cell? ⟨w.heap.size + 1, 3, none⟩ = some (.slice cA j cc) := hp.r4.cell 3
        clear hp hoc hC hCl
        by_cases hjl : j < k + 1
        · have q6 : decide ((j : Int) < k + 1) = true := decide_eq_true (by omega)
          have q6' : decide (j < k + 1) = true := decide_eq_true hjl
          have hjk : j < n.kids.length := by rw [HVL.out.2]; exact hjl
          have hc0 := HN.out.kids _ (List.getElem_mem hjk)
          have HC1 := Lib.hid (take_snocN n.kids j hjk)
          have HST : Hid (kidsL n j ++ tail = UInt8.ofNat (n.kids[j].toNat % 256) :: UInt8.ofNat (n.kids[j].toNat / 256 % 256) :: (kidsL n (j + 1) ++ tail)) := by
            unfold Hid
            rw [kidsL_step n hjk]
            rfl
          obtain ⟨c, hc⟩ : ∃ c : Nat, n.kids[j] = c := ⟨n.kids[j].toNat, by omega⟩
          rw [hc] at HST HC1 hc0
          obtain ⟨R, hR⟩ : ∃ R, kidsL n (j + 1) ++ tail = R := ⟨_, rfl⟩
          have HRR := Lib.hid hR
          rw [hR, Int.toNat_natCast] at HST
          have hRl : R.length ≤ 100000 := by rw [← hR]; exact HTL.out (j + 1)
          obtain ⟨b0, hb0⟩ : ∃ b, c % 256 = b := ⟨_, rfl⟩
          obtain ⟨b1, hb1⟩ : ∃ b, c / 256 % 256 = b := ⟨_, rfl⟩
          have hcb : c = b0 + b1 * 256 := by omega
          have hb0l : b0 < 256 := by omega
          have hb1l : b1 < 256 := by omega
          rw [hb0, hb1] at HST
          obtain ⟨u, hu⟩ : ∃ u, bts (UInt8.ofNat b0 :: UInt8.ofNat b1 :: R) = u := ⟨_, rfl⟩
          have hus : u.size = 2 + R.length := by rw [← hu, bts_size]; simp; omega
          have hu0 : 0 < u.size := by omega
          have hu1 : 1 < u.size := by omega
          have e0 : (u[0].toNat : Int) = b0 := by
            have : u[0] = UInt8.ofNat b0 := by subst hu; exact bts_at [] _ _ 0 rfl hu0
            rw [this, UInt8.toNat_ofNat_of_lt' hb0l]
          have e1 : (u[1].toNat : Int) = b1 := by
            have : u[1] = UInt8.ofNat b1 := by subst hu; exact bts_at [UInt8.ofNat b0] _ _ 1 rfl hu1
            rw [this, UInt8.toNat_ofNat_of_lt' hb1l]
          have e2 : u.extract 2 u.size = bts R := by rw [hus, ← hu]; exact bts_extract_end [UInt8.ofNat b0, UInt8.ofNat b1] R 2 _ rfl rfl
          have q7 : decide ((u.size : Int) < 2) = false := decide_eq_false (by omega)
          have q8 : (1 : Int) < u.size := by omega
          have q9 : (0 : Int) < u.size := by omega
          have q10 : (2 : Int) ≤ u.size := by omega
          have x0 : IntKind.i64.wrap (b0 : Int) = b0 := by rw [IntKind.wrap_i64]; omega
          have x1 : IntKind.i64.wrap (b1 : Int) = b1 := by rw [IntKind.wrap_i64]; omega
          have x2 : IntKind.i64.wrap ((b1 : Int) * 256) = (b1 : Int) * 256 := by rw [IntKind.wrap_i64]; omega
          have x3 : bits .or .i64 (b0 : Int) ((b1 : Int) * 256) = (c : Int) := by rw [or16 b0 b1 hb0l hb1l, ← hcb]
          have q11 : (b0 : Int) < 256 := by omega
          have q12 : (b1 : Int) < 256 := by omega
          rw [HST.out, hu]
          have HCB := Lib.hid hcb
          clear hu hb0 hb1 hc hR hus hcb
          go_upto_region 25 with fail
          have HQm : Hid (∀ W, Ext wr W → PM w W n.leaf n.keys [] C (.slice kA k kc) (.slice none 0 0) (.slice cA j cc)) := fun W hW => by rw [← HC.out]; exact HQ.out.more hW
          have HBX : Hid (∀ W, Ext wr W → w.heap.size + 2 ≤ W.heap.size) := fun W hW => by have := hW.size; omega
          have HNC : Hid (some (w.heap.size + 1) ≠ (Value.slice cA j cc).ownBlock) := (fun e => HQ.out.oc.apartRow HQ.out.r4 (by decide) e.symm)
          have HC1000 : Hid (C.length + 1 ≤ 1000000000) := by have := HCL.out; unfold Hid; omega
          have HLC : Hid ((C ++ [(c : Int)]).length = j + 1) := by unfold Hid; rw [List.length_append, HCL.out]; rfl
          go_region_law (refine step_push2 elInt encN_len encN_one rfl (.tmp 83) (.tmp 92) rfl (.slice cA j cc) C rfl (HQm.out _ (by (repeat' (with_reducible first | exact Below.refl _ _ | refine Ext.drewN ?_ _ | refine Below.drew ?_ | refine Below.setCell ?_ ?_ _ | refine Below.alloc ?_ ?_ _)) <;> (first | omega | (simp; done) | (simp; omega)))).oc (HBX.out _ (by (repeat' (with_reducible first | exact Below.refl _ _ | refine Ext.drewN ?_ _ | refine Below.drew ?_ | refine Below.setCell ?_ ?_ _ | refine Below.alloc ?_ ?_ _)) <;> (first | omega | (simp; done) | (simp; omega)))) _ 1 (c : Int) rfl (Row1.made' (by simp) _ (encN c)) HC1000.out (by decide) ?_; intro A5 c5 w5 hown5 hgr5 hwh5; rw [HLC.out] at hown5 ⊢; have HR5 := Row1.grown (HQm.out _ (by (repeat' (with_reducible first | exact Below.refl _ _ | refine Ext.drewN ?_ _ | refine Below.drew ?_ | refine Below.setCell ?_ ?_ _ | refine Below.alloc ?_ ?_ _)) <;> (first | omega | (simp; done) | (simp; omega)))).r4 hgr5 HNC.out; have g5 : w5.cell? ⟨w.heap.size + 1, 3, none⟩ = _ := HR5.cell 3; have vf5 : w5.frozen? ⟨w.heap.size + 1, 3, none⟩ = false := HR5.soft 3)
          all_goals
            have HQ5 := Lib.hid (PM.pushC (HQm.out _ (by (repeat' (with_reducible first | exact Below.refl _ _ | refine Ext.drewN ?_ _ | refine Below.drew ?_ | refine Below.setCell ?_ ?_ _ | refine Below.alloc ?_ ?_ _)) <;> (first | omega | (simp; done) | (simp; omega)))) hown5 hgr5)
            clear hown5 hgr5 hwh5 HR5
            go_wp2_with fail
            go_roundw
            case rel => exact ⟨j + 1, _, by omega, by go_num, by rw [HRR.out], by rw [HC1.out, HC.out]; exact HQ5.out⟩
            case measure => simp [intOf]; omega
        · obtain rfl : j = k + 1 := by omega
          have q6 : decide (((k + 1 : Nat) : Int) < k + 1) = false := decide_eq_false (by omega)
          have q6' : decide (k + 1 < k + 1) = false := decide_eq_false (by omega)
          have z0 : wr.cell? ⟨w.heap.size, 0, none⟩ = some (.bool false) := HQ.out.r2.cell 0
          have z1 : wr.cell? ⟨w.heap.size, 1, none⟩ = some (.slice none 0 0) := HQ.out.r2.cell 1
          have z2 : wr.cell? ⟨w.heap.size, 2, none⟩ = some (.slice none 0 0) := HQ.out.r2.cell 2
          have z3 : wr.cell? ⟨w.heap.size, 3, none⟩ = some (.slice none 0 0) := HQ.out.r2.cell 3
          have f0 : wr.frozen? ⟨w.heap.size, 0, none⟩ = false := HQ.out.r2.soft 0
          have f1 : wr.frozen? ⟨w.heap.size, 1, none⟩ = false := HQ.out.r2.soft 1
          have f2 : wr.frozen? ⟨w.heap.size, 2, none⟩ = false := HQ.out.r2.soft 2
          have f3 : wr.frozen? ⟨w.heap.size, 3, none⟩ = false := HQ.out.r2.soft 3
          go_wp2_with fail
          refine bodyPost_ret (res_node rfl _ _ w.heap.size n (.slice kA k kc) (.slice none 0 0) (.slice cA (k + 1) cc) _ rfl rfl (by rw [HLF.out]; exact ((((HQ.out.r2.set 0 _).set 1 _).set 2 _).set 3 _))) rfl ?_
          obtain ⟨d1, d2⟩ := HQ.out.done (only4 w.heap.size (.bool false) (.slice kA k kc) (.slice none 0 0) (.slice cA (k + 1) cc))
          rw [List.take_of_length_le (by rw [HVL.out.2]; exact Nat.le_refl _)] at d1
          refine ⟨.slice kA k kc, .slice none 0 0, .slice cA (k + 1) cc, rfl, ?_, d2⟩
          have hk0 := HVL.out.1
          obtain ⟨lf, ks, vs, cs⟩ := n
          dsimp only at hk0 d1 ⊢
          subst hk0
          exact d1
end Go.Proofs.YtojoefcfimmipaaGreat
namespace Go.Proofs.YtojoefcfimmipaaGreat
set_option linter.unusedSimpArgs false
set_option linter.unusedVariables false
open Go.RowKit
theorem encN_flat (l : List Int) (j : Nat) (hj : j < l.length) : (l.flatMap encN)[j]? = some (.int .i64 l[j]) := by
  have := flat_at encN 1 encN_len l j _ (List.getElem?_eq_getElem hj) 0 _ rfl
  simpa using this
theorem ownN_open {w : World} {base : Nat} {e : TypeId} {v : Value} {l : List Int} (h : OwnL w base e 1 encN v l) : ∃ A c, v = .slice A l.length c ∧ l.length ≤ c ∧ c ≤ 9223372036854775807 ∧
    (0 < l.length → ∃ b, A = some ⟨b, 0, none⟩ ∧ base ≤ b ∧ b < w.heap.size ∧ (∀ i, w.frozen? ⟨b, i, none⟩ = false) ∧ ∀ i (hi : i < l.length), w.cell? ⟨b, i, none⟩ = some (.int .i64 l[i])) := by
  have h' : w.ownsRow base e 1 v l.length (l.flatMap encN) := h
  obtain ⟨A, c, rfl, h1, h2, h3⟩ := own_form h'
  exact ⟨A, c, rfl, h1, h2, fun h0 => by
    obtain ⟨b, q1, q2, q3, q4, q5⟩ := h3 h0
    exact ⟨b, q1, q2, q3, q4, fun i hi => q5 i _ (encN_flat l i hi)⟩⟩
theorem kSize_snoc (l : List ByteArray) (k : Nat) (h : k < l.length) : kSize (l.take (k + 1)) = kSize (l.take k) + (1 + l[k].size) := by
  rw [take_snocS l k h]
  unfold kSize
  rw [List.map_append, List.sum_append]
  simp
theorem kSize_le {l : List ByteArray} (h : ∀ k ∈ l, k.size ≤ 1000) : kSize l ≤ 1001 * l.length := by
  induction l with
  | nil => simp [kSize]
  | cons a r ih =>
    have := ih (fun k hk => h k (by simp [hk]))
    have := h a (by simp)
    simp only [kSize, List.map_cons, List.sum_cons, List.length_cons] at *
    omega
theorem kSize_take {l : List ByteArray} (h : ∀ k ∈ l, k.size ≤ 1000) (i : Nat) : kSize (l.take i) ≤ 1001 * l.length := by
  have h1 := kSize_le (l := l.take i) (fun k hk => h k (List.mem_of_mem_take hk))
  have h2 : (l.take i).length ≤ l.length := by rw [List.length_take]; omega
  have := Nat.mul_le_mul_left 1001 h2
  omega
/-- texts of at most 1000 bytes, at most 10000 of each kind -/
structure Fair (n : NodeD) : Prop where
  keys : ∀ k ∈ n.keys, k.size ≤ 1000
  vals : ∀ k ∈ n.vals, k.size ≤ 1000
  k : n.keys.length ≤ 10000
  v : n.vals.length ≤ 10000
  c : n.kids.length ≤ 10000
/-- a node whose lists read as they must: parts of rows too -/
structure NodeRd (w : World) (n : NodeD) (kv vv cv : Value) : Prop where
  keys : Sl w 1 (fun x cs => cs = encS x) kv n.keys
  vals : Sl w 1 (fun x cs => cs = encS x) vv n.vals
  kids : Sl w 1 (fun x cs => cs = encN x) cv n.kids
theorem NodeRd.ext {w w' : World} {n : NodeD} {kv vv cv : Value} (h : NodeRd w n kv vv cv) (hb : Ext w w') : NodeRd w' n kv vv cv := ⟨h.keys.ext hb, h.vals.ext hb, h.kids.ext hb⟩
theorem NodeAs.rd {w : World} {F : Nat → Prop} {n : NodeD} {kv vv cv : Value} (h : NodeAs w F n kv vv cv) : NodeRd w n kv vv cv :=
  ⟨OwnL.sl encS_len (fun _ => rfl) h.keys, OwnL.sl encS_len (fun _ => rfl) h.vals, OwnL.sl encN_len (fun _ => rfl) h.kids⟩
theorem slS_open {w : World} {v : Value} {l : List ByteArray} (h : Sl w 1 (fun x cs => cs = encS x) v l) : ∃ A c, v = .slice A l.length c ∧ l.length ≤ c ∧ c ≤ 9223372036854775807 ∧
    (0 < l.length → ∃ b off, A = some ⟨b, off, none⟩ ∧ b < w.heap.size ∧ ∀ i (hi : i < l.length), w.cell? ⟨b, off + i, none⟩ = some (.string l[i])) := by
  obtain ⟨A, c, rfl⟩ := h.form
  obtain ⟨_, h1, h2, h3⟩ := h.at
  refine ⟨A, c, rfl, h1, h2, fun h0 => ?_⟩
  obtain ⟨b, off, rfl, hb, hx⟩ := h3 h0
  refine ⟨b, off, rfl, hb, fun i hi => ?_⟩
  obtain ⟨cs, rfl, _, hc⟩ := hx i hi
  have := hc 0 _ rfl
  simpa using this
theorem slN_open {w : World} {v : Value} {l : List Int} (h : Sl w 1 (fun x cs => cs = encN x) v l) : ∃ A c, v = .slice A l.length c ∧ l.length ≤ c ∧ c ≤ 9223372036854775807 ∧
    (0 < l.length → ∃ b off, A = some ⟨b, off, none⟩ ∧ b < w.heap.size ∧ ∀ i (hi : i < l.length), w.cell? ⟨b, off + i, none⟩ = some (.int .i64 l[i])) := by
  obtain ⟨A, c, rfl⟩ := h.form
  obtain ⟨_, h1, h2, h3⟩ := h.at
  refine ⟨A, c, rfl, h1, h2, fun h0 => ?_⟩
  obtain ⟨b, off, rfl, hb, hx⟩ := h3 h0
  refine ⟨b, off, rfl, hb, fun i hi => ?_⟩
  obtain ⟨cs, rfl, _, hc⟩ := hx i hi
  have := hc 0 _ rfl
  simpa using this
set_option maxRecDepth 100000 in
set_option maxHeartbeats 4000000 in
theorem size_rd {n : NodeD} {kv vv cv : Value} (w : World) (h : NodeRd w n kv vv cv) (hf : Fair n) :
    Calls Tryz.prog 202 #[.agg #[.bool n.leaf, kv, vv, cv]] w fun e w' => e = .returned (.int .i64 (sizeN n)) ∧ Ext w w' := by
  obtain ⟨kA, kc, rfl, _, _, hkx⟩ := slS_open h.keys
  obtain ⟨vA, vc, rfl, _, _, hvx⟩ := slS_open h.vals
  obtain ⟨cA, cc, rfl, _, _, _⟩ := slN_open h.kids
  have HKX := Lib.hid hkx
  have HVX := Lib.hid hvx
  have HSN : Hid (sizeN n = 2 + 2 * n.kids.length + kSize n.keys + kSize n.vals) := rfl
  have HK1 : Hid (∀ k (h : k < n.keys.length), kSize (n.keys.take (k + 1)) = kSize (n.keys.take k) + (1 + n.keys[k].size)) := fun k h => kSize_snoc _ k h
  have HV1 : Hid (∀ k (h : k < n.vals.length), kSize (n.vals.take (k + 1)) = kSize (n.vals.take k) + (1 + n.vals[k].size)) := fun k h => kSize_snoc _ k h
  have HKB : Hid (∀ k, kSize (n.keys.take k) ≤ 10010000) := fun k => by have := kSize_take hf.keys k; have := hf.k; omega
  have HVB : Hid (∀ k, kSize (n.vals.take k) ≤ 10010000) := fun k => by have := kSize_take hf.vals k; have := hf.v; omega
  have HKS : Hid (∀ k (h : k < n.keys.length), n.keys[k].size ≤ 1000) := fun k h => hf.keys _ (List.getElem_mem h)
  have HVS : Hid (∀ k (h : k < n.vals.length), n.vals[k].size ≤ 1000) := fun k h => hf.vals _ (List.getElem_mem h)
  have HKE : Hid (kSize (n.keys.take n.keys.length) = kSize n.keys) := by unfold Hid; rw [List.take_length]
  have HVE : Hid (kSize (n.vals.take n.vals.length) = kSize n.vals) := by unfold Hid; rw [List.take_length]
  obtain ⟨K, hK⟩ : ∃ K, n.keys.length = K := ⟨_, rfl⟩
  obtain ⟨V, hV⟩ : ∃ V, n.vals.length = V := ⟨_, rfl⟩
  obtain ⟨C, hC⟩ : ∃ C, n.kids.length = C := ⟨_, rfl⟩
  have HK := Lib.hid hK
  have HV := Lib.hid hV
  have HC := Lib.hid hC
  have hfk := hf.k
  have hfv := hf.v
  have hfc := hf.c
  rw [hK] at hfk ⊢
  rw [hV] at hfv ⊢
  rw [hC] at hfc ⊢
  obtain ⟨lf, hlf⟩ : ∃ lf, n.leaf = lf := ⟨_, rfl⟩
  rw [hlf]
  have HRW : Hid (∀ W, Ext (w.alloc (.cells #[.bool lf, .slice kA K kc, .slice vA V vc, .slice cA C cc] 186)) W → W.cell? ⟨w.heap.size, 1, none⟩ = some (.slice kA K kc) ∧ W.cell? ⟨w.heap.size, 2, none⟩ = some (.slice vA V vc)) := fun W hW => by
    have hr := (Row1.made w 186 [.bool lf, .slice kA K kc, .slice vA V vc, .slice cA C cc]).ext hW (by simp)
    exact ⟨hr.cell 1, hr.cell 2⟩
  clear h hkx hvx hf hK hV hC hlf
  go_enter Tryz.func202, Tryz.ntmps202
  go_wp2_with fail
  go_loop [3, 16] (fun b i => ∃ k q : Nat, k ≤ K ∧ i = .int .i64 k ∧ q = 2 + 2 * C + kSize (n.keys.take k) ∧ b = .int .i64 q) (fun _ i => K - (intOf i).toNat)
  case atStart => exact ⟨0, 2 + 2 * C, by omega, rfl, by simp [kSize], by go_num⟩
  case round =>
    obtain ⟨k, q, hk, rfl, hq, rfl⟩ := hrel
    have HQ := Lib.hid hq
    have hqb : q ≤ 20000000 := by have := HKB.out k; omega
    clear hq
    obtain ⟨d1, d2⟩ := HRW.out _ (Ext.refl _)
    by_cases hkl : k < K
    · have q1 : decide ((k : Int) < K) = true := decide_eq_true (by omega)
      have q1' : decide (k < K) = true := decide_eq_true hkl
      have hkk : k < n.keys.length := by rw [HK.out]; exact hkl
      obtain ⟨b, off, rfl, hbl, hcell⟩ := HKX.out (by omega)
      have c0 : (w.alloc (.cells #[.bool lf, .slice (some ⟨b, off, none⟩) K kc, .slice vA V vc, .slice cA C cc] 186)).cell? ⟨b, off + k, none⟩ = _ := ((Ext.alloc w _).cell (p := ⟨b, off + k, none⟩) hbl).trans (hcell k hkk)
      have hxs := HKS.out k hkk
      have HST := Lib.hid (HK1.out k hkk)
      obtain ⟨x, hx⟩ : ∃ x, n.keys[k] = x := ⟨_, rfl⟩
      rw [hx] at c0 hxs HST
      clear hx hcell
      go_wp2_with fail
      go_round
      case rel => exact ⟨k + 1, q + (1 + x.size), by omega, by go_num, by rw [HST.out, HQ.out]; omega, by go_num⟩
      case measure => simp [intOf]; omega
    · obtain rfl : k = K := by omega
      have q1 : decide ((k : Int) < k) = false := decide_eq_false (by omega)
      have HQ1 : Hid (q = 2 + 2 * C + kSize n.keys) := by unfold Hid; rw [HQ.out, ← HKE.out, HK.out]
      go_wp2_with fail
      go_loop [3, 29] (fun b i => ∃ j r : Nat, j ≤ V ∧ i = .int .i64 j ∧ r = q + kSize (n.vals.take j) ∧ b = .int .i64 r) (fun _ i => V - (intOf i).toNat)
      case atStart => exact ⟨0, q, by omega, rfl, by simp [kSize], rfl⟩
      case round =>
        obtain ⟨j, r, hj, rfl, hr, rfl⟩ := hrel
        have HR := Lib.hid hr
        have hrb : r ≤ 40000000 := by have := HVB.out j; omega
        clear hr
        by_cases hjl : j < V
        · have q2 : decide ((j : Int) < V) = true := decide_eq_true (by omega)
          have q2' : decide (j < V) = true := decide_eq_true hjl
          have hjk : j < n.vals.length := by rw [HV.out]; exact hjl
          obtain ⟨b, off, rfl, hbl, hcell⟩ := HVX.out (by omega)
          have c0 : (w.alloc (.cells #[.bool lf, .slice kA k kc, .slice (some ⟨b, off, none⟩) V vc, .slice cA C cc] 186)).cell? ⟨b, off + j, none⟩ = _ := ((Ext.alloc w _).cell (p := ⟨b, off + j, none⟩) hbl).trans (hcell j hjk)
          have hxs := HVS.out j hjk
          have HST := Lib.hid (HV1.out j hjk)
          obtain ⟨x, hx⟩ : ∃ x, n.vals[j] = x := ⟨_, rfl⟩
          rw [hx] at c0 hxs HST
          clear hx hcell
          go_wp2_with fail
          go_round
          case rel => exact ⟨j + 1, r + (1 + x.size), by omega, by go_num, by rw [HST.out, HR.out]; omega, by go_num⟩
          case measure => simp [intOf]; omega
        · obtain rfl : j = V := by omega
          have q2 : decide ((j : Int) < j) = false := decide_eq_false (by omega)
          go_wp2_with fail
          go_ret
          exact ⟨ret_int (by rw [HSN.out, HR.out, HQ1.out, ← HVE.out, HV.out, HC.out]), by (repeat' (with_reducible first | exact Below.refl _ _ | refine Ext.drewN ?_ _ | refine Below.drew ?_ | refine Below.setCell ?_ ?_ _ | refine Below.alloc ?_ ?_ _)) <;> (first | omega | (simp; done) | (simp; omega))⟩
theorem size_any {n : NodeD} {F : Nat → Prop} {kv vv cv : Value} (w : World) (h : NodeAs w F n kv vv cv) (hf : Fair n) :
    Calls Tryz.prog 202 #[.agg #[.bool n.leaf, kv, vv, cv]] w fun e w' => e = .returned (.int .i64 (sizeN n)) ∧ Ext w w' := size_rd w h.rd hf
end Go.Proofs.YtojoefcfimmipaaGreat
namespace Go.Proofs.YtojoefcfimmipaaGreat
set_option linter.unusedSimpArgs false
set_option linter.unusedVariables false
open Go.RowKit
/-- a builder of the call's own, beside a block of the call's own -/
def BW (w wr : World) (cs : List Value) (l : List UInt8) : Prop :=
  ∃ F : Nat → Prop, BldAt wr (w.heap.size + 1) F l ∧ (∀ i, F i → w.heap.size + 1 ≤ i) ∧ Ext w wr ∧ Row1 wr w.heap.size 186 cs
theorem BW.step {w wr w' : World} {cs : List Value} {l' : List UInt8} {F F' : Nat → Prop} (hF : ∀ i, F i → w.heap.size + 1 ≤ i) (hx : Ext w wr) (hr : Row1 wr w.heap.size 186 cs) (hb : BldAt w' (w.heap.size + 1) F' l') (hk : Keeps F F' wr w') : BW w w' cs l' := by
  refine ⟨F', hb, fun i q => ?_, ?_, hk.only.row hr (fun q => by have := hF _ q; omega)⟩
  · rcases hk.new i q with q | q
    · exact hF i q
    · have := hr.lt; omega
  · refine Only.toExt (F := fun i => w.heap.size ≤ i) ?_ (fun i q => q)
    exact (Only.of hx).trans' (hk.only.mono (fun i q => .inl (by have := hF i q; omega)))
theorem bwByte {w W : World} {cs : List Value} {l : List UInt8} (m : Nat) (hm : m < 256) (h : BW w W cs l) (hl : l.length ≤ 1000000) :
    Calls Tryz.prog 205 #[.pointer (some ⟨w.heap.size + 1, 0, none⟩), .int .u8 (m : Int)] W fun e w' => e = .returned .nilIface ∧ BW w w' cs (l ++ [UInt8.ofNat m]) := by
  obtain ⟨F, h1, h2, h3, h4⟩ := h
  have hc := bldByte_any (UInt8.ofNat m) h1 (by omega)
  rw [UInt8.toNat_ofNat_of_lt' hm] at hc
  refine hc.mono ?_
  rintro e w' ⟨rfl, F', q1, q2⟩
  exact ⟨rfl, BW.step h2 h3 h4 q1 q2⟩
theorem bwString {w W : World} {cs : List Value} {l : List UInt8} (s : ByteArray) (hs : s.size ≤ 1000) (h : BW w W cs l) (hl : l.length ≤ 1000000) :
    Calls Tryz.prog 61 #[.pointer (some ⟨w.heap.size + 1, 0, none⟩), .string s] W fun e w' => e = .returned (.tuple #[.int .i64 s.size, .nilIface]) ∧ BW w w' cs (l ++ s.data.toList) := by
  obtain ⟨F, h1, h2, h3, h4⟩ := h
  refine (bldString_any s h1 (by omega)).mono ?_
  rintro e w' ⟨rfl, F', q1, q2⟩
  exact ⟨rfl, BW.step h2 h3 h4 q1 q2⟩
theorem bwText {w W : World} {cs : List Value} {l : List UInt8} (h : BW w W cs l) (h0 : l ≠ []) :
    Calls Tryz.prog 63 #[.pointer (some ⟨w.heap.size + 1, 0, none⟩)] W fun e w' => e = .returned (.string (bts l)) ∧ Ext w w' := by
  obtain ⟨F, h1, h2, h3, h4⟩ := h
  refine (bldText_any h1 h0).mono ?_
  rintro e w' ⟨rfl, q2⟩
  refine ⟨rfl, Only.toExt (F := fun i => w.heap.size ≤ i) ?_ (fun i q => q)⟩
  exact (Only.of h3).trans' (q2.mono (fun i q => .inl (by have := h2 i q; omega)))
/-- the bytes ahead of the i-th key -/
def preL (n : NodeD) (i : Nat) : List UInt8 := (if n.leaf = true then 1 else 2) :: UInt8.ofNat n.keys.length :: ((List.range' 0 i).flatMap (entL n))
theorem preL_step (n : NodeD) (i : Nat) : preL n (i + 1) = preL n i ++ entL n i := by
  unfold preL
  rw [List.range'_1_concat, List.flatMap_append]
  simp
theorem preL_end (n : NodeD) : preL n n.keys.length ++ kidsL n 0 = nodeL n := by
  unfold preL nodeL entsL
  rw [Nat.sub_zero]
  rfl
def preK (n : NodeD) (j : Nat) : List UInt8 := preL n n.keys.length ++ (n.kids.take j).flatMap kidL
theorem preK_step (n : NodeD) {j : Nat} (h : j < n.kids.length) : preK n (j + 1) = preK n j ++ kidL n.kids[j] := by
  unfold preK
  rw [take_snocN _ _ h, List.flatMap_append, List.append_assoc]
  simp
theorem preK_end (n : NodeD) : preK n n.kids.length = nodeL n := by
  unfold preK
  rw [List.take_length, ← preL_end]
  rfl
theorem preL_len (n : NodeD) (hn : NodeOk n) : ∀ i, i ≤ n.keys.length → (preL n i).length ≤ 2 + 600 * i
  | 0, _ => by simp [preL]
  | i + 1, h => by
    have ih := preL_len n hn i (by omega)
    rw [preL_step, List.length_append]
    have h1 : (entL n i).length ≤ 600 := by
      unfold entL
      rw [List.length_append, lenL_len, List.getElem?_eq_getElem (by omega : i < n.keys.length)]
      have h2 := hn.keys _ (List.getElem_mem (show i < n.keys.length by omega))
      simp only [Option.getD_some]
      split
      · rw [lenL_len]
        have h3 : (n.vals[i]?.getD ByteArray.empty).size ≤ 255 := by
          cases hv : n.vals[i]? with
          | none => simp
          | some v => exact hn.vals v (List.mem_of_getElem? hv)
        omega
      · simp; omega
    omega
theorem preK_len (n : NodeD) (hn : NodeOk n) (j : Nat) : (preK n j).length ≤ 200000 + 2 * n.kids.length := by
  have h : ∀ l : List Int, (l.flatMap kidL).length = 2 * l.length := fun l => by
    induction l with
    | nil => rfl
    | cons c r ih => rw [List.flatMap_cons, List.length_append, ih, List.length_cons]; show 2 + _ = _; omega
  unfold preK
  rw [List.length_append, h, List.length_take]
  have h1 := preL_len n hn n.keys.length (Nat.le_refl _)
  have := hn.many
  omega
set_option maxRecDepth 100000 in
set_option maxHeartbeats 4000000 in
theorem write_leaf {n : NodeD} {kv vv cv : Value} (w : World) (h : NodeRd w n kv vv cv) (hn : NodeOk n) (hl : n.leaf = true) :
    Calls Tryz.prog 164 #[.agg #[.bool n.leaf, kv, vv, cv]] w fun e w' => e = .returned (.string (bts (nodeL n))) ∧ Ext w w' := by
  obtain ⟨hvl, hkids⟩ := hn.leafs hl
  obtain ⟨kA, kc, rfl, _, _, hkx⟩ := slS_open h.keys
  obtain ⟨vA, vc, rfl, _, _, hvx⟩ := slS_open h.vals
  obtain ⟨cA, cc, rfl, _, _, _⟩ := slN_open h.kids
  have HKX := Lib.hid hkx
  have HVX := Lib.hid hvx
  obtain ⟨K, hK⟩ : ∃ K, n.keys.length = K := ⟨_, rfl⟩
  have HK := Lib.hid hK
  have HV : Hid (n.vals.length = K) := by unfold Hid; omega
  have HE : Hid (preL n K = nodeL n) := by
    unfold Hid
    rw [← hK]
    have := preL_end n
    rwa [show kidsL n 0 = [] by unfold kidsL; rw [hkids]; rfl, List.append_nil] at this
  have hK255 : K ≤ 255 := by rw [← hK]; exact hn.many
  have HPL : Hid (∀ i, i ≤ K → (preL n i).length ≤ 200000) := fun i hi => by have := preL_len n hn i (by omega); omega
  rw [hK, show n.vals.length = K from HV.out, show n.kids.length = 0 by rw [hkids]; rfl, hl]
  have HN := Lib.hid hn
  have HL := Lib.hid hl
  have HP0 : Hid (preL n 0 = [1, UInt8.ofNat K]) := by unfold Hid preL; rw [if_pos hl, hK]; rfl
  have cB : Hid (∀ (m : Nat) (l : List UInt8) W, m < 256 → BW w W [.bool true, .slice kA K kc, .slice vA K vc, .slice cA 0 cc] l → l.length ≤ 1000000 → Calls Tryz.prog 205 #[.pointer (some ⟨w.heap.size + 1, 0, none⟩), .int .u8 (m : Int)] W fun e w' => e = .returned .nilIface ∧ BW w w' [.bool true, .slice kA K kc, .slice vA K vc, .slice cA 0 cc] (l ++ [UInt8.ofNat m])) := fun m l W hm hb hl => bwByte m hm hb hl
  have cS : Hid (∀ (s : ByteArray) (l : List UInt8) W, s.size ≤ 1000 → BW w W [.bool true, .slice kA K kc, .slice vA K vc, .slice cA 0 cc] l → l.length ≤ 1000000 → Calls Tryz.prog 61 #[.pointer (some ⟨w.heap.size + 1, 0, none⟩), .string s] W fun e w' => e = .returned (.tuple #[.int .i64 s.size, .nilIface]) ∧ BW w w' [.bool true, .slice kA K kc, .slice vA K vc, .slice cA 0 cc] (l ++ s.data.toList)) := fun s l W hs hb hl => bwString s hs hb hl
  have cT : Hid (∀ (l : List UInt8) W, BW w W [.bool true, .slice kA K kc, .slice vA K vc, .slice cA 0 cc] l → l ≠ [] → Calls Tryz.prog 63 #[.pointer (some ⟨w.heap.size + 1, 0, none⟩)] W fun e w' => e = .returned (.string (bts l)) ∧ Ext w w') := fun l W hb h0 => bwText hb h0
  have HB0 : Hid (BW w ((w.alloc (.cells #[.bool true, .slice kA K kc, .slice vA K vc, .slice cA 0 cc] 186)).alloc (.cells #[.pointer none, .slice none 0 0] 128)) [.bool true, .slice kA K kc, .slice vA K vc, .slice cA 0 cc] []) := by
    refine ⟨fun i => i = w.heap.size + 1, ?_, fun i q => by omega, by (repeat' (with_reducible first | exact Below.refl _ _ | refine Ext.drewN ?_ _ | refine Below.drew ?_ | refine Below.setCell ?_ ?_ _ | refine Below.alloc ?_ ?_ _)) <;> (first | omega | (simp; done) | (simp; omega)), (Row1.made w _ _).alloc _⟩
    have := BldAt.made (w.alloc (.cells #[.bool true, .slice kA K kc, .slice vA K vc, .slice cA 0 cc] 186))
    rwa [World.size_alloc] at this
  have HCE : Hid (∀ W l, BW w W [.bool true, .slice kA K kc, .slice vA K vc, .slice cA 0 cc] l → Hid (Ext w W) ∧ W.cell? ⟨w.heap.size, 0, none⟩ = some (.bool true) ∧ W.cell? ⟨w.heap.size, 1, none⟩ = some (.slice kA K kc) ∧ W.cell? ⟨w.heap.size, 2, none⟩ = some (.slice vA K vc) ∧ W.cell? ⟨w.heap.size, 3, none⟩ = some (.slice cA 0 cc)) := fun W l ⟨F, _, _, hx, hr⟩ => ⟨hx, hr.cell 0, hr.cell 1, hr.cell 2, hr.cell 3⟩
  have u1 : IntKind.u8.wrap (K : Int) = K := by rw [IntKind.wrap_u8]; omega
  have q31 : (1 : Nat) < 256 := by omega
  have cB1 : Calls Tryz.prog 205 #[.pointer (some ⟨w.heap.size + 1, 0, none⟩), .int .u8 1] _ fun e w' => e = .returned .nilIface ∧ BW w w' [.bool true, .slice kA K kc, .slice vA K vc, .slice cA 0 cc] [1] := cB.out 1 [] _ q31 HB0.out (by simp)
  clear h hkx hvx hn hl hvl hkids hK
  go_enter Tryz.func164, Tryz.ntmps164
  go_wp2_with (first
    | (go_at_call 205; (with_reducible refine cB1.mono ?_); clear cB1; rintro e w1 ⟨rfl, hb1⟩; obtain ⟨HX1, d0, d1, d2, d3⟩ := HCE.out _ _ hb1; have cB2 := cB.out K _ _ (by omega) hb1 (by simp); clear hb1)
    | (go_at_call 205; (with_reducible refine cB2.mono ?_); clear cB2; rintro e w2 ⟨rfl, hb2⟩; obtain ⟨HX2, e0, e1, e2, e3⟩ := HCE.out _ _ hb2; have HB2 := Lib.hid hb2; clear hb2))
  have HB2 : Hid (BW w w2 [.bool true, .slice kA K kc, .slice vA K vc, .slice cA 0 cc] (preL n 0)) := by rw [HP0.out]; exact HB2.out
  clear d0 d1 d2 d3 e0 e1 e2 e3
  go_loopw [21] (fun i wr => ∃ k : Nat, k ≤ K ∧ i = .int .i64 k ∧ BW w wr [.bool true, .slice kA K kc, .slice vA K vc, .slice cA 0 cc] (preL n k)) (fun i _ => K - (intOf i).toNat)
  case atStart => exact ⟨0, by omega, rfl, HB2.out⟩
  case round =>
    obtain ⟨k, hk, rfl, hbw⟩ := hrel
    have HBW := Lib.hid hbw
    obtain ⟨HXW, r0, r1, r2, r3⟩ := HCE.out _ _ hbw
    clear hbw
    by_cases hkl : k < K
    · have q1 : decide ((k : Int) < K) = true := decide_eq_true (by omega)
      have q1' : decide (k < K) = true := decide_eq_true hkl
      have hkk : k < n.keys.length := by rw [HK.out]; exact hkl
      have hkv : k < n.vals.length := by rw [HV.out]; exact hkl
      obtain ⟨kb, ko, rfl, hkb, hkc⟩ := HKX.out (by omega)
      obtain ⟨vb, vo, rfl, hvb, hvc⟩ := HVX.out (by omega)
      have HCK := Lib.hid (hkc k hkk)
      have HCV := Lib.hid (hvc k hkv)
      have hk1 := HN.out.keys _ (List.getElem_mem hkk)
      have hv1 := HN.out.vals _ (List.getElem_mem hkv)
      have HST : Hid (preL n (k + 1) = preL n k ++ [UInt8.ofNat n.keys[k].size] ++ n.keys[k].data.toList ++ [UInt8.ofNat n.vals[k].size] ++ n.vals[k].data.toList) := by
        unfold Hid
        rw [preL_step]
        unfold entL
        rw [if_pos HL.out, List.getElem?_eq_getElem hkk, List.getElem?_eq_getElem hkv]
        simp [lenL]
      obtain ⟨x, hx⟩ : ∃ x, n.keys[k] = x := ⟨_, rfl⟩
      obtain ⟨y, hy⟩ : ∃ y, n.vals[k] = y := ⟨_, rfl⟩
      rw [hx] at HCK hk1 HST
      rw [hy] at HCV hv1 HST
      have hpl := HPL.out k hk
      have c0 : wr.cell? ⟨kb, ko + k, none⟩ = some (.string x) := (HXW.out.cell (p := ⟨kb, ko + k, none⟩) hkb).trans HCK.out
      have x1 : IntKind.u8.wrap (x.size : Int) = x.size := by rw [IntKind.wrap_u8]; omega
      have y1 : IntKind.u8.wrap (y.size : Int) = y.size := by rw [IntKind.wrap_u8]; omega
      have hxl : x.data.toList.length = x.size := by rw [Array.length_toList]; rfl
      have cA1 := cB.out x.size _ _ (by omega) HBW.out (by omega)
      have HXL := Lib.hid hxl
      clear hx hy hkc hvc hxl
      go_wp2_with (first
        | (go_at_call 205; (with_reducible refine cA1.mono ?_); clear cA1; rintro e w3 ⟨rfl, hb3⟩; obtain ⟨HX3, s0, s1, s2, s3⟩ := HCE.out _ _ hb3; have cA2 := cS.out x _ _ (by omega) hb3 (by rw [List.length_append]; simp; omega); clear hb3)
        | (go_at_call 61; (with_reducible refine cA2.mono ?_); clear cA2; rintro e w4 ⟨rfl, hb4⟩; obtain ⟨HX4, t0, t1, t2, t3⟩ := HCE.out _ _ hb4; have g0 : w4.cell? ⟨vb, vo + k, none⟩ = some (.string y) := (HX4.out.cell (p := ⟨vb, vo + k, none⟩) hvb).trans HCV.out; have cA3 := cB.out y.size _ _ (by omega) hb4 (by rw [List.length_append, List.length_append, HXL.out]; simp; omega); clear hb4)
        | (go_at_call 205; (with_reducible refine cA3.mono ?_); clear cA3; rintro e w5 ⟨rfl, hb5⟩; obtain ⟨HX5, v0, v1, v2, v3⟩ := HCE.out _ _ hb5; have i0 : w5.cell? ⟨vb, vo + k, none⟩ = some (.string y) := (HX5.out.cell (p := ⟨vb, vo + k, none⟩) hvb).trans HCV.out; have cA4 := cS.out y _ _ (by omega) hb5 (by rw [List.length_append, List.length_append, List.length_append, HXL.out]; simp; omega); clear hb5)
        | (go_at_call 61; (with_reducible refine cA4.mono ?_); clear cA4; rintro e w6 ⟨rfl, hb6⟩; have HB6 := Lib.hid hb6; clear hb6))
      go_roundw
      case rel => exact ⟨k + 1, by omega, by go_num, by rw [HST.out]; exact HB6.out⟩
      case measure => simp [intOf]; omega
    · obtain rfl : k = K := by omega
      have q1 : decide ((k : Int) < k) = false := decide_eq_false (by omega)
      have hne : preL n k ≠ [] := by unfold preL; simp
      have cTT := cT.out _ _ HBW.out hne
      rw [HE.out] at cTT
      have HTT := Lib.hid cTT
      clear cTT hne
      go_wp2_with fail
      go_loop [52] (fun i => i = .int .i64 0) (fun _ => 0)
      case atStart => rfl
      case round =>
        subst hrel
        go_wp2_with (go_at_call 63; (with_reducible refine HTT.out.mono ?_); rintro e w7 ⟨rfl, hb7⟩)
        go_ret
        exact ⟨rfl, hb7⟩
end Go.Proofs.YtojoefcfimmipaaGreat
