/- A node that is too great is cut in two (half): a leaf. Conditions: a node that took one more than fits. -/
import Derived.Test.YtojoefcfimmipaaGreatQ32
namespace Go.Proofs.YtojoefcfimmipaaGreat
set_option linter.unusedSimpArgs false
set_option linter.unusedVariables false
open Go.RowKit
theorem NodeRd.fstL {w : World} {n : NodeD} {kA vA cA : Option Addr} {K V C kc vc cc : Nat} (h : NodeRd w n (.slice kA K kc) (.slice vA V vc) (.slice cA C cc)) (hl : n.leaf = true) (m : Nat) (hm : m ≤ K) (hc : m ≤ V) : NodeRd w (fst2 n m) (.slice kA m kc) (.slice vA m vc) (.slice none 0 0) := by
  rw [fst2_leaf hl]
  exact ⟨h.keys.take hm, h.vals.take hc, Sl.nil _ _ _⟩
theorem NodeRd.sndL {w : World} {n : NodeD} {cA : Option Addr} {kb ko vb vo K V C kc vc cc : Nat} (h : NodeRd w n (.slice (some ⟨kb, ko, none⟩) K kc) (.slice (some ⟨vb, vo, none⟩) V vc) (.slice cA C cc)) (hl : n.leaf = true) (m : Nat) (hm : m < K) (hc : m < V) : NodeRd w (snd2 n m) (.slice (some ⟨kb, ko + m, none⟩) (K - m) (kc - m)) (.slice (some ⟨vb, vo + m, none⟩) (V - m) (vc - m)) (.slice none 0 0) := by
  rw [snd2_leaf hl]
  have h1 := h.keys.drop (p := m) (by omega)
  have h2 := h.vals.drop (p := m) (by omega)
  obtain ⟨e1, g1, _, _⟩ := h.keys.at
  obtain ⟨e2, g2, _, _⟩ := h.vals.at
  rw [if_neg (by omega)] at h1 h2
  simp only [Option.map_some, Addr.add_lit, Nat.mul_one] at h1 h2
  exact ⟨h1, h2, Sl.nil _ _ _⟩
set_option maxRecDepth 100000 in
set_option maxHeartbeats 4000000 in
theorem half_leaf {n : NodeD} {kv vv cv : Value} (w : World) (h : NodeRd w n kv vv cv) (hn : NodeFit n) (hl : n.leaf = true) (hbig : 256 < sizeN n) :
    Calls Tryz.prog 208 #[.agg #[.bool n.leaf, kv, vv, cv]] w (HalfPost n kv vv cv w) := by
  have hedge : edgeN n = 1 := if_pos hl
  obtain ⟨hvl, hkl⟩ := hn.ok.leafs hl
  have hK3 : 3 ≤ n.keys.length := by
    have h1 := kSize_most hn.keys
    have h2 := kSize_most hn.vals
    unfold sizeN at hbig
    rw [hkl] at hbig
    simp only [List.length_nil] at hbig
    omega
  have hmany := hn.ok.many
  obtain ⟨kA, kc, rfl, hkc1, hkc2, hkx⟩ := slS_open h.keys
  obtain ⟨vA, vc, rfl, hvc1, hvc2, hvx⟩ := slS_open h.vals
  obtain ⟨cA, cc, rfl, hcc1, hcc2, hcx⟩ := slN_open h.kids
  obtain ⟨kb, ko, rfl, hkb, hkcell⟩ := hkx (by omega)
  obtain ⟨vb, vo, rfl, hvb, _⟩ := hvx (by omega)
  have cZ : Hid (∀ W m, Ext w W → m + 1 ≤ n.keys.length → Calls Tryz.prog 202 #[.agg #[.bool true, .slice (some ⟨kb, ko, none⟩) m kc, .slice (some ⟨vb, vo, none⟩) m vc, .slice none 0 0]] W fun e w' => e = .returned (.int .i64 (sizeN (fst2 n m))) ∧ Ext W w') := fun W m hW hm => by
    have q := size_rd W ((h.ext hW).fstL hl m (by omega) (by omega)) (nodeOk_fst hn.ok (by omega)).fair
    rw [fst2_leaf hl] at q ⊢
    exact q
  have HSF : Hid (∀ m, m ≤ n.keys.length → sizeN (fst2 n m) ≤ 1000000) := fun m hm => by
    have q1 := kSize_most (l := n.keys.take m) (q := 32) (fun k hk => hn.keys k (List.mem_of_mem_take hk))
    have q4 := kSize_most (l := n.vals.take m) (q := 80) (fun k hk => hn.vals k (List.mem_of_mem_take hk))
    have q2 : (n.keys.take m).length ≤ 255 := by rw [List.length_take]; omega
    have q3 : (n.vals.take m).length ≤ 255 := by rw [List.length_take]; omega
    rw [fst2_leaf hl]
    unfold sizeN
    simp only [List.length_nil]
    omega
  have HHS : Hid (∀ m, HalfAt n m → sizeN (fst2 n m) ≤ 256) := fun m hm => (half_sizes hn hm).1
  have HN := Lib.hid h
  have HL := Lib.hid hl
  have HED := Lib.hid hedge
  have HKC : Hid (∀ i (hi : i < n.keys.length), w.cell? ⟨kb, ko + i, none⟩ = some (.string n.keys[i])) := hkcell
  have HKB := Lib.hid hkb
  obtain ⟨kz, hK⟩ : ∃ kz, n.keys.length = kz := ⟨_, rfl⟩
  have HK := Lib.hid hK
  have HV : Hid (n.vals.length = kz) := by unfold Hid; omega
  have HC : Hid (n.kids.length = 0) := by unfold Hid; rw [hkl]; rfl
  rw [hK] at hK3 hmany hkc1
  rw [hvl, hK] at hvc1
  rw [hK, HV.out, HC.out, hl]
  obtain ⟨w0, hw0⟩ : ∃ w0, ((w.alloc (.cells #[.bool true, .slice (some ⟨kb, ko, none⟩) kz kc, .slice (some ⟨vb, vo, none⟩) kz vc, .slice cA 0 cc] 186)).alloc (.cells #[.bool false, .slice none 0 0, .slice none 0 0, .slice none 0 0] 186)).alloc (.cells #[.bool false, .slice none 0 0, .slice none 0 0, .slice none 0 0] 186) = w0 := ⟨_, rfl⟩
  have HR0 : Hid (Row1 w0 w.heap.size 186 [.bool true, .slice (some ⟨kb, ko, none⟩) kz kc, .slice (some ⟨vb, vo, none⟩) kz vc, .slice cA 0 cc]) := by unfold Hid; rw [← hw0]; exact ((Row1.made w _ _).alloc _).alloc _
  have HKS : Hid (∀ W, Ext w0 W → W.cell? ⟨w.heap.size, 1, none⟩ = some (.slice (some ⟨kb, ko, none⟩) kz kc) ∧ W.cell? ⟨w.heap.size, 2, none⟩ = some (.slice (some ⟨vb, vo, none⟩) kz vc)) := fun W hW => ⟨(HR0.out.ext hW HR0.out.lt).cell 1, (HR0.out.ext hW HR0.out.lt).cell 2⟩
  have HRa : Hid (Row1 w0 (w.heap.size + 1) 186 [.bool false, .slice none 0 0, .slice none 0 0, .slice none 0 0]) := by unfold Hid; rw [← hw0]; exact Row1.alloc (Row1.made' (by simp) _ [.bool false, .slice none 0 0, .slice none 0 0, .slice none 0 0]) _
  have HRb : Hid (Row1 w0 (w.heap.size + 1 + 1) 186 [.bool false, .slice none 0 0, .slice none 0 0, .slice none 0 0]) := by unfold Hid; rw [← hw0]; exact Row1.made' (by simp) _ [.bool false, .slice none 0 0, .slice none 0 0, .slice none 0 0]
  have HS0 : Hid (w0.heap.size = w.heap.size + 3) := by unfold Hid; rw [← hw0]; simp
  have HX1 : Hid (Ext w w0) := by unfold Hid; rw [← hw0]; (repeat' (with_reducible first | exact Below.refl _ _ | refine Ext.drewN ?_ _ | refine Below.drew ?_ | refine Below.setCell ?_ ?_ _ | refine Below.alloc ?_ ?_ _)) <;> (first | omega | (simp; done) | (simp; omega))
  have c0 : w0.cell? ⟨w.heap.size, 0, none⟩ = some (.bool true) := HR0.out.cell 0
  clear h hn hl hedge hvl hkl hkx hcx hvx hkcell hK hbig hkb hvb hcc1 hcc2
  go_enter Tryz.func208, Tryz.ntmps208
  go_upto_block 2 with fail
  clear hw0
  go_cut [5] (fun s wx => ∃ m : Nat, s = .int .i64 m ∧ Hid (HalfAt n m) ∧ Hid (Ext w0 wx))
  case first =>
    go_wp2_with fail
    go_loopw [5] (fun s wr => ∃ m : Nat, 1 ≤ m ∧ m + 1 ≤ kz ∧ s = .int .i64 m ∧ Hid (∀ j, 1 ≤ j → j < m → sizeN (fst2 n j) ≤ 128) ∧ Hid (Ext w0 wr)) (fun s _ => kz - (intOf s).toNat)
    case atStart => exact ⟨1, by omega, by omega, rfl, Lib.hid (fun j h1 h2 => by omega), Lib.hid (Ext.refl w0)⟩
    case round =>
      obtain ⟨m, hm1, hm2, rfl, hlo, hxr⟩ := hrel
      obtain ⟨z1, z2⟩ := HKS.out _ hxr.out
      by_cases hmk : m + 1 < kz
      · have cZ1 : Hid (∀ W, Ext w0 W → Calls Tryz.prog 202 #[.agg #[.bool true, .slice (some ⟨kb, ko, none⟩) m kc, .slice (some ⟨vb, vo, none⟩) m vc, .slice none 0 0]] W fun e w' => e = .returned (.int .i64 (sizeN (fst2 n m))) ∧ Ext W w') := fun W hW => cZ.out W m (Ext.trans HX1.out hW) (by have := HK.out; omega)
        have hsz := HSF.out m (by have := HK.out; omega)
        obtain ⟨sz, hz⟩ : ∃ sz, sizeN (fst2 n m) = sz := ⟨_, rfl⟩
        rw [hz] at cZ1 hsz
        have HZ := Lib.hid hz
        obtain ⟨b, hb⟩ : ∃ b, decide ((128 : Int) < (sz : Int)) = b := ⟨_, rfl⟩
        have HB := Lib.hid hb
        have q1 : decide ((m : Int) < (kz : Int) - 1) = true := decide_eq_true (by omega)
        have q2 : (m : Int) ≤ kc := by omega
        have q3 : (m : Int) ≤ vc := by omega
        clear hz
        go_upto_region 11 with fail
        refine wp_region_held_drew (S := fun W => W.cell? ⟨w.heap.size, 1, none⟩ = some (.slice (some ⟨kb, ko, none⟩) kz kc) ∧ W.cell? ⟨w.heap.size, 2, none⟩ = some (.slice (some ⟨vb, vo, none⟩) kz vc)) (by kernel_rfl) (HKS.out _ (by (repeat' (with_reducible first | exact hxr.out | exact Below.refl _ _ | refine Ext.drewN ?_ _ | refine Below.drew ?_ | refine Below.setCell ?_ ?_ _ | refine Below.alloc ?_ ?_ _)) <;> (first | omega | (simp; done) | (simp; omega)))) (fun hHeld => ?_)
        refine' tk 0 ?_; (try simp only [Act.put, List.setIfInBounds_toArray, List.set_cons_zero, List.set_cons_succ])
        refine' tk 1 ?_; (try simp only [Act.put, List.setIfInBounds_toArray, List.set_cons_zero, List.set_cons_succ])
        refine' tk 2 ?_; (try simp only [Act.put, List.setIfInBounds_toArray, List.set_cons_zero, List.set_cons_succ])
        refine' tk 3 ?_; (try simp only [Act.put, List.setIfInBounds_toArray, List.set_cons_zero, List.set_cons_succ])
        refine' tk 4 ?_; (try simp only [Act.put, List.setIfInBounds_toArray, List.set_cons_zero, List.set_cons_succ])
        refine' tk 5 ?_; (try simp only [Act.put, List.setIfInBounds_toArray, List.set_cons_zero, List.set_cons_succ])
        refine' tk 6 ?_; (try simp only [Act.put, List.setIfInBounds_toArray, List.set_cons_zero, List.set_cons_succ])
        refine' tk 7 ?_; (try simp only [Act.put, List.setIfInBounds_toArray, List.set_cons_zero, List.set_cons_succ])
        refine' tk 8 ?_; (try simp only [Act.put, List.setIfInBounds_toArray, List.set_cons_zero, List.set_cons_succ])
        refine stp 9 (fun K hK => ?_); go_simp
        (with_reducible refine (cZ1.out _ ?_).mono ?_)
        · (repeat' (with_reducible first | exact hxr.out | exact Below.refl _ _ | refine Ext.drewN ?_ _ | refine Below.drew ?_ | refine Below.setCell ?_ ?_ _ | refine Below.alloc ?_ ?_ _)) <;> (first | omega | (simp; done) | (simp; omega))
        rintro e w4 ⟨rfl, hb4⟩
        have HB7 : Hid (Ext w0 w4) := Ext.trans (by (repeat' (with_reducible first | exact hxr.out | exact Below.refl _ _ | refine Ext.drewN ?_ _ | refine Below.drew ?_ | refine Below.setCell ?_ ?_ _ | refine Below.alloc ?_ ?_ _)) <;> (first | omega | (simp; done) | (simp; omega))) hb4
        clear hb4
        (try dsimp only)
        (try go_simp)
        refine hK.out _ _ (HKS.out _ HB7.out) (fun hHeld => ?_)
        clear hK K
        (try simp only [Act.put, List.setIfInBounds_toArray, List.set_cons_zero, List.set_cons_succ])
        refine' tk 10 ?_; (try simp only [Act.put, List.setIfInBounds_toArray, List.set_cons_zero, List.set_cons_succ])
        refine wpAnyH_done (by kernel_rfl) ?_ _
        cases b
        · go_wp2_with fail
          go_roundw
          case rel =>
            refine ⟨m + 1, by omega, by omega, by go_num, Lib.hid (fun j h1 h2 => ?_), HB7⟩
            by_cases e : j = m
            · subst e; rw [HZ.out]; have := of_decide_eq_false HB.out; omega
            · exact hlo.out j h1 (by omega)
          case measure => simp [intOf]; omega
        · go_wp2_with fail
          go_meet
          exact ⟨m, rfl, ⟨hm1, by rw [HED.out, HK.out]; exact hm2, hlo.out, fun _ => by rw [HZ.out]; have := of_decide_eq_true HB.out; omega⟩, HB7⟩
      · have hme : m + 1 = kz := by omega
        have HME := Lib.hid hme
        have q1 : decide ((m : Int) < (kz : Int) - 1) = false := decide_eq_false (by omega)
        clear hme
        go_wp2_with fail
        go_meet
        exact ⟨m, rfl, ⟨hm1, by rw [HED.out, HK.out]; exact hm2, hlo.out, fun q => by rw [HED.out, HK.out] at q; have := HME.out; omega⟩, hxr⟩
  case rest =>
  obtain ⟨m, rfl, hh, hxc⟩ := hcut
  have hm1 := hh.out.one
  have hm2 : m + 1 ≤ kz := by have := hh.out.lt; rw [HED.out, HK.out] at this; exact this
  have hzc := hxc.out.size
  have q2 : (m : Int) ≤ kc := by omega
  have q3 : (m : Int) ≤ vc := by omega
  have hz0 : w0.heap.size = w.heap.size + 3 := HS0.out
  go_upto_block 4 with fail
  go_cut [5] (fun s wx => s = .int .i64 m ∧ Hid (Ext w0 wx))
  case first =>
    go_wp2_with fail
    go_loopw [5] (fun s wr => s = .int .i64 m ∧ Hid (Ext w0 wr)) (fun s _ => 0)
    case atStart => exact ⟨rfl, hxc⟩
    case round =>
      obtain ⟨rfl, hxr⟩ := hrel
      by_cases he : m = 1
      · subst he
        have q1 : decide ((1 : Int) < ((1 : Nat) : Int)) = false := by decide
        go_upto_region 12 with fail
        refine wp_region_held_drew (S := fun W => W.cell? ⟨w.heap.size, 1, none⟩ = some (.slice (some ⟨kb, ko, none⟩) kz kc) ∧ W.cell? ⟨w.heap.size, 2, none⟩ = some (.slice (some ⟨vb, vo, none⟩) kz vc)) (by kernel_rfl) (HKS.out _ (by (repeat' (with_reducible first | exact hxr.out | exact Below.refl _ _ | refine Ext.drewN ?_ _ | refine Below.drew ?_ | refine Below.setCell ?_ ?_ _ | refine Below.alloc ?_ ?_ _)) <;> (first | omega | (simp; done) | (simp; omega)))) (fun hHeld => ?_)
        refine' tk 0 ?_; (try simp only [Act.put, List.setIfInBounds_toArray, List.set_cons_zero, List.set_cons_succ])
        refine' tk 1 ?_; (try simp only [Act.put, List.setIfInBounds_toArray, List.set_cons_zero, List.set_cons_succ])
        refine' tk 2 ?_; (try simp only [Act.put, List.setIfInBounds_toArray, List.set_cons_zero, List.set_cons_succ])
        refine' tkn 3 ?_; (try simp only [Act.put, List.setIfInBounds_toArray, List.set_cons_zero, List.set_cons_succ])
        refine' tkn 4 ?_; (try simp only [Act.put, List.setIfInBounds_toArray, List.set_cons_zero, List.set_cons_succ])
        refine' tkn 5 ?_; (try simp only [Act.put, List.setIfInBounds_toArray, List.set_cons_zero, List.set_cons_succ])
        refine' tkn 6 ?_; (try simp only [Act.put, List.setIfInBounds_toArray, List.set_cons_zero, List.set_cons_succ])
        refine' tkn 7 ?_; (try simp only [Act.put, List.setIfInBounds_toArray, List.set_cons_zero, List.set_cons_succ])
        refine' tkn 8 ?_; (try simp only [Act.put, List.setIfInBounds_toArray, List.set_cons_zero, List.set_cons_succ])
        refine' tkn 9 ?_; (try simp only [Act.put, List.setIfInBounds_toArray, List.set_cons_zero, List.set_cons_succ])
        refine' tkn 10 ?_; (try simp only [Act.put, List.setIfInBounds_toArray, List.set_cons_zero, List.set_cons_succ])
        refine' tkn 11 ?_; (try simp only [Act.put, List.setIfInBounds_toArray, List.set_cons_zero, List.set_cons_succ])
        refine' tkn 12 ?_; (try simp only [Act.put, List.setIfInBounds_toArray, List.set_cons_zero, List.set_cons_succ])
        refine' tkn 13 ?_; (try simp only [Act.put, List.setIfInBounds_toArray, List.set_cons_zero, List.set_cons_succ])
        refine' tk 14 ?_; (try simp only [Act.put, List.setIfInBounds_toArray, List.set_cons_zero, List.set_cons_succ])
        refine wpAnyH_done (by kernel_rfl) ?_ _
        go_wp2_with fail
        go_meet
        exact ⟨rfl, Lib.hid (by (repeat' (with_reducible first | exact hxr.out | exact Below.refl _ _ | refine Ext.drewN ?_ _ | refine Below.drew ?_ | refine Below.setCell ?_ ?_ _ | refine Below.alloc ?_ ?_ _)) <;> (first | omega | (simp; done) | (simp; omega)))⟩
      · have cZ1 : Hid (∀ W, Ext w0 W → Calls Tryz.prog 202 #[.agg #[.bool true, .slice (some ⟨kb, ko, none⟩) m kc, .slice (some ⟨vb, vo, none⟩) m vc, .slice none 0 0]] W fun e w' => e = .returned (.int .i64 (sizeN (fst2 n m))) ∧ Ext W w') := fun W hW => cZ.out W m (Ext.trans HX1.out hW) (by have := HK.out; omega)
        have hsz := HHS.out m hh.out
        obtain ⟨sz, hz⟩ : ∃ sz, sizeN (fst2 n m) = sz := ⟨_, rfl⟩
        rw [hz] at cZ1 hsz
        have q1 : decide ((1 : Int) < (m : Int)) = true := decide_eq_true (by omega)
        have q4 : decide ((256 : Int) < (sz : Int)) = false := decide_eq_false (by omega)
        clear hz
        go_upto_region 12 with fail
        refine wp_region_held_drew (S := fun W => W.cell? ⟨w.heap.size, 1, none⟩ = some (.slice (some ⟨kb, ko, none⟩) kz kc) ∧ W.cell? ⟨w.heap.size, 2, none⟩ = some (.slice (some ⟨vb, vo, none⟩) kz vc)) (by kernel_rfl) (HKS.out _ (by (repeat' (with_reducible first | exact hxr.out | exact Below.refl _ _ | refine Ext.drewN ?_ _ | refine Below.drew ?_ | refine Below.setCell ?_ ?_ _ | refine Below.alloc ?_ ?_ _)) <;> (first | omega | (simp; done) | (simp; omega)))) (fun hHeld => ?_)
        refine' tk 0 ?_; (try simp only [Act.put, List.setIfInBounds_toArray, List.set_cons_zero, List.set_cons_succ])
        refine' tk 1 ?_; (try simp only [Act.put, List.setIfInBounds_toArray, List.set_cons_zero, List.set_cons_succ])
        refine' tk 2 ?_; (try simp only [Act.put, List.setIfInBounds_toArray, List.set_cons_zero, List.set_cons_succ])
        refine' tk 3 ?_; (try simp only [Act.put, List.setIfInBounds_toArray, List.set_cons_zero, List.set_cons_succ])
        refine' tk 4 ?_; (try simp only [Act.put, List.setIfInBounds_toArray, List.set_cons_zero, List.set_cons_succ])
        refine' tk 5 ?_; (try simp only [Act.put, List.setIfInBounds_toArray, List.set_cons_zero, List.set_cons_succ])
        refine' tk 6 ?_; (try simp only [Act.put, List.setIfInBounds_toArray, List.set_cons_zero, List.set_cons_succ])
        refine' tk 7 ?_; (try simp only [Act.put, List.setIfInBounds_toArray, List.set_cons_zero, List.set_cons_succ])
        refine' tk 8 ?_; (try simp only [Act.put, List.setIfInBounds_toArray, List.set_cons_zero, List.set_cons_succ])
        refine' tk 9 ?_; (try simp only [Act.put, List.setIfInBounds_toArray, List.set_cons_zero, List.set_cons_succ])
        refine' tk 10 ?_; (try simp only [Act.put, List.setIfInBounds_toArray, List.set_cons_zero, List.set_cons_succ])
        refine' tk 11 ?_; (try simp only [Act.put, List.setIfInBounds_toArray, List.set_cons_zero, List.set_cons_succ])
        refine stp 12 (fun K hK => ?_); go_simp
        (with_reducible refine (cZ1.out _ ?_).mono ?_)
        · (repeat' (with_reducible first | exact hxr.out | exact Below.refl _ _ | refine Ext.drewN ?_ _ | refine Below.drew ?_ | refine Below.setCell ?_ ?_ _ | refine Below.alloc ?_ ?_ _)) <;> (first | omega | (simp; done) | (simp; omega))
        rintro e w4 ⟨rfl, hb4⟩
        have HB7 : Hid (Ext w0 w4) := Ext.trans (by (repeat' (with_reducible first | exact hxr.out | exact Below.refl _ _ | refine Ext.drewN ?_ _ | refine Below.drew ?_ | refine Below.setCell ?_ ?_ _ | refine Below.alloc ?_ ?_ _)) <;> (first | omega | (simp; done) | (simp; omega))) hb4
        clear hb4
        (try dsimp only)
        (try go_simp)
        refine hK.out _ _ (HKS.out _ HB7.out) (fun hHeld => ?_)
        clear hK K
        (try simp only [Act.put, List.setIfInBounds_toArray, List.set_cons_zero, List.set_cons_succ])
        refine' tk 13 ?_; (try simp only [Act.put, List.setIfInBounds_toArray, List.set_cons_zero, List.set_cons_succ])
        refine' tk 14 ?_; (try simp only [Act.put, List.setIfInBounds_toArray, List.set_cons_zero, List.set_cons_succ])
        refine wpAnyH_done (by kernel_rfl) ?_ _
        go_wp2_with fail
        go_meet
        exact ⟨rfl, HB7⟩
  case rest =>
  have hcut' := hcut
  clear hxc hzc hcut
  obtain ⟨rfl, hxc⟩ := hcut'
  have hzc := hxc.out.size
  have q6 : (0 : Int) ≤ (m : Int) := by omega
  have q8 : ¬ kc = m := by omega
  have q9 : ¬ vc = m := by omega
  have q10 : (m : Int) ≤ (kz : Int) := by omega
  go_upto_region 14 with fail
  refine wp_region_held_drew (S := fun W => W.cell? ⟨w.heap.size, 1, none⟩ = some (.slice (some ⟨kb, ko, none⟩) kz kc) ∧ W.cell? ⟨w.heap.size, 2, none⟩ = some (.slice (some ⟨vb, vo, none⟩) kz vc)) (by kernel_rfl) (HKS.out _ (by (repeat' (with_reducible first | exact hxc.out | exact Below.refl _ _ | refine Ext.drewN ?_ _ | refine Below.drew ?_ | refine Below.setCell ?_ ?_ _ | refine Below.alloc ?_ ?_ _)) <;> (first | omega | (simp; done) | (simp; omega)))) (fun hHeld => ?_)
  refine' tk 0 ?_; (try simp only [Act.put, List.setIfInBounds_toArray, List.set_cons_zero, List.set_cons_succ])
  refine' tk 1 ?_; (try simp only [Act.put, List.setIfInBounds_toArray, List.set_cons_zero, List.set_cons_succ])
  refine' tk 2 ?_; (try simp only [Act.put, List.setIfInBounds_toArray, List.set_cons_zero, List.set_cons_succ])
  refine' tk 3 ?_; (try simp only [Act.put, List.setIfInBounds_toArray, List.set_cons_zero, List.set_cons_succ])
  refine' tk 4 ?_; (try simp only [Act.put, List.setIfInBounds_toArray, List.set_cons_zero, List.set_cons_succ])
  refine' tk 5 ?_; (try simp only [Act.put, List.setIfInBounds_toArray, List.set_cons_zero, List.set_cons_succ])
  refine' tk 6 ?_; (try simp only [Act.put, List.setIfInBounds_toArray, List.set_cons_zero, List.set_cons_succ])
  refine' tk 7 ?_; (try simp only [Act.put, List.setIfInBounds_toArray, List.set_cons_zero, List.set_cons_succ])
  refine' tk 8 ?_; (try simp only [Act.put, List.setIfInBounds_toArray, List.set_cons_zero, List.set_cons_succ])
  refine stp 9 (fun K hK => ?_); go_simp
  skip
  refine hK.out _ _ (HKS.out _ (by (repeat' (with_reducible first | exact hxc.out | exact Below.refl _ _ | refine Ext.drewN ?_ _ | refine Below.drew ?_ | refine Below.setCell ?_ ?_ _ | refine Below.alloc ?_ ?_ _)) <;> (first | omega | (simp; done) | (simp; omega)))) (fun hHeld => ?_)
  clear hK K
  (try simp only [Act.put, List.setIfInBounds_toArray, List.set_cons_zero, List.set_cons_succ])
  refine stp 10 (fun K hK => ?_); go_simp
  generalize hw5 : World.drew _ = w5
  have HX5 : Hid (Ext w0 w5) := by unfold Hid; rw [← hw5]; (repeat' (with_reducible first | exact hxc.out | exact Below.refl _ _ | refine Ext.drewN ?_ _ | refine Below.drew ?_ | refine Below.setCell ?_ ?_ _ | refine Below.alloc ?_ ?_ _)) <;> (first | omega | (simp; done) | (simp; omega))
  have HR5 : Hid (Row1 w5 wc.heap.size 186 [.bool true, .slice (some ⟨kb, ko, none⟩) m kc, .slice (some ⟨vb, vo, none⟩) m vc, .slice none 0 0]) := by unfold Hid; rw [← hw5]; exact (Row1.made wc _ [.bool true, .slice (some ⟨kb, ko, none⟩) m kc, .slice (some ⟨vb, vo, none⟩) m vc, .slice none 0 0]).same rfl
  have hz5 : w5.heap.size = wc.heap.size + 1 := by rw [← hw5]; simp [World.drew]
  clear hw5
  refine hK.out _ _ (HKS.out _ HX5.out) (fun hHeld => ?_)
  clear hK K
  (try simp only [Act.put, List.setIfInBounds_toArray, List.set_cons_zero, List.set_cons_succ])
  refine wpAnyH_done (by kernel_rfl) ?_ _
  go_upto_region 15 with fail
  refine wp_region_held_drew (S := fun W => W.cell? ⟨w.heap.size, 1, none⟩ = some (.slice (some ⟨kb, ko, none⟩) kz kc) ∧ W.cell? ⟨w.heap.size, 2, none⟩ = some (.slice (some ⟨vb, vo, none⟩) kz vc)) (by kernel_rfl) (HKS.out _ (by (repeat' (with_reducible first | exact HX5.out | exact Below.refl _ _ | refine Ext.drewN ?_ _ | refine Below.drew ?_ | refine Below.setCell ?_ ?_ _ | refine Below.alloc ?_ ?_ _)) <;> (first | omega | (simp; done) | (simp; omega)))) (fun hHeld => ?_)
  refine' tk 0 ?_; (try simp only [Act.put, List.setIfInBounds_toArray, List.set_cons_zero, List.set_cons_succ])
  refine' tk 1 ?_; (try simp only [Act.put, List.setIfInBounds_toArray, List.set_cons_zero, List.set_cons_succ])
  refine' tk 2 ?_; (try simp only [Act.put, List.setIfInBounds_toArray, List.set_cons_zero, List.set_cons_succ])
  refine' tk 3 ?_; (try simp only [Act.put, List.setIfInBounds_toArray, List.set_cons_zero, List.set_cons_succ])
  refine' tk 4 ?_; (try simp only [Act.put, List.setIfInBounds_toArray, List.set_cons_zero, List.set_cons_succ])
  refine' tk 5 ?_; (try simp only [Act.put, List.setIfInBounds_toArray, List.set_cons_zero, List.set_cons_succ])
  refine' tk 6 ?_; (try simp only [Act.put, List.setIfInBounds_toArray, List.set_cons_zero, List.set_cons_succ])
  refine' tk 7 ?_; (try simp only [Act.put, List.setIfInBounds_toArray, List.set_cons_zero, List.set_cons_succ])
  refine' tk 8 ?_; (try simp only [Act.put, List.setIfInBounds_toArray, List.set_cons_zero, List.set_cons_succ])
  refine stp 9 (fun K hK => ?_); go_simp
  skip
  refine hK.out _ _ (HKS.out _ (by (repeat' (with_reducible first | exact HX5.out | exact Below.refl _ _ | refine Ext.drewN ?_ _ | refine Below.drew ?_ | refine Below.setCell ?_ ?_ _ | refine Below.alloc ?_ ?_ _)) <;> (first | omega | (simp; done) | (simp; omega)))) (fun hHeld => ?_)
  clear hK K
  (try simp only [Act.put, List.setIfInBounds_toArray, List.set_cons_zero, List.set_cons_succ])
  refine stp 10 (fun K hK => ?_); go_simp
  generalize hw6 : World.drew _ = w6
  have hx56 : Ext w5 w6 := by rw [← hw6]; (repeat' (with_reducible first | exact Below.refl _ _ | refine Ext.drewN ?_ _ | refine Below.drew ?_ | refine Below.setCell ?_ ?_ _ | refine Below.alloc ?_ ?_ _)) <;> (first | omega | (simp; done) | (simp; omega))
  have HX6 : Hid (Ext w0 w6) := Ext.trans HX5.out hx56
  have HR6 : Hid (Row1 w6 (wc.heap.size + 1) 186 [.bool true, .slice (some ⟨kb, ko + m, none⟩) (kz - m) (kc - m), .slice (some ⟨vb, vo + m, none⟩) (kz - m) (vc - m), .slice none 0 0]) := by unfold Hid; rw [← hw6, ← hz5]; exact (Row1.made w5 _ [.bool true, .slice (some ⟨kb, ko + m, none⟩) (kz - m) (kc - m), .slice (some ⟨vb, vo + m, none⟩) (kz - m) (vc - m), .slice none 0 0]).same rfl
  have HR56 : Hid (Row1 w6 wc.heap.size 186 [.bool true, .slice (some ⟨kb, ko, none⟩) m kc, .slice (some ⟨vb, vo, none⟩) m vc, .slice none 0 0]) := HR5.out.ext hx56 HR5.out.lt
  clear hw6
  refine hK.out _ _ (HKS.out _ HX6.out) (fun hHeld => ?_)
  clear hK K
  (try simp only [Act.put, List.setIfInBounds_toArray, List.set_cons_zero, List.set_cons_succ])
  refine wpAnyH_done (by kernel_rfl) ?_ _
  have hmn : m < n.keys.length := by rw [HK.out]; omega
  have HMID : Hid (n.keys[m]? = some n.keys[m]) := List.getElem?_eq_getElem hmn
  obtain ⟨mid, hmid⟩ : ∃ mid, n.keys[m] = mid := ⟨_, rfl⟩
  have HCM := Lib.hid (HKC.out m hmn)
  rw [hmid] at HMID HCM
  have HKS7 : Hid (∀ W, Only (fun j => j = w.heap.size + 1 ∨ j = w.heap.size + 1 + 1) w6 W → W.cell? ⟨kb, ko + m, none⟩ = some (.string mid) ∧ (W.cell? ⟨wc.heap.size, 0, none⟩ = some (.bool true) ∧ W.cell? ⟨wc.heap.size, 1, none⟩ = some (.slice (some ⟨kb, ko, none⟩) m kc) ∧ W.cell? ⟨wc.heap.size, 2, none⟩ = some (.slice (some ⟨vb, vo, none⟩) m vc) ∧ W.cell? ⟨wc.heap.size, 3, none⟩ = some (.slice none 0 0)) ∧
      W.cell? ⟨wc.heap.size + 1, 0, none⟩ = some (.bool true) ∧ W.cell? ⟨wc.heap.size + 1, 1, none⟩ = some (.slice (some ⟨kb, ko + m, none⟩) (kz - m) (kc - m)) ∧ W.cell? ⟨wc.heap.size + 1, 2, none⟩ = some (.slice (some ⟨vb, vo + m, none⟩) (kz - m) (vc - m)) ∧ W.cell? ⟨wc.heap.size + 1, 3, none⟩ = some (.slice none 0 0)) := fun W hW => by
    have hr1 := hW.row HR56.out (fun q => by omega)
    have hr2 := hW.row HR6.out (fun q => by omega)
    refine ⟨?_, ⟨hr1.cell 0, hr1.cell 1, hr1.cell 2, hr1.cell 3⟩, hr2.cell 0, hr2.cell 1, hr2.cell 2, hr2.cell 3⟩
    have hkl := HKB.out
    have hz6 := HX6.out.size
    exact (World.cell?_of_block (hW.block kb (by omega) (fun q => by omega))).trans (((Ext.trans HX1.out HX6.out).cell (p := ⟨kb, ko + m, none⟩) hkl).trans HCM.out)
  have e1 : (0 : Int) < ((kz - m : Nat) : Int) := by omega
  have e2 : 0 < kz - m := by omega
  clear hmid
  go_upto_region 16 with fail
  refine wp_region_held_drew (S := fun W => W.cell? ⟨kb, ko + m, none⟩ = some (.string mid) ∧ (W.cell? ⟨wc.heap.size, 0, none⟩ = some (.bool true) ∧ W.cell? ⟨wc.heap.size, 1, none⟩ = some (.slice (some ⟨kb, ko, none⟩) m kc) ∧ W.cell? ⟨wc.heap.size, 2, none⟩ = some (.slice (some ⟨vb, vo, none⟩) m vc) ∧ W.cell? ⟨wc.heap.size, 3, none⟩ = some (.slice none 0 0)) ∧ W.cell? ⟨wc.heap.size + 1, 0, none⟩ = some (.bool true) ∧ W.cell? ⟨wc.heap.size + 1, 1, none⟩ = some (.slice (some ⟨kb, ko + m, none⟩) (kz - m) (kc - m)) ∧ W.cell? ⟨wc.heap.size + 1, 2, none⟩ = some (.slice (some ⟨vb, vo + m, none⟩) (kz - m) (vc - m)) ∧ W.cell? ⟨wc.heap.size + 1, 3, none⟩ = some (.slice none 0 0)) (by kernel_rfl) (HKS7.out _ (Only.of (by (repeat' (with_reducible first | exact Below.refl _ _ | refine Ext.drewN ?_ _ | refine Below.drew ?_ | refine Below.setCell ?_ ?_ _ | refine Below.alloc ?_ ?_ _)) <;> (first | omega | (simp; done) | (simp; omega))))) (fun hHeld => ?_)
  refine' tk 0 ?_; (try simp only [Act.put, List.setIfInBounds_toArray, List.set_cons_zero, List.set_cons_succ])
  refine' tk 1 ?_; (try simp only [Act.put, List.setIfInBounds_toArray, List.set_cons_zero, List.set_cons_succ])
  refine' tk 2 ?_; (try simp only [Act.put, List.setIfInBounds_toArray, List.set_cons_zero, List.set_cons_succ])
  refine' tk 3 ?_; (try simp only [Act.put, List.setIfInBounds_toArray, List.set_cons_zero, List.set_cons_succ])
  refine' tk 4 ?_; (try simp only [Act.put, List.setIfInBounds_toArray, List.set_cons_zero, List.set_cons_succ])
  refine' tk 5 ?_; (try simp only [Act.put, List.setIfInBounds_toArray, List.set_cons_zero, List.set_cons_succ])
  have hra := HRa.out.ext HX6.out HRa.out.lt
  have x0 := hra.cell 0; have x1 := hra.cell 1; have x2 := hra.cell 2; have x3 := hra.cell 3; have y0 := hra.soft 0; have y1 := hra.soft 1; have y2 := hra.soft 2; have y3 := hra.soft 3
  have HA6 := Lib.hid hra
  clear hra
  refine stp 6 (fun K hK => ?_); go_simp
  generalize hw7 : World.drew _ = w7
  have ho7 : Only (fun j => j = w.heap.size + 1) w6 w7 := by rw [← hw7]; exact (only4 (w := w6) (w.heap.size + 1) _ _ _ _).ext (by (repeat' (with_reducible first | exact Below.refl _ _ | refine Ext.drewN ?_ _ | refine Below.drew ?_ | refine Below.setCell ?_ ?_ _ | refine Below.alloc ?_ ?_ _)) <;> (first | omega | (simp; done) | (simp; omega)))
  have HO7 : Hid (Only (fun j => j = w.heap.size + 1 ∨ j = w.heap.size + 1 + 1) w6 w7) := ho7.mono (fun j q => .inl (.inl q))
  have HA7 : Hid (Row1 w7 (w.heap.size + 1) 186 [.bool true, .slice (some ⟨kb, ko, none⟩) m kc, .slice (some ⟨vb, vo, none⟩) m vc, .slice none 0 0]) := by unfold Hid; rw [← hw7]; exact ((((HA6.out.set 0 (.bool true)).set 1 (.slice (some ⟨kb, ko, none⟩) m kc)).set 2 (.slice (some ⟨vb, vo, none⟩) m vc)).set 3 (.slice none 0 0)).same rfl
  have HB7 : Hid (Row1 w7 (w.heap.size + 1 + 1) 186 [.bool false, .slice none 0 0, .slice none 0 0, .slice none 0 0]) := ho7.row (HRb.out.ext HX6.out HRb.out.lt) (fun q => by omega)
  clear hw7 ho7 x0 x1 x2 x3 y0 y1 y2 y3
  refine hK.out _ _ (HKS7.out _ HO7.out) (fun hHeld => ?_)
  clear hK K
  (try simp only [Act.put, List.setIfInBounds_toArray, List.set_cons_zero, List.set_cons_succ])
  have hrb := HB7.out
  have x0 := hrb.cell 0; have x1 := hrb.cell 1; have x2 := hrb.cell 2; have x3 := hrb.cell 3; have y0 := hrb.soft 0; have y1 := hrb.soft 1; have y2 := hrb.soft 2; have y3 := hrb.soft 3
  clear hrb
  refine stp 7 (fun K hK => ?_); go_simp
  generalize hw8 : World.setCell _ _ _ = w8
  have ho8 : Only (fun j => j = w.heap.size + 1 + 1) w7 w8 := by rw [← hw8]; exact only4 (w := w7) (w.heap.size + 1 + 1) _ _ _ _
  have HO8 : Hid (Only (fun j => j = w.heap.size + 1 ∨ j = w.heap.size + 1 + 1) w6 w8) := HO7.out.trans' (ho8.mono (fun j q => .inl (.inr q)))
  have HA8 : Hid (Row1 w8 (w.heap.size + 1) 186 [.bool true, .slice (some ⟨kb, ko, none⟩) m kc, .slice (some ⟨vb, vo, none⟩) m vc, .slice none 0 0]) := ho8.row HA7.out (fun q => by omega)
  have HB8 : Hid (Row1 w8 (w.heap.size + 1 + 1) 186 [.bool true, .slice (some ⟨kb, ko + m, none⟩) (kz - m) (kc - m), .slice (some ⟨vb, vo + m, none⟩) (kz - m) (vc - m), .slice none 0 0]) := by unfold Hid; rw [← hw8]; exact ((((HB7.out.set 0 (.bool true)).set 1 (.slice (some ⟨kb, ko + m, none⟩) (kz - m) (kc - m))).set 2 (.slice (some ⟨vb, vo + m, none⟩) (kz - m) (vc - m))).set 3 (.slice none 0 0))
  clear hw8 ho8 x0 x1 x2 x3 y0 y1 y2 y3
  refine hK.out _ _ (HKS7.out _ HO8.out) (fun hHeld => ?_)
  clear hK K
  (try simp only [Act.put, List.setIfInBounds_toArray, List.set_cons_zero, List.set_cons_succ])
  refine' tk 8 ?_; (try simp only [Act.put, List.setIfInBounds_toArray, List.set_cons_zero, List.set_cons_succ])
  refine wpAnyH_done (by kernel_rfl) ?_ _
  go_wp2_with fail
  refine bodyPost_ret (res_half rfl _ _ (w.heap.size + 1) (w.heap.size + 1 + 1) _ _ _ _ _ _ _ _ (.string mid) rfl rfl rfl HA8.out HB8.out) rfl ?_
  have HX8 : Ext w w8 := Only.toExt (F := fun j => w.heap.size ≤ j) (((Only.of (Ext.trans HX1.out HX6.out)).trans' (HO8.out.mono (fun j q => .inl (by omega))))) (fun _ q => q)
  refine ⟨m, _, _, _, _, _, _, _, _, _, _, _, _, _, _, _, _, _, _, mid, by rw [HL.out], hh.out, HMID.out, fun W hrd => ?_, HX8⟩
  exact ⟨hrd.fstL HL.out m (by omega) (by omega), hrd.sndL HL.out m (by omega) (by omega)⟩
theorem half_any {n : NodeD} {kv vv cv : Value} (w : World) (h : NodeRd w n kv vv cv) (hn : NodeFit n) (hbig : 256 < sizeN n) :
    Calls Tryz.prog 208 #[.agg #[.bool n.leaf, kv, vv, cv]] w (HalfPost n kv vv cv w) := by
  cases hl : n.leaf with
  | true => have := half_leaf w h hn hl hbig; rwa [hl] at this
  | false => have := half_inner w h hn hl hbig; rwa [hl] at this
end Go.Proofs.YtojoefcfimmipaaGreat
