/- The law FindParts answers true for all operations and conditions that can be read. Conditions: what a reading gives. -/
import Derived.Test.YtmiolpfanlpfnaaGreatLp1
namespace Go.Proofs.YtmiolpfanlpfnaaGreat
set_option linter.unusedSimpArgs false
set_option linter.unusedVariables false
open Go.RowKit

set_option maxRecDepth 100000 in
set_option maxHeartbeats 4000000 in
theorem findPartsLaw_any (hAw : AwOk) (V : Value) (ops : List OpD) (d : Nat) (t : ND) (nk : Int) (nA : Option Addr) (nm nc : Nat) (nf ns : ByteArray) (nv : Int) (w : World)
    (hs : Sl w 11 ROp V ops) (hin : ∀ o ∈ ops, In64 o.result) (hn : RN ⟨nk, .slice nA nm nc, nf, ns, nv⟩ (NCell.cells ⟨nk, .slice nA nm nc, nf, ns, nv⟩)) (hd : Nd w d t ⟨nk, .slice nA nm nc, nf, ns, nv⟩) :
    Calls Tryz.prog 10 #[V, .agg #[.int .i64 nk, .slice nA nm nc, .string nf, .string ns, .int .i64 nv]] w fun e w' => e = .returned (.bool true) ∧ Ext w w' := by
  obtain ⟨A, c, rfl⟩ := hs.form
  have cFil := Z6u _ ops (w.alloc (.cells #[.int .i64 nk, .slice nA nm nc, .string nf, .string ns, .int .i64 nv] 50)) (hs.ext (Ext.alloc _ _)) hin
  have cA : Hid (∀ W : World, Calls Tryz.prog 37 #[] W fun e w' => e = .returned (.bool true) ∧ Ext W w') := hAw
  have cZ : Hid (∀ W, Ext w W → Calls Tryz.prog 26 #[.agg #[.int .i64 nk, .slice nA nm nc, .string nf, .string ns, .int .i64 nv], .int .i64 0] W fun e w' => X2s e ∧ Ext W w') := fun W hW => Y8z d ⟨nk, .slice nA nm nc, nf, ns, nv⟩ 0 W (NOk.ext hW _ _ hd.ok) (by decide) (by decide)
  have HRN := Lib.hid hn
  have HD := Lib.hid hd
  clear hs hin hn hd hAw
  go_enter Tryz.func10, Tryz.ntmps10
  go_upto_region 2 with (go_at_call 35; (with_reducible refine cFil.mono ?_); clear cFil; rintro e w1 ⟨tb, p, ts, v, F, rfl, hf⟩; obtain ⟨vA, vc, rfl⟩ := hf.own.form; have HF := Lib.hid hf; clear hf)
  obtain ⟨ls, hls⟩ : ∃ ls, filL (ops.take 24) = ls := ⟨_, rfl⟩
  have hlen : ls.length ≤ 100000 := by
    have h1 := Y2b (ops.take 24) (ops.take 24).length (Nat.le_refl _)
    rw [List.take_length, hls, List.length_take] at h1
    omega
  rw [hls] at HF
  simp only [hls]
  have HLEN := Lib.hid hlen
  clear hls hlen
  have HXW : Hid (Ext w w1) := (Ext.alloc w (.cells #[.int .i64 nk, .slice nA nm nc, .string nf, .string ns, .int .i64 nv] 50)).trans HF.out.ext
  have HNB : Hid (Row1 w1 w.heap.size 50 [.int .i64 nk, .slice nA nm nc, .string nf, .string ns, .int .i64 nv]) := (Row1.made w _ [.int .i64 nk, .slice nA nm nc, .string nf, .string ns, .int .i64 nv]).ext HF.out.ext (by simp)
  have HSZ : Hid (∀ i, F i → w.heap.size + 1 ≤ i) := fun i q => by have := (HF.out.new i q).1; simp at this; omega
  have HTB : Hid (w.heap.size + 1 ≤ tb ∧ ∀ j, j < 5 → w.heap.size + 1 ≤ ts j) := ⟨by have := HF.out.ntb; simp at this; omega, fun j hj => by have := HF.out.nts j hj; simp at this; omega⟩
  obtain ⟨z0, z1, z2, z3, z4⟩ : w1.cell? ⟨w.heap.size, 0, none⟩ = some (.int .i64 nk) ∧ w1.cell? ⟨w.heap.size, 1, none⟩ = some (.slice nA nm nc) ∧ w1.cell? ⟨w.heap.size, 2, none⟩ = some (.string nf) ∧ w1.cell? ⟨w.heap.size, 3, none⟩ = some (.string ns) ∧ w1.cell? ⟨w.heap.size, 4, none⟩ = some (.int .i64 nv) := ⟨HNB.out.cell 0, HNB.out.cell 1, HNB.out.cell 2, HNB.out.cell 3, HNB.out.cell 4⟩
  go_upto_if 30 with (go_at_call 26; (with_reducible refine (cZ.out _ HXW.out).mono ?_); clear cZ; rintro e w2 ⟨⟨z, rfl⟩, hx2⟩; have HX2 := Lib.hid hx2; clear hx2)
  by_cases hz : 600 < z
  · have q1 : decide ((600 : Int) < z) = true := decide_eq_true hz
    go_wp2_with (go_at_call 37; (with_reducible refine (cA.out _).mono ?_); clear cA; rintro e w9 ⟨rfl, hx9⟩; have HX9 := Lib.hid hx9; clear hx9)
    go_ret
    exact ⟨rfl, (HXW.out.trans HX2.out).trans HX9.out⟩
  · have q1 : decide ((600 : Int) < z) = false := decide_eq_false hz
    clear z0 z1 z2 z3 z4
    have HN2 : Hid (Row1 w2 w.heap.size 50 [.int .i64 nk, .slice nA nm nc, .string nf, .string ns, .int .i64 nv]) := HNB.out.ext HX2.out HNB.out.lt
    obtain ⟨z0, z1, z2, z3, z4⟩ : w2.cell? ⟨w.heap.size, 0, none⟩ = some (.int .i64 nk) ∧ w2.cell? ⟨w.heap.size, 1, none⟩ = some (.slice nA nm nc) ∧ w2.cell? ⟨w.heap.size, 2, none⟩ = some (.string nf) ∧ w2.cell? ⟨w.heap.size, 3, none⟩ = some (.string ns) ∧ w2.cell? ⟨w.heap.size, 4, none⟩ = some (.int .i64 nv) := ⟨HN2.out.cell 0, HN2.out.cell 1, HN2.out.cell 2, HN2.out.cell 3, HN2.out.cell 4⟩
    go_upto_region 5 with fail
    generalize hW3 : World.alloc _ _ = w3
    have HX3 : Hid (Ext w2 w3) := by unfold Hid; rw [← hW3]; exact (Ext.alloc _ _).trans (Ext.alloc _ _)
    have HKA : Hid (Row1 w3 w2.heap.size 50 [.int .i64 nk, .slice nA nm nc, .string nf, .string ns, .int .i64 nv]) := by unfold Hid; rw [← hW3]; exact (Row1.made w2 _ [.int .i64 nk, .slice nA nm nc, .string nf, .string ns, .int .i64 nv]).alloc _
    have HBX : Hid (Row1 w3 (w2.heap.size + 1) 50 [.int .i64 3, .slice (some ⟨w2.heap.size, 0, none⟩) 1 1, .string ⟨#[]⟩, .string ⟨#[]⟩, .int .i64 0]) := by unfold Hid; rw [← hW3]; exact Row1.made' (by simp) _ [.int .i64 3, .slice (some ⟨w2.heap.size, 0, none⟩) 1 1, .string ⟨#[]⟩, .string ⟨#[]⟩, .int .i64 0]
    have HZ3 : Hid (w3.heap.size = w2.heap.size + 2) := by unfold Hid; rw [← hW3]; simp
    have HN3 := Lib.hid (HN2.out.ext HX3.out HN2.out.lt)
    clear hW3 z0 z1 z2 z3 z4
    have HF3 := Lib.hid ((HF.out.to HX2.out).to HX3.out)
    have HXW3 := Lib.hid ((HXW.out.trans HX2.out).trans HX3.out)
    obtain ⟨S, Ts, hI, hP⟩ := HF3.out.ex
    have HI := Lib.hid hI
    have HFL : Hid (∀ i, F i → i < w2.heap.size) := fun i q => ((HF.out.to HX2.out).new i q).2
    have HWL : Hid (w.heap.size < w1.heap.size ∧ w1.heap.size ≤ w2.heap.size) := ⟨HNB.out.lt, HX2.out.size⟩
    -- a query of one condition, whatever it is
    have cRun : Hid (∀ (d' : Nat) (t' : ND) (nk : Int) (nA : Option Addr) (nm nc : Nat) (nf ns : ByteArray) (nv : Int) (W : World) (F1 B' : Nat → Prop), TblAt W tb p ts F1 → PagerAt W p F1 S → (∀ i, F1 i → i < W.heap.size) → RN ⟨nk, .slice nA nm nc, nf, ns, nv⟩ (NCell.cells ⟨nk, .slice nA nm nc, nf, ns, nv⟩) → NdB B' W d' t' ⟨nk, .slice nA nm nc, nf, ns, nv⟩ → BF B' F1 W → (∀ i, B' i → i ≠ tb ∧ ∀ j, j < 5 → i ≠ ts j) →
        Calls Tryz.prog 38 #[tp tb, .agg #[.int .i64 nk, .slice nA nm nc, .string nf, .string ns, .int .i64 nv, .string ⟨#[]⟩, .bool false, .int .i64 (-1), .bool false]] W fun e w' => ∃ v, e = .returned (.tuple #[v, .int .i64 (runL ⟨#[]⟩ false ls t' ls).length]) ∧ RunR tb p ts S F1 false (runL ⟨#[]⟩ false ls t' ls) W v w') :=
      fun d' t' nk nA nm nc nf ns nv W F1 B' q1 q2 q3 q4 q5 q6 q7 => by
        have h1 := Z5u (B := B') d' t' nk nA nm nc nf ns nv ⟨#[]⟩ false (-1) false W HI.out.tab (fun i hi => HI.out.dep (by omega) i hi) HLEN.out q1 q2 q3 q4 q5 q6 q7 (by exact ⟨by decide, by decide⟩)
        rw [V7j] at h1
        exact h1
    have HTS : Hid ((∀ j, j < 5 → ts j < w1.heap.size) ∧ tb < w1.heap.size) := ⟨fun j hj => (HF.out.at_.tree j hj).lt, HF.out.at_.row.lt⟩
    have hB1 : BF (fun i => i < w.heap.size ∨ i = w2.heap.size) F w3 := fun i q => by
      have h1 := HWL.out; have h2 := HZ3.out
      rcases q with q | q
      · exact ⟨by omega, fun r => by have := HSZ.out i r; omega⟩
      · exact ⟨by omega, fun r => by have := HFL.out i r; omega⟩
    have HBT : Hid (∀ i, (i < w.heap.size ∨ w2.heap.size ≤ i) → i ≠ tb ∧ ∀ j, j < 5 → i ≠ ts j) := fun i q => by
      have h1 := HTS.out; have h2 := HTB.out; have h3 := HWL.out
      exact ⟨by omega, fun j hj e => by have := h1.1 j hj; have := h2.2 j hj; omega⟩
    have hnd3 : NdB (fun i => i < w.heap.size ∨ i = w2.heap.size) w3 d t ⟨nk, .slice nA nm nc, nf, ns, nv⟩ := ((NdB.of d t _ HD.out).ext HXW3.out).mono (fun i q => .inl q)
    have c1 := cRun.out d t nk nA nm nc nf ns nv w3 F _ HF3.out.at_ hP (fun i q => (HF3.out.new i q).2) HRN.out hnd3 hB1 (fun i q => HBT.out i (by omega))
    have HB1 := Lib.hid hB1
    have HND3 := Lib.hid hnd3
    clear hI hP hB1 hnd3
    obtain ⟨n1, hn1⟩ : ∃ n1, (runL ⟨#[]⟩ false ls t ls).length = n1 := ⟨_, rfl⟩
    obtain ⟨n2, hn2⟩ : ∃ n2, (runL ⟨#[]⟩ false ls (notT t) ls).length = n2 := ⟨_, rfl⟩
    have HSUM : Hid (n1 + n2 = ls.length) := by unfold Hid; rw [← hn1, ← hn2]; exact parts_sum ls t
    have HN1 := Lib.hid hn1; have HN2' := Lib.hid hn2
    rw [hn1] at c1
    clear hn1 hn2
    obtain ⟨z0, z1, z2, z3, z4⟩ : w3.cell? ⟨w.heap.size, 0, none⟩ = some (.int .i64 nk) ∧ w3.cell? ⟨w.heap.size, 1, none⟩ = some (.slice nA nm nc) ∧ w3.cell? ⟨w.heap.size, 2, none⟩ = some (.string nf) ∧ w3.cell? ⟨w.heap.size, 3, none⟩ = some (.string ns) ∧ w3.cell? ⟨w.heap.size, 4, none⟩ = some (.int .i64 nv) := ⟨HN3.out.cell 0, HN3.out.cell 1, HN3.out.cell 2, HN3.out.cell 3, HN3.out.cell 4⟩
    go_upto_region 6 with (go_at_call 38; (with_reducible refine c1.mono ?_); clear c1; rintro e w4 ⟨v4, rfl, hr4⟩; have hv4 : Sl w4 11 ROp v4 _ := hr4.val; obtain ⟨v4A, v4c, rfl⟩ := hv4.form; rw [HN1.out] at hv4 hr4 ⊢; have HR4 := Lib.hid hr4; have HV4 := Lib.hid hv4; clear hr4 hv4)
    obtain ⟨F4, ht4, hp4, hl4, hk4, hz4⟩ := HR4.out.ex
    have HO4 := Lib.hid hz4
    have HBOX : Hid (∀ (W : World) (F' : Nat → Prop), Keeps F F' w3 W → Row1 W w2.heap.size 50 [.int .i64 nk, .slice nA nm nc, .string nf, .string ns, .int .i64 nv] ∧ Row1 W (w2.heap.size + 1) 50 [.int .i64 3, .slice (some ⟨w2.heap.size, 0, none⟩) 1 1, .string ⟨#[]⟩, .string ⟨#[]⟩, .int .i64 0] ∧ NdB (fun i => i < w.heap.size ∨ i = w2.heap.size) W d t ⟨nk, .slice nA nm nc, nf, ns, nv⟩ ∧ BF (fun i => i < w.heap.size ∨ i = w2.heap.size) F' W) :=
      fun W F' hk => ⟨hk.only.row HKA.out (fun q => by have := HFL.out _ q; omega), hk.only.row HBX.out (fun q => by have := HFL.out _ q; omega), NdB.only hk.only (fun i q => (HB1.out i q).2) d t _ HND3.out, HB1.out.keeps hk⟩
    have HRN2 : Hid (RN ⟨3, .slice (some ⟨w2.heap.size, 0, none⟩) 1 1, ⟨#[]⟩, ⟨#[]⟩, 0⟩ (NCell.cells ⟨3, .slice (some ⟨w2.heap.size, 0, none⟩) 1 1, ⟨#[]⟩, ⟨#[]⟩, 0⟩)) := ⟨rfl, by show (-9223372036854775808 : Int) ≤ 0; decide, by show (0 : Int) ≤ 9223372036854775807; decide, _, _, _, rfl⟩
    obtain ⟨ka4, bx4, nd4, bf4⟩ := HBOX.out w4 F4 hk4
    have c2 := cRun.out (d + 1) (notT t) 3 (some ⟨w2.heap.size, 0, none⟩) 1 1 ⟨#[]⟩ ⟨#[]⟩ 0 w4 F4 _ ht4 hp4 hl4 HRN2.out (not_ndB nd4 HRN.out ka4 (Or.inr rfl)) bf4 (fun i q => HBT.out i (by omega))
    rw [HN2'.out] at c2
    have HK4 := Lib.hid hk4
    clear z0 z1 z2 z3 z4
    obtain ⟨z0, z1, z2, z3, z4⟩ : w4.cell? ⟨w2.heap.size + 1, 0, none⟩ = some (.int .i64 3) ∧ w4.cell? ⟨w2.heap.size + 1, 1, none⟩ = some (.slice (some ⟨w2.heap.size, 0, none⟩) 1 1) ∧ w4.cell? ⟨w2.heap.size + 1, 2, none⟩ = some (.string ⟨#[]⟩) ∧ w4.cell? ⟨w2.heap.size + 1, 3, none⟩ = some (.string ⟨#[]⟩) ∧ w4.cell? ⟨w2.heap.size + 1, 4, none⟩ = some (.int .i64 0) := ⟨bx4.cell 0, bx4.cell 1, bx4.cell 2, bx4.cell 3, bx4.cell 4⟩
    clear ht4 hp4 hl4 hk4 hz4 ka4 bx4 nd4 bf4
    go_upto_region 7 with (go_at_call 38; (with_reducible refine c2.mono ?_); clear c2; rintro e w5 ⟨v5, rfl, hr5⟩; have hv5 : Sl w5 11 ROp v5 _ := hr5.val; obtain ⟨v5A, v5c, rfl⟩ := hv5.form; rw [HN2'.out] at hv5 hr5 ⊢; have HR5 := Lib.hid hr5; have HV5 := Lib.hid hv5; clear hr5 hv5)
    obtain ⟨F5, ht5, hp5, hl5, hk5, hz5⟩ := HR5.out.ex
    have HO5 := Lib.hid hz5
    have HK5 := Lib.hid (HK4.out.trans hk5)
    have HK45 := Lib.hid hk5
    have hal : Ext w5 (w5.alloc (.cells #[.int .i64 3, .slice (some ⟨w2.heap.size, 0, none⟩) 1 1, .string ⟨#[]⟩, .string ⟨#[]⟩, .int .i64 0] 50)) := Ext.alloc _ _
    obtain ⟨ka5, bx5, nd5, bf5⟩ := HBOX.out _ F5 (HK5.out.ext hal)
    have hnw : Row1 (w5.alloc (.cells #[.int .i64 3, .slice (some ⟨w2.heap.size, 0, none⟩) 1 1, .string ⟨#[]⟩, .string ⟨#[]⟩, .int .i64 0] 50)) w5.heap.size 50 [.int .i64 3, .slice (some ⟨w2.heap.size, 0, none⟩) 1 1, .string ⟨#[]⟩, .string ⟨#[]⟩, .int .i64 0] := Row1.made w5 _ [.int .i64 3, .slice (some ⟨w2.heap.size, 0, none⟩) 1 1, .string ⟨#[]⟩, .string ⟨#[]⟩, .int .i64 0]
    have hz55 : w2.heap.size + 2 ≤ w5.heap.size := by have h1 := HZ3.out; have h2 := HK5.out.only.size; omega
    have hnd6 := not_ndB (B := fun i => (i < w.heap.size ∨ i = w2.heap.size) ∨ i = w5.heap.size) ((not_ndB nd5 HRN.out ka5 (Or.inr rfl)).mono (fun i q => Or.inl q)) HRN2.out hnw (Or.inr rfl)
    have c3 := cRun.out (d + 1 + 1) (notT (notT t)) 3 (some ⟨w5.heap.size, 0, none⟩) 1 1 ⟨#[]⟩ ⟨#[]⟩ 0 _ F5 _ (ht5.ext hal) (hp5.ext hal) (fun i q => Nat.lt_of_lt_of_le (hl5 i q) hal.size) ⟨rfl, by show (-9223372036854775808 : Int) ≤ 0; decide, by show (0 : Int) ≤ 9223372036854775807; decide, _, _, _, rfl⟩ hnd6 (fun i q => by
      rcases q with q | q
      · exact bf5 i q
      · subst q; exact ⟨hnw.lt, fun r => by have := hl5 _ r; omega⟩) (fun i q => HBT.out i (by omega))
    rw [not_not, HN1.out] at c3
    clear z0 z1 z2 z3 z4
    have bx55 := (HBOX.out w5 F5 HK5.out).2.1
    obtain ⟨z0, z1, z2, z3, z4⟩ : w5.cell? ⟨w2.heap.size + 1, 0, none⟩ = some (.int .i64 3) ∧ w5.cell? ⟨w2.heap.size + 1, 1, none⟩ = some (.slice (some ⟨w2.heap.size, 0, none⟩) 1 1) ∧ w5.cell? ⟨w2.heap.size + 1, 2, none⟩ = some (.string ⟨#[]⟩) ∧ w5.cell? ⟨w2.heap.size + 1, 3, none⟩ = some (.string ⟨#[]⟩) ∧ w5.cell? ⟨w2.heap.size + 1, 4, none⟩ = some (.int .i64 0) := ⟨bx55.cell 0, bx55.cell 1, bx55.cell 2, bx55.cell 3, bx55.cell 4⟩
    clear ht5 hp5 hl5 hk5 hz5 ka5 bx5 nd5 bf5 hnw hnd6 bx55 hal hz55
    go_upto_region 8 with (go_at_call 38; (with_reducible refine c3.mono ?_); clear c3; rintro e w7 ⟨v7, rfl, hr7⟩; have hv7 : Sl w7 11 ROp v7 _ := hr7.val; obtain ⟨v7A, v7c, rfl⟩ := hv7.form; rw [HN1.out] at hv7 hr7 ⊢; have HR7 := Lib.hid hr7; have HV7 := Lib.hid hv7; clear hr7 hv7)
    obtain ⟨F7, ht7, hp7, hl7, hk7, hz7⟩ := HR7.out.ex
    have HK57 : Hid (Keeps F5 F7 w5 w7) := (Keeps.of (Ext.alloc w5 (.cells #[.int .i64 3, .slice (some ⟨w2.heap.size, 0, none⟩) 1 1, .string ⟨#[]⟩, .string ⟨#[]⟩, .int .i64 0] 50))).trans hk7
    have HA7 : Hid (Sl w7 11 ROp (.slice v4A n1 v4c) (runL ⟨#[]⟩ false ls t ls)) := HV4.out.only (HK45.out.trans HK57.out).only (fun b _ e => HO4.out b e)
    have HB7 : Hid (Sl w7 11 ROp (.slice v5A n2 v5c) (runL ⟨#[]⟩ false ls (notT t) ls)) := HV5.out.only HK57.out.only (fun b _ e => HO5.out b e)
    have HK7 := Lib.hid (HK5.out.trans HK57.out)
    have HL7 : Hid (Sl w7 11 ROp (.slice vA ls.length vc) ls) := (HF3.out.own.only HK7.out.only (fun b q => HF3.out.apart b q)).sl Z2o (fun _ => rfl)
    have HX7 : Hid (Ext w w7) := (HK7.out.fresh HXW3.out (fun i q => by have := HSZ.out i q; omega)).1
    have HPAR : Hid (∀ o ∈ ls, ((getL (runL ⟨#[]⟩ false ls t ls) o.id).isSome == (getL (runL ⟨#[]⟩ false ls (notT t) ls) o.id).isSome) = false) := fun o ho => parts_one (HI.out.tab.ids 0 (by omega)) t ho
    have cO : Hid (∀ W, Ext w7 W → Calls Tryz.prog 19 #[.slice v4A n1 v4c, .slice v7A n1 v7c] W fun e w' => e = .returned (.bool true) ∧ Ext W w') := fun W h => V5n _ _ _ W (HA7.out.ext h) (HV7.out.ext h)
    have cGA : Hid (∀ (id : Int) W, Ext w7 W → Calls Tryz.prog 33 #[.slice v4A n1 v4c, .int .i64 id] W fun e w' => e = .returned (.tuple #[((getL (runL ⟨#[]⟩ false ls t ls) id).getD opZero).val, .bool (getL (runL ⟨#[]⟩ false ls t ls) id).isSome]) ∧ Ext W w') := fun id W h => Z9x _ _ id W (HA7.out.ext h)
    have cGB : Hid (∀ (id : Int) W, Ext w7 W → Calls Tryz.prog 33 #[.slice v5A n2 v5c, .int .i64 id] W fun e w' => e = .returned (.tuple #[((getL (runL ⟨#[]⟩ false ls (notT t) ls) id).getD opZero).val, .bool (getL (runL ⟨#[]⟩ false ls (notT t) ls) id).isSome]) ∧ Ext W w') := fun id W h => Z9x _ _ id W (HB7.out.ext h)
    clear HK57 HK45 HK7 HK5 HK4 ht7 hp7 hl7 hk7 hz7 HR7 HR5 HR4 HO4 HO5 cRun HBOX HN1 HN2' HB1 HND3
    have hl : ls.length ≤ 100000 := HLEN.out
    have hsum := HSUM.out
    have hw1 : IntKind.i64.wrap ((n1 : Int) + (n2 : Int)) = (n1 : Int) + (n2 : Int) := by rw [IntKind.wrap_i64]; omega
    have hs1 : ((n1 : Int) + (n2 : Int) == (ls.length : Int)) = true := by rw [beq_iff_eq]; omega
    have hs2 : ((n1 : Int) + (n2 : Int) != (ls.length : Int)) = false := by rw [bne, hs1]; rfl
    have hs3 : ((n1 : Int) == (n1 : Int)) = true := by rw [beq_iff_eq]
    have hs4 : ((n1 : Int) != (n1 : Int)) = false := by rw [bne, hs3]; rfl
    clear hsum z0 z1 z2 z3 z4
    go_upto_if 78 with (go_at_call 19; (with_reducible refine (cO.out _ (Ext.refl _)).mono ?_); clear cO; rintro e w8 ⟨rfl, hx8⟩; have HX8 := Lib.hid hx8; clear hx8)
    go_wp2_with fail
    clear hs1 hs2 hs3 hs4 hw1
    obtain ⟨_, hc1, hc2, hA⟩ := HL7.out.at
    have HA := Lib.hid hA
    clear hA
    go_loopw [14] (fun i wr => ∃ k : Nat, k ≤ ls.length ∧ i = .int .i64 k ∧ Ext w8 wr) (fun i _ => ls.length - (intOf i).toNat)
    case atStart => exact ⟨0, by omega, rfl, Ext.refl _⟩
    case round =>
      obtain ⟨k, hk, rfl, hb⟩ := hrel
      have KB := Lib.hid hb
      clear hb
      by_cases hlt : k < ls.length
      · have hd : decide ((k : Int) < (ls.length : Int)) = true := by simp; omega
        obtain ⟨b, off, rfl, hbl, hx⟩ := HA.out (by omega)
        obtain ⟨cs, rfl, _, hcs⟩ := hx k hlt
        have HPK := HPAR.out _ (List.getElem_mem hlt)
        have HE : Hid (∀ W : World, Ext w7 W → W.cell? ⟨b, off + k * 11, none⟩ = some (.int .i64 ls[k].id)) := fun W h => (h.cell (p := ⟨b, off + k * 11, none⟩) hbl).trans (hcs 0 _ rfl)
        have HP2 := Lib.hid HPK
        clear hx hcs HPK
        generalize ls[k] = x at *
        obtain ⟨p1, hp1⟩ : ∃ p1, (getL (runL ⟨#[]⟩ false ls t ls) x.id).isSome = p1 := ⟨_, rfl⟩
        obtain ⟨p2, hp2⟩ : ∃ p2, (getL (runL ⟨#[]⟩ false ls (notT t) ls) x.id).isSome = p2 := ⟨_, rfl⟩
        obtain ⟨x1, hx1⟩ : ∃ x1, (getL (runL ⟨#[]⟩ false ls t ls) x.id).getD opZero = x1 := ⟨_, rfl⟩
        obtain ⟨x2, hx2⟩ : ∃ x2, (getL (runL ⟨#[]⟩ false ls (notT t) ls) x.id).getD opZero = x2 := ⟨_, rfl⟩
        have cA1 := cGA.out x.id
        have cB1 := cGB.out x.id
        rw [hp1, hp2] at HP2
        rw [hp1, hx1] at cA1
        rw [hp2, hx2] at cB1
        have CA1 : Hid (∀ W, Ext w7 W → Calls Tryz.prog 33 #[.slice v4A n1 v4c, .int .i64 x.id] W fun e w' => e = .returned (.tuple #[.agg #[.int .i64 x1.id, .int .i64 x1.proc, .int .i64 x1.object, .int .i64 x1.kind, .int .i64 x1.method, .int .i64 x1.arg, .int .i64 x1.second, .bool x1.done, .int .i64 x1.result, .int .i64 x1.invoke, .int .i64 x1.ret], .bool p1]) ∧ Ext W w') := cA1
        have CB1 : Hid (∀ W, Ext w7 W → Calls Tryz.prog 33 #[.slice v5A n2 v5c, .int .i64 x.id] W fun e w' => e = .returned (.tuple #[.agg #[.int .i64 x2.id, .int .i64 x2.proc, .int .i64 x2.object, .int .i64 x2.kind, .int .i64 x2.method, .int .i64 x2.arg, .int .i64 x2.second, .bool x2.done, .int .i64 x2.result, .int .i64 x2.invoke, .int .i64 x2.ret], .bool p2]) ∧ Ext W w') := cB1
        have hpq : (p1 == p2) = false := HP2.out
        have e0 := HE.out wr (HX8.out.trans KB.out)
        clear hp1 hp2 hx1 hx2 cA1 cB1
        have hbw : b < wr.heap.size := Nat.lt_of_lt_of_le hbl (HX8.out.trans KB.out).size
        go_wp2_with (first
          | (go_at_call 33; (with_reducible refine (CA1.out _ (HX8.out.trans KB.out)).mono ?_); clear CA1; rintro e y1 ⟨rfl, hy1⟩; have KY := Lib.hid (((HX8.out.trans KB.out).trans hy1).trans (Ext.alloc y1 (.cells #[.int .i64 x1.id, .int .i64 x1.proc, .int .i64 x1.object, .int .i64 x1.kind, .int .i64 x1.method, .int .i64 x1.arg, .int .i64 x1.second, .bool x1.done, .int .i64 x1.result, .int .i64 x1.invoke, .int .i64 x1.ret] 32))); have KZ := Lib.hid ((KB.out.trans hy1).trans (Ext.alloc y1 (.cells #[.int .i64 x1.id, .int .i64 x1.proc, .int .i64 x1.object, .int .i64 x1.kind, .int .i64 x1.method, .int .i64 x1.arg, .int .i64 x1.second, .bool x1.done, .int .i64 x1.result, .int .i64 x1.invoke, .int .i64 x1.ret] 32))); clear e0; have e0 := HE.out _ KY.out; clear hy1)
          | (go_at_call 33; (with_reducible refine (CB1.out _ KY.out).mono ?_); clear CB1; rintro e y2 ⟨rfl, hy2⟩; have KW := Lib.hid ((KZ.out.trans hy2).trans (Ext.alloc y2 (.cells #[.int .i64 x2.id, .int .i64 x2.proc, .int .i64 x2.object, .int .i64 x2.kind, .int .i64 x2.method, .int .i64 x2.arg, .int .i64 x2.second, .bool x2.done, .int .i64 x2.result, .int .i64 x2.invoke, .int .i64 x2.ret] 32))); clear hy2))
        go_roundw
        case measure => simp [intOf]; omega
        case rel => exact ⟨k + 1, by omega, by go_num, KW.out⟩
      · obtain rfl : k = ls.length := by omega
        go_wp2_with (go_at_call 37; (with_reducible refine (cA.out _).mono ?_); clear cA; rintro e w9 ⟨rfl, hx9⟩; have HX9 := Lib.hid ((HX7.out.trans (HX8.out.trans KB.out)).trans hx9); clear hx9)
        go_ret
        exact ⟨rfl, HX9.out⟩
end Go.Proofs.YtmiolpfanlpfnaaGreat

