/- ref26.read. Conditions: words of fewer than 10^6 bytes. -/
import Derived.Test.YtgpnockjonicpaaGreatDoorRPar3
namespace Go.Proofs.YtgpnockjonicpaaGreatDoor
set_option linter.unusedSimpArgs false
set_option linter.unusedVariables false
open Go.RowKit

/-- what ref26.read makes of a line's words -/
def refReadW (ws : List ByteArray) : EvD := if hd ws 2 = txAnswer then evAns ws else evInv ws (if 0 < argsN (methV ws) then numV (hd ws 7) else 0) (if 1 < argsN (methV ws) then numV (hd ws 8) else 0)
theorem kindZ : ∀ j, 1 ≤ j → j < kindNames.length → kindNames.getD j ByteArray.empty ≠ ⟨#[]⟩ := by
  intro j h1 h2
  have h3 : j < 7 := h2
  have : j = 1 ∨ j = 2 ∨ j = 3 ∨ j = 4 ∨ j = 5 ∨ j = 6 := by omega
  rcases this with rfl | rfl | rfl | rfl | rfl | rfl <;> decide
theorem methZ : ∀ j, 1 ≤ j → j < methNames.length → methNames.getD j ByteArray.empty ≠ ⟨#[]⟩ := by
  intro j h1 h2
  have h3 : j < 15 := h2
  have : j = 1 ∨ j = 2 ∨ j = 3 ∨ j = 4 ∨ j = 5 ∨ j = 6 ∨ j = 7 ∨ j = 8 ∨ j = 9 ∨ j = 10 ∨ j = 11 ∨ j = 12 ∨ j = 13 ∨ j = 14 := by omega
  rcases this with rfl | rfl | rfl | rfl | rfl | rfl | rfl | rfl | rfl | rfl | rfl | rfl | rfl | rfl <;> decide
theorem refW_ans (ws : List ByteArray) (h : hd ws 2 = txAnswer) : refReadW ws = ⟨numV (hd ws 0), numV (hd ws 1), true, numV (hd ws 3), 0, 0, 0, 0, 0, numV (hd ws 4)⟩ := by unfold refReadW; rw [if_pos h]; rfl
theorem refW_inv (ws : List ByteArray) (h : ¬ hd ws 2 = txAnswer) : refReadW ws = ⟨numV (hd ws 0), numV (hd ws 1), false, numV (hd ws 3), numV (hd ws 4), wordV kindNames (hd ws 5), wordV methNames (hd ws 6), (if 0 < argsN (wordV methNames (hd ws 6)) then numV (hd ws 7) else 0), (if 1 < argsN (wordV methNames (hd ws 6)) then numV (hd ws 8) else 0), 0⟩ := by unfold refReadW; rw [if_neg h]; rfl
set_option maxRecDepth 100000 in
set_option maxHeartbeats 8000000 in
theorem refRead_any (s : ByteArray) (w : World) (hs : s.size ≤ 100000000) (hz : ∀ x ∈ splitS s 32, x.size ≤ 1000000) :
    Calls Tryz.prog 33 #[.string s] w fun e w' => e = .returned (refReadW (splitS s 32)).val ∧ Ext w w' := by
  have HSZ := Lib.hid (hd_size hz)
  clear hz
  go_enter Tryz.func33, Tryz.ntmps33
  go_wp2_with fail
  refine (refSplit_any s 32 _ hs).mono ?_
  rintro e wS ⟨⟨V, rfl, hV⟩, hx⟩
  obtain ⟨VA, Vc, rfl⟩ := hV.form
  have HVS := Lib.hid hV
  have HZS : Hid (Row1 wS w.heap.size 57 evZero.cells) := (Row1.made w 57 evZero.cells).ext hx (by simp)
  have HGL : Hid (w.heap.size < wS.heap.size) := by have := hx.size; simp at this; unfold Hid; omega
  have HXV : Hid (Ext w wS) := Ext.trans (Ext.alloc _ _) hx
  obtain ⟨_, hc1, hc2, hA⟩ := hV.at
  clear hA hV hx
  obtain ⟨ws, hws⟩ : ∃ ws, splitS s 32 = ws := ⟨_, rfl⟩
  rw [hws] at HSZ HVS hc1 ⊢
  have HWS := Lib.hid hws
  clear hws
  have hgl := HGL.out
  have HXS : Hid (Ext wS wS) := Ext.refl _
  go_wp2_with fail
  refine (refNum_any _ ws 0 _ (HVS.out.ext (by (repeat' (with_reducible first | exact HXS.out | exact Below.refl _ _ | refine Ext.drewN ?_ _ | refine Below.drew ?_ | refine Below.setCell ?_ ?_ _ | refine Below.alloc ?_ ?_ _)) <;> (first | omega | (simp; done) | (simp; omega)))) (by decide) (HSZ.out 0)).mono ?_
  rintro e w' ⟨rfl, hw'⟩
  obtain rfl := hw'.symm
  go_wp2_with fail
  refine (refNum_any _ ws 1 _ (HVS.out.ext (by (repeat' (with_reducible first | exact HXS.out | exact Below.refl _ _ | refine Ext.drewN ?_ _ | refine Below.drew ?_ | refine Below.setCell ?_ ?_ _ | refine Below.alloc ?_ ?_ _)) <;> (first | omega | (simp; done) | (simp; omega)))) (by decide) (HSZ.out 1)).mono ?_
  rintro e w' ⟨rfl, hw'⟩
  obtain rfl := hw'.symm
  go_wp2_with fail
  refine (refNum_any _ ws 3 _ (HVS.out.ext (by (repeat' (with_reducible first | exact HXS.out | exact Below.refl _ _ | refine Ext.drewN ?_ _ | refine Below.drew ?_ | refine Below.setCell ?_ ?_ _ | refine Below.alloc ?_ ?_ _)) <;> (first | omega | (simp; done) | (simp; omega)))) (by decide) (HSZ.out 3)).mono ?_
  rintro e w' ⟨rfl, hw'⟩
  obtain rfl := hw'.symm
  go_upto_region 3 with fail
  generalize hw2 : World.alloc _ _ = w2
  have HEV : Hid (Row1 w2 wS.heap.size 57 (⟨numV (hd ws 0), numV (hd ws 1), false, numV (hd ws 3), 0, 0, 0, 0, 0, 0⟩ : EvD).cells) := by
    subst hw2
    exact Row1.made wS 57 (⟨numV (hd ws 0), numV (hd ws 1), false, numV (hd ws 3), 0, 0, 0, 0, 0, 0⟩ : EvD).cells
  have HX2 : Hid (Ext wS w2) := by
    subst hw2
    exact Ext.alloc _ _
  clear hw2
  have HXW2 : Hid (Ext w w2) := Ext.trans HXV.out HX2.out
  have HZ2 : Hid (Row1 w2 w.heap.size 57 evZero.cells) := HZS.out.ext HX2.out HGL.out
  have HV2 := Lib.hid (HVS.out.ext HX2.out)
  have HZ0 := HZS
  clear HXS HXV HZS
  have HXS := HX2
  have HXV := HXW2
  by_cases hA : hd ws 2 = txAnswer
  · have h2l : 2 < ws.length := by
      refine Decidable.byContradiction fun q => ?_
      rw [hd_none (by omega)] at hA
      exact absurd hA (by decide)
    obtain ⟨bA, off, rfl, hbl, hcell⟩ := HV2.out.word_at 2 h2l
    rw [hA] at hcell
    have HRES := Lib.hid (refW_ans ws hA)
    have q0 : decide (2 < (ws.length : Int)) = true := decide_eq_true (by omega)
    have q0' : decide (2 < ws.length) = true := decide_eq_true h2l
    have q1 : (txAnswer.toList == [97, 110, 115, 119, 101, 114]) = true := by rw [show txAnswer = ⟨[97, 110, 115, 119, 101, 114].toArray⟩ from rfl, ByteArray.toList_mk]; rfl
    clear hA
    have AE := At10.row HEV.out
    obtain ⟨e0, e1, e2, e3, e4, e5, e6, e7, e8, e9⟩ := AE
    have g2 := HEV.out.soft 2
    have g9 := HEV.out.soft 9
    have hel := HEV.out.lt
    go_wp2_with fail
    refine (refNum_any _ ws 4 _ (HVS.out.ext (by (repeat' (with_reducible first | exact HXS.out | exact Below.refl _ _ | refine Ext.drewN ?_ _ | refine Below.drew ?_ | refine Below.setCell ?_ ?_ _ | refine Below.alloc ?_ ?_ _)) <;> (first | omega | (simp; done) | (simp; omega)))) (by decide) (HSZ.out 4)).mono ?_
    rintro e w' ⟨rfl, hw'⟩
    obtain rfl := hw'.symm
    clear hcell
    go_upto_region 6 with fail
    generalize hwz : World.setCell _ _ _ = w3
    have HEE : Hid (Row1 w3 wS.heap.size 57 (⟨numV (hd ws 0), numV (hd ws 1), true, numV (hd ws 3), 0, 0, 0, 0, 0, numV (hd ws 4)⟩ : EvD).cells) := by
      subst hwz
      exact ((HEV.out.set 2 _).set 9 _)
    have HXE : Hid (Ext wS w3) := by
      subst hwz
      show Ext wS _
      (repeat' (with_reducible first | exact HXS.out | exact Below.refl _ _ | refine Ext.drewN ?_ _ | refine Below.drew ?_ | refine Below.setCell ?_ ?_ _ | refine Below.alloc ?_ ?_ _)) <;> (first | omega | (simp; done) | (simp; omega))
    have HXW : Hid (Ext w w3) := by
      subst hwz
      show Ext w _
      (repeat' (with_reducible first | exact HXV.out | exact Below.refl _ _ | refine Ext.drewN ?_ _ | refine Below.drew ?_ | refine Below.setCell ?_ ?_ _ | refine Below.alloc ?_ ?_ _)) <;> (first | omega | (simp; done) | (simp; omega))
    have HZZ : Hid (Row1 w3 w.heap.size 57 evZero.cells) := HZ0.out.ext HXE.out HGL.out
    clear hwz e0 e1 e2 e3 e4 e5 e6 e7 e8 e9 g2 g9
    have AE := At10.row HEE.out
    have AZ := At10.row HZZ.out
    have FZ : (w3.frozen? ⟨w.heap.size, 0, none⟩ = false ∧ w3.frozen? ⟨w.heap.size, 1, none⟩ = false ∧ w3.frozen? ⟨w.heap.size, 2, none⟩ = false ∧ w3.frozen? ⟨w.heap.size, 3, none⟩ = false ∧ w3.frozen? ⟨w.heap.size, 4, none⟩ = false ∧ w3.frozen? ⟨w.heap.size, 5, none⟩ = false ∧ w3.frozen? ⟨w.heap.size, 6, none⟩ = false ∧ w3.frozen? ⟨w.heap.size, 7, none⟩ = false ∧ w3.frozen? ⟨w.heap.size, 8, none⟩ = false ∧ w3.frozen? ⟨w.heap.size, 9, none⟩ = false) := ⟨HZZ.out.soft 0, HZZ.out.soft 1, HZZ.out.soft 2, HZZ.out.soft 3, HZZ.out.soft 4, HZZ.out.soft 5, HZZ.out.soft 6, HZZ.out.soft 7, HZZ.out.soft 8, HZZ.out.soft 9⟩
    obtain ⟨x0, x1, x2, x3, x4, x5, x6, x7, x8, x9⟩ := AE
    obtain ⟨y0, y1, y2, y3, y4, y5, y6, y7, y8, y9⟩ := AZ
    obtain ⟨f0, f1, f2, f3, f4, f5, f6, f7, f8, f9⟩ := FZ
    simp only [evZero] at y0 y1 y2 y3 y4 y5 y6 y7 y8 y9
    go_wp2_with fail
    generalize hwf : World.setCell _ _ _ = wf
    have HF : Row1 wf w.heap.size 57 (⟨numV (hd ws 0), numV (hd ws 1), true, numV (hd ws 3), 0, 0, 0, 0, 0, numV (hd ws 4)⟩ : EvD).cells := (by subst hwf; exact ((((((((((HZZ.out.set 0 _).set 1 _).set 2 _).set 3 _).set 4 _).set 5 _).set 6 _).set 7 _).set 8 _).set 9 _))
    have HXF : Ext w wf := (by subst hwf; (repeat' (with_reducible first | exact HXW.out | exact Below.refl _ _ | refine Ext.drewN ?_ _ | refine Below.drew ?_ | refine Below.setCell ?_ ?_ _ | refine Below.alloc ?_ ?_ _)) <;> (first | omega | (simp; done) | (simp; omega)))
    obtain ⟨s0, s1, s2, s3, s4, s5, s6, s7, s8, s9⟩ := At10.row HF
    clear hwf x0 x1 x2 x3 x4 x5 x6 x7 x8 x9 y0 y1 y2 y3 y4 y5 y6 y7 y8 y9 f0 f1 f2 f3 f4 f5 f6 f7 f8 f9
    exact bodyPost_ret (v := .agg #[.int .i64 (numV (hd ws 0)), .int .i64 (numV (hd ws 1)), .bool true, .int .i64 (numV (hd ws 3)), .int .i64 0, .int .i64 0, .int .i64 0, .int .i64 0, .int .i64 0, .int .i64 (numV (hd ws 4))]) (by simp [results, Tryz.results33, go_sem, s0, s1, s2, s3, s4, s5, s6, s7, s8, s9]) rfl ⟨by rw [HWS.out, HRES.out], HXF⟩
  · have HRES := Lib.hid (refW_inv ws hA)
    go_cut [22] (fun q wx => q = .bool false ∧ w2 = wx)
    case first =>
      by_cases h2l : 2 < ws.length
      · obtain ⟨bA, off, rfl, hbl, hcell⟩ := HV2.out.word_at 2 h2l
        have q0 : decide (2 < (ws.length : Int)) = true := decide_eq_true (by omega)
        have q0' : decide (2 < ws.length) = true := decide_eq_true h2l
        have q1 : ((hd ws 2).toList == [97, 110, 115, 119, 101, 114]) = false := by
          have e := str_eqb (hd ws 2) txAnswer
          rw [show txAnswer = ⟨[97, 110, 115, 119, 101, 114].toArray⟩ from rfl, ByteArray.toList_mk [97, 110, 115, 119, 101, 114]] at e
          rw [e]
          exact decide_eq_false hA
        generalize hd ws 2 = h2 at *
        clear hA
        go_wp2_with fail
        go_meet
        exact ⟨rfl, rfl⟩
      · have q0 : decide (2 < (ws.length : Int)) = false := decide_eq_false (by omega)
        have q0' : decide (2 < ws.length) = false := decide_eq_false h2l
        clear hA
        go_wp2_with fail
        go_meet
        exact ⟨rfl, rfl⟩
    case rest =>
    obtain ⟨rfl, rfl⟩ := hcut
    clear hA
    go_wp2_with fail
    refine (refNum_any _ ws 4 _ (HVS.out.ext (by (repeat' (with_reducible first | exact HXS.out | exact Below.refl _ _ | refine Ext.drewN ?_ _ | refine Below.drew ?_ | refine Below.setCell ?_ ?_ _ | refine Below.alloc ?_ ?_ _)) <;> (first | omega | (simp; done) | (simp; omega)))) (by decide) (HSZ.out 4)).mono ?_
    rintro e w' ⟨rfl, hw'⟩
    obtain rfl := hw'.symm
    have HXw2 := HX2
    have HMw2 : Hid (Ext w2 w2) := Ext.refl _
    go_wp2_with fail
    refine (refNames0_any _).mono ?_
    rintro e wa ⟨rfl, hr5, hb5⟩
    have HXwa : Hid (Ext wS wa) := Ext.trans HXw2.out hb5
    have HMwa : Hid (Ext w2 wa) := Ext.trans HMw2.out hb5
    clear hb5
    go_wp2_with fail
    refine (refWord_any kindNames _ _ ws 5 _ (HVS.out.ext HXwa.out) (by decide) hr5 (by decide) (by decide) rfl kindZ).mono ?_
    rintro e wb ⟨rfl, hb5⟩
    have HXwb : Hid (Ext wS wb) := Ext.trans HXwa.out hb5
    have HMwb : Hid (Ext w2 wb) := Ext.trans HMwa.out hb5
    clear hb5 hr5
    go_wp2_with fail
    refine (refNames1_any _).mono ?_
    rintro e wc ⟨rfl, hr6, hb6⟩
    have HXwc : Hid (Ext wS wc) := Ext.trans HXwb.out hb6
    have HMwc : Hid (Ext w2 wc) := Ext.trans HMwb.out hb6
    clear hb6
    go_wp2_with fail
    refine (refWord_any methNames _ _ ws 6 _ (HVS.out.ext HXwc.out) (by decide) hr6 (by decide) (by decide) rfl methZ).mono ?_
    rintro e wd ⟨rfl, hb6⟩
    have HXwd : Hid (Ext wS wd) := Ext.trans HXwc.out hb6
    have HMwd : Hid (Ext w2 wd) := Ext.trans HMwc.out hb6
    clear hb6 hr6
    obtain ⟨kv, hkv⟩ : ∃ kv, wordV kindNames (hd ws 5) = kv := ⟨_, rfl⟩
    obtain ⟨mv, hmv⟩ : ∃ mv, wordV methNames (hd ws 6) = mv := ⟨_, rfl⟩
    rw [hkv, hmv] at HRES
    rw [hkv, hmv]
    clear hkv hmv
    have hel2 := HEV.out.lt
    have HED : Hid (Row1 wd wS.heap.size 57 (⟨numV (hd ws 0), numV (hd ws 1), false, numV (hd ws 3), 0, 0, 0, 0, 0, 0⟩ : EvD).cells) := HEV.out.ext HMwd.out hel2
    have HXWD : Hid (Ext w wd) := Ext.trans HXV.out HMwd.out
    have HZD := Lib.hid (HZ0.out.ext HXwd.out HGL.out)
    clear HXS HXV
    have HXS := HXwd
    have HXV := HXWD
    obtain ⟨e0, e1, e2, e3, e4, e5, e6, e7, e8, e9⟩ := At10.row HED.out
    have g4 := HED.out.soft 4
    have g5 := HED.out.soft 5
    have g6 := HED.out.soft 6
    go_upto_region 8 with fail
    generalize hwz : World.setCell _ _ _ = we
    have HEE : Hid (Row1 we wS.heap.size 57 (⟨numV (hd ws 0), numV (hd ws 1), false, numV (hd ws 3), numV (hd ws 4), kv, mv, 0, 0, 0⟩ : EvD).cells) := by
      subst hwz
      exact (((HED.out.set 4 _).set 5 _).set 6 _)
    have HXE : Hid (Ext wS we) := by
      subst hwz
      show Ext wS _
      (repeat' (with_reducible first | exact HXS.out | exact Below.refl _ _ | refine Ext.drewN ?_ _ | refine Below.drew ?_ | refine Below.setCell ?_ ?_ _ | refine Below.alloc ?_ ?_ _)) <;> (first | omega | (simp; done) | (simp; omega))
    have HXW : Hid (Ext w we) := by
      subst hwz
      show Ext w _
      (repeat' (with_reducible first | exact HXV.out | exact Below.refl _ _ | refine Ext.drewN ?_ _ | refine Below.drew ?_ | refine Below.setCell ?_ ?_ _ | refine Below.alloc ?_ ?_ _)) <;> (first | omega | (simp; done) | (simp; omega))
    have HZZ : Hid (Row1 we w.heap.size 57 evZero.cells) := HZ0.out.ext HXE.out HGL.out
    clear hwz e0 e1 e2 e3 e4 e5 e6 e7 e8 e9 g4 g5 g6
    clear HXS HXV HXwd HXWD HED HXw2 HMw2 HXwa HMwa HXwb HMwb HXwc HMwc HMwd HZD
    have HEF := HEE
    have HXS := HXE
    have HXV := HXW
    clear HEE HXE HXW HZZ
    obtain ⟨e0, e1, e2, e3, e4, e5, e6, e7, e8, e9⟩ := At10.row HEF.out
    go_wp2_with fail
    refine (refArgs_any mv _).mono ?_
    rintro e wf0 ⟨rfl, hbf⟩
    obtain ⟨n, hn⟩ : ∃ n, argsN mv = n := ⟨_, rfl⟩
    rw [hn] at HRES
    rw [hn]
    have HNN := Lib.hid hn
    clear hn
    have hlf := HEF.out.lt
    have HEG := Lib.hid (HEF.out.ext hbf hlf)
    have HXS0 := Lib.hid (Ext.trans HXS.out hbf)
    have HXV0 := Lib.hid (Ext.trans HXV.out hbf)
    clear HEF HXS HXV hbf hlf e0 e1 e2 e3 e4 e5 e6 e7 e8 e9
    have HEF := HEG
    have HXS := HXS0
    have HXV := HXV0
    clear HEG HXS0 HXV0
    obtain ⟨e0, e1, e2, e3, e4, e5, e6, e7, e8, e9⟩ := At10.row HEF.out
    by_cases c0 : 0 < n
    · have p0 : decide (0 < n) = true := decide_eq_true c0
      rw [if_pos c0] at HRES
      go_wp2_with fail
      refine (refNum_any _ ws 7 _ (HVS.out.ext (by (repeat' (with_reducible first | exact HXS.out | exact Below.refl _ _ | refine Ext.drewN ?_ _ | refine Below.drew ?_ | refine Below.setCell ?_ ?_ _ | refine Below.alloc ?_ ?_ _)) <;> (first | omega | (simp; done) | (simp; omega)))) (by decide) (HSZ.out 7)).mono ?_
      rintro e w' ⟨rfl, hw'⟩
      obtain rfl := hw'.symm
      have g7 := HEF.out.soft 7
      go_upto_region 10 with fail
      generalize hwz : World.setCell _ _ _ = wg
      have HEE : Hid (Row1 wg wS.heap.size 57 (⟨numV (hd ws 0), numV (hd ws 1), false, numV (hd ws 3), numV (hd ws 4), kv, mv, (numV (hd ws 7)), 0, 0⟩ : EvD).cells) := by
        subst hwz
        exact (HEF.out.set 7 _)
      have HXE : Hid (Ext wS wg) := by
        subst hwz
        show Ext wS _
        (repeat' (with_reducible first | exact HXS.out | exact Below.refl _ _ | refine Ext.drewN ?_ _ | refine Below.drew ?_ | refine Below.setCell ?_ ?_ _ | refine Below.alloc ?_ ?_ _)) <;> (first | omega | (simp; done) | (simp; omega))
      have HXW : Hid (Ext w wg) := by
        subst hwz
        show Ext w _
        (repeat' (with_reducible first | exact HXV.out | exact Below.refl _ _ | refine Ext.drewN ?_ _ | refine Below.drew ?_ | refine Below.setCell ?_ ?_ _ | refine Below.alloc ?_ ?_ _)) <;> (first | omega | (simp; done) | (simp; omega))
      have HZZ : Hid (Row1 wg w.heap.size 57 evZero.cells) := HZ0.out.ext HXE.out HGL.out
      clear hwz e0 e1 e2 e3 e4 e5 e6 e7 e8 e9 g7 HEF HXS HXV HZZ
      have HEF := HEE
      have HXS := HXE
      have HXV := HXW
      clear HEE HXE HXW
      obtain ⟨e0, e1, e2, e3, e4, e5, e6, e7, e8, e9⟩ := At10.row HEF.out
      clear c0 p0
      go_wp2_with fail
      refine (refArgs_any mv _).mono ?_
      rintro e wh ⟨rfl, hbf⟩
      rw [HNN.out]
      have hlf := HEF.out.lt
      have HEG := Lib.hid (HEF.out.ext hbf hlf)
      have HXS0 := Lib.hid (Ext.trans HXS.out hbf)
      have HXV0 := Lib.hid (Ext.trans HXV.out hbf)
      clear HEF HXS HXV hbf hlf e0 e1 e2 e3 e4 e5 e6 e7 e8 e9
      have HEF := HEG
      have HXS := HXS0
      have HXV := HXV0
      clear HEG HXS0 HXV0
      obtain ⟨e0, e1, e2, e3, e4, e5, e6, e7, e8, e9⟩ := At10.row HEF.out
      by_cases c1 : 1 < n
      · have p1 : decide (1 < n) = true := decide_eq_true c1
        rw [if_pos c1] at HRES
        clear c1
        go_wp2_with fail
        refine (refNum_any _ ws 8 _ (HVS.out.ext (by (repeat' (with_reducible first | exact HXS.out | exact Below.refl _ _ | refine Ext.drewN ?_ _ | refine Below.drew ?_ | refine Below.setCell ?_ ?_ _ | refine Below.alloc ?_ ?_ _)) <;> (first | omega | (simp; done) | (simp; omega)))) (by decide) (HSZ.out 8)).mono ?_
        rintro e w' ⟨rfl, hw'⟩
        obtain rfl := hw'.symm
        have g8 := HEF.out.soft 8
        go_upto_region 12 with fail
        generalize hwz : World.setCell _ _ _ = wi
        have HEE : Hid (Row1 wi wS.heap.size 57 (⟨numV (hd ws 0), numV (hd ws 1), false, numV (hd ws 3), numV (hd ws 4), kv, mv, (numV (hd ws 7)), (numV (hd ws 8)), 0⟩ : EvD).cells) := by
          subst hwz
          exact (HEF.out.set 8 _)
        have HXE : Hid (Ext wS wi) := by
          subst hwz
          show Ext wS _
          (repeat' (with_reducible first | exact HXS.out | exact Below.refl _ _ | refine Ext.drewN ?_ _ | refine Below.drew ?_ | refine Below.setCell ?_ ?_ _ | refine Below.alloc ?_ ?_ _)) <;> (first | omega | (simp; done) | (simp; omega))
        have HXW : Hid (Ext w wi) := by
          subst hwz
          show Ext w _
          (repeat' (with_reducible first | exact HXV.out | exact Below.refl _ _ | refine Ext.drewN ?_ _ | refine Below.drew ?_ | refine Below.setCell ?_ ?_ _ | refine Below.alloc ?_ ?_ _)) <;> (first | omega | (simp; done) | (simp; omega))
        have HZZ : Hid (Row1 wi w.heap.size 57 evZero.cells) := HZ0.out.ext HXE.out HGL.out
        clear hwz e0 e1 e2 e3 e4 e5 e6 e7 e8 e9 g8 HEF HXS HXV HZZ
        have HEF := HEE
        have HXS := HXE
        have HXV := HXW
        clear HEE HXE HXW
        have HEE := HEF
        have HXE := HXS
        have HXW := HXV
        have HZZ : Hid (Row1 wi w.heap.size 57 evZero.cells) := HZ0.out.ext HXE.out HGL.out
        have AE := At10.row HEE.out
        have AZ := At10.row HZZ.out
        have FZ : (wi.frozen? ⟨w.heap.size, 0, none⟩ = false ∧ wi.frozen? ⟨w.heap.size, 1, none⟩ = false ∧ wi.frozen? ⟨w.heap.size, 2, none⟩ = false ∧ wi.frozen? ⟨w.heap.size, 3, none⟩ = false ∧ wi.frozen? ⟨w.heap.size, 4, none⟩ = false ∧ wi.frozen? ⟨w.heap.size, 5, none⟩ = false ∧ wi.frozen? ⟨w.heap.size, 6, none⟩ = false ∧ wi.frozen? ⟨w.heap.size, 7, none⟩ = false ∧ wi.frozen? ⟨w.heap.size, 8, none⟩ = false ∧ wi.frozen? ⟨w.heap.size, 9, none⟩ = false) := ⟨HZZ.out.soft 0, HZZ.out.soft 1, HZZ.out.soft 2, HZZ.out.soft 3, HZZ.out.soft 4, HZZ.out.soft 5, HZZ.out.soft 6, HZZ.out.soft 7, HZZ.out.soft 8, HZZ.out.soft 9⟩
        obtain ⟨x0, x1, x2, x3, x4, x5, x6, x7, x8, x9⟩ := AE
        obtain ⟨y0, y1, y2, y3, y4, y5, y6, y7, y8, y9⟩ := AZ
        obtain ⟨f0, f1, f2, f3, f4, f5, f6, f7, f8, f9⟩ := FZ
        simp only [evZero] at y0 y1 y2 y3 y4 y5 y6 y7 y8 y9
        go_wp2_with fail
        generalize hwf : World.setCell _ _ _ = wf
        have HF : Row1 wf w.heap.size 57 (⟨numV (hd ws 0), numV (hd ws 1), false, numV (hd ws 3), numV (hd ws 4), kv, mv, (numV (hd ws 7)), (numV (hd ws 8)), 0⟩ : EvD).cells := (by subst hwf; exact ((((((((((HZZ.out.set 0 _).set 1 _).set 2 _).set 3 _).set 4 _).set 5 _).set 6 _).set 7 _).set 8 _).set 9 _))
        have HXF : Ext w wf := (by subst hwf; (repeat' (with_reducible first | exact HXW.out | exact Below.refl _ _ | refine Ext.drewN ?_ _ | refine Below.drew ?_ | refine Below.setCell ?_ ?_ _ | refine Below.alloc ?_ ?_ _)) <;> (first | omega | (simp; done) | (simp; omega)))
        obtain ⟨s0, s1, s2, s3, s4, s5, s6, s7, s8, s9⟩ := At10.row HF
        clear hwf x0 x1 x2 x3 x4 x5 x6 x7 x8 x9 y0 y1 y2 y3 y4 y5 y6 y7 y8 y9 f0 f1 f2 f3 f4 f5 f6 f7 f8 f9
        exact bodyPost_ret (v := .agg #[.int .i64 (numV (hd ws 0)), .int .i64 (numV (hd ws 1)), .bool false, .int .i64 (numV (hd ws 3)), .int .i64 (numV (hd ws 4)), .int .i64 kv, .int .i64 mv, .int .i64 (numV (hd ws 7)), .int .i64 (numV (hd ws 8)), .int .i64 0]) (by simp [results, Tryz.results33, go_sem, s0, s1, s2, s3, s4, s5, s6, s7, s8, s9]) rfl ⟨by rw [HWS.out, HRES.out], HXF⟩
      · have p1 : decide (1 < n) = false := decide_eq_false c1
        rw [if_neg c1] at HRES
        clear c1 e0 e1 e2 e3 e4 e5 e6 e7 e8 e9
        go_upto_region 12 with fail
        have HEE := HEF
        have HXE := HXS
        have HXW := HXV
        have HZZ : Hid (Row1 wh w.heap.size 57 evZero.cells) := HZ0.out.ext HXE.out HGL.out
        have AE := At10.row HEE.out
        have AZ := At10.row HZZ.out
        have FZ : (wh.frozen? ⟨w.heap.size, 0, none⟩ = false ∧ wh.frozen? ⟨w.heap.size, 1, none⟩ = false ∧ wh.frozen? ⟨w.heap.size, 2, none⟩ = false ∧ wh.frozen? ⟨w.heap.size, 3, none⟩ = false ∧ wh.frozen? ⟨w.heap.size, 4, none⟩ = false ∧ wh.frozen? ⟨w.heap.size, 5, none⟩ = false ∧ wh.frozen? ⟨w.heap.size, 6, none⟩ = false ∧ wh.frozen? ⟨w.heap.size, 7, none⟩ = false ∧ wh.frozen? ⟨w.heap.size, 8, none⟩ = false ∧ wh.frozen? ⟨w.heap.size, 9, none⟩ = false) := ⟨HZZ.out.soft 0, HZZ.out.soft 1, HZZ.out.soft 2, HZZ.out.soft 3, HZZ.out.soft 4, HZZ.out.soft 5, HZZ.out.soft 6, HZZ.out.soft 7, HZZ.out.soft 8, HZZ.out.soft 9⟩
        obtain ⟨x0, x1, x2, x3, x4, x5, x6, x7, x8, x9⟩ := AE
        obtain ⟨y0, y1, y2, y3, y4, y5, y6, y7, y8, y9⟩ := AZ
        obtain ⟨f0, f1, f2, f3, f4, f5, f6, f7, f8, f9⟩ := FZ
        simp only [evZero] at y0 y1 y2 y3 y4 y5 y6 y7 y8 y9
        go_wp2_with fail
        generalize hwf : World.setCell _ _ _ = wf
        have HF : Row1 wf w.heap.size 57 (⟨numV (hd ws 0), numV (hd ws 1), false, numV (hd ws 3), numV (hd ws 4), kv, mv, (numV (hd ws 7)), 0, 0⟩ : EvD).cells := (by subst hwf; exact ((((((((((HZZ.out.set 0 _).set 1 _).set 2 _).set 3 _).set 4 _).set 5 _).set 6 _).set 7 _).set 8 _).set 9 _))
        have HXF : Ext w wf := (by subst hwf; (repeat' (with_reducible first | exact HXW.out | exact Below.refl _ _ | refine Ext.drewN ?_ _ | refine Below.drew ?_ | refine Below.setCell ?_ ?_ _ | refine Below.alloc ?_ ?_ _)) <;> (first | omega | (simp; done) | (simp; omega)))
        obtain ⟨s0, s1, s2, s3, s4, s5, s6, s7, s8, s9⟩ := At10.row HF
        clear hwf x0 x1 x2 x3 x4 x5 x6 x7 x8 x9 y0 y1 y2 y3 y4 y5 y6 y7 y8 y9 f0 f1 f2 f3 f4 f5 f6 f7 f8 f9
        exact bodyPost_ret (v := .agg #[.int .i64 (numV (hd ws 0)), .int .i64 (numV (hd ws 1)), .bool false, .int .i64 (numV (hd ws 3)), .int .i64 (numV (hd ws 4)), .int .i64 kv, .int .i64 mv, .int .i64 (numV (hd ws 7)), .int .i64 0, .int .i64 0]) (by simp [results, Tryz.results33, go_sem, s0, s1, s2, s3, s4, s5, s6, s7, s8, s9]) rfl ⟨by rw [HWS.out, HRES.out], HXF⟩
    · have p0 : decide (0 < n) = false := decide_eq_false c0
      have c1 : ¬ 1 < n := by omega
      have p1 : decide (1 < n) = false := decide_eq_false c1
      rw [if_neg c0, if_neg c1] at HRES
      clear c0 c1
      go_wp2_with fail
      refine (refArgs_any mv _).mono ?_
      rintro e wh ⟨rfl, hbf⟩
      rw [HNN.out]
      have hlf := HEF.out.lt
      have HEG := Lib.hid (HEF.out.ext hbf hlf)
      have HXS0 := Lib.hid (Ext.trans HXS.out hbf)
      have HXV0 := Lib.hid (Ext.trans HXV.out hbf)
      clear HEF HXS HXV hbf hlf e0 e1 e2 e3 e4 e5 e6 e7 e8 e9
      have HEF := HEG
      have HXS := HXS0
      have HXV := HXV0
      clear HEG HXS0 HXV0
      go_upto_region 12 with fail
      have HEE := HEF
      have HXE := HXS
      have HXW := HXV
      have HZZ : Hid (Row1 wh w.heap.size 57 evZero.cells) := HZ0.out.ext HXE.out HGL.out
      have AE := At10.row HEE.out
      have AZ := At10.row HZZ.out
      have FZ : (wh.frozen? ⟨w.heap.size, 0, none⟩ = false ∧ wh.frozen? ⟨w.heap.size, 1, none⟩ = false ∧ wh.frozen? ⟨w.heap.size, 2, none⟩ = false ∧ wh.frozen? ⟨w.heap.size, 3, none⟩ = false ∧ wh.frozen? ⟨w.heap.size, 4, none⟩ = false ∧ wh.frozen? ⟨w.heap.size, 5, none⟩ = false ∧ wh.frozen? ⟨w.heap.size, 6, none⟩ = false ∧ wh.frozen? ⟨w.heap.size, 7, none⟩ = false ∧ wh.frozen? ⟨w.heap.size, 8, none⟩ = false ∧ wh.frozen? ⟨w.heap.size, 9, none⟩ = false) := ⟨HZZ.out.soft 0, HZZ.out.soft 1, HZZ.out.soft 2, HZZ.out.soft 3, HZZ.out.soft 4, HZZ.out.soft 5, HZZ.out.soft 6, HZZ.out.soft 7, HZZ.out.soft 8, HZZ.out.soft 9⟩
      obtain ⟨x0, x1, x2, x3, x4, x5, x6, x7, x8, x9⟩ := AE
      obtain ⟨y0, y1, y2, y3, y4, y5, y6, y7, y8, y9⟩ := AZ
      obtain ⟨f0, f1, f2, f3, f4, f5, f6, f7, f8, f9⟩ := FZ
      simp only [evZero] at y0 y1 y2 y3 y4 y5 y6 y7 y8 y9
      go_wp2_with fail
      generalize hwf : World.setCell _ _ _ = wf
      have HF : Row1 wf w.heap.size 57 (⟨numV (hd ws 0), numV (hd ws 1), false, numV (hd ws 3), numV (hd ws 4), kv, mv, 0, 0, 0⟩ : EvD).cells := (by subst hwf; exact ((((((((((HZZ.out.set 0 _).set 1 _).set 2 _).set 3 _).set 4 _).set 5 _).set 6 _).set 7 _).set 8 _).set 9 _))
      have HXF : Ext w wf := (by subst hwf; (repeat' (with_reducible first | exact HXW.out | exact Below.refl _ _ | refine Ext.drewN ?_ _ | refine Below.drew ?_ | refine Below.setCell ?_ ?_ _ | refine Below.alloc ?_ ?_ _)) <;> (first | omega | (simp; done) | (simp; omega)))
      obtain ⟨s0, s1, s2, s3, s4, s5, s6, s7, s8, s9⟩ := At10.row HF
      clear hwf x0 x1 x2 x3 x4 x5 x6 x7 x8 x9 y0 y1 y2 y3 y4 y5 y6 y7 y8 y9 f0 f1 f2 f3 f4 f5 f6 f7 f8 f9
      exact bodyPost_ret (v := .agg #[.int .i64 (numV (hd ws 0)), .int .i64 (numV (hd ws 1)), .bool false, .int .i64 (numV (hd ws 3)), .int .i64 (numV (hd ws 4)), .int .i64 kv, .int .i64 mv, .int .i64 0, .int .i64 0, .int .i64 0]) (by simp [results, Tryz.results33, go_sem, s0, s1, s2, s3, s4, s5, s6, s7, s8, s9]) rfl ⟨by rw [HWS.out, HRES.out], HXF⟩
end Go.Proofs.YtgpnockjonicpaaGreatDoor
