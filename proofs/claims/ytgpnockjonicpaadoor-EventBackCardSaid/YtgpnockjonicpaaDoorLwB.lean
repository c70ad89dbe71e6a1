/- law26.EventOnce, law26.EventBack, given that law26.awake answers yes. Conditions: none. -/
import Derived.Test.YtgpnockjonicpaaDoorEvL4
import Derived.Test.YtgpnockjonicpaaDoorOf1
namespace Go.Proofs.YtgpnockjonicpaaDoor
set_option linter.unusedSimpArgs false
set_option linter.unusedVariables false
open Go.RowKit

theorem res_hist {l : List OpD} (h : histL l = 0) : ∀ o ∈ l, -9223372036854775808 ≤ o.result ∧ o.result ≤ 9223372036854775807 := fun o ho => by
  have := (op_bounds ((hist_ok h).chk o ho)).result
  omega
theorem wf64 {n : Int} (h : -9223372036854775808 ≤ n ∧ n ≤ 9223372036854775807) : (Lit.int .i64 n).wf = true := by
  simpa [Lit.wf, IntKind.min, IntKind.max, IntKind.signed, IntKind.bits] using h
theorem evOk_hist {l : List OpD} (h : histL l = 0) : ∀ x ∈ refOfL l, EvOk x := fun x hx => by
  obtain ⟨h1, h2, h3, h4, h5, h6, h7⟩ := (hist_evs (hist_ok h) x hx).1
  exact ⟨wf64 (by omega), wf64 (by omega), by omega, by omega⟩
set_option maxRecDepth 100000 in
set_option maxHeartbeats 4000000 in
theorem eventOnce_any (HA : Awake26) (s : ByteArray) (m : Int) (w : World) (hm : w.cell? ⟨0, 0, none⟩ = some (.int .i64 m)) :
    Calls Tryd.prog 5 #[.string s] w fun e w' => e = .returned (.bool true) ∧ Ext w w' := by
  have hw0 : 0 < w.heap.size := World.block_lt_of_cell? _ _ hm
  have HM : Hid (∀ W, Ext w W → W.cell? ⟨0, 0, none⟩ = some (.int .i64 m)) := fun W h => (h.cell (p := ⟨0, 0, none⟩) hw0).trans hm
  have HAH := Lib.hid HA
  clear hm HA
  by_cases hbig : 6000 < s.size
  · have q1 : decide (6000 < (s.size : Int)) = true := decide_eq_true (by omega)
    clear hbig
    go_enter Tryd.func5, Tryd.ntmps5
    go_wp2_with fail
    refine (HAH.out m _ (HM.out _ (by (repeat' (with_reducible first | exact Below.refl _ _ | refine Ext.drewN ?_ _ | refine Below.drew ?_ | refine Below.setCell ?_ ?_ _ | refine Below.alloc ?_ ?_ _)) <;> (first | omega | (simp; done) | (simp; omega))))).mono ?_
    rintro e w1 ⟨rfl, hb⟩
    go_wp2_with fail
    go_ret
    exact ⟨rfl, hb⟩
  · have q1 : decide (6000 < (s.size : Int)) = false := decide_eq_false (by omega)
    obtain ⟨l, n, f, hp⟩ : ∃ l n f, parseL s = (l, n, f) := ⟨_, _, _, rfl⟩
    have HP := Lib.hid (parse_any s m)
    rw [hp] at HP
    by_cases hf : f = 0
    · subst hf
      obtain ⟨h1, h2⟩ := print_parse hp
      have HR : Hid (∀ (V : Value) W, Sl W 11 ROp V l → Calls Tryd.prog 12 #[V] W fun e w' => e = .returned (.tuple #[.string s, .int .i64 0]) ∧ Ext W w') := fun V W hs => by
        have := printAll_any V l W hs (res_hist h1)
        rwa [h1, h2] at this
      clear hbig hp h1 h2
      go_enter Tryd.func5, Tryd.ntmps5
      go_wp2_with fail
      refine (HP.out _ (HM.out _ (Ext.refl _))).mono ?_
      rintro e w1 ⟨⟨V1, rfl, hs1⟩, hb1⟩
      obtain ⟨A1, c1, rfl⟩ := hs1.form
      have S1 := Lib.hid hs1
      have B1 := Lib.hid hb1
      clear hs1 hb1
      go_wp2_with fail
      refine (HR.out _ _ (S1.out.ext (by (repeat' (with_reducible first | exact Below.refl _ _ | refine Ext.drewN ?_ _ | refine Below.drew ?_ | refine Below.setCell ?_ ?_ _ | refine Below.alloc ?_ ?_ _)) <;> (first | omega | (simp; done) | (simp; omega))))).mono ?_
      rintro e w2 ⟨rfl, hb2⟩
      have B2 := Lib.hid (Ext.trans (by (repeat' (with_reducible first | exact B1.out | exact Below.refl _ _ | refine Ext.drewN ?_ _ | refine Below.drew ?_ | refine Below.setCell ?_ ?_ _ | refine Below.alloc ?_ ?_ _)) <;> (first | omega | (simp; done) | (simp; omega)) : Ext w _) hb2)
      clear hb2
      go_wp2_with fail
      refine (HAH.out m _ (HM.out _ (by (repeat' (with_reducible first | exact B2.out | exact Below.refl _ _ | refine Ext.drewN ?_ _ | refine Below.drew ?_ | refine Below.setCell ?_ ?_ _ | refine Below.alloc ?_ ?_ _)) <;> (first | omega | (simp; done) | (simp; omega))))).mono ?_
      rintro e w4 ⟨rfl, hb4⟩
      have B4 := Lib.hid (Ext.trans (by (repeat' (with_reducible first | exact B2.out | exact Below.refl _ _ | refine Ext.drewN ?_ _ | refine Below.drew ?_ | refine Below.setCell ?_ ?_ _ | refine Below.alloc ?_ ?_ _)) <;> (first | omega | (simp; done) | (simp; omega)) : Ext w _) hb4)
      clear hb4
      go_wp2_with fail
      go_ret
      exact ⟨rfl, by (repeat' (with_reducible first | exact B4.out | exact Below.refl _ _ | refine Ext.drewN ?_ _ | refine Below.drew ?_ | refine Below.setCell ?_ ?_ _ | refine Below.alloc ?_ ?_ _)) <;> (first | omega | (simp; done) | (simp; omega))⟩
    · obtain ⟨rfl, hn⟩ := parse_bad (by omega) hp hf
      have q2 : (f != 0) = true := by simpa using hf
      have q3 : decide ((0 : Int) < (n : Int)) = true := decide_eq_true (by omega)
      have q4 : (0 : Int) < (n : Int) := by omega
      clear hbig hp hf
      go_enter Tryd.func5, Tryd.ntmps5
      go_wp2_with fail
      refine (HP.out _ (HM.out _ (Ext.refl _))).mono ?_
      rintro e w1 ⟨⟨V1, rfl, hs1⟩, hb1⟩
      obtain ⟨A1, c1, rfl⟩ := hs1.form
      have B1 := Lib.hid hb1
      clear hs1 hb1
      go_wp2_with fail
      refine (HAH.out m _ (HM.out _ (by (repeat' (with_reducible first | exact B1.out | exact Below.refl _ _ | refine Ext.drewN ?_ _ | refine Below.drew ?_ | refine Below.setCell ?_ ?_ _ | refine Below.alloc ?_ ?_ _)) <;> (first | omega | (simp; done) | (simp; omega))))).mono ?_
      rintro e w4 ⟨rfl, hb4⟩
      have B4 := Lib.hid (Ext.trans (by (repeat' (with_reducible first | exact B1.out | exact Below.refl _ _ | refine Ext.drewN ?_ _ | refine Below.drew ?_ | refine Below.setCell ?_ ?_ _ | refine Below.alloc ?_ ?_ _)) <;> (first | omega | (simp; done) | (simp; omega)) : Ext w _) hb4)
      clear hb4
      go_wp2_with fail
      go_ret
      exact ⟨rfl, by (repeat' (with_reducible first | exact B4.out | exact Below.refl _ _ | refine Ext.drewN ?_ _ | refine Below.drew ?_ | refine Below.setCell ?_ ?_ _ | refine Below.alloc ?_ ?_ _)) <;> (first | omega | (simp; done) | (simp; omega))⟩
set_option maxRecDepth 100000 in
set_option maxHeartbeats 4000000 in
theorem eventBack_any (HA : Awake26) (V : Value) (xs : List OpD) (m : Int) (w : World) (hs : Sl w 11 ROp V xs) (hm : w.cell? ⟨0, 0, none⟩ = some (.int .i64 m)) :
    Calls Tryd.prog 4 #[V] w fun e w' => e = .returned (.bool true) ∧ Ext w w' := by
  have hw0 : 0 < w.heap.size := World.block_lt_of_cell? _ _ hm
  have HM : Hid (∀ W, Ext w W → W.cell? ⟨0, 0, none⟩ = some (.int .i64 m)) := fun W h => (h.cell (p := ⟨0, 0, none⟩) hw0).trans hm
  have HAH := Lib.hid HA
  have HS := Lib.hid hs
  obtain ⟨A, c, rfl⟩ := hs.form
  obtain ⟨_, hc1, hc2, hA⟩ := hs.at
  clear hm HA hs hA
  have HC : Hid (∀ W, Ext w W → Calls Tryd.prog 10 #[.slice A xs.length c] W fun e w' => e = .returned (.int .i64 (histL xs)) ∧ Ext W w') := fun W h => refHist_any _ xs W (HS.out.ext h)
  by_cases hbig : 64 < xs.length
  · have q1 : decide (64 < (xs.length : Int)) = true := decide_eq_true (by omega)
    clear hbig
    go_enter Tryd.func4, Tryd.ntmps4
    go_wp2_with fail
    refine (HAH.out m _ (HM.out _ (by (repeat' (with_reducible first | exact Below.refl _ _ | refine Ext.drewN ?_ _ | refine Below.drew ?_ | refine Below.setCell ?_ ?_ _ | refine Below.alloc ?_ ?_ _)) <;> (first | omega | (simp; done) | (simp; omega))))).mono ?_
    rintro e w1 ⟨rfl, hb⟩
    go_wp2_with fail
    go_ret
    exact ⟨rfl, hb⟩
  · have q1 : decide (64 < (xs.length : Int)) = false := decide_eq_false (by omega)
    have hlen : xs.length ≤ 64 := by omega
    clear hbig
    by_cases hh : histL xs = 0
    · have HOF : Hid (∀ W, Ext w W → Calls Tryd.prog 8 #[.slice A xs.length c] W fun e w' => (∃ v, e = .returned v ∧ Sl w' 10 REv v (refOfL xs)) ∧ Ext W w') := fun W h => (of_eq_any _ xs W (HS.out.ext h) (by omega)).mono fun e w' ⟨⟨v, h1, h2⟩, h3⟩ => ⟨⟨v, h1, h2.sl (R := REv) ev_len (fun _ => rfl)⟩, h3⟩
      have hle : (refOfL xs).length ≤ 128 := by
        rw [(refOfL_perm xs).length_eq]
        have := evsL_len xs
        omega
      have HJ : Hid (∀ (V : Value) W, Sl W 10 REv V (refOfL xs) → Calls Tryd.prog 11 #[V] W fun e w' => (∃ v, e = .returned (.tuple #[v, .int .i64 ((refOfL xs).length : Int), .int .i64 0]) ∧ Sl w' 11 ROp v xs) ∧ Ext W w') := fun V W h => by
        have := join_any V (refOfL xs) W h (by omega) (evOk_hist hh)
        rwa [joinL_hist hh] at this
      have HPR : Hid (∀ W, Ext w W → Calls Tryd.prog 12 #[.slice A xs.length c] W fun e w' => e = .returned (.tuple #[.string (printS xs), .int .i64 0]) ∧ Ext W w') := fun W h => by
        have := printAll_any _ xs W (HS.out.ext h) (res_hist hh)
        rwa [hh] at this
      have HPA : Hid (∀ W, W.cell? ⟨0, 0, none⟩ = some (.int .i64 m) → Calls Tryd.prog 13 #[.string (printS xs)] W fun e w' => (∃ v, e = .returned (.tuple #[v, .int .i64 0, .int .i64 0]) ∧ Sl w' 11 ROp v xs) ∧ Ext W w') := fun W h => by
        have := parse_any (printS xs) m W h
        rwa [parse_print hh] at this
      rw [hh] at HC
      clear hh
      generalize refOfL xs = evs at *
      generalize printS xs = S at *
      go_enter Tryd.func4, Tryd.ntmps4
      go_wp2_with fail
      refine (HC.out _ (by (repeat' (with_reducible first | exact Below.refl _ _ | refine Ext.drewN ?_ _ | refine Below.drew ?_ | refine Below.setCell ?_ ?_ _ | refine Below.alloc ?_ ?_ _)) <;> (first | omega | (simp; done) | (simp; omega)))).mono ?_
      rintro e w0 ⟨rfl, hb0⟩
      have B0 := Lib.hid hb0
      clear hb0
      go_wp2_with fail
      refine (HOF.out _ (by (repeat' (with_reducible first | exact B0.out | exact Below.refl _ _ | refine Ext.drewN ?_ _ | refine Below.drew ?_ | refine Below.setCell ?_ ?_ _ | refine Below.alloc ?_ ?_ _)) <;> (first | omega | (simp; done) | (simp; omega)))).mono ?_
      rintro e w1 ⟨⟨V1, rfl, hs1⟩, hb1⟩
      have S1 := Lib.hid hs1
      obtain ⟨A1, c1, rfl⟩ := hs1.form
      have B1 := Lib.hid (Ext.trans (by (repeat' (with_reducible first | exact B0.out | exact Below.refl _ _ | refine Ext.drewN ?_ _ | refine Below.drew ?_ | refine Below.setCell ?_ ?_ _ | refine Below.alloc ?_ ?_ _)) <;> (first | omega | (simp; done) | (simp; omega)) : Ext w _) hb1)
      clear hs1 hb1
      go_wp2_with fail
      refine (HJ.out _ _ (S1.out.ext (by (repeat' (with_reducible first | exact Below.refl _ _ | refine Ext.drewN ?_ _ | refine Below.drew ?_ | refine Below.setCell ?_ ?_ _ | refine Below.alloc ?_ ?_ _)) <;> (first | omega | (simp; done) | (simp; omega))))).mono ?_
      rintro e w2 ⟨⟨V2, rfl, hs2⟩, hb2⟩
      have S2 := Lib.hid hs2
      obtain ⟨A2, c2, rfl⟩ := hs2.form
      have B2 := Lib.hid (Ext.trans (by (repeat' (with_reducible first | exact B1.out | exact Below.refl _ _ | refine Ext.drewN ?_ _ | refine Below.drew ?_ | refine Below.setCell ?_ ?_ _ | refine Below.alloc ?_ ?_ _)) <;> (first | omega | (simp; done) | (simp; omega)) : Ext w _) hb2)
      clear hs2 hb2 S1
      go_wp2_with fail
      refine (HPR.out _ (by (repeat' (with_reducible first | exact B2.out | exact Below.refl _ _ | refine Ext.drewN ?_ _ | refine Below.drew ?_ | refine Below.setCell ?_ ?_ _ | refine Below.alloc ?_ ?_ _)) <;> (first | omega | (simp; done) | (simp; omega)))).mono ?_
      rintro e w3 ⟨rfl, hb3⟩
      have S2 := Lib.hid (S2.out.ext (Ext.trans (by (repeat' (with_reducible first | exact Below.refl _ _ | refine Ext.drewN ?_ _ | refine Below.drew ?_ | refine Below.setCell ?_ ?_ _ | refine Below.alloc ?_ ?_ _)) <;> (first | omega | (simp; done) | (simp; omega))) hb3))
      have B3 := Lib.hid (Ext.trans (by (repeat' (with_reducible first | exact B2.out | exact Below.refl _ _ | refine Ext.drewN ?_ _ | refine Below.drew ?_ | refine Below.setCell ?_ ?_ _ | refine Below.alloc ?_ ?_ _)) <;> (first | omega | (simp; done) | (simp; omega)) : Ext w _) hb3)
      clear hb3
      go_wp2_with fail
      refine (HPA.out _ (HM.out _ (by (repeat' (with_reducible first | exact B3.out | exact Below.refl _ _ | refine Ext.drewN ?_ _ | refine Below.drew ?_ | refine Below.setCell ?_ ?_ _ | refine Below.alloc ?_ ?_ _)) <;> (first | omega | (simp; done) | (simp; omega))))).mono ?_
      rintro e w4 ⟨⟨V4, rfl, hs4⟩, hb4⟩
      have S4 := Lib.hid hs4
      obtain ⟨A4, c4, rfl⟩ := hs4.form
      have S2 := Lib.hid (S2.out.ext (Ext.trans (by (repeat' (with_reducible first | exact Below.refl _ _ | refine Ext.drewN ?_ _ | refine Below.drew ?_ | refine Below.setCell ?_ ?_ _ | refine Below.alloc ?_ ?_ _)) <;> (first | omega | (simp; done) | (simp; omega))) hb4))
      have B4 := Lib.hid (Ext.trans (by (repeat' (with_reducible first | exact B3.out | exact Below.refl _ _ | refine Ext.drewN ?_ _ | refine Below.drew ?_ | refine Below.setCell ?_ ?_ _ | refine Below.alloc ?_ ?_ _)) <;> (first | omega | (simp; done) | (simp; omega)) : Ext w _) hb4)
      clear hs4 hb4
      go_wp2_with fail
      refine (HOF.out _ (by (repeat' (with_reducible first | exact B4.out | exact Below.refl _ _ | refine Ext.drewN ?_ _ | refine Below.drew ?_ | refine Below.setCell ?_ ?_ _ | refine Below.alloc ?_ ?_ _)) <;> (first | omega | (simp; done) | (simp; omega)))).mono ?_
      rintro e w5 ⟨⟨V5, rfl, hs5⟩, hb5⟩
      obtain ⟨A5, c5, rfl⟩ := hs5.form
      have S2 := Lib.hid (S2.out.ext (Ext.trans (by (repeat' (with_reducible first | exact Below.refl _ _ | refine Ext.drewN ?_ _ | refine Below.drew ?_ | refine Below.setCell ?_ ?_ _ | refine Below.alloc ?_ ?_ _)) <;> (first | omega | (simp; done) | (simp; omega))) hb5))
      have S4 := Lib.hid (S4.out.ext (Ext.trans (by (repeat' (with_reducible first | exact Below.refl _ _ | refine Ext.drewN ?_ _ | refine Below.drew ?_ | refine Below.setCell ?_ ?_ _ | refine Below.alloc ?_ ?_ _)) <;> (first | omega | (simp; done) | (simp; omega))) hb5))
      have B5 := Lib.hid (Ext.trans (by (repeat' (with_reducible first | exact B4.out | exact Below.refl _ _ | refine Ext.drewN ?_ _ | refine Below.drew ?_ | refine Below.setCell ?_ ?_ _ | refine Below.alloc ?_ ?_ _)) <;> (first | omega | (simp; done) | (simp; omega)) : Ext w _) hb5)
      clear hs5 hb5
      go_wp2_with fail
      refine (ops_same _ _ xs _ (S2.out.ext (by (repeat' (with_reducible first | exact Below.refl _ _ | refine Ext.drewN ?_ _ | refine Below.drew ?_ | refine Below.setCell ?_ ?_ _ | refine Below.alloc ?_ ?_ _)) <;> (first | omega | (simp; done) | (simp; omega)))) (HS.out.ext (by (repeat' (with_reducible first | exact B5.out | exact Below.refl _ _ | refine Ext.drewN ?_ _ | refine Below.drew ?_ | refine Below.setCell ?_ ?_ _ | refine Below.alloc ?_ ?_ _)) <;> (first | omega | (simp; done) | (simp; omega))))).mono ?_
      rintro e w6 ⟨rfl, hb6⟩
      have S4 := Lib.hid (S4.out.ext (Ext.trans (by (repeat' (with_reducible first | exact Below.refl _ _ | refine Ext.drewN ?_ _ | refine Below.drew ?_ | refine Below.setCell ?_ ?_ _ | refine Below.alloc ?_ ?_ _)) <;> (first | omega | (simp; done) | (simp; omega))) hb6))
      have B6 := Lib.hid (Ext.trans (by (repeat' (with_reducible first | exact B5.out | exact Below.refl _ _ | refine Ext.drewN ?_ _ | refine Below.drew ?_ | refine Below.setCell ?_ ?_ _ | refine Below.alloc ?_ ?_ _)) <;> (first | omega | (simp; done) | (simp; omega)) : Ext w _) hb6)
      clear hb6
      go_wp2_with fail
      refine (ops_same _ _ xs _ (S4.out.ext (by (repeat' (with_reducible first | exact Below.refl _ _ | refine Ext.drewN ?_ _ | refine Below.drew ?_ | refine Below.setCell ?_ ?_ _ | refine Below.alloc ?_ ?_ _)) <;> (first | omega | (simp; done) | (simp; omega)))) (HS.out.ext (by (repeat' (with_reducible first | exact B6.out | exact Below.refl _ _ | refine Ext.drewN ?_ _ | refine Below.drew ?_ | refine Below.setCell ?_ ?_ _ | refine Below.alloc ?_ ?_ _)) <;> (first | omega | (simp; done) | (simp; omega))))).mono ?_
      rintro e w7 ⟨rfl, hb7⟩
      have B7 := Lib.hid (Ext.trans (by (repeat' (with_reducible first | exact B6.out | exact Below.refl _ _ | refine Ext.drewN ?_ _ | refine Below.drew ?_ | refine Below.setCell ?_ ?_ _ | refine Below.alloc ?_ ?_ _)) <;> (first | omega | (simp; done) | (simp; omega)) : Ext w _) hb7)
      clear hb7
      go_wp2_with fail
      refine (HAH.out m _ (HM.out _ (by (repeat' (with_reducible first | exact B7.out | exact Below.refl _ _ | refine Ext.drewN ?_ _ | refine Below.drew ?_ | refine Below.setCell ?_ ?_ _ | refine Below.alloc ?_ ?_ _)) <;> (first | omega | (simp; done) | (simp; omega))))).mono ?_
      rintro e w8 ⟨rfl, hb8⟩
      have B8 := Lib.hid (Ext.trans (by (repeat' (with_reducible first | exact B7.out | exact Below.refl _ _ | refine Ext.drewN ?_ _ | refine Below.drew ?_ | refine Below.setCell ?_ ?_ _ | refine Below.alloc ?_ ?_ _)) <;> (first | omega | (simp; done) | (simp; omega)) : Ext w _) hb8)
      clear hb8
      go_wp2_with fail
      go_ret
      exact ⟨rfl, by (repeat' (with_reducible first | exact B8.out | exact Below.refl _ _ | refine Ext.drewN ?_ _ | refine Below.drew ?_ | refine Below.setCell ?_ ?_ _ | refine Below.alloc ?_ ?_ _)) <;> (first | omega | (simp; done) | (simp; omega))⟩
    · have q2 : (histL xs != 0) = true := by simpa using hh
      clear hh
      generalize histL xs = f at *
      go_enter Tryd.func4, Tryd.ntmps4
      go_wp2_with fail
      refine (HC.out _ (by (repeat' (with_reducible first | exact Below.refl _ _ | refine Ext.drewN ?_ _ | refine Below.drew ?_ | refine Below.setCell ?_ ?_ _ | refine Below.alloc ?_ ?_ _)) <;> (first | omega | (simp; done) | (simp; omega)))).mono ?_
      rintro e w0 ⟨rfl, hb0⟩
      have B0 := Lib.hid hb0
      clear hb0
      go_wp2_with fail
      refine (HAH.out m _ (HM.out _ (by (repeat' (with_reducible first | exact B0.out | exact Below.refl _ _ | refine Ext.drewN ?_ _ | refine Below.drew ?_ | refine Below.setCell ?_ ?_ _ | refine Below.alloc ?_ ?_ _)) <;> (first | omega | (simp; done) | (simp; omega))))).mono ?_
      rintro e w8 ⟨rfl, hb8⟩
      have B8 := Lib.hid (Ext.trans (by (repeat' (with_reducible first | exact B0.out | exact Below.refl _ _ | refine Ext.drewN ?_ _ | refine Below.drew ?_ | refine Below.setCell ?_ ?_ _ | refine Below.alloc ?_ ?_ _)) <;> (first | omega | (simp; done) | (simp; omega)) : Ext w _) hb8)
      clear hb8
      go_wp2_with fail
      go_ret
      exact ⟨rfl, by (repeat' (with_reducible first | exact B8.out | exact Below.refl _ _ | refine Ext.drewN ?_ _ | refine Below.drew ?_ | refine Below.setCell ?_ ?_ _ | refine Below.alloc ?_ ?_ _)) <;> (first | omega | (simp; done) | (simp; omega))⟩
end Go.Proofs.YtgpnockjonicpaaDoor
