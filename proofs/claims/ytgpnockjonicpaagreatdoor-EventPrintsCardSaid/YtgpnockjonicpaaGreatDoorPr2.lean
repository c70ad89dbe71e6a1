/- event.Print, ref26.Print, law26.EventPrints, given that law26.awake answers yes. Conditions: results that an int holds. -/
import Derived.Test.YtgpnockjonicpaaGreatDoorEvL1
import Derived.Test.YtgpnockjonicpaaGreatDoorOf2
import Derived.Test.YtgpnockjonicpaaGreatDoorLw1
namespace Go.Proofs.YtgpnockjonicpaaGreatDoor
set_option linter.unusedSimpArgs false
set_option linter.unusedVariables false
open Go.RowKit

/-- a history's lines; empty: it may not be -/
def printS (l : List OpD) : ByteArray := if histL l ≠ 0 then ⟨#[]⟩ else strL (linesL (refOfL l))
theorem of_eq_any (V : Value) (xs : List OpD) (w : World) (hs : Sl w 11 ROp V xs) (hn : xs.length ≤ 1000000) :
    Calls Tryz.prog 24 #[V] w fun e w' => (∃ v, e = .returned v ∧ OwnL w' w.heap.size 48 10 EvD.cells v (refOfL xs)) ∧ Ext w w' := by
  refine (of_any V xs w hs hn).mono ?_
  rintro e w1 ⟨⟨V1, es, rfl, hst, ho1⟩, hb1⟩
  have e1 : es = refOfL xs := stableOf_eq hst
  subst e1
  exact ⟨⟨_, rfl, ho1⟩, hb1⟩
set_option maxRecDepth 100000 in
set_option maxHeartbeats 4000000 in
theorem print0_any (V : Value) (w : World) (hs : Sl w 11 ROp V []) :
    Calls Tryz.prog 11 #[V] w fun e w' => e = .returned (.tuple #[.string ⟨#[]⟩, .int .i64 0]) ∧ Ext w w' := by
  obtain ⟨A, c, rfl⟩ := hs.form
  have HHI := Lib.hid (hist_any _ [] w hs (fun o h => by cases h))
  have HO : Hid (∀ W, Ext w W → Calls Tryz.prog 24 #[.slice A ([] : List OpD).length c] W fun e w' => (∃ v, e = .returned v ∧ OwnL w' W.heap.size 48 10 EvD.cells v (refOfL [])) ∧ Ext W w') := fun W h => of_eq_any _ [] W (hs.ext h) (by simp)
  have HE : Hid (histL [] = 0) := by unfold Hid; decide
  clear hs
  rw [HE.out] at HHI
  go_enter Tryz.func11, Tryz.ntmps11
  go_wp2_with fail
  refine HHI.out.mono ?_
  rintro e w1 ⟨rfl, hb1⟩
  have B1 := Lib.hid hb1
  have hz1 := hb1.size
  clear hb1
  go_wp2_with fail
  refine (HO.out _ (by (repeat' (with_reducible first | exact B1.out | exact Below.refl _ _ | refine Ext.drewN ?_ _ | refine Below.drew ?_ | refine Below.setCell ?_ ?_ _ | refine Below.alloc ?_ ?_ _)) <;> (first | omega | (simp; done) | (simp; omega)))).mono ?_
  rintro e wE ⟨⟨v, rfl, hown⟩, hbE⟩
  have HBL : Hid (Bld w1.heap.size w1.heap.size [] wE) := Bld.ext (Lib.fresh_isBuilder 65 5 w1) hbE
  have hzE := hbE.size
  simp at hzE
  have BE : Hid (Ext w1 wE) := Ext.trans (Ext.alloc _ _) hbE
  obtain ⟨vA, vc, rfl⟩ := hown.form
  have e0 : (refOfL []).length = 0 := rfl
  rw [e0]
  clear hown hbE
  go_wp2_with fail
  go_loopw [16] (fun i wr => i = .int .i64 0 ∧ wE = wr) (fun i _ => 0)
  case atStart => exact ⟨rfl, rfl⟩
  case round =>
    obtain ⟨rfl, rfl⟩ := hrel
    go_wp2_with fail
    refine (Tryz.Builder_String_any w1.heap.size w1.heap.size [] _ (HBL.out.ext (by (repeat' (with_reducible first | exact Below.refl _ _ | refine Ext.drewN ?_ _ | refine Below.drew ?_ | refine Below.setCell ?_ ?_ _ | refine Below.alloc ?_ ?_ _)) <;> (first | omega | (simp; done) | (simp; omega)))) (by omega)).mono ?_
    rintro e w5 ⟨rfl, hb5⟩
    have B5 : Hid (Ext w w5) := Ext.trans B1.out (Below.trans (BE.out) hb5)
    clear hb5
    go_wp2_with fail
    go_ret2
    exact ⟨rfl, B5.out⟩
set_option maxRecDepth 100000 in
set_option maxHeartbeats 4000000 in
theorem printBad_any (V : Value) (l : List OpD) (w : World) (hs : Sl w 11 ROp V l) (hwf : ∀ o ∈ l, -9223372036854775808 ≤ o.result ∧ o.result ≤ 9223372036854775807) (hh : histL l ≠ 0) :
    Calls Tryz.prog 11 #[V] w fun e w' => e = .returned (.tuple #[.string ⟨#[]⟩, .int .i64 (histL l)]) ∧ Ext w w' := by
  obtain ⟨A, c, rfl⟩ := hs.form
  have HHI := Lib.hid (hist_any _ l w hs hwf)
  clear hs hwf
  generalize histL l = h at *
  have q1 : (h != 0) = true := by simpa using hh
  clear hh
  go_enter Tryz.func11, Tryz.ntmps11
  go_wp2_with fail
  refine HHI.out.mono ?_
  rintro e w1 ⟨rfl, hb1⟩
  have B1 := Lib.hid hb1
  clear hb1
  go_wp2_with fail
  go_ret2
  exact ⟨rfl, by (repeat' (with_reducible first | exact B1.out | exact Below.refl _ _ | refine Ext.drewN ?_ _ | refine Below.drew ?_ | refine Below.setCell ?_ ?_ _ | refine Below.alloc ?_ ?_ _)) <;> (first | omega | (simp; done) | (simp; omega))⟩
theorem printAll_any (V : Value) (l : List OpD) (w : World) (hs : Sl w 11 ROp V l) (hwf : ∀ o ∈ l, -9223372036854775808 ≤ o.result ∧ o.result ≤ 9223372036854775807) :
    Calls Tryz.prog 11 #[V] w fun e w' => e = .returned (.tuple #[.string (printS l), .int .i64 (histL l)]) ∧ Ext w w' := by
  unfold printS
  by_cases hh : histL l ≠ 0
  · rw [if_pos hh]
    exact printBad_any V l w hs hwf hh
  · rw [if_neg hh]
    have h0 : histL l = 0 := by simpa using hh
    rw [h0]
    by_cases hn : l = []
    · subst hn
      exact print0_any V w hs
    · have ho := hist_ok h0
      have hl : (refOfL l).length ≤ 128 := by
        rw [(refOfL_perm l).length_eq]
        have := evsL_len l
        have := ho.len
        omega
      have he := hist_evs ho
      refine print_any V l (refOfL l) w hs hwf h0 (fun q => ?_) (by omega) (fun x hx => (he x hx).1) (fun x hx => (he x hx).2) (fun k hk => ?_) (fun W h => of_eq_any V l W (hs.ext h) (by have := ho.len; omega))
      · have h1 := (refOfL_perm l).length_eq
        rw [q] at h1
        obtain ⟨o, r, rfl⟩ := List.exists_cons_of_ne_nil hn
        have : (evsL (o :: r)).length = (evs1 o).length + (evsL r).length := by unfold evsL; rw [List.flatMap_cons, List.length_append]
        have : 0 < (evs1 o).length := by unfold evs1; split <;> simp
        simp only [List.length_nil] at h1
        omega
      · have := lines_len ((refOfL l).take k) (fun x hx => (he x (List.mem_of_mem_take hx)).1)
        rw [List.length_take] at this
        omega
set_option maxRecDepth 100000 in
set_option maxHeartbeats 4000000 in
theorem refPrint_any (V : Value) (l : List OpD) (w : World) (hs : Sl w 11 ROp V l) :
    Calls Tryz.prog 12 #[V] w fun e w' => e = .returned (.tuple #[.string (printS l), .int .i64 (histL l)]) ∧ Ext w w' := by
  obtain ⟨A, c, rfl⟩ := hs.form
  have HS := Lib.hid hs
  have HH : Hid (∀ W, Ext w W → Calls Tryz.prog 23 #[.slice A l.length c] W fun e w' => e = .returned (.int .i64 (histL l)) ∧ Ext W w') := fun W h => refHist_any _ l W (hs.ext h)
  clear hs
  by_cases hh : histL l ≠ 0
  · have HP : Hid (printS l = ⟨#[]⟩) := by unfold Hid printS; rw [if_pos hh]
    generalize histL l = h at *
    have q1 : (h != 0) = true := by simpa using hh
    clear hh
    go_enter Tryz.func12, Tryz.ntmps12
    go_wp2_with fail
    refine (HH.out _ (by (repeat' (with_reducible first | exact Below.refl _ _ | refine Ext.drewN ?_ _ | refine Below.drew ?_ | refine Below.setCell ?_ ?_ _ | refine Below.alloc ?_ ?_ _)) <;> (first | omega | (simp; done) | (simp; omega)))).mono ?_
    rintro e w1 ⟨rfl, hb1⟩
    have B1 := Lib.hid hb1
    clear hb1
    go_wp2_with fail
    refine (HH.out _ (by (repeat' (with_reducible first | exact B1.out | exact Below.refl _ _ | refine Ext.drewN ?_ _ | refine Below.drew ?_ | refine Below.setCell ?_ ?_ _ | refine Below.alloc ?_ ?_ _)) <;> (first | omega | (simp; done) | (simp; omega)))).mono ?_
    rintro e w2 ⟨rfl, hb2⟩
    have B2 := Lib.hid (Ext.trans (by (repeat' (with_reducible first | exact B1.out | exact Below.refl _ _ | refine Ext.drewN ?_ _ | refine Below.drew ?_ | refine Below.setCell ?_ ?_ _ | refine Below.alloc ?_ ?_ _)) <;> (first | omega | (simp; done) | (simp; omega)) : Ext w _) hb2)
    clear hb2
    go_wp2_with fail
    go_ret2
    exact ⟨by rw [HP.out]; rfl, by (repeat' (with_reducible first | exact B2.out | exact Below.refl _ _ | refine Ext.drewN ?_ _ | refine Below.drew ?_ | refine Below.setCell ?_ ?_ _ | refine Below.alloc ?_ ?_ _)) <;> (first | omega | (simp; done) | (simp; omega))⟩
  · have h0 : histL l = 0 := by simpa using hh
    have HP : Hid (printS l = strL (linesL (refOfL l))) := by unfold Hid printS; rw [if_neg hh]
    have hlen := (hist_ok h0).len
    have HE := Lib.hid (hist_evs (hist_ok h0))
    have hl : (refOfL l).length ≤ 128 := by
      rw [(refOfL_perm l).length_eq]
      have := evsL_len l
      omega
    rw [h0] at HH ⊢
    have HR : Hid (∀ W, Ext w W → Calls Tryz.prog 28 #[.slice A l.length c] W fun e w' => (∃ v, e = .returned v ∧ Sl w' 10 REv v (refOfL l)) ∧ Ext W w') := fun W h => refOf_any _ l W (HS.out.ext h) (by omega)
    clear h0 hh HS
    generalize refOfL l = evs at *
    go_enter Tryz.func12, Tryz.ntmps12
    go_wp2_with fail
    refine (HH.out _ (by (repeat' (with_reducible first | exact Below.refl _ _ | refine Ext.drewN ?_ _ | refine Below.drew ?_ | refine Below.setCell ?_ ?_ _ | refine Below.alloc ?_ ?_ _)) <;> (first | omega | (simp; done) | (simp; omega)))).mono ?_
    rintro e w1 ⟨rfl, hb1⟩
    have B1 := Lib.hid hb1
    clear hb1
    go_wp2_with fail
    refine (HR.out _ (by (repeat' (with_reducible first | exact B1.out | exact Below.refl _ _ | refine Ext.drewN ?_ _ | refine Below.drew ?_ | refine Below.setCell ?_ ?_ _ | refine Below.alloc ?_ ?_ _)) <;> (first | omega | (simp; done) | (simp; omega)))).mono ?_
    rintro e w2 ⟨⟨v2, rfl, hs2⟩, hb2⟩
    have B2 := Lib.hid (Ext.trans (by (repeat' (with_reducible first | exact B1.out | exact Below.refl _ _ | refine Ext.drewN ?_ _ | refine Below.drew ?_ | refine Below.setCell ?_ ?_ _ | refine Below.alloc ?_ ?_ _)) <;> (first | omega | (simp; done) | (simp; omega)) : Ext w _) hb2)
    have HS2 := Lib.hid hs2
    obtain ⟨A2, c2, rfl⟩ := hs2.form
    clear hb2 hs2
    go_wp2_with fail
    go_loopw [4, 6] (fun s i wr => ∃ (k : Nat), k ≤ evs.length ∧ s = .string (strL (linesL (evs.take k))) ∧ i = .int .i64 k ∧ Ext w2 wr) (fun _ i _ => evs.length - (intOf i).toNat)
    case atStart => exact ⟨0, by omega, rfl, rfl, Ext.refl _⟩
    case round =>
      obtain ⟨k, hk, rfl, rfl, hbr⟩ := hrel
      have BR := Lib.hid hbr
      have hzr := hbr.size
      clear hbr
      by_cases hlt : k < evs.length
      · have hd : decide ((k : Int) < (evs.length : Int)) = true := decide_eq_true (by omega)
        obtain ⟨b, off, rfl, hbl, hcell⟩ := HS2.out.evs_at (by omega)
        obtain ⟨e0, e1, e2, e3, e4, e5, e6, e7, e8, e9⟩ := hcell k hlt wr BR.out
        have HN := Lib.hid ((HE.out _ (List.getElem_mem hlt)).1)
        have hsx : (lineL evs[k]).size ≤ 150 := line_size HN.out
        have hss : (strL (linesL (evs.take k))).size ≤ 151 * k := by
          have h1 := lines_len (evs.take k) (fun x hx => (HE.out x (List.mem_of_mem_take hx)).1)
          rw [List.length_take] at h1
          show (linesL (evs.take k)).toArray.size ≤ 151 * k
          rw [List.size_toArray]
          omega
        have HT : Hid (strL (linesL (evs.take (k + 1))) = strL (linesL (evs.take k)) ++ lineL evs[k] ++ ⟨#[10]⟩) := by
          unfold Hid
          rw [lines_take evs k hlt, ← strL_app, strL_data]
          exact ByteArray.append_assoc.symm
        have hbw : b < wr.heap.size := by omega
        clear hcell
        generalize evs[k] = x at *
        generalize strL (linesL (evs.take k)) = S at *
        have f1 : ¬ 9223372036854775807 < S.size + (lineL x).size := by omega
        have f2 : ¬ 9223372036854775807 < S.size + (lineL x).size + 1 := by omega
        go_wp2_with fail
        refine (refLine_any x _ HN.out).mono ?_
        rintro e w3 ⟨rfl, hb3⟩
        have B3 := Lib.hid (Ext.trans (by (repeat' (with_reducible first | exact BR.out | exact Below.refl _ _ | refine Ext.drewN ?_ _ | refine Below.drew ?_ | refine Below.setCell ?_ ?_ _ | refine Below.alloc ?_ ?_ _)) <;> (first | omega | (simp; done) | (simp; omega)) : Ext w2 _) hb3)
        clear hb3 e0 e1 e2 e3 e4 e5 e6 e7 e8 e9
        go_wp2_with fail
        go_roundw
        case measure => simp [intOf]; omega
        case rel => exact ⟨k + 1, by omega, by rw [HT.out], by go_num, by (repeat' (with_reducible first | exact B3.out | exact Below.refl _ _ | refine Ext.drewN ?_ _ | refine Below.drew ?_ | refine Below.setCell ?_ ?_ _ | refine Below.alloc ?_ ?_ _)) <;> (first | omega | (simp; done) | (simp; omega))⟩
      · obtain rfl : k = evs.length := by omega
        have hd : decide ((evs.length : Int) < (evs.length : Int)) = false := by simp
        rw [List.take_length]
        go_wp2_with fail
        go_ret2
        exact ⟨by rw [HP.out]; rfl, Ext.trans B2.out BR.out⟩
set_option maxRecDepth 100000 in
set_option maxHeartbeats 4000000 in
theorem eventPrints_any (HA : Awake26) (V : Value) (xs : List OpD) (m : Int) (w : World) (hs : Sl w 11 ROp V xs) (hwf : ∀ o ∈ xs, -9223372036854775808 ≤ o.result ∧ o.result ≤ 9223372036854775807) (hm : w.cell? ⟨0, 0, none⟩ = some (.int .i64 m)) :
    Calls Tryz.prog 4 #[V] w fun e w' => e = .returned (.bool true) ∧ Ext w w' := by
  have hw0 : 0 < w.heap.size := World.block_lt_of_cell? _ _ hm
  have HM : Hid (∀ W, Ext w W → W.cell? ⟨0, 0, none⟩ = some (.int .i64 m)) := fun W h => (h.cell (p := ⟨0, 0, none⟩) hw0).trans hm
  have HAH := Lib.hid HA
  have HP : Hid (∀ W, Ext w W → Calls Tryz.prog 11 #[V] W fun e w' => e = .returned (.tuple #[.string (printS xs), .int .i64 (histL xs)]) ∧ Ext W w') := fun W h => printAll_any V xs W (hs.ext h) hwf
  have HR : Hid (∀ W, Ext w W → Calls Tryz.prog 12 #[V] W fun e w' => e = .returned (.tuple #[.string (printS xs), .int .i64 (histL xs)]) ∧ Ext W w') := fun W h => refPrint_any V xs W (hs.ext h)
  obtain ⟨A, c, rfl⟩ := hs.form
  obtain ⟨_, hc1, hc2, hA⟩ := hs.at
  clear hm HA hs hA hwf
  by_cases hbig : 100 < xs.length
  · have q1 : decide (100 < (xs.length : Int)) = true := decide_eq_true (by omega)
    clear hbig
    go_enter Tryz.func4, Tryz.ntmps4
    go_wp2_with fail
    refine (HAH.out m _ (HM.out _ (by (repeat' (with_reducible first | exact Below.refl _ _ | refine Ext.drewN ?_ _ | refine Below.drew ?_ | refine Below.setCell ?_ ?_ _ | refine Below.alloc ?_ ?_ _)) <;> (first | omega | (simp; done) | (simp; omega))))).mono ?_
    rintro e w1 ⟨rfl, hb⟩
    go_wp2_with fail
    go_ret
    exact ⟨rfl, hb⟩
  · have q1 : decide (100 < (xs.length : Int)) = false := decide_eq_false (by omega)
    clear hbig
    generalize printS xs = S at *
    generalize histL xs = h at *
    go_enter Tryz.func4, Tryz.ntmps4
    go_wp2_with fail
    refine (HP.out _ (by (repeat' (with_reducible first | exact Below.refl _ _ | refine Ext.drewN ?_ _ | refine Below.drew ?_ | refine Below.setCell ?_ ?_ _ | refine Below.alloc ?_ ?_ _)) <;> (first | omega | (simp; done) | (simp; omega)))).mono ?_
    rintro e w1 ⟨rfl, hb1⟩
    have B1 := Lib.hid hb1
    clear hb1
    go_wp2_with fail
    refine (HR.out _ (by (repeat' (with_reducible first | exact B1.out | exact Below.refl _ _ | refine Ext.drewN ?_ _ | refine Below.drew ?_ | refine Below.setCell ?_ ?_ _ | refine Below.alloc ?_ ?_ _)) <;> (first | omega | (simp; done) | (simp; omega)))).mono ?_
    rintro e w2 ⟨rfl, hb2⟩
    have B2 := Lib.hid (Ext.trans (by (repeat' (with_reducible first | exact B1.out | exact Below.refl _ _ | refine Ext.drewN ?_ _ | refine Below.drew ?_ | refine Below.setCell ?_ ?_ _ | refine Below.alloc ?_ ?_ _)) <;> (first | omega | (simp; done) | (simp; omega)) : Ext w _) hb2)
    clear hb2
    go_wp2_with fail
    refine (HAH.out m _ (HM.out _ (by (repeat' (with_reducible first | exact B2.out | exact Below.refl _ _ | refine Ext.drewN ?_ _ | refine Below.drew ?_ | refine Below.setCell ?_ ?_ _ | refine Below.alloc ?_ ?_ _)) <;> (first | omega | (simp; done) | (simp; omega))))).mono ?_
    rintro e w4 ⟨rfl, hb4⟩
    have B4 := Lib.hid (Ext.trans (by (repeat' (with_reducible first | exact B2.out | exact Below.refl _ _ | refine Ext.drewN ?_ _ | refine Below.drew ?_ | refine Below.setCell ?_ ?_ _ | refine Below.alloc ?_ ?_ _)) <;> (first | omega | (simp; done) | (simp; omega)) : Ext w _) hb4)
    clear hb4
    go_wp2_with fail
    go_ret
    exact ⟨rfl, by (repeat' (with_reducible first | exact B4.out | exact Below.refl _ _ | refine Ext.drewN ?_ _ | refine Below.drew ?_ | refine Below.setCell ?_ ?_ _ | refine Below.alloc ?_ ?_ _)) <;> (first | omega | (simp; done) | (simp; omega))⟩
end Go.Proofs.YtgpnockjonicpaaGreatDoor
