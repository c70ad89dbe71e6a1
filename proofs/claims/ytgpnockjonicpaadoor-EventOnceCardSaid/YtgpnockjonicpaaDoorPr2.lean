/- event.Print, ref26.Print, law26.EventPrints, given that law26.awake answers yes. Conditions: results that an int holds. -/
import Derived.Test.YtgpnockjonicpaaDoorEvL1
import Derived.Test.YtgpnockjonicpaaDoorOf2
import Derived.Test.YtgpnockjonicpaaDoorLw1
namespace Go.Proofs.YtgpnockjonicpaaDoor
set_option linter.unusedSimpArgs false
set_option linter.unusedVariables false
open Go.RowKit

/-- a history's lines; empty: it may not be -/
def printS (l : List OpD) : ByteArray := if histL l ≠ 0 then ⟨#[]⟩ else strL (linesL (refOfL l))
theorem of_eq_any (V : Value) (xs : List OpD) (w : World) (hs : Sl w 11 ROp V xs) (hn : xs.length ≤ 1000000) :
    Calls Tryd.prog 8 #[V] w fun e w' => (∃ v, e = .returned v ∧ OwnL w' w.heap.size 42 10 EvD.cells v (refOfL xs)) ∧ Ext w w' := by
  refine (of_any V xs w hs hn).mono ?_
  rintro e w1 ⟨⟨V1, es, rfl, hst, ho1⟩, hb1⟩
  have e1 : es = refOfL xs := stableOf_eq hst
  subst e1
  exact ⟨⟨_, rfl, ho1⟩, hb1⟩
set_option maxRecDepth 100000 in
set_option maxHeartbeats 4000000 in
theorem print0_any (V : Value) (w : World) (hs : Sl w 11 ROp V []) :
    Calls Tryd.prog 12 #[V] w fun e w' => e = .returned (.tuple #[.string ⟨#[]⟩, .int .i64 0]) ∧ Ext w w' := by
  obtain ⟨A, c, rfl⟩ := hs.form
  have HHI := Lib.hid (hist_any _ [] w hs (fun o h => by cases h))
  have HO : Hid (∀ W, Ext w W → Calls Tryd.prog 8 #[.slice A ([] : List OpD).length c] W fun e w' => (∃ v, e = .returned v ∧ OwnL w' W.heap.size 42 10 EvD.cells v (refOfL [])) ∧ Ext W w') := fun W h => of_eq_any _ [] W (hs.ext h) (by simp)
  have HE : Hid (histL [] = 0) := by unfold Hid; decide
  clear hs
  rw [HE.out] at HHI
  go_enter Tryd.func12, Tryd.ntmps12
  go_wp2_with fail
  refine HHI.out.mono ?_
  rintro e w1 ⟨rfl, hb1⟩
  have B1 := Lib.hid hb1
  have hz1 := hb1.size
  clear hb1
  go_wp2_with fail
  refine (HO.out _ (by (repeat' (with_reducible first | exact B1.out | exact Below.refl _ _ | refine Ext.drewN ?_ _ | refine Below.drew ?_ | refine Below.setCell ?_ ?_ _ | refine Below.alloc ?_ ?_ _)) <;> (first | omega | (simp; done) | (simp; omega)))).mono ?_
  rintro e wE ⟨⟨v, rfl, hown⟩, hbE⟩
  have HBL : Hid (Bld w1.heap.size w1.heap.size [] wE) := Bld.ext (Lib.fresh_isBuilder 63 5 w1) hbE
  have hzE := hbE.size
  simp at hzE
  have BE : Hid (Ext w1 wE) := Ext.trans (Ext.alloc _ _) hbE
  obtain ⟨vA, vc, rfl⟩ := hown.form
  have e0 : (refOfL []).length = 0 := rfl
  rw [e0]
  clear hown hbE
  go_wp2_with fail
  go_loopw [16] (fun i wr => i = .int .i64 0 ∧ wE = wr) (fun i _ => 0)
  case atStart => exact ⟨rfl, rfl⟩
  case round =>
    obtain ⟨rfl, rfl⟩ := hrel
    go_wp2_with fail
    refine (Tryd.Builder_String_any w1.heap.size w1.heap.size [] _ (HBL.out.ext (by (repeat' (with_reducible first | exact Below.refl _ _ | refine Ext.drewN ?_ _ | refine Below.drew ?_ | refine Below.setCell ?_ ?_ _ | refine Below.alloc ?_ ?_ _)) <;> (first | omega | (simp; done) | (simp; omega)))) (by omega)).mono ?_
    rintro e w5 ⟨rfl, hb5⟩
    have B5 : Hid (Ext w w5) := Ext.trans B1.out (Below.trans (BE.out) hb5)
    clear hb5
    go_wp2_with fail
    go_ret2
    exact ⟨rfl, B5.out⟩
set_option maxRecDepth 100000 in
set_option maxHeartbeats 4000000 in
theorem printBad_any (V : Value) (l : List OpD) (w : World) (hs : Sl w 11 ROp V l) (hwf : ∀ o ∈ l, -9223372036854775808 ≤ o.result ∧ o.result ≤ 9223372036854775807) (hh : histL l ≠ 0) :
    Calls Tryd.prog 12 #[V] w fun e w' => e = .returned (.tuple #[.string ⟨#[]⟩, .int .i64 (histL l)]) ∧ Ext w w' := by
  obtain ⟨A, c, rfl⟩ := hs.form
  have HHI := Lib.hid (hist_any _ l w hs hwf)
  clear hs hwf
  generalize histL l = h at *
  have q1 : (h != 0) = true := by simpa using hh
  clear hh
  go_enter Tryd.func12, Tryd.ntmps12
  go_wp2_with fail
  refine HHI.out.mono ?_
  rintro e w1 ⟨rfl, hb1⟩
  have B1 := Lib.hid hb1
  clear hb1
  go_wp2_with fail
  go_ret2
  exact ⟨rfl, by (repeat' (with_reducible first | exact B1.out | exact Below.refl _ _ | refine Ext.drewN ?_ _ | refine Below.drew ?_ | refine Below.setCell ?_ ?_ _ | refine Below.alloc ?_ ?_ _)) <;> (first | omega | (simp; done) | (simp; omega))⟩
theorem printAll_any (V : Value) (l : List OpD) (w : World) (hs : Sl w 11 ROp V l) (hwf : ∀ o ∈ l, -9223372036854775808 ≤ o.result ∧ o.result ≤ 9223372036854775807) :
    Calls Tryd.prog 12 #[V] w fun e w' => e = .returned (.tuple #[.string (printS l), .int .i64 (histL l)]) ∧ Ext w w' := by
  unfold printS
  by_cases hh : histL l ≠ 0
  · rw [if_pos hh]
    exact printBad_any V l w hs hwf hh
  · rw [if_neg hh]
    have h0 : histL l = 0 := by simpa using hh
    rw [h0]
    by_cases hn : l = []
    · subst hn
      exact print0_any V w hs
    · have ho := hist_ok h0
      have hl : (refOfL l).length ≤ 128 := by
        rw [(refOfL_perm l).length_eq]
        have := evsL_len l
        have := ho.len
        omega
      have he := hist_evs ho
      refine print_any V l (refOfL l) w hs hwf h0 (fun q => ?_) (by omega) (fun x hx => (he x hx).1) (fun x hx => (he x hx).2) (fun k hk => ?_) (fun W h => of_eq_any V l W (hs.ext h) (by have := ho.len; omega))
      · have h1 := (refOfL_perm l).length_eq
        rw [q] at h1
        obtain ⟨o, r, rfl⟩ := List.exists_cons_of_ne_nil hn
        have : (evsL (o :: r)).length = (evs1 o).length + (evsL r).length := by unfold evsL; rw [List.flatMap_cons, List.length_append]
        have : 0 < (evs1 o).length := by unfold evs1; split <;> simp
        simp only [List.length_nil] at h1
        omega
      · have := lines_len ((refOfL l).take k) (fun x hx => (he x (List.mem_of_mem_take hx)).1)
        rw [List.length_take] at this
        omega
end Go.Proofs.YtgpnockjonicpaaDoor
