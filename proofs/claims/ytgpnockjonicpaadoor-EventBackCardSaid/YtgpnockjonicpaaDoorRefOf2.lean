/- ref26.Of: what happened, put in its place one by one. Conditions: at most 10^5 operations. -/
import Derived.Test.YtgpnockjonicpaaDoorRefOf1
import Derived.Test.YtgpnockjonicpaaDoorOf2
namespace Go.Proofs.YtgpnockjonicpaaDoor
set_option linter.unusedSimpArgs false
set_option linter.unusedVariables false
open Go.RowKit

def refOfL (xs : List OpD) : List EvD := (evsL xs).foldl putL []
theorem foldl_putL_len (es acc : List EvD) : (es.foldl putL acc).length = acc.length + es.length := by
  induction es generalizing acc with
  | nil => rfl
  | cons e r ih => rw [List.foldl_cons, ih, putL_len, List.length_cons]; omega
set_option maxRecDepth 100000 in
set_option maxHeartbeats 4000000 in
theorem refOf_any (V : Value) (xs : List OpD) (w : World) (hs : Sl w 11 ROp V xs) (hn : xs.length ≤ 100000) :
    Calls Tryd.prog 9 #[V] w fun e w' => (∃ v, e = .returned v ∧ Sl w' 10 REv v (refOfL xs)) ∧ Ext w w' := by
  obtain ⟨A, c, rfl⟩ := hs.form
  obtain ⟨_, hc1, hc2, hA⟩ := hs.at
  clear hA
  have HSL := Lib.hid hs
  clear hs
  go_enter Tryd.func9, Tryd.ntmps9
  go_wp2_with fail
  go_loopw [3, 4] (fun v i wr => ∃ (k : Nat) (acc : List EvD), k ≤ xs.length ∧ Hid (acc = (evsL (xs.take k)).foldl putL []) ∧ acc.length ≤ 2 * k ∧ Sl wr 10 REv v acc ∧ i = .int .i64 k ∧ Ext w wr) (fun _ i _ => xs.length - (intOf i).toNat)
  case atStart => exact ⟨0, [], Nat.zero_le _, rfl, Nat.le_refl _, Sl.nil _ _ _, rfl, Ext.refl _⟩
  case round =>
    obtain ⟨k, acc, hk, hacc, hal, hown, rfl, hb⟩ := hrel
    have HB := Lib.hid hb
    have hzb := hb.size
    have HOW := Lib.hid hown
    obtain ⟨vA, vc, rfl⟩ := hown.form
    clear hown hb
    by_cases hlt : k < xs.length
    · have hd : decide ((k : Int) < (xs.length : Int)) = true := decide_eq_true (by omega)
      obtain ⟨b, off, rfl, hbl, hcell⟩ := HSL.out.ops_at (by omega)
      obtain ⟨e0, e1, e2, e3, e4, e5, e6, e7, e8, e9, e10⟩ := hcell k hlt wr HB.out
      have HT := Lib.hid (evsL_take xs k hlt)
      have hbw : b < wr.heap.size := by omega
      clear hcell
      generalize xs[k] = o at *
      obtain ⟨dn, hdn⟩ : ∃ d, o.done = d := ⟨_, rfl⟩
      rw [hdn] at e7
      go_wp2_with fail
      refine (refPut_any _ acc (invOf o) _ (HOW.out.ext (by (repeat' (with_reducible first | exact Below.refl _ _ | refine Ext.drewN ?_ _ | refine Below.drew ?_ | refine Below.setCell ?_ ?_ _ | refine Below.alloc ?_ ?_ _)) <;> (first | omega | (simp; done) | (simp; omega)))) (by omega)).mono ?_
      rintro e w1 ⟨⟨v1, rfl, ho1⟩, hb1⟩
      have hrow : Row1 w1 wr.heap.size 40 [.int .i64 o.id, .int .i64 o.proc, .int .i64 o.object, .int .i64 o.kind, .int .i64 o.method, .int .i64 o.arg, .int .i64 o.second, .bool dn, .int .i64 o.result, .int .i64 o.invoke, .int .i64 o.ret] := (Row1.made wr 40 [.int .i64 o.id, .int .i64 o.proc, .int .i64 o.object, .int .i64 o.kind, .int .i64 o.method, .int .i64 o.arg, .int .i64 o.second, .bool dn, .int .i64 o.result, .int .i64 o.invoke, .int .i64 o.ret]).ext (Ext.trans (by (repeat' (with_reducible first | exact Below.refl _ _ | refine Ext.drewN ?_ _ | refine Below.drew ?_ | refine Below.setCell ?_ ?_ _ | refine Below.alloc ?_ ?_ _)) <;> (first | omega | (simp; done) | (simp; omega))) hb1) (by simp)
      have HX1 : Hid (Ext w w1) := Ext.trans (by (repeat' (with_reducible first | exact HB.out | exact Below.refl _ _ | refine Ext.drewN ?_ _ | refine Below.drew ?_ | refine Below.setCell ?_ ?_ _ | refine Below.alloc ?_ ?_ _)) <;> (first | omega | (simp; done) | (simp; omega)) : Ext w _) hb1
      have HS1 := Lib.hid (ho1.sl (R := REv) ev_len (fun _ => rfl))
      obtain ⟨v1A, v1c, rfl⟩ := HS1.out.form
      have hl1 := putL_len acc (invOf o)
      have hx0 := hrow.cell 0
      have hx1 := hrow.cell 1
      have hx7 := hrow.cell 7
      have hx8 := hrow.cell 8
      have hx10 := hrow.cell 10
      simp only [List.getElem?_cons_zero, List.getElem?_cons_succ] at hx0 hx1 hx7 hx8 hx10
      have hrl := hrow.lt
      clear ho1 hb1 hrow e0 e1 e2 e3 e4 e5 e6 e7 e8 e9 e10
      generalize hac2 : putL acc (invOf o) = acc2 at *
      have HAC2 := Lib.hid hac2
      have hl3 : acc2.length ≤ 2 * k + 1 := by omega
      clear hac2 hl1
      cases dn with
      | true =>
        go_wp2_with fail
        refine (refPut_any _ acc2 (ansOf o) _ (HS1.out.ext (by (repeat' (with_reducible first | exact Below.refl _ _ | refine Ext.drewN ?_ _ | refine Below.drew ?_ | refine Below.setCell ?_ ?_ _ | refine Below.alloc ?_ ?_ _)) <;> (first | omega | (simp; done) | (simp; omega)))) (by omega)).mono ?_
        rintro e w2 ⟨⟨v2, rfl, ho2⟩, hb2⟩
        have HX2 : Hid (Ext w w2) := Ext.trans (by (repeat' (with_reducible first | exact HX1.out | exact Below.refl _ _ | refine Ext.drewN ?_ _ | refine Below.drew ?_ | refine Below.setCell ?_ ?_ _ | refine Below.alloc ?_ ?_ _)) <;> (first | omega | (simp; done) | (simp; omega)) : Ext w _) hb2
        have HS2 := Lib.hid (ho2.sl (R := REv) ev_len (fun _ => rfl))
        have HL2 : Hid ((putL acc2 (ansOf o)).length ≤ 2 * k + 2) := by unfold Hid; rw [putL_len]; omega
        clear ho2 hb2
        go_wp2_with fail
        go_roundw
        case measure => simp [intOf]; omega
        case rel => exact ⟨k + 1, putL acc2 (ansOf o), hlt, by unfold Hid; rw [HT.out, List.foldl_append, ← hacc.out, ← HAC2.out]; simp [evs1, hdn], by have := HL2.out; omega, HS2.out, by go_num, HX2.out⟩
      | false =>
        go_wp2_with fail
        go_roundw
        case measure => simp [intOf]; omega
        case rel => exact ⟨k + 1, acc2, hlt, by unfold Hid; rw [HT.out, List.foldl_append, ← hacc.out, ← HAC2.out]; simp [evs1, hdn], by omega, HS1.out, by go_num, HX1.out⟩
    · have hd : decide ((k : Int) < (xs.length : Int)) = false := decide_eq_false (by omega)
      obtain rfl : k = xs.length := by omega
      have HE : Hid (acc = refOfL xs) := by
        have := hacc.out
        rw [List.take_length] at this
        exact this
      go_wp2_with fail
      go_ret
      exact ⟨⟨_, rfl, by rw [← HE.out]; exact HOW.out⟩, HB.out⟩
end Go.Proofs.YtgpnockjonicpaaDoor
