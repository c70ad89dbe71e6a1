/- event.Of: what happened in a list of operations, sorted by event.order, equals in their order. Conditions: at most 10^6 operations. -/
import Derived.Test.YtgpnockjonicpaaDoorOf1
import Derived.Test.YtgpnockjonicpaaDoorStab6
namespace Go.Proofs.YtgpnockjonicpaaDoor
set_option linter.unusedSimpArgs false
set_option linter.unusedVariables false
open Go.RowKit

/-- what happened in an operation -/
def evs1 (o : OpD) : List EvD := if o.done then [invOf o, ansOf o] else [invOf o]
def evsL (xs : List OpD) : List EvD := xs.flatMap evs1
theorem evsL_take (xs : List OpD) (k : Nat) (h : k < xs.length) : evsL (xs.take (k + 1)) = evsL (xs.take k) ++ evs1 xs[k] := by
  unfold evsL
  rw [List.take_succ_eq_append_getElem h, List.flatMap_append]
  simp
theorem evsL_len (xs : List OpD) : (evsL xs).length ≤ 2 * xs.length := by
  unfold evsL
  induction xs with
  | nil => simp
  | cons o r ih =>
    rw [List.flatMap_cons, List.length_append, List.length_cons]
    have : (evs1 o).length ≤ 2 := by unfold evs1; split <;> simp
    omega
set_option maxRecDepth 100000 in
set_option maxHeartbeats 4000000 in
theorem of_any (V : Value) (xs : List OpD) (w : World) (hs : Sl w 11 ROp V xs) (hn : xs.length ≤ 1000000) :
    Calls Tryd.prog 8 #[V] w fun e w' => (∃ v xs', e = .returned v ∧ StableOf (evsL xs) xs' ∧ OwnL w' w.heap.size 42 10 EvD.cells v xs') ∧ Ext w w' := by
  obtain ⟨A, c, rfl⟩ := hs.form
  obtain ⟨_, hc1, hc2, hA⟩ := hs.at
  clear hA
  have HSL := Lib.hid hs
  clear hs
  go_enter Tryd.func8, Tryd.ntmps8
  go_wp2_with fail
  go_loopw [3, 8] (fun v i wr => ∃ (k : Nat) (acc : List EvD), k ≤ xs.length ∧ Hid (acc = evsL (xs.take k)) ∧ acc.length ≤ 2 * k ∧ OwnL wr w.heap.size 42 10 EvD.cells v acc ∧ i = .int .i64 k ∧ Ext w wr) (fun _ i _ => xs.length - (intOf i).toNat)
  case atStart => exact ⟨0, [], Nat.zero_le _, rfl, Nat.le_refl _, OwnL.nil _ _ _ _ _, rfl, Ext.refl _⟩
  case round =>
    obtain ⟨k, acc, hk, hacc, hal, hown, rfl, hb⟩ := hrel
    have HB := Lib.hid hb
    have hzb := hb.size
    have HOW := Lib.hid hown
    obtain ⟨vA, vc, rfl⟩ := hown.form
    clear hown hb
    by_cases hlt : k < xs.length
    · have hd : decide ((k : Int) < (xs.length : Int)) = true := decide_eq_true (by omega)
      obtain ⟨b, off, rfl, hbl, hcell⟩ := HSL.out.ops_at (by omega)
      obtain ⟨e0, e1, e2, e3, e4, e5, e6, e7, e8, e9, e10⟩ := hcell k hlt wr HB.out
      have HT := Lib.hid (evsL_take xs k hlt)
      have hbw : b < wr.heap.size := by omega
      clear hcell
      generalize xs[k] = o at *
      obtain ⟨dn, hdn⟩ : ∃ d, o.done = d := ⟨_, rfl⟩
      rw [hdn] at e7
      go_wp2_with (at_builtin; refine wpList_push elEv ev_len ev_one rfl (.tmp 12) (.tmp 30) rfl _ acc rfl (HOW.out.ext (by (repeat' (with_reducible first | exact Below.refl _ _ | refine Ext.drewN ?_ _ | refine Below.drew ?_ | refine Below.setCell ?_ ?_ _ | refine Below.alloc ?_ ?_ _)) <;> (first | omega | (simp; done) | (simp; omega)))) (by simp; omega) _ 1 (invOf o) rfl (Row1.made' (by simp) _ (invOf o).cells) (by simp; omega) (by decide) ?_)
      intro pA pc wp hp hgp
      have hrow : Row1 wp wr.heap.size 40 [.int .i64 o.id, .int .i64 o.proc, .int .i64 o.object, .int .i64 o.kind, .int .i64 o.method, .int .i64 o.arg, .int .i64 o.second, .bool dn, .int .i64 o.result, .int .i64 o.invoke, .int .i64 o.ret] := Row1.grown ((Row1.made wr 40 [.int .i64 o.id, .int .i64 o.proc, .int .i64 o.object, .int .i64 o.kind, .int .i64 o.method, .int .i64 o.arg, .int .i64 o.second, .bool dn, .int .i64 o.result, .int .i64 o.invoke, .int .i64 o.ret]).ext (Ext.alloc _ _) (by simp)) hgp (fun q => by have := (HOW.out.lt _ q.symm).2; omega)
      have HX2 : Hid (Ext w wp) := (by (repeat' (with_reducible first | exact HB.out | exact Below.refl _ _ | refine Ext.drewN ?_ _ | refine Below.drew ?_ | refine Below.setCell ?_ ?_ _ | refine Below.alloc ?_ ?_ _)) <;> (first | omega | (simp; done) | (simp; omega)) : Ext w _).grown hgp (by have := HB.out.size; first | omega | (simp; omega)) (fun j hj => (HOW.out.lt j hj).1)
      have HP := Lib.hid hp
      have hx0 := hrow.cell 0
      have hx1 := hrow.cell 1
      have hx7 := hrow.cell 7
      have hx8 := hrow.cell 8
      have hx10 := hrow.cell 10
      simp only [List.getElem?_cons_zero, List.getElem?_cons_succ] at hx0 hx1 hx7 hx8 hx10
      have hrl := hrow.lt
      have hz2 := HX2.out.size
      clear hp hgp hrow e0 e1 e2 e3 e4 e5 e6 e7 e8 e9 e10
      generalize hac2 : acc ++ [invOf o] = acc2 at *
      have HAC2 := Lib.hid hac2
      have hal2 : acc2.length = acc.length + 1 := by rw [← hac2]; simp
      clear hac2
      rw [← hal2] at HP ⊢
      have hl2 : acc2.length ≤ 2 * k + 1 := by omega
      clear HOW hzb
      cases dn with
      | true =>
        go_wp2_with (at_builtin; refine wpList_push elEv ev_len ev_one rfl (.tmp 34) (.tmp 44) rfl _ acc2 rfl (HP.out.ext (by (repeat' (with_reducible first | exact Below.refl _ _ | refine Ext.drewN ?_ _ | refine Below.drew ?_ | refine Below.setCell ?_ ?_ _ | refine Below.alloc ?_ ?_ _)) <;> (first | omega | (simp; done) | (simp; omega)))) (by simp; omega) _ 1 (ansOf o) rfl (Row1.made' (by simp) _ (ansOf o).cells) (by simp; omega) (by decide) ?_)
        intro pA2 pc2 wp2 hp2 hgp2
        have HX3 : Hid (Ext w wp2) := (by (repeat' (with_reducible first | exact HX2.out | exact Below.refl _ _ | refine Ext.drewN ?_ _ | refine Below.drew ?_ | refine Below.setCell ?_ ?_ _ | refine Below.alloc ?_ ?_ _)) <;> (first | omega | (simp; done) | (simp; omega)) : Ext w _).grown hgp2 (by have := HX2.out.size; first | omega | (simp; omega)) (fun j hj => (HP.out.lt j (by first | exact hj | (rw [hal2]; exact hj))).1)
        have HP2 := Lib.hid hp2
        clear hp2 hgp2
        go_wp2_with fail
        go_roundw
        case measure => simp [intOf]; omega
        case rel => exact ⟨k + 1, acc2 ++ [ansOf o], hlt, by unfold Hid; rw [HT.out, ← hacc.out, ← HAC2.out]; simp [evs1, hdn], by simp; omega, HP2.out, by go_num, HX3.out⟩
      | false =>
        go_wp2_with fail
        go_roundw
        case measure => simp [intOf]; omega
        case rel => exact ⟨k + 1, acc2, hlt, by unfold Hid; rw [HT.out, ← hacc.out, ← HAC2.out]; simp [evs1, hdn], by omega, HP.out, by go_num, HX2.out⟩
    · have hd : decide ((k : Int) < (xs.length : Int)) = false := decide_eq_false (by omega)
      obtain rfl : k = xs.length := by omega
      have HST := Lib.hid (stable_any _ acc _ _ HOW.out (by omega))
      go_wp2_with fail
      refine HST.out.mono ?_
      rintro e w5 ⟨rfl, ⟨xs', hst, ho5⟩, hg5⟩
      have HX5 : Hid (Ext w w5) := HB.out.grown hg5 (by omega) (fun j hj => (HOW.out.lt j hj).1)
      have HO5 := Lib.hid ho5
      have HS5 : Hid (StableOf (evsL xs) xs') := by
        have e1 := hacc.out
        rw [List.take_length] at e1
        rw [← e1]; exact hst
      clear hst ho5 hg5
      go_wp2_with fail
      go_ret
      exact ⟨⟨_, xs', rfl, HS5.out, HO5.out⟩, HX5.out⟩
end Go.Proofs.YtgpnockjonicpaaDoor
