/- Lines of events: the names, ref26.args, ref26.Line. Conditions: numbers of at most eighteen digits. Printed by line.py. -/
/- event.line. Conditions: numbers of at most eighteen digits; an invocation that can be said. Printed by line2.py. -/
import Derived.Test.YtgpnockjonicpaaDoorNumV
import Derived.Test.YtgpnockjonicpaaDoorStep2
import Derived.Test.YtgpnockjonicpaaDoorRChk2
import Derived.Test.YtgpnockjonicpaaDoorJoin2
namespace Go.Proofs.YtgpnockjonicpaaDoor
set_option linter.unusedSimpArgs false
set_option linter.unusedVariables false
open Go.RowKit

def kindNames : List ByteArray := [⟨#[]⟩, ⟨#[114, 101, 103, 105, 115, 116, 101, 114]⟩, ⟨#[99, 111, 117, 110, 116, 101, 114]⟩, ⟨#[113, 117, 101, 117, 101]⟩, ⟨#[115, 116, 97, 99, 107]⟩, ⟨#[115, 101, 116]⟩, ⟨#[109, 117, 116, 101, 120]⟩]
def methNames : List ByteArray := [⟨#[]⟩, ⟨#[114, 101, 97, 100]⟩, ⟨#[119, 114, 105, 116, 101]⟩, ⟨#[99, 97, 115]⟩, ⟨#[105, 110, 99]⟩, ⟨#[100, 101, 99]⟩, ⟨#[101, 110, 113]⟩, ⟨#[100, 101, 113]⟩, ⟨#[112, 117, 115, 104]⟩, ⟨#[112, 111, 112]⟩, ⟨#[97, 100, 100]⟩, ⟨#[114, 101, 109, 111, 118, 101]⟩, ⟨#[104, 97, 115]⟩, ⟨#[108, 111, 99, 107]⟩, ⟨#[117, 110, 108, 111, 99, 107]⟩]
def kindS (k : Nat) : ByteArray := (kindNames[k]?).getD ⟨#[]⟩
def methS (k : Nat) : ByteArray := (methNames[k]?).getD ⟨#[]⟩
theorem kind_size (k : Nat) : (kindS k).size ≤ 8 := by
  by_cases h : k < 7
  · have h2 : k = 0 ∨ k = 1 ∨ k = 2 ∨ k = 3 ∨ k = 4 ∨ k = 5 ∨ k = 6 := by omega
    rcases h2 with rfl | rfl | rfl | rfl | rfl | rfl | rfl <;> decide
  · unfold kindS
    rw [List.getElem?_eq_none (by simp [kindNames]; omega)]
    decide
theorem meth_size (k : Nat) : (methS k).size ≤ 8 := by
  by_cases h : k < 15
  · have h2 : k = 0 ∨ k = 1 ∨ k = 2 ∨ k = 3 ∨ k = 4 ∨ k = 5 ∨ k = 6 ∨ k = 7 ∨ k = 8 ∨ k = 9 ∨ k = 10 ∨ k = 11 ∨ k = 12 ∨ k = 13 ∨ k = 14 := by omega
    rcases h2 with rfl | rfl | rfl | rfl | rfl | rfl | rfl | rfl | rfl | rfl | rfl | rfl | rfl | rfl | rfl <;> decide
  · unfold methS
    rw [List.getElem?_eq_none (by simp [methNames]; omega)]
    decide
def txSp : ByteArray := ⟨#[32]⟩
def txAns : ByteArray := ⟨#[32, 97, 110, 115, 119, 101, 114, 32]⟩
def txInv : ByteArray := ⟨#[32, 105, 110, 118, 111, 107, 101, 32]⟩
/-- an event's line; empty: it can't be said -/
def lineHead (x : EvD) : ByteArray := numS x.time ++ txSp ++ numS x.proc
def lineAns (x : EvD) : ByteArray := lineHead x ++ txAns ++ numS x.id ++ txSp ++ numS x.result
def lineInv (x : EvD) (k m : Nat) : ByteArray := lineHead x ++ txInv ++ numS x.id ++ txSp ++ numS x.object ++ txSp ++ kindS k ++ txSp ++ methS m
def lineArgs (x : EvD) (s : ByteArray) (n : Int) : ByteArray := if n ≤ 0 then s else if n ≤ 1 then s ++ txSp ++ numS x.arg else s ++ txSp ++ numS x.arg ++ txSp ++ numS x.second
def saidB (x : EvD) : Bool := !(decide (x.kind < 1) || (decide (6 < x.kind) || (decide (x.method < 1) || decide (14 < x.method))))
def lineL (x : EvD) : ByteArray := if x.answer = true then lineAns x else if saidB x = true then lineArgs x (lineInv x x.kind.toNat x.method.toNat) (argsN x.method) else ⟨#[]⟩
/-- numbers of at most eighteen digits -/
def EvNum (x : EvD) : Prop := (-1000000000000000000 ≤ x.time ∧ x.time ≤ 1000000000000000000) ∧ (-1000000000000000000 ≤ x.proc ∧ x.proc ≤ 1000000000000000000) ∧ (-1000000000000000000 ≤ x.id ∧ x.id ≤ 1000000000000000000) ∧ (-1000000000000000000 ≤ x.object ∧ x.object ≤ 1000000000000000000) ∧
  (-1000000000000000000 ≤ x.arg ∧ x.arg ≤ 1000000000000000000) ∧ (-1000000000000000000 ≤ x.second ∧ x.second ≤ 1000000000000000000) ∧ (-1000000000000000000 ≤ x.result ∧ x.result ≤ 1000000000000000000)
theorem kind_cell {w : World} {b : Nat} (h : Row1 w b 9 (kindNames.map Value.string)) (k : Nat) (hk : k < 7) : w.cell? ⟨b, k, none⟩ = some (.string (kindS k)) := by
  rw [h.cell, List.getElem?_map]
  unfold kindS
  rw [List.getElem?_eq_getElem (by simpa [kindNames] using hk)]
  rfl
theorem meth_cell {w : World} {b : Nat} (h : Row1 w b 9 (methNames.map Value.string)) (k : Nat) (hk : k < 15) : w.cell? ⟨b, k, none⟩ = some (.string (methS k)) := by
  rw [h.cell, List.getElem?_map]
  unfold methS
  rw [List.getElem?_eq_getElem (by simpa [methNames] using hk)]
  rfl

def argsAt (k : Nat) (m : Int) : Int := (((rowsL.drop k).find? (fun r => r.2.1 == m)).map (fun r => r.2.2.1)).getD 0
theorem argsAt_eq (m : Int) : argsAt 0 m = argsN m := by
  unfold argsAt argsN
  by_cases h1 : 1 ≤ m ∧ m ≤ 14
  · have h2 : m = 1 ∨ m = 2 ∨ m = 3 ∨ m = 4 ∨ m = 5 ∨ m = 6 ∨ m = 7 ∨ m = 8 ∨ m = 9 ∨ m = 10 ∨ m = 11 ∨ m = 12 ∨ m = 13 ∨ m = 14 := by omega
    rcases h2 with rfl | rfl | rfl | rfl | rfl | rfl | rfl | rfl | rfl | rfl | rfl | rfl | rfl | rfl <;> rfl
  · have h3 : (rowsL.drop 0).find? (fun r => r.2.1 == m) = none := by
      rw [List.find?_eq_none]
      intro r hr
      simp only [rowsL, List.drop_zero, List.mem_cons, List.not_mem_nil, or_false] at hr
      rcases hr with rfl | rfl | rfl | rfl | rfl | rfl | rfl | rfl | rfl | rfl | rfl | rfl | rfl | rfl | rfl <;> simp <;> omega
    rw [h3, if_neg (by omega), if_neg (by omega)]
    rfl
theorem argsAt_at (m : Int) (k : Nat) (h : k < rowsL.length) : argsAt k m = if rowsL[k].2.1 = m then rowsL[k].2.2.1 else argsAt (k + 1) m := by
  unfold argsAt
  rw [List.drop_eq_getElem_cons h, List.find?_cons]
  by_cases e : rowsL[k].2.1 = m
  · simp [e]
  · have : (rowsL[k].2.1 == m) = false := by simpa using e
    simp [e, this]
theorem rowCell (k : Nat) (h : k < rowsL.length) : (rowsL.flatMap rowCells)[k * 4 + 1]? = some (.int .i64 rowsL[k].2.1) ∧ (rowsL.flatMap rowCells)[k * 4 + 2]? = some (.int .i64 rowsL[k].2.2.1) := by
  have hf := flat_at rowCells 4 (fun _ => rfl) rowsL k rowsL[k] (List.getElem?_eq_getElem h)
  exact ⟨hf 1 _ rfl, hf 2 _ rfl⟩
end Go.Proofs.YtgpnockjonicpaaDoor
namespace Go.Proofs.YtgpnockjonicpaaDoor
set_option linter.unusedSimpArgs false
set_option linter.unusedVariables false
open Go.RowKit

theorem kinds_any (w : World) : Calls Tryd.prog 47 #[] w fun e w' => e = .returned (.slice (some ⟨w.heap.size, 0, none⟩) 7 7) ∧ Row1 w' w.heap.size 9 (kindNames.map Value.string) ∧ Ext w w' := by
  go_enter Tryd.func47, Tryd.ntmps47
  go_wp2_with fail
  go_ret
  exact ⟨rfl, Row1.made w 9 (kindNames.map Value.string), by (repeat' (with_reducible first | exact Below.refl _ _ | refine Ext.drewN ?_ _ | refine Below.drew ?_ | refine Below.setCell ?_ ?_ _ | refine Below.alloc ?_ ?_ _)) <;> (first | omega | (simp; done) | (simp; omega))⟩
theorem methods_any (w : World) : Calls Tryd.prog 48 #[] w fun e w' => e = .returned (.slice (some ⟨w.heap.size, 0, none⟩) 15 15) ∧ Row1 w' w.heap.size 9 (methNames.map Value.string) ∧ Ext w w' := by
  go_enter Tryd.func48, Tryd.ntmps48
  go_wp2_with fail
  go_ret
  exact ⟨rfl, Row1.made w 9 (methNames.map Value.string), by (repeat' (with_reducible first | exact Below.refl _ _ | refine Ext.drewN ?_ _ | refine Below.drew ?_ | refine Below.setCell ?_ ?_ _ | refine Below.alloc ?_ ?_ _)) <;> (first | omega | (simp; done) | (simp; omega))⟩
theorem argsN_nat (m : Int) : ∃ n : Nat, argsN m = (n : Int) ∧ n ≤ 2 := by
  unfold argsN
  split
  · exact ⟨2, rfl, by omega⟩
  · split
    · exact ⟨1, rfl, by omega⟩
    · exact ⟨0, rfl, by omega⟩
def lineK (x : EvD) (s : ByteArray) : Nat → ByteArray
  | 0 => s
  | 1 => s ++ (txSp ++ numS x.arg)
  | _ => s ++ (txSp ++ numS x.arg) ++ (txSp ++ numS x.second)
theorem lineK_args (x : EvD) (s : ByteArray) (n : Nat) (h : n ≤ 2) : lineK x s n = lineArgs x s (n : Int) := by
  have h2 : n = 0 ∨ n = 1 ∨ n = 2 := by omega
  rcases h2 with rfl | rfl | rfl
  · rfl
  · simp [lineK, lineArgs, ByteArray.append_assoc]
  · simp [lineK, lineArgs, ByteArray.append_assoc]

set_option maxRecDepth 100000 in
set_option maxHeartbeats 8000000 in
theorem line_any (x : EvD) (w : World) (hx : EvNum x) (hsd : x.answer = true ∨ saidB x = true) : Calls Tryd.prog 27 #[x.val] w fun e w' => e = .returned (.string (lineL x)) ∧ Ext w w' := by
  have X1 := hx.1
  have X2 := hx.2.1
  have X3 := hx.2.2.1
  have X4 := hx.2.2.2.1
  have X5 := hx.2.2.2.2.1
  have X6 := hx.2.2.2.2.2.1
  have X7 := hx.2.2.2.2.2.2
  have HV : Hid (lineL x = if x.answer = true then lineAns x else if saidB x = true then lineArgs x (lineInv x x.kind.toNat x.method.toNat) (argsN x.method) else ⟨#[]⟩) := rfl
  have HBX : Hid (∀ W : World, Ext (w.alloc (.cells #[.int .i64 x.time, .int .i64 x.proc, .bool x.answer, .int .i64 x.id, .int .i64 x.object, .int .i64 x.kind, .int .i64 x.method, .int .i64 x.arg, .int .i64 x.second, .int .i64 x.result] 42)) W → At10 W w.heap.size x) := fun W h => (At10.row (Row1.made w 42 x.cells)).ext h (by simp)
  have zt := (num_size x.time hx.1.1 hx.1.2).2
  have zp := (num_size x.proc hx.2.1.1 hx.2.1.2).2
  have zi := (num_size x.id hx.2.2.1.1 hx.2.2.1.2).2
  have zo := (num_size x.object hx.2.2.2.1.1 hx.2.2.2.1.2).2
  have za := (num_size x.arg hx.2.2.2.2.1.1 hx.2.2.2.2.1.2).2
  have zs := (num_size x.second hx.2.2.2.2.2.1.1 hx.2.2.2.2.2.1.2).2
  have zr := (num_size x.result hx.2.2.2.2.2.2.1 hx.2.2.2.2.2.2.2).2
  have HSD := Lib.hid hsd
  clear hx hsd
  obtain ⟨an, han⟩ : ∃ an, x.answer = an := ⟨_, rfl⟩
  rw [han] at HV HSD
  have HA := Lib.hid han
  clear han
  go_enter Tryd.func27, Tryd.ntmps27
  go_upto_region 1 with fail
  go_cut [3] (fun s wx => s = .string (lineHead x) ∧ Ext (w.alloc (.cells #[.int .i64 x.time, .int .i64 x.proc, .bool x.answer, .int .i64 x.id, .int .i64 x.object, .int .i64 x.kind, .int .i64 x.method, .int .i64 x.arg, .int .i64 x.second, .int .i64 x.result] 42)) wx)
  case first =>
    have g1 : ¬ 9223372036854775807 < (numS x.time).size + 1 := by omega
    have g2 : ¬ 9223372036854775807 < (numS x.time).size + 1 + (numS x.proc).size := by omega
    refine wp_region_held_drew (S := fun W => (W.cell? ⟨w.heap.size, 0, none⟩ = some (.int .i64 x.time) ∧ W.cell? ⟨w.heap.size, 1, none⟩ = some (.int .i64 x.proc) ∧ W.cell? ⟨w.heap.size, 2, none⟩ = some (.bool x.answer) ∧ W.cell? ⟨w.heap.size, 3, none⟩ = some (.int .i64 x.id) ∧ W.cell? ⟨w.heap.size, 4, none⟩ = some (.int .i64 x.object) ∧ W.cell? ⟨w.heap.size, 5, none⟩ = some (.int .i64 x.kind) ∧ W.cell? ⟨w.heap.size, 6, none⟩ = some (.int .i64 x.method) ∧ W.cell? ⟨w.heap.size, 7, none⟩ = some (.int .i64 x.arg) ∧ W.cell? ⟨w.heap.size, 8, none⟩ = some (.int .i64 x.second) ∧ W.cell? ⟨w.heap.size, 9, none⟩ = some (.int .i64 x.result))) (by kernel_rfl) (HBX.out _ (by (repeat' (with_reducible first | exact Below.refl _ _ | refine Ext.drewN ?_ _ | refine Below.drew ?_ | refine Below.setCell ?_ ?_ _ | refine Below.alloc ?_ ?_ _)) <;> (first | omega | (simp; done) | (simp; omega)))) (fun hHeld => ?_)
    refine' wpAnyH_take (i := 0) (oi := ?zoi0a) (v := ?zv0a) ?zhi0a (by kernel_rfl) (by kernel_rfl) (by kernel_rfl) ?zhQ0a (Or.inl ⟨?zhw0a, ?zhy0a⟩) (by assumption) ?zrest0a; (case zhi0a => simp only [List.getElem?_toArray, List.getElem?_cons_succ, List.getElem?_cons_zero]; exact rfl); (case zhQ0a => exact fun _ _ _ h => h); (case zhw0a => rfl); (case zhy0a => intro w hSw; (try dsimp only at hSw); go_simp; (try with_reducible rfl)); (try simp only [Act.put, List.setIfInBounds_toArray, List.set_cons_zero, List.set_cons_succ])
    refine' wpAnyH_take (i := 1) (oi := ?zoi1a) (v := ?zv1a) ?zhi1a (by kernel_rfl) (by kernel_rfl) (by kernel_rfl) ?zhQ1a (Or.inl ⟨?zhw1a, ?zhy1a⟩) (by assumption) ?zrest1a; (case zhi1a => simp only [List.getElem?_toArray, List.getElem?_cons_succ, List.getElem?_cons_zero]; exact rfl); (case zhQ1a => exact fun _ _ _ h => h); (case zhw1a => rfl); (case zhy1a => intro w hSw; (try dsimp only at hSw); go_simp; (try with_reducible rfl)); (try simp only [Act.put, List.setIfInBounds_toArray, List.set_cons_zero, List.set_cons_succ])
    refine' wpAnyH_take (i := 4) (oi := ?zoi4a) (v := ?zv4a) ?zhi4a (by kernel_rfl) (by kernel_rfl) (by kernel_rfl) ?zhQ4a (Or.inl ⟨?zhw4a, ?zhy4a⟩) (by assumption) ?zrest4a; (case zhi4a => simp only [List.getElem?_toArray, List.getElem?_cons_succ, List.getElem?_cons_zero]; exact rfl); (case zhQ4a => exact fun _ _ _ h => h); (case zhw4a => rfl); (case zhy4a => intro w hSw; (try dsimp only at hSw); go_simp; (try with_reducible rfl)); (try simp only [Act.put, List.setIfInBounds_toArray, List.set_cons_zero, List.set_cons_succ])
    refine' wpAnyH_take (i := 5) (oi := ?zoi5a) (v := ?zv5a) ?zhi5a (by kernel_rfl) (by kernel_rfl) (by kernel_rfl) ?zhQ5a (Or.inl ⟨?zhw5a, ?zhy5a⟩) (by assumption) ?zrest5a; (case zhi5a => simp only [List.getElem?_toArray, List.getElem?_cons_succ, List.getElem?_cons_zero]; exact rfl); (case zhQ5a => exact fun _ _ _ h => h); (case zhw5a => rfl); (case zhy5a => intro w hSw; (try dsimp only at hSw); go_simp; (try with_reducible rfl)); (try simp only [Act.put, List.setIfInBounds_toArray, List.set_cons_zero, List.set_cons_succ])
    refine wpAnyH_ready (rs := [2]) (by kernel_rfl) (by simp) ?_; refine AllReadyH.cons rfl (fun K hK => ?_) AllReadyH.nil; go_simp
    (with_reducible refine (digits_any x.time _ X1.1 X1.2).mono ?_)
    rintro e w1 ⟨rfl, hb⟩
    have HB1 : Hid (Ext (w.alloc (.cells #[.int .i64 x.time, .int .i64 x.proc, .bool x.answer, .int .i64 x.id, .int .i64 x.object, .int .i64 x.kind, .int .i64 x.method, .int .i64 x.arg, .int .i64 x.second, .int .i64 x.result] 42)) w1) := Ext.trans (by (repeat' (with_reducible first | exact Below.refl _ _ | refine Ext.drewN ?_ _ | refine Below.drew ?_ | refine Below.setCell ?_ ?_ _ | refine Below.alloc ?_ ?_ _)) <;> (first | omega | (simp; done) | (simp; omega))) hb
    clear hb
    (try dsimp only)
    (try go_simp)
    refine hK.out _ _ (HBX.out _ HB1.out) (fun hHeld => ?_)
    clear hK K
    (try simp only [Act.put, List.setIfInBounds_toArray, List.set_cons_zero, List.set_cons_succ])
    refine' wpAnyH_take (i := 3) (oi := ?zoi3a) (v := ?zv3a) ?zhi3a (by kernel_rfl) (by kernel_rfl) (by kernel_rfl) ?zhQ3a (Or.inl ⟨?zhw3a, ?zhy3a⟩) (by assumption) ?zrest3a; (case zhi3a => simp only [List.getElem?_toArray, List.getElem?_cons_succ, List.getElem?_cons_zero]; exact rfl); (case zhQ3a => exact fun _ _ _ h => h); (case zhw3a => rfl); (case zhy3a => intro w hSw; (try dsimp only at hSw); go_simp; (try with_reducible rfl)); (try simp only [Act.put, List.setIfInBounds_toArray, List.set_cons_zero, List.set_cons_succ])
    refine wpAnyH_ready (rs := [6]) (by kernel_rfl) (by simp) ?_; refine AllReadyH.cons rfl (fun K hK => ?_) AllReadyH.nil; go_simp
    (with_reducible refine (digits_any x.proc _ X2.1 X2.2).mono ?_)
    rintro e w2 ⟨rfl, hb⟩
    have HB1 : Hid (Ext (w.alloc (.cells #[.int .i64 x.time, .int .i64 x.proc, .bool x.answer, .int .i64 x.id, .int .i64 x.object, .int .i64 x.kind, .int .i64 x.method, .int .i64 x.arg, .int .i64 x.second, .int .i64 x.result] 42)) w2) := Ext.trans HB1.out hb
    clear hb
    (try dsimp only)
    (try go_simp)
    refine hK.out _ _ (HBX.out _ HB1.out) (fun hHeld => ?_)
    clear hK K
    (try simp only [Act.put, List.setIfInBounds_toArray, List.set_cons_zero, List.set_cons_succ])
    refine' wpAnyH_take (i := 7) (oi := ?zoi7a) (v := ?zv7a) ?zhi7a (by kernel_rfl) (by kernel_rfl) (by kernel_rfl) ?zhQ7a (Or.inl ⟨?zhw7a, ?zhy7a⟩) (by assumption) ?zrest7a; (case zhi7a => simp only [List.getElem?_toArray, List.getElem?_cons_succ, List.getElem?_cons_zero]; exact rfl); (case zhQ7a => exact fun _ _ _ h => h); (case zhw7a => rfl); (case zhy7a => intro w hSw; (try dsimp only at hSw); go_simp; (try with_reducible rfl)); (try simp only [Act.put, List.setIfInBounds_toArray, List.set_cons_zero, List.set_cons_succ])
    refine' wpAnyH_take (i := 8) (oi := ?zoi8a) (v := ?zv8a) ?zhi8a (by kernel_rfl) (by kernel_rfl) (by kernel_rfl) ?zhQ8a (Or.inl ⟨?zhw8a, ?zhy8a⟩) (by assumption) ?zrest8a; (case zhi8a => simp only [List.getElem?_toArray, List.getElem?_cons_succ, List.getElem?_cons_zero]; exact rfl); (case zhQ8a => exact fun _ _ _ h => h); (case zhw8a => rfl); (case zhy8a => intro w hSw; (try dsimp only at hSw); go_simp; (try with_reducible rfl)); (try simp only [Act.put, List.setIfInBounds_toArray, List.set_cons_zero, List.set_cons_succ])
    refine wpAnyH_done (by kernel_rfl) ?_ _
    go_wp2_with fail
    go_meet
    exact ⟨rfl, HB1.out⟩
  case rest =>
  obtain ⟨rfl, hbc⟩ := hcut
  have HBC := Lib.hid hbc
  have KX : Hid (Ext w wc) := Ext.trans (Ext.alloc _ _) hbc
  have hl0 : w.heap.size < wc.heap.size := by have := hbc.size; simp at this; omega
  clear hbc
  have zh : (lineHead x).size ≤ 41 := by unfold lineHead; rw [ByteArray.size_append, ByteArray.size_append]; have : txSp.size = 1 := rfl; omega
  obtain ⟨s0, hs0⟩ : ∃ s, lineHead x = s := ⟨_, rfl⟩
  have HS0 := Lib.hid hs0
  rw [hs0] at zh ⊢
  clear hs0
  cases an with
  | true =>
    rw [if_pos rfl] at HV
    have HV2 : Hid (lineAns x = s0 ++ txAns ++ numS x.id ++ txSp ++ numS x.result) := by unfold Hid lineAns; rw [HS0.out]
    obtain ⟨a0, a1, a2, a3, a4, a5, a6, a7, a8, a9⟩ := HBX.out _ HBC.out
    rw [HA.out] at a2
    go_upto_region 3 with fail
    have g1 : ¬ 9223372036854775807 < s0.size + 8 := by omega
    have g2 : ¬ 9223372036854775807 < s0.size + 8 + (numS x.id).size := by omega
    have g3 : ¬ 9223372036854775807 < s0.size + 8 + (numS x.id).size + 1 := by omega
    have g4 : ¬ 9223372036854775807 < s0.size + 8 + (numS x.id).size + 1 + (numS x.result).size := by omega
    clear a0 a1 a2 a3 a4 a5 a6 a7 a8 a9
    refine wp_region_held_drew (S := fun W => (W.cell? ⟨w.heap.size, 0, none⟩ = some (.int .i64 x.time) ∧ W.cell? ⟨w.heap.size, 1, none⟩ = some (.int .i64 x.proc) ∧ W.cell? ⟨w.heap.size, 2, none⟩ = some (.bool x.answer) ∧ W.cell? ⟨w.heap.size, 3, none⟩ = some (.int .i64 x.id) ∧ W.cell? ⟨w.heap.size, 4, none⟩ = some (.int .i64 x.object) ∧ W.cell? ⟨w.heap.size, 5, none⟩ = some (.int .i64 x.kind) ∧ W.cell? ⟨w.heap.size, 6, none⟩ = some (.int .i64 x.method) ∧ W.cell? ⟨w.heap.size, 7, none⟩ = some (.int .i64 x.arg) ∧ W.cell? ⟨w.heap.size, 8, none⟩ = some (.int .i64 x.second) ∧ W.cell? ⟨w.heap.size, 9, none⟩ = some (.int .i64 x.result))) (by kernel_rfl) (HBX.out _ (by (repeat' (with_reducible first | exact HBC.out | exact Below.refl _ _ | refine Ext.drewN ?_ _ | refine Below.drew ?_ | refine Below.setCell ?_ ?_ _ | refine Below.alloc ?_ ?_ _)) <;> (first | omega | (simp; done) | (simp; omega)))) (fun hHeld => ?_)
    refine' wpAnyH_take (i := 0) (oi := ?zoi0b) (v := ?zv0b) ?zhi0b (by kernel_rfl) (by kernel_rfl) (by kernel_rfl) ?zhQ0b (Or.inl ⟨?zhw0b, ?zhy0b⟩) (by assumption) ?zrest0b; (case zhi0b => simp only [List.getElem?_toArray, List.getElem?_cons_succ, List.getElem?_cons_zero]; exact rfl); (case zhQ0b => exact fun _ _ _ h => h); (case zhw0b => rfl); (case zhy0b => intro w hSw; (try dsimp only at hSw); go_simp; (try with_reducible rfl)); (try simp only [Act.put, List.setIfInBounds_toArray, List.set_cons_zero, List.set_cons_succ])
    refine' wpAnyH_take (i := 1) (oi := ?zoi1b) (v := ?zv1b) ?zhi1b (by kernel_rfl) (by kernel_rfl) (by kernel_rfl) ?zhQ1b (Or.inl ⟨?zhw1b, ?zhy1b⟩) (by assumption) ?zrest1b; (case zhi1b => simp only [List.getElem?_toArray, List.getElem?_cons_succ, List.getElem?_cons_zero]; exact rfl); (case zhQ1b => exact fun _ _ _ h => h); (case zhw1b => rfl); (case zhy1b => intro w hSw; (try dsimp only at hSw); go_simp; (try with_reducible rfl)); (try simp only [Act.put, List.setIfInBounds_toArray, List.set_cons_zero, List.set_cons_succ])
    refine' wpAnyH_take (i := 2) (oi := ?zoi2b) (v := ?zv2b) ?zhi2b (by kernel_rfl) (by kernel_rfl) (by kernel_rfl) ?zhQ2b (Or.inl ⟨?zhw2b, ?zhy2b⟩) (by assumption) ?zrest2b; (case zhi2b => simp only [List.getElem?_toArray, List.getElem?_cons_succ, List.getElem?_cons_zero]; exact rfl); (case zhQ2b => exact fun _ _ _ h => h); (case zhw2b => rfl); (case zhy2b => intro w hSw; (try dsimp only at hSw); go_simp; (try with_reducible rfl)); (try simp only [Act.put, List.setIfInBounds_toArray, List.set_cons_zero, List.set_cons_succ])
    refine' wpAnyH_take (i := 3) (oi := ?zoi3b) (v := ?zv3b) ?zhi3b (by kernel_rfl) (by kernel_rfl) (by kernel_rfl) ?zhQ3b (Or.inl ⟨?zhw3b, ?zhy3b⟩) (by assumption) ?zrest3b; (case zhi3b => simp only [List.getElem?_toArray, List.getElem?_cons_succ, List.getElem?_cons_zero]; exact rfl); (case zhQ3b => exact fun _ _ _ h => h); (case zhw3b => rfl); (case zhy3b => intro w hSw; (try dsimp only at hSw); go_simp; (try with_reducible rfl)); (try simp only [Act.put, List.setIfInBounds_toArray, List.set_cons_zero, List.set_cons_succ])
    refine' wpAnyH_take (i := 7) (oi := ?zoi7b) (v := ?zv7b) ?zhi7b (by kernel_rfl) (by kernel_rfl) (by kernel_rfl) ?zhQ7b (Or.inl ⟨?zhw7b, ?zhy7b⟩) (by assumption) ?zrest7b; (case zhi7b => simp only [List.getElem?_toArray, List.getElem?_cons_succ, List.getElem?_cons_zero]; exact rfl); (case zhQ7b => exact fun _ _ _ h => h); (case zhw7b => rfl); (case zhy7b => intro w hSw; (try dsimp only at hSw); go_simp; (try with_reducible rfl)); (try simp only [Act.put, List.setIfInBounds_toArray, List.set_cons_zero, List.set_cons_succ])
    refine' wpAnyH_take (i := 8) (oi := ?zoi8b) (v := ?zv8b) ?zhi8b (by kernel_rfl) (by kernel_rfl) (by kernel_rfl) ?zhQ8b (Or.inl ⟨?zhw8b, ?zhy8b⟩) (by assumption) ?zrest8b; (case zhi8b => simp only [List.getElem?_toArray, List.getElem?_cons_succ, List.getElem?_cons_zero]; exact rfl); (case zhQ8b => exact fun _ _ _ h => h); (case zhw8b => rfl); (case zhy8b => intro w hSw; (try dsimp only at hSw); go_simp; (try with_reducible rfl)); (try simp only [Act.put, List.setIfInBounds_toArray, List.set_cons_zero, List.set_cons_succ])
    refine wpAnyH_ready (rs := [4]) (by kernel_rfl) (by simp) ?_; refine AllReadyH.cons rfl (fun K hK => ?_) AllReadyH.nil; go_simp
    (with_reducible refine (digits_any x.id _ X3.1 X3.2).mono ?_)
    rintro e w1 ⟨rfl, hb⟩
    have HB1 : Hid (Ext (w.alloc (.cells #[.int .i64 x.time, .int .i64 x.proc, .bool x.answer, .int .i64 x.id, .int .i64 x.object, .int .i64 x.kind, .int .i64 x.method, .int .i64 x.arg, .int .i64 x.second, .int .i64 x.result] 42)) w1) := Ext.trans (by (repeat' (with_reducible first | exact HBC.out | exact Below.refl _ _ | refine Ext.drewN ?_ _ | refine Below.drew ?_ | refine Below.setCell ?_ ?_ _ | refine Below.alloc ?_ ?_ _)) <;> (first | omega | (simp; done) | (simp; omega))) hb
    clear hb
    (try dsimp only)
    (try go_simp)
    refine hK.out _ _ (HBX.out _ HB1.out) (fun hHeld => ?_)
    clear hK K
    (try simp only [Act.put, List.setIfInBounds_toArray, List.set_cons_zero, List.set_cons_succ])
    refine' wpAnyH_take (i := 5) (oi := ?zoi5b) (v := ?zv5b) ?zhi5b (by kernel_rfl) (by kernel_rfl) (by kernel_rfl) ?zhQ5b (Or.inl ⟨?zhw5b, ?zhy5b⟩) (by assumption) ?zrest5b; (case zhi5b => simp only [List.getElem?_toArray, List.getElem?_cons_succ, List.getElem?_cons_zero]; exact rfl); (case zhQ5b => exact fun _ _ _ h => h); (case zhw5b => rfl); (case zhy5b => intro w hSw; (try dsimp only at hSw); go_simp; (try with_reducible rfl)); (try simp only [Act.put, List.setIfInBounds_toArray, List.set_cons_zero, List.set_cons_succ])
    refine' wpAnyH_take (i := 6) (oi := ?zoi6b) (v := ?zv6b) ?zhi6b (by kernel_rfl) (by kernel_rfl) (by kernel_rfl) ?zhQ6b (Or.inl ⟨?zhw6b, ?zhy6b⟩) (by assumption) ?zrest6b; (case zhi6b => simp only [List.getElem?_toArray, List.getElem?_cons_succ, List.getElem?_cons_zero]; exact rfl); (case zhQ6b => exact fun _ _ _ h => h); (case zhw6b => rfl); (case zhy6b => intro w hSw; (try dsimp only at hSw); go_simp; (try with_reducible rfl)); (try simp only [Act.put, List.setIfInBounds_toArray, List.set_cons_zero, List.set_cons_succ])
    refine wpAnyH_ready (rs := [9]) (by kernel_rfl) (by simp) ?_; refine AllReadyH.cons rfl (fun K hK => ?_) AllReadyH.nil; go_simp
    (with_reducible refine (digits_any x.result _ X7.1 X7.2).mono ?_)
    rintro e w2 ⟨rfl, hb⟩
    have HB1 : Hid (Ext (w.alloc (.cells #[.int .i64 x.time, .int .i64 x.proc, .bool x.answer, .int .i64 x.id, .int .i64 x.object, .int .i64 x.kind, .int .i64 x.method, .int .i64 x.arg, .int .i64 x.second, .int .i64 x.result] 42)) w2) := Ext.trans HB1.out hb
    clear hb
    (try dsimp only)
    (try go_simp)
    refine hK.out _ _ (HBX.out _ HB1.out) (fun hHeld => ?_)
    clear hK K
    (try simp only [Act.put, List.setIfInBounds_toArray, List.set_cons_zero, List.set_cons_succ])
    refine' wpAnyH_take (i := 10) (oi := ?zoi10b) (v := ?zv10b) ?zhi10b (by kernel_rfl) (by kernel_rfl) (by kernel_rfl) ?zhQ10b (Or.inl ⟨?zhw10b, ?zhy10b⟩) (by assumption) ?zrest10b; (case zhi10b => simp only [List.getElem?_toArray, List.getElem?_cons_succ, List.getElem?_cons_zero]; exact rfl); (case zhQ10b => exact fun _ _ _ h => h); (case zhw10b => rfl); (case zhy10b => intro w hSw; (try dsimp only at hSw); go_simp; (try with_reducible rfl)); (try simp only [Act.put, List.setIfInBounds_toArray, List.set_cons_zero, List.set_cons_succ])
    refine' wpAnyH_take (i := 11) (oi := ?zoi11b) (v := ?zv11b) ?zhi11b (by kernel_rfl) (by kernel_rfl) (by kernel_rfl) ?zhQ11b (Or.inl ⟨?zhw11b, ?zhy11b⟩) (by assumption) ?zrest11b; (case zhi11b => simp only [List.getElem?_toArray, List.getElem?_cons_succ, List.getElem?_cons_zero]; exact rfl); (case zhQ11b => exact fun _ _ _ h => h); (case zhw11b => rfl); (case zhy11b => intro w hSw; (try dsimp only at hSw); go_simp; (try with_reducible rfl)); (try simp only [Act.put, List.setIfInBounds_toArray, List.set_cons_zero, List.set_cons_succ])
    refine wpAnyH_done (by kernel_rfl) ?_ _
    go_wp2_with fail
    go_ret
    exact ⟨by rw [HV.out, HV2.out]; rfl, Ext.trans (Ext.alloc _ _) HB1.out⟩
  | false =>
    rw [if_neg (by simp)] at HV
    have HSE : saidB x = true := HSD.out.resolve_left (by simp)
    rw [if_pos HSE] at HV
    obtain ⟨b1, b2, b3, b4⟩ : 1 ≤ x.kind ∧ x.kind ≤ 6 ∧ 1 ≤ x.method ∧ x.method ≤ 14 := by simp [saidB] at HSE; exact HSE
    obtain ⟨a0, a1, a2, a3, a4, a5, a6, a7, a8, a9⟩ := HBX.out _ HBC.out
    rw [HA.out] at a2
    obtain ⟨k, hk⟩ : ∃ k : Nat, x.kind = (k : Int) := ⟨x.kind.toNat, by omega⟩
    obtain ⟨m, hm⟩ : ∃ m : Nat, x.method = (m : Int) := ⟨x.method.toNat, by omega⟩
    rw [show x.kind.toNat = k by omega, show x.method.toNat = m by omega] at HV
    have hk7 : k < 7 := by omega
    have hm15 : m < 15 := by omega
    have HS6 : Hid (∀ W : World, Ext (w.alloc (.cells #[.int .i64 x.time, .int .i64 x.proc, .bool x.answer, .int .i64 x.id, .int .i64 x.object, .int .i64 x.kind, .int .i64 x.method, .int .i64 x.arg, .int .i64 x.second, .int .i64 x.result] 42)) W → (W.cell? ⟨w.heap.size, 3, none⟩ = some (.int .i64 x.id) ∧ W.cell? ⟨w.heap.size, 4, none⟩ = some (.int .i64 x.object) ∧ W.cell? ⟨w.heap.size, 5, none⟩ = some (.int .i64 k) ∧ W.cell? ⟨w.heap.size, 6, none⟩ = some (.int .i64 m))) := fun W h => by
      obtain ⟨a0, a1, a2, a3, a4, a5, a6, a7, a8, a9⟩ := HBX.out W h
      rw [hk] at a5
      rw [hm] at a6
      exact ⟨a3, a4, a5, a6⟩
    have HLI : Hid (lineInv x k m = s0 ++ (txInv ++ numS x.id ++ txSp ++ numS x.object ++ txSp ++ kindS k ++ txSp ++ methS m)) := by unfold Hid lineInv; rw [HS0.out]; simp only [ByteArray.append_assoc]
    have zk := kind_size k
    have zm := meth_size m
    have zl : (lineInv x k m).size ≤ 200 := by
      rw [HLI.out]
      simp only [ByteArray.size_append]
      have e1 : txSp.size = 1 := rfl
      have e2 : txInv.size = 8 := rfl
      omega
    have HM := Lib.hid hm
    clear hk hm b1 b2 b3 b4 HSE
    go_upto_region 4 with fail
    clear a0 a1 a2 a3 a4 a5 a6 a7 a8 a9
    go_cut [3] (fun s wx => s = .string (lineInv x k m) ∧ Ext (w.alloc (.cells #[.int .i64 x.time, .int .i64 x.proc, .bool x.answer, .int .i64 x.id, .int .i64 x.object, .int .i64 x.kind, .int .i64 x.method, .int .i64 x.arg, .int .i64 x.second, .int .i64 x.result] 42)) wx)
    case first =>
      clear zl
      have g1 : ¬ 9223372036854775807 < 8 + (numS x.id).size := by omega
      have g2 : ¬ 9223372036854775807 < 8 + (numS x.id).size + 1 := by omega
      have g3 : ¬ 9223372036854775807 < 8 + (numS x.id).size + 1 + (numS x.object).size := by omega
      have g4 : ¬ 9223372036854775807 < 8 + (numS x.id).size + 1 + (numS x.object).size + 1 := by omega
      have g5 : ¬ 9223372036854775807 < 8 + (numS x.id).size + 1 + (numS x.object).size + 1 + (kindS k).size := by omega
      have g6 : ¬ 9223372036854775807 < 8 + (numS x.id).size + 1 + (numS x.object).size + 1 + (kindS k).size + 1 := by omega
      have g7 : ¬ 9223372036854775807 < 8 + (numS x.id).size + 1 + (numS x.object).size + 1 + (kindS k).size + 1 + (methS m).size := by omega
      have g8 : ¬ 9223372036854775807 < s0.size + (8 + (numS x.id).size + 1 + (numS x.object).size + 1 + (kindS k).size + 1 + (methS m).size) := by omega
      have i1 : (0 : Int) ≤ (k : Int) := by omega
      have i2 : (k : Int) < 7 := by omega
      have i3 : (0 : Int) ≤ (m : Int) := by omega
      have i4 : (m : Int) < 15 := by omega
      refine wp_region_held_drew (S := fun W => W.cell? ⟨w.heap.size, 3, none⟩ = some (.int .i64 x.id) ∧ W.cell? ⟨w.heap.size, 4, none⟩ = some (.int .i64 x.object) ∧ W.cell? ⟨w.heap.size, 5, none⟩ = some (.int .i64 k) ∧ W.cell? ⟨w.heap.size, 6, none⟩ = some (.int .i64 m)) (by kernel_rfl) (HS6.out _ (by (repeat' (with_reducible first | exact HBC.out | exact Below.refl _ _ | refine Ext.drewN ?_ _ | refine Below.drew ?_ | refine Below.setCell ?_ ?_ _ | refine Below.alloc ?_ ?_ _)) <;> (first | omega | (simp; done) | (simp; omega)))) (fun hHeld => ?_)
      refine' wpAnyH_take (i := 0) (oi := ?zoi0c) (v := ?zv0c) ?zhi0c (by kernel_rfl) (by kernel_rfl) (by kernel_rfl) ?zhQ0c (Or.inl ⟨?zhw0c, ?zhy0c⟩) (by assumption) ?zrest0c; (case zhi0c => simp only [List.getElem?_toArray, List.getElem?_cons_succ, List.getElem?_cons_zero]; exact rfl); (case zhQ0c => exact fun _ _ _ h => h); (case zhw0c => rfl); (case zhy0c => intro w hSw; (try dsimp only at hSw); go_simp; (try with_reducible rfl)); (try simp only [Act.put, List.setIfInBounds_toArray, List.set_cons_zero, List.set_cons_succ])
      refine' wpAnyH_take (i := 1) (oi := ?zoi1c) (v := ?zv1c) ?zhi1c (by kernel_rfl) (by kernel_rfl) (by kernel_rfl) ?zhQ1c (Or.inl ⟨?zhw1c, ?zhy1c⟩) (by assumption) ?zrest1c; (case zhi1c => simp only [List.getElem?_toArray, List.getElem?_cons_succ, List.getElem?_cons_zero]; exact rfl); (case zhQ1c => exact fun _ _ _ h => h); (case zhw1c => rfl); (case zhy1c => intro w hSw; (try dsimp only at hSw); go_simp; (try with_reducible rfl)); (try simp only [Act.put, List.setIfInBounds_toArray, List.set_cons_zero, List.set_cons_succ])
      refine' wpAnyH_take (i := 2) (oi := ?zoi2c) (v := ?zv2c) ?zhi2c (by kernel_rfl) (by kernel_rfl) (by kernel_rfl) ?zhQ2c (Or.inl ⟨?zhw2c, ?zhy2c⟩) (by assumption) ?zrest2c; (case zhi2c => simp only [List.getElem?_toArray, List.getElem?_cons_succ, List.getElem?_cons_zero]; exact rfl); (case zhQ2c => exact fun _ _ _ h => h); (case zhw2c => rfl); (case zhy2c => intro w hSw; (try dsimp only at hSw); go_simp; (try with_reducible rfl)); (try simp only [Act.put, List.setIfInBounds_toArray, List.set_cons_zero, List.set_cons_succ])
      refine' wpAnyH_take (i := 6) (oi := ?zoi6c) (v := ?zv6c) ?zhi6c (by kernel_rfl) (by kernel_rfl) (by kernel_rfl) ?zhQ6c (Or.inl ⟨?zhw6c, ?zhy6c⟩) (by assumption) ?zrest6c; (case zhi6c => simp only [List.getElem?_toArray, List.getElem?_cons_succ, List.getElem?_cons_zero]; exact rfl); (case zhQ6c => exact fun _ _ _ h => h); (case zhw6c => rfl); (case zhy6c => intro w hSw; (try dsimp only at hSw); go_simp; (try with_reducible rfl)); (try simp only [Act.put, List.setIfInBounds_toArray, List.set_cons_zero, List.set_cons_succ])
      refine' wpAnyH_take (i := 7) (oi := ?zoi7c) (v := ?zv7c) ?zhi7c (by kernel_rfl) (by kernel_rfl) (by kernel_rfl) ?zhQ7c (Or.inl ⟨?zhw7c, ?zhy7c⟩) (by assumption) ?zrest7c; (case zhi7c => simp only [List.getElem?_toArray, List.getElem?_cons_succ, List.getElem?_cons_zero]; exact rfl); (case zhQ7c => exact fun _ _ _ h => h); (case zhw7c => rfl); (case zhy7c => intro w hSw; (try dsimp only at hSw); go_simp; (try with_reducible rfl)); (try simp only [Act.put, List.setIfInBounds_toArray, List.set_cons_zero, List.set_cons_succ])
      refine' wpAnyH_take (i := 12) (oi := ?zoi12c) (v := ?zv12c) ?zhi12c (by kernel_rfl) (by kernel_rfl) (by kernel_rfl) ?zhQ12c (Or.inl ⟨?zhw12c, ?zhy12c⟩) (by assumption) ?zrest12c; (case zhi12c => simp only [List.getElem?_toArray, List.getElem?_cons_succ, List.getElem?_cons_zero]; exact rfl); (case zhQ12c => exact fun _ _ _ h => h); (case zhw12c => rfl); (case zhy12c => intro w hSw; (try dsimp only at hSw); go_simp; (try with_reducible rfl)); (try simp only [Act.put, List.setIfInBounds_toArray, List.set_cons_zero, List.set_cons_succ])
      refine' wpAnyH_take (i := 13) (oi := ?zoi13c) (v := ?zv13c) ?zhi13c (by kernel_rfl) (by kernel_rfl) (by kernel_rfl) ?zhQ13c (Or.inl ⟨?zhw13c, ?zhy13c⟩) (by assumption) ?zrest13c; (case zhi13c => simp only [List.getElem?_toArray, List.getElem?_cons_succ, List.getElem?_cons_zero]; exact rfl); (case zhQ13c => exact fun _ _ _ h => h); (case zhw13c => rfl); (case zhy13c => intro w hSw; (try dsimp only at hSw); go_simp; (try with_reducible rfl)); (try simp only [Act.put, List.setIfInBounds_toArray, List.set_cons_zero, List.set_cons_succ])
      refine' wpAnyH_take (i := 19) (oi := ?zoi19c) (v := ?zv19c) ?zhi19c (by kernel_rfl) (by kernel_rfl) (by kernel_rfl) ?zhQ19c (Or.inl ⟨?zhw19c, ?zhy19c⟩) (by assumption) ?zrest19c; (case zhi19c => simp only [List.getElem?_toArray, List.getElem?_cons_succ, List.getElem?_cons_zero]; exact rfl); (case zhQ19c => exact fun _ _ _ h => h); (case zhw19c => rfl); (case zhy19c => intro w hSw; (try dsimp only at hSw); go_simp; (try with_reducible rfl)); (try simp only [Act.put, List.setIfInBounds_toArray, List.set_cons_zero, List.set_cons_succ])
      refine' wpAnyH_take (i := 20) (oi := ?zoi20c) (v := ?zv20c) ?zhi20c (by kernel_rfl) (by kernel_rfl) (by kernel_rfl) ?zhQ20c (Or.inl ⟨?zhw20c, ?zhy20c⟩) (by assumption) ?zrest20c; (case zhi20c => simp only [List.getElem?_toArray, List.getElem?_cons_succ, List.getElem?_cons_zero]; exact rfl); (case zhQ20c => exact fun _ _ _ h => h); (case zhw20c => rfl); (case zhy20c => intro w hSw; (try dsimp only at hSw); go_simp; (try with_reducible rfl)); (try simp only [Act.put, List.setIfInBounds_toArray, List.set_cons_zero, List.set_cons_succ])
      refine wpAnyH_ready (rs := [3]) (by kernel_rfl) (by simp) ?_; refine AllReadyH.cons rfl (fun K hK => ?_) AllReadyH.nil; go_simp
      (with_reducible refine (digits_any x.id _ X3.1 X3.2).mono ?_)
      rintro e w1 ⟨rfl, hb⟩
      have HB1 : Hid (Ext (w.alloc (.cells #[.int .i64 x.time, .int .i64 x.proc, .bool x.answer, .int .i64 x.id, .int .i64 x.object, .int .i64 x.kind, .int .i64 x.method, .int .i64 x.arg, .int .i64 x.second, .int .i64 x.result] 42)) w1) := Ext.trans (by (repeat' (with_reducible first | exact HBC.out | exact Below.refl _ _ | refine Ext.drewN ?_ _ | refine Below.drew ?_ | refine Below.setCell ?_ ?_ _ | refine Below.alloc ?_ ?_ _)) <;> (first | omega | (simp; done) | (simp; omega))) hb
      clear hb
      (try dsimp only)
      (try go_simp)
      refine hK.out _ _ (HS6.out _ HB1.out) (fun hHeld => ?_)
      clear hK K
      (try simp only [Act.put, List.setIfInBounds_toArray, List.set_cons_zero, List.set_cons_succ])
      refine' wpAnyH_take (i := 4) (oi := ?zoi4c) (v := ?zv4c) ?zhi4c (by kernel_rfl) (by kernel_rfl) (by kernel_rfl) ?zhQ4c (Or.inl ⟨?zhw4c, ?zhy4c⟩) (by assumption) ?zrest4c; (case zhi4c => simp only [List.getElem?_toArray, List.getElem?_cons_succ, List.getElem?_cons_zero]; exact rfl); (case zhQ4c => exact fun _ _ _ h => h); (case zhw4c => rfl); (case zhy4c => intro w hSw; (try dsimp only at hSw); go_simp; (try with_reducible rfl)); (try simp only [Act.put, List.setIfInBounds_toArray, List.set_cons_zero, List.set_cons_succ])
      refine' wpAnyH_take (i := 5) (oi := ?zoi5c) (v := ?zv5c) ?zhi5c (by kernel_rfl) (by kernel_rfl) (by kernel_rfl) ?zhQ5c (Or.inl ⟨?zhw5c, ?zhy5c⟩) (by assumption) ?zrest5c; (case zhi5c => simp only [List.getElem?_toArray, List.getElem?_cons_succ, List.getElem?_cons_zero]; exact rfl); (case zhQ5c => exact fun _ _ _ h => h); (case zhw5c => rfl); (case zhy5c => intro w hSw; (try dsimp only at hSw); go_simp; (try with_reducible rfl)); (try simp only [Act.put, List.setIfInBounds_toArray, List.set_cons_zero, List.set_cons_succ])
      refine wpAnyH_ready (rs := [8]) (by kernel_rfl) (by simp) ?_; refine AllReadyH.cons rfl (fun K hK => ?_) AllReadyH.nil; go_simp
      (with_reducible refine (digits_any x.object _ X4.1 X4.2).mono ?_)
      rintro e w2 ⟨rfl, hb⟩
      have HB1 : Hid (Ext (w.alloc (.cells #[.int .i64 x.time, .int .i64 x.proc, .bool x.answer, .int .i64 x.id, .int .i64 x.object, .int .i64 x.kind, .int .i64 x.method, .int .i64 x.arg, .int .i64 x.second, .int .i64 x.result] 42)) w2) := Ext.trans HB1.out hb
      clear hb
      (try dsimp only)
      (try go_simp)
      refine hK.out _ _ (HS6.out _ HB1.out) (fun hHeld => ?_)
      clear hK K
      (try simp only [Act.put, List.setIfInBounds_toArray, List.set_cons_zero, List.set_cons_succ])
      refine' wpAnyH_take (i := 9) (oi := ?zoi9c) (v := ?zv9c) ?zhi9c (by kernel_rfl) (by kernel_rfl) (by kernel_rfl) ?zhQ9c (Or.inl ⟨?zhw9c, ?zhy9c⟩) (by assumption) ?zrest9c; (case zhi9c => simp only [List.getElem?_toArray, List.getElem?_cons_succ, List.getElem?_cons_zero]; exact rfl); (case zhQ9c => exact fun _ _ _ h => h); (case zhw9c => rfl); (case zhy9c => intro w hSw; (try dsimp only at hSw); go_simp; (try with_reducible rfl)); (try simp only [Act.put, List.setIfInBounds_toArray, List.set_cons_zero, List.set_cons_succ])
      refine' wpAnyH_take (i := 10) (oi := ?zoi10c) (v := ?zv10c) ?zhi10c (by kernel_rfl) (by kernel_rfl) (by kernel_rfl) ?zhQ10c (Or.inl ⟨?zhw10c, ?zhy10c⟩) (by assumption) ?zrest10c; (case zhi10c => simp only [List.getElem?_toArray, List.getElem?_cons_succ, List.getElem?_cons_zero]; exact rfl); (case zhQ10c => exact fun _ _ _ h => h); (case zhw10c => rfl); (case zhy10c => intro w hSw; (try dsimp only at hSw); go_simp; (try with_reducible rfl)); (try simp only [Act.put, List.setIfInBounds_toArray, List.set_cons_zero, List.set_cons_succ])
      refine wpAnyH_ready (rs := [11]) (by kernel_rfl) (by simp) ?_; refine AllReadyH.cons rfl (fun K hK => ?_) AllReadyH.nil; go_simp
      (with_reducible refine (kinds_any _).mono ?_)
      rintro e w3 ⟨rfl, hr3, hb3⟩
      have HB1 : Hid (Ext (w.alloc (.cells #[.int .i64 x.time, .int .i64 x.proc, .bool x.answer, .int .i64 x.id, .int .i64 x.object, .int .i64 x.kind, .int .i64 x.method, .int .i64 x.arg, .int .i64 x.second, .int .i64 x.result] 42)) w3) := Ext.trans HB1.out hb3
      have hkl := hr3.lt
      have hkc := kind_cell hr3 k hk7
      clear hr3 hb3
      (try dsimp only)
      (try go_simp)
      refine hK.out _ _ (HS6.out _ HB1.out) (fun hHeld => ?_)
      clear hK K
      (try simp only [Act.put, List.setIfInBounds_toArray, List.set_cons_zero, List.set_cons_succ])
      refine' wpAnyH_take (i := 14) (oi := ?zoi14c) (v := ?zv14c) ?zhi14c (by kernel_rfl) (by kernel_rfl) (by kernel_rfl) ?zhQ14c (Or.inl ⟨?zhw14c, ?zhy14c⟩) (by assumption) ?zrest14c; (case zhi14c => simp only [List.getElem?_toArray, List.getElem?_cons_succ, List.getElem?_cons_zero]; exact rfl); (case zhQ14c => exact fun _ _ _ h => h); (case zhw14c => rfl); (case zhy14c => intro w hSw; (try dsimp only at hSw); go_simp; (try with_reducible rfl)); (try simp only [Act.put, List.setIfInBounds_toArray, List.set_cons_zero, List.set_cons_succ])
      refine wpAnyH_ready (rs := [15, 18]) (by kernel_rfl) (by simp) ?_; refine AllReadyH.cons rfl (fun K hK => ?_) (AllReadyH.cons rfl (fun K hK => ?_) (AllReadyH.nil))
      · go_simp
        refine hK.out _ _ (HS6.out _ HB1.out) (fun hHeld => ?_)
        clear hK K
        (try simp only [Act.put, List.setIfInBounds_toArray, List.set_cons_zero, List.set_cons_succ])
        refine' wpAnyH_take (i := 16) (oi := ?zoi16cA) (v := ?zv16cA) ?zhi16cA (by kernel_rfl) (by kernel_rfl) (by kernel_rfl) ?zhQ16cA (Or.inl ⟨?zhw16cA, ?zhy16cA⟩) (by assumption) ?zrest16cA; (case zhi16cA => simp only [List.getElem?_toArray, List.getElem?_cons_succ, List.getElem?_cons_zero]; exact rfl); (case zhQ16cA => exact fun _ _ _ h => h); (case zhw16cA => rfl); (case zhy16cA => intro w hSw; (try dsimp only at hSw); go_simp; (try with_reducible rfl)); (try simp only [Act.put, List.setIfInBounds_toArray, List.set_cons_zero, List.set_cons_succ])
        refine' wpAnyH_take (i := 17) (oi := ?zoi17cA) (v := ?zv17cA) ?zhi17cA (by kernel_rfl) (by kernel_rfl) (by kernel_rfl) ?zhQ17cA (Or.inl ⟨?zhw17cA, ?zhy17cA⟩) (by assumption) ?zrest17cA; (case zhi17cA => simp only [List.getElem?_toArray, List.getElem?_cons_succ, List.getElem?_cons_zero]; exact rfl); (case zhQ17cA => exact fun _ _ _ h => h); (case zhw17cA => rfl); (case zhy17cA => intro w hSw; (try dsimp only at hSw); go_simp; (try with_reducible rfl)); (try simp only [Act.put, List.setIfInBounds_toArray, List.set_cons_zero, List.set_cons_succ])
        refine wpAnyH_ready (rs := [18]) (by kernel_rfl) (by simp) ?_; refine AllReadyH.cons rfl (fun K hK => ?_) AllReadyH.nil; go_simp
        (with_reducible refine (methods_any _).mono ?_)
        rintro e w4 ⟨rfl, hr4, hb4⟩
        have HB1 : Hid (Ext (w.alloc (.cells #[.int .i64 x.time, .int .i64 x.proc, .bool x.answer, .int .i64 x.id, .int .i64 x.object, .int .i64 x.kind, .int .i64 x.method, .int .i64 x.arg, .int .i64 x.second, .int .i64 x.result] 42)) w4) := Ext.trans HB1.out hb4
        have hkc := (hb4.cell hkl).trans hkc
        have hmc := meth_cell hr4 m hm15
        clear hr4 hb4
        (try dsimp only)
        (try go_simp)
        refine hK.out _ _ (HS6.out _ HB1.out) (fun hHeld => ?_)
        clear hK K
        (try simp only [Act.put, List.setIfInBounds_toArray, List.set_cons_zero, List.set_cons_succ])
        refine' wpAnyH_take (i := 21) (oi := ?zoi21cA) (v := ?zv21cA) ?zhi21cA (by kernel_rfl) (by kernel_rfl) (by kernel_rfl) ?zhQ21cA (Or.inl ⟨?zhw21cA, ?zhy21cA⟩) (by assumption) ?zrest21cA; (case zhi21cA => simp only [List.getElem?_toArray, List.getElem?_cons_succ, List.getElem?_cons_zero]; exact rfl); (case zhQ21cA => exact fun _ _ _ h => h); (case zhw21cA => rfl); (case zhy21cA => intro w hSw; (try dsimp only at hSw); go_simp; (try with_reducible rfl)); (try simp only [Act.put, List.setIfInBounds_toArray, List.set_cons_zero, List.set_cons_succ])
        refine wpAnyH_ready (rs := [22]) (by kernel_rfl) (by simp) ?_; refine AllReadyH.cons rfl (fun K hK => ?_) AllReadyH.nil; go_simp
        refine hK.out _ _ (HS6.out _ HB1.out) (fun hHeld => ?_)
        clear hK K
        (try simp only [Act.put, List.setIfInBounds_toArray, List.set_cons_zero, List.set_cons_succ])
        refine' wpAnyH_take (i := 23) (oi := ?zoi23cA) (v := ?zv23cA) ?zhi23cA (by kernel_rfl) (by kernel_rfl) (by kernel_rfl) ?zhQ23cA (Or.inl ⟨?zhw23cA, ?zhy23cA⟩) (by assumption) ?zrest23cA; (case zhi23cA => simp only [List.getElem?_toArray, List.getElem?_cons_succ, List.getElem?_cons_zero]; exact rfl); (case zhQ23cA => exact fun _ _ _ h => h); (case zhw23cA => rfl); (case zhy23cA => intro w hSw; (try dsimp only at hSw); go_simp; (try with_reducible rfl)); (try simp only [Act.put, List.setIfInBounds_toArray, List.set_cons_zero, List.set_cons_succ])
        refine' wpAnyH_take (i := 24) (oi := ?zoi24cA) (v := ?zv24cA) ?zhi24cA (by kernel_rfl) (by kernel_rfl) (by kernel_rfl) ?zhQ24cA (Or.inl ⟨?zhw24cA, ?zhy24cA⟩) (by assumption) ?zrest24cA; (case zhi24cA => simp only [List.getElem?_toArray, List.getElem?_cons_succ, List.getElem?_cons_zero]; exact rfl); (case zhQ24cA => exact fun _ _ _ h => h); (case zhw24cA => rfl); (case zhy24cA => intro w hSw; (try dsimp only at hSw); go_simp; (try with_reducible rfl)); (try simp only [Act.put, List.setIfInBounds_toArray, List.set_cons_zero, List.set_cons_succ])
        refine' wpAnyH_take (i := 25) (oi := ?zoi25cA) (v := ?zv25cA) ?zhi25cA (by kernel_rfl) (by kernel_rfl) (by kernel_rfl) ?zhQ25cA (Or.inl ⟨?zhw25cA, ?zhy25cA⟩) (by assumption) ?zrest25cA; (case zhi25cA => simp only [List.getElem?_toArray, List.getElem?_cons_succ, List.getElem?_cons_zero]; exact rfl); (case zhQ25cA => exact fun _ _ _ h => h); (case zhw25cA => rfl); (case zhy25cA => intro w hSw; (try dsimp only at hSw); go_simp; (try with_reducible rfl)); (try simp only [Act.put, List.setIfInBounds_toArray, List.set_cons_zero, List.set_cons_succ])
        refine wpAnyH_done (by kernel_rfl) ?_ _
        go_wp2_with fail
        go_meet
        exact ⟨by rw [HLI.out]; rfl, HB1.out⟩
      · go_simp
        (with_reducible refine (methods_any _).mono ?_)
        rintro e w4 ⟨rfl, hr4, hb4⟩
        have HB1 : Hid (Ext (w.alloc (.cells #[.int .i64 x.time, .int .i64 x.proc, .bool x.answer, .int .i64 x.id, .int .i64 x.object, .int .i64 x.kind, .int .i64 x.method, .int .i64 x.arg, .int .i64 x.second, .int .i64 x.result] 42)) w4) := Ext.trans HB1.out hb4
        have hkc := (hb4.cell hkl).trans hkc
        have hmc := meth_cell hr4 m hm15
        clear hr4 hb4
        (try dsimp only)
        (try go_simp)
        refine hK.out _ _ (HS6.out _ HB1.out) (fun hHeld => ?_)
        clear hK K
        (try simp only [Act.put, List.setIfInBounds_toArray, List.set_cons_zero, List.set_cons_succ])
        refine' wpAnyH_take (i := 21) (oi := ?zoi21cB) (v := ?zv21cB) ?zhi21cB (by kernel_rfl) (by kernel_rfl) (by kernel_rfl) ?zhQ21cB (Or.inl ⟨?zhw21cB, ?zhy21cB⟩) (by assumption) ?zrest21cB; (case zhi21cB => simp only [List.getElem?_toArray, List.getElem?_cons_succ, List.getElem?_cons_zero]; exact rfl); (case zhQ21cB => exact fun _ _ _ h => h); (case zhw21cB => rfl); (case zhy21cB => intro w hSw; (try dsimp only at hSw); go_simp; (try with_reducible rfl)); (try simp only [Act.put, List.setIfInBounds_toArray, List.set_cons_zero, List.set_cons_succ])
        refine wpAnyH_ready (rs := [15, 22]) (by kernel_rfl) (by simp) ?_; refine AllReadyH.cons rfl (fun K hK => ?_) (AllReadyH.cons rfl (fun K hK => ?_) (AllReadyH.nil))
        · go_simp
          refine hK.out _ _ (HS6.out _ HB1.out) (fun hHeld => ?_)
          clear hK K
          (try simp only [Act.put, List.setIfInBounds_toArray, List.set_cons_zero, List.set_cons_succ])
          refine' wpAnyH_take (i := 16) (oi := ?zoi16cBA) (v := ?zv16cBA) ?zhi16cBA (by kernel_rfl) (by kernel_rfl) (by kernel_rfl) ?zhQ16cBA (Or.inl ⟨?zhw16cBA, ?zhy16cBA⟩) (by assumption) ?zrest16cBA; (case zhi16cBA => simp only [List.getElem?_toArray, List.getElem?_cons_succ, List.getElem?_cons_zero]; exact rfl); (case zhQ16cBA => exact fun _ _ _ h => h); (case zhw16cBA => rfl); (case zhy16cBA => intro w hSw; (try dsimp only at hSw); go_simp; (try with_reducible rfl)); (try simp only [Act.put, List.setIfInBounds_toArray, List.set_cons_zero, List.set_cons_succ])
          refine' wpAnyH_take (i := 17) (oi := ?zoi17cBA) (v := ?zv17cBA) ?zhi17cBA (by kernel_rfl) (by kernel_rfl) (by kernel_rfl) ?zhQ17cBA (Or.inl ⟨?zhw17cBA, ?zhy17cBA⟩) (by assumption) ?zrest17cBA; (case zhi17cBA => simp only [List.getElem?_toArray, List.getElem?_cons_succ, List.getElem?_cons_zero]; exact rfl); (case zhQ17cBA => exact fun _ _ _ h => h); (case zhw17cBA => rfl); (case zhy17cBA => intro w hSw; (try dsimp only at hSw); go_simp; (try with_reducible rfl)); (try simp only [Act.put, List.setIfInBounds_toArray, List.set_cons_zero, List.set_cons_succ])
          refine wpAnyH_ready (rs := [22]) (by kernel_rfl) (by simp) ?_; refine AllReadyH.cons rfl (fun K hK => ?_) AllReadyH.nil; go_simp
          refine hK.out _ _ (HS6.out _ HB1.out) (fun hHeld => ?_)
          clear hK K
          (try simp only [Act.put, List.setIfInBounds_toArray, List.set_cons_zero, List.set_cons_succ])
          refine' wpAnyH_take (i := 23) (oi := ?zoi23cBA) (v := ?zv23cBA) ?zhi23cBA (by kernel_rfl) (by kernel_rfl) (by kernel_rfl) ?zhQ23cBA (Or.inl ⟨?zhw23cBA, ?zhy23cBA⟩) (by assumption) ?zrest23cBA; (case zhi23cBA => simp only [List.getElem?_toArray, List.getElem?_cons_succ, List.getElem?_cons_zero]; exact rfl); (case zhQ23cBA => exact fun _ _ _ h => h); (case zhw23cBA => rfl); (case zhy23cBA => intro w hSw; (try dsimp only at hSw); go_simp; (try with_reducible rfl)); (try simp only [Act.put, List.setIfInBounds_toArray, List.set_cons_zero, List.set_cons_succ])
          refine' wpAnyH_take (i := 24) (oi := ?zoi24cBA) (v := ?zv24cBA) ?zhi24cBA (by kernel_rfl) (by kernel_rfl) (by kernel_rfl) ?zhQ24cBA (Or.inl ⟨?zhw24cBA, ?zhy24cBA⟩) (by assumption) ?zrest24cBA; (case zhi24cBA => simp only [List.getElem?_toArray, List.getElem?_cons_succ, List.getElem?_cons_zero]; exact rfl); (case zhQ24cBA => exact fun _ _ _ h => h); (case zhw24cBA => rfl); (case zhy24cBA => intro w hSw; (try dsimp only at hSw); go_simp; (try with_reducible rfl)); (try simp only [Act.put, List.setIfInBounds_toArray, List.set_cons_zero, List.set_cons_succ])
          refine' wpAnyH_take (i := 25) (oi := ?zoi25cBA) (v := ?zv25cBA) ?zhi25cBA (by kernel_rfl) (by kernel_rfl) (by kernel_rfl) ?zhQ25cBA (Or.inl ⟨?zhw25cBA, ?zhy25cBA⟩) (by assumption) ?zrest25cBA; (case zhi25cBA => simp only [List.getElem?_toArray, List.getElem?_cons_succ, List.getElem?_cons_zero]; exact rfl); (case zhQ25cBA => exact fun _ _ _ h => h); (case zhw25cBA => rfl); (case zhy25cBA => intro w hSw; (try dsimp only at hSw); go_simp; (try with_reducible rfl)); (try simp only [Act.put, List.setIfInBounds_toArray, List.set_cons_zero, List.set_cons_succ])
          refine wpAnyH_done (by kernel_rfl) ?_ _
          go_wp2_with fail
          go_meet
          exact ⟨by rw [HLI.out]; rfl, HB1.out⟩
        · go_simp
          refine hK.out _ _ (HS6.out _ HB1.out) (fun hHeld => ?_)
          clear hK K
          (try simp only [Act.put, List.setIfInBounds_toArray, List.set_cons_zero, List.set_cons_succ])
          refine wpAnyH_ready (rs := [15]) (by kernel_rfl) (by simp) ?_; refine AllReadyH.cons rfl (fun K hK => ?_) AllReadyH.nil; go_simp
          refine hK.out _ _ (HS6.out _ HB1.out) (fun hHeld => ?_)
          clear hK K
          (try simp only [Act.put, List.setIfInBounds_toArray, List.set_cons_zero, List.set_cons_succ])
          refine' wpAnyH_take (i := 16) (oi := ?zoi16cBB) (v := ?zv16cBB) ?zhi16cBB (by kernel_rfl) (by kernel_rfl) (by kernel_rfl) ?zhQ16cBB (Or.inl ⟨?zhw16cBB, ?zhy16cBB⟩) (by assumption) ?zrest16cBB; (case zhi16cBB => simp only [List.getElem?_toArray, List.getElem?_cons_succ, List.getElem?_cons_zero]; exact rfl); (case zhQ16cBB => exact fun _ _ _ h => h); (case zhw16cBB => rfl); (case zhy16cBB => intro w hSw; (try dsimp only at hSw); go_simp; (try with_reducible rfl)); (try simp only [Act.put, List.setIfInBounds_toArray, List.set_cons_zero, List.set_cons_succ])
          refine' wpAnyH_take (i := 17) (oi := ?zoi17cBB) (v := ?zv17cBB) ?zhi17cBB (by kernel_rfl) (by kernel_rfl) (by kernel_rfl) ?zhQ17cBB (Or.inl ⟨?zhw17cBB, ?zhy17cBB⟩) (by assumption) ?zrest17cBB; (case zhi17cBB => simp only [List.getElem?_toArray, List.getElem?_cons_succ, List.getElem?_cons_zero]; exact rfl); (case zhQ17cBB => exact fun _ _ _ h => h); (case zhw17cBB => rfl); (case zhy17cBB => intro w hSw; (try dsimp only at hSw); go_simp; (try with_reducible rfl)); (try simp only [Act.put, List.setIfInBounds_toArray, List.set_cons_zero, List.set_cons_succ])
          refine' wpAnyH_take (i := 23) (oi := ?zoi23cBB) (v := ?zv23cBB) ?zhi23cBB (by kernel_rfl) (by kernel_rfl) (by kernel_rfl) ?zhQ23cBB (Or.inl ⟨?zhw23cBB, ?zhy23cBB⟩) (by assumption) ?zrest23cBB; (case zhi23cBB => simp only [List.getElem?_toArray, List.getElem?_cons_succ, List.getElem?_cons_zero]; exact rfl); (case zhQ23cBB => exact fun _ _ _ h => h); (case zhw23cBB => rfl); (case zhy23cBB => intro w hSw; (try dsimp only at hSw); go_simp; (try with_reducible rfl)); (try simp only [Act.put, List.setIfInBounds_toArray, List.set_cons_zero, List.set_cons_succ])
          refine' wpAnyH_take (i := 24) (oi := ?zoi24cBB) (v := ?zv24cBB) ?zhi24cBB (by kernel_rfl) (by kernel_rfl) (by kernel_rfl) ?zhQ24cBB (Or.inl ⟨?zhw24cBB, ?zhy24cBB⟩) (by assumption) ?zrest24cBB; (case zhi24cBB => simp only [List.getElem?_toArray, List.getElem?_cons_succ, List.getElem?_cons_zero]; exact rfl); (case zhQ24cBB => exact fun _ _ _ h => h); (case zhw24cBB => rfl); (case zhy24cBB => intro w hSw; (try dsimp only at hSw); go_simp; (try with_reducible rfl)); (try simp only [Act.put, List.setIfInBounds_toArray, List.set_cons_zero, List.set_cons_succ])
          refine' wpAnyH_take (i := 25) (oi := ?zoi25cBB) (v := ?zv25cBB) ?zhi25cBB (by kernel_rfl) (by kernel_rfl) (by kernel_rfl) ?zhQ25cBB (Or.inl ⟨?zhw25cBB, ?zhy25cBB⟩) (by assumption) ?zrest25cBB; (case zhi25cBB => simp only [List.getElem?_toArray, List.getElem?_cons_succ, List.getElem?_cons_zero]; exact rfl); (case zhQ25cBB => exact fun _ _ _ h => h); (case zhw25cBB => rfl); (case zhy25cBB => intro w hSw; (try dsimp only at hSw); go_simp; (try with_reducible rfl)); (try simp only [Act.put, List.setIfInBounds_toArray, List.set_cons_zero, List.set_cons_succ])
          refine wpAnyH_done (by kernel_rfl) ?_ _
          go_wp2_with fail
          go_meet
          exact ⟨by rw [HLI.out]; rfl, HB1.out⟩
    case rest =>
    obtain ⟨rfl, hbd⟩ := hcut
    have HBD := Lib.hid hbd
    have KD : Hid (Ext w wc) := Ext.trans (Ext.alloc _ _) hbd
    have hld : w.heap.size < wc.heap.size := by have := hbd.size; simp at this; omega
    clear hbd HS6
    generalize lineInv x k m = s1 at *
    obtain ⟨n, hn, hn2⟩ := argsN_nat x.method
    rw [hn, ← lineK_args x s1 n hn2] at HV
    have HN : Hid (argsN (m : Int) = (n : Int)) := by unfold Hid; rw [← HM.out, hn]
    clear hn
    have HS5 : Hid (∀ W : World, Ext (w.alloc (.cells #[.int .i64 x.time, .int .i64 x.proc, .bool x.answer, .int .i64 x.id, .int .i64 x.object, .int .i64 x.kind, .int .i64 x.method, .int .i64 x.arg, .int .i64 x.second, .int .i64 x.result] 42)) W → (W.cell? ⟨w.heap.size, 7, none⟩ = some (.int .i64 x.arg) ∧ W.cell? ⟨w.heap.size, 8, none⟩ = some (.int .i64 x.second) ∧ W.cell? ⟨w.heap.size, 6, none⟩ = some (.int .i64 m))) := fun W h => by
      obtain ⟨a0, a1, a2, a3, a4, a5, a6, a7, a8, a9⟩ := HBX.out W h
      rw [HM.out] at a6
      exact ⟨a7, a8, a6⟩
    have i5 : (0 : Int) ≤ (n : Int) := by omega
    have i6 : (n : Int) ≤ 2 := by omega
    go_upto_region 5 with fail
    go_cut [60, 61, 62] (fun s l z wx => ∃ B c, s = .slice (some ⟨B, 0, none⟩) n c ∧ l = .int .i64 n ∧ z = .int .i64 0 ∧ Row1 wx B 3 [.int .i64 x.arg, .int .i64 x.second] ∧ Ext (w.alloc (.cells #[.int .i64 x.time, .int .i64 x.proc, .bool x.answer, .int .i64 x.id, .int .i64 x.object, .int .i64 x.kind, .int .i64 x.method, .int .i64 x.arg, .int .i64 x.second, .int .i64 x.result] 42)) wx)
    case first =>
      refine wp_region_held_drew (S := fun W => W.cell? ⟨w.heap.size, 7, none⟩ = some (.int .i64 x.arg) ∧ W.cell? ⟨w.heap.size, 8, none⟩ = some (.int .i64 x.second) ∧ W.cell? ⟨w.heap.size, 6, none⟩ = some (.int .i64 m)) (by kernel_rfl) (HS5.out _ (by (repeat' (with_reducible first | exact HBD.out | exact Below.refl _ _ | refine Ext.drewN ?_ _ | refine Below.drew ?_ | refine Below.setCell ?_ ?_ _ | refine Below.alloc ?_ ?_ _)) <;> (first | omega | (simp; done) | (simp; omega)))) (fun hHeld => ?_)
      refine' wpAnyH_take (i := 0) (oi := ?zoi0d) (v := ?zv0d) ?zhi0d (by kernel_rfl) (by kernel_rfl) (by kernel_rfl) ?zhQ0d (Or.inl ⟨?zhw0d, ?zhy0d⟩) (by assumption) ?zrest0d; (case zhi0d => simp only [List.getElem?_toArray, List.getElem?_cons_succ, List.getElem?_cons_zero]; exact rfl); (case zhQ0d => exact fun _ _ _ h => h); (case zhw0d => rfl); (case zhy0d => intro w hSw; (try dsimp only at hSw); go_simp; (try with_reducible rfl)); (try simp only [Act.put, List.setIfInBounds_toArray, List.set_cons_zero, List.set_cons_succ])
      refine' wpAnyH_take (i := 1) (oi := ?zoi1d) (v := ?zv1d) ?zhi1d (by kernel_rfl) (by kernel_rfl) (by kernel_rfl) ?zhQ1d (Or.inl ⟨?zhw1d, ?zhy1d⟩) (by assumption) ?zrest1d; (case zhi1d => simp only [List.getElem?_toArray, List.getElem?_cons_succ, List.getElem?_cons_zero]; exact rfl); (case zhQ1d => exact fun _ _ _ h => h); (case zhw1d => rfl); (case zhy1d => intro w hSw; (try dsimp only at hSw); go_simp; (try with_reducible rfl)); (try simp only [Act.put, List.setIfInBounds_toArray, List.set_cons_zero, List.set_cons_succ])
      refine' wpAnyH_take (i := 2) (oi := ?zoi2d) (v := ?zv2d) ?zhi2d (by kernel_rfl) (by kernel_rfl) (by kernel_rfl) ?zhQ2d (Or.inl ⟨?zhw2d, ?zhy2d⟩) (by assumption) ?zrest2d; (case zhi2d => simp only [List.getElem?_toArray, List.getElem?_cons_succ, List.getElem?_cons_zero]; exact rfl); (case zhQ2d => exact fun _ _ _ h => h); (case zhw2d => rfl); (case zhy2d => intro w hSw; (try dsimp only at hSw); go_simp; (try with_reducible rfl)); (try simp only [Act.put, List.setIfInBounds_toArray, List.set_cons_zero, List.set_cons_succ])
      refine' wpAnyH_take (i := 3) (oi := ?zoi3d) (v := ?zv3d) ?zhi3d (by kernel_rfl) (by kernel_rfl) (by kernel_rfl) ?zhQ3d (Or.inl ⟨?zhw3d, ?zhy3d⟩) (by assumption) ?zrest3d; (case zhi3d => simp only [List.getElem?_toArray, List.getElem?_cons_succ, List.getElem?_cons_zero]; exact rfl); (case zhQ3d => exact fun _ _ _ h => h); (case zhw3d => rfl); (case zhy3d => intro w hSw; (try dsimp only at hSw); go_simp; (try with_reducible rfl)); (try simp only [Act.put, List.setIfInBounds_toArray, List.set_cons_zero, List.set_cons_succ])
      refine' wpAnyH_take (i := 5) (oi := ?zoi5d) (v := ?zv5d) ?zhi5d (by kernel_rfl) (by kernel_rfl) (by kernel_rfl) ?zhQ5d (Or.inl ⟨?zhw5d, ?zhy5d⟩) (by assumption) ?zrest5d; (case zhi5d => simp only [List.getElem?_toArray, List.getElem?_cons_succ, List.getElem?_cons_zero]; exact rfl); (case zhQ5d => exact fun _ _ _ h => h); (case zhw5d => rfl); (case zhy5d => intro w hSw; (try dsimp only at hSw); go_simp; (try with_reducible rfl)); (try simp only [Act.put, List.setIfInBounds_toArray, List.set_cons_zero, List.set_cons_succ])
      refine' wpAnyH_take (i := 6) (oi := ?zoi6d) (v := ?zv6d) ?zhi6d (by kernel_rfl) (by kernel_rfl) (by kernel_rfl) ?zhQ6d (Or.inl ⟨?zhw6d, ?zhy6d⟩) (by assumption) ?zrest6d; (case zhi6d => simp only [List.getElem?_toArray, List.getElem?_cons_succ, List.getElem?_cons_zero]; exact rfl); (case zhQ6d => exact fun _ _ _ h => h); (case zhw6d => rfl); (case zhy6d => intro w hSw; (try dsimp only at hSw); go_simp; (try with_reducible rfl)); (try simp only [Act.put, List.setIfInBounds_toArray, List.set_cons_zero, List.set_cons_succ])
      refine' wpAnyH_take (i := 10) (oi := ?zoi10d) (v := ?zv10d) ?zhi10d (by kernel_rfl) (by kernel_rfl) (by kernel_rfl) ?zhQ10d (Or.inl ⟨?zhw10d, ?zhy10d⟩) (by assumption) ?zrest10d; (case zhi10d => simp only [List.getElem?_toArray, List.getElem?_cons_succ, List.getElem?_cons_zero]; exact rfl); (case zhQ10d => exact fun _ _ _ h => h); (case zhw10d => rfl); (case zhy10d => intro w hSw; (try dsimp only at hSw); go_simp; (try with_reducible rfl)); (try simp only [Act.put, List.setIfInBounds_toArray, List.set_cons_zero, List.set_cons_succ])
      refine wpAnyH_ready (rs := [4, 7]) (by kernel_rfl) (by simp) ?_; refine AllReadyH.cons rfl (fun K hK => ?_) (AllReadyH.cons rfl (fun K hK => ?_) (AllReadyH.nil))
      · go_simp
        refine hK.out _ _ (HS5.out _ (by (repeat' (with_reducible first | exact HBD.out | exact Below.refl _ _ | refine Ext.drewN ?_ _ | refine Below.drew ?_ | refine Below.setCell ?_ ?_ _ | refine Below.alloc ?_ ?_ _)) <;> (first | omega | (simp; done) | (simp; omega)))) (fun hHeld => ?_)
        clear hK K
        (try simp only [Act.put, List.setIfInBounds_toArray, List.set_cons_zero, List.set_cons_succ])
        refine wpAnyH_ready (rs := [7]) (by kernel_rfl) (by simp) ?_; refine AllReadyH.cons rfl (fun K hK => ?_) AllReadyH.nil; go_simp
        (with_reducible refine (arguments_any (m : Int) _).mono ?_)
        rintro e w3 ⟨rfl, rfl⟩
        rw [HN.out]
        (try dsimp only)
        (try go_simp)
        refine hK.out _ _ (HS5.out _ (by (repeat' (with_reducible first | exact HBD.out | exact Below.refl _ _ | refine Ext.drewN ?_ _ | refine Below.drew ?_ | refine Below.setCell ?_ ?_ _ | refine Below.alloc ?_ ?_ _)) <;> (first | omega | (simp; done) | (simp; omega)))) (fun hHeld => ?_)
        clear hK K
        (try simp only [Act.put, List.setIfInBounds_toArray, List.set_cons_zero, List.set_cons_succ])
        refine wpAnyH_ready (rs := [8]) (by kernel_rfl) (by simp) ?_; refine AllReadyH.cons rfl (fun K hK => ?_) AllReadyH.nil; go_simp
        refine hK.out _ _ (HS5.out _ (by (repeat' (with_reducible first | exact HBD.out | exact Below.refl _ _ | refine Ext.drewN ?_ _ | refine Below.drew ?_ | refine Below.setCell ?_ ?_ _ | refine Below.alloc ?_ ?_ _)) <;> (first | omega | (simp; done) | (simp; omega)))) (fun hHeld => ?_)
        clear hK K
        (try simp only [Act.put, List.setIfInBounds_toArray, List.set_cons_zero, List.set_cons_succ])
        refine' wpAnyH_take (i := 9) (oi := ?zoi9dA) (v := ?zv9dA) ?zhi9dA (by kernel_rfl) (by kernel_rfl) (by kernel_rfl) ?zhQ9dA (Or.inl ⟨?zhw9dA, ?zhy9dA⟩) (by assumption) ?zrest9dA; (case zhi9dA => simp only [List.getElem?_toArray, List.getElem?_cons_succ, List.getElem?_cons_zero]; exact rfl); (case zhQ9dA => exact fun _ _ _ h => h); (case zhw9dA => rfl); (case zhy9dA => intro w hSw; (try dsimp only at hSw); go_simp; (try with_reducible rfl)); (try simp only [Act.put, List.setIfInBounds_toArray, List.set_cons_zero, List.set_cons_succ])
        refine wpAnyH_done (by kernel_rfl) ?_ _
        go_wp2_with fail
        go_meet
        exact ⟨_, _, rfl, rfl, rfl, Row1.made _ 3 [.int .i64 x.arg, .int .i64 x.second], by (repeat' (with_reducible first | exact HBD.out | exact Below.refl _ _ | refine Ext.drewN ?_ _ | refine Below.drew ?_ | refine Below.setCell ?_ ?_ _ | refine Below.alloc ?_ ?_ _)) <;> (first | omega | (simp; done) | (simp; omega))⟩
      · go_simp
        (with_reducible refine (arguments_any (m : Int) _).mono ?_)
        rintro e w3 ⟨rfl, rfl⟩
        rw [HN.out]
        (try dsimp only)
        (try go_simp)
        refine hK.out _ _ (HS5.out _ (by (repeat' (with_reducible first | exact HBD.out | exact Below.refl _ _ | refine Ext.drewN ?_ _ | refine Below.drew ?_ | refine Below.setCell ?_ ?_ _ | refine Below.alloc ?_ ?_ _)) <;> (first | omega | (simp; done) | (simp; omega)))) (fun hHeld => ?_)
        clear hK K
        (try simp only [Act.put, List.setIfInBounds_toArray, List.set_cons_zero, List.set_cons_succ])
        refine wpAnyH_ready (rs := [4]) (by kernel_rfl) (by simp) ?_; refine AllReadyH.cons rfl (fun K hK => ?_) AllReadyH.nil; go_simp
        refine hK.out _ _ (HS5.out _ (by (repeat' (with_reducible first | exact HBD.out | exact Below.refl _ _ | refine Ext.drewN ?_ _ | refine Below.drew ?_ | refine Below.setCell ?_ ?_ _ | refine Below.alloc ?_ ?_ _)) <;> (first | omega | (simp; done) | (simp; omega)))) (fun hHeld => ?_)
        clear hK K
        (try simp only [Act.put, List.setIfInBounds_toArray, List.set_cons_zero, List.set_cons_succ])
        refine wpAnyH_ready (rs := [8]) (by kernel_rfl) (by simp) ?_; refine AllReadyH.cons rfl (fun K hK => ?_) AllReadyH.nil; go_simp
        refine hK.out _ _ (HS5.out _ (by (repeat' (with_reducible first | exact HBD.out | exact Below.refl _ _ | refine Ext.drewN ?_ _ | refine Below.drew ?_ | refine Below.setCell ?_ ?_ _ | refine Below.alloc ?_ ?_ _)) <;> (first | omega | (simp; done) | (simp; omega)))) (fun hHeld => ?_)
        clear hK K
        (try simp only [Act.put, List.setIfInBounds_toArray, List.set_cons_zero, List.set_cons_succ])
        refine' wpAnyH_take (i := 9) (oi := ?zoi9dB) (v := ?zv9dB) ?zhi9dB (by kernel_rfl) (by kernel_rfl) (by kernel_rfl) ?zhQ9dB (Or.inl ⟨?zhw9dB, ?zhy9dB⟩) (by assumption) ?zrest9dB; (case zhi9dB => simp only [List.getElem?_toArray, List.getElem?_cons_succ, List.getElem?_cons_zero]; exact rfl); (case zhQ9dB => exact fun _ _ _ h => h); (case zhw9dB => rfl); (case zhy9dB => intro w hSw; (try dsimp only at hSw); go_simp; (try with_reducible rfl)); (try simp only [Act.put, List.setIfInBounds_toArray, List.set_cons_zero, List.set_cons_succ])
        refine wpAnyH_done (by kernel_rfl) ?_ _
        go_wp2_with fail
        go_meet
        exact ⟨_, _, rfl, rfl, rfl, Row1.made _ 3 [.int .i64 x.arg, .int .i64 x.second], by (repeat' (with_reducible first | exact HBD.out | exact Below.refl _ _ | refine Ext.drewN ?_ _ | refine Below.drew ?_ | refine Below.setCell ?_ ?_ _ | refine Below.alloc ?_ ?_ _)) <;> (first | omega | (simp; done) | (simp; omega))⟩
    case rest =>
    obtain ⟨B, c, rfl, rfl, rfl, hrow, hbe⟩ := hcut
    have HBE := Lib.hid hbe
    have HROW := Lib.hid hrow
    have KE : Hid (Ext w wc) := Ext.trans (Ext.alloc _ _) hbe
    clear hrow hbe
    go_wp2_with fail
    go_loopw [3, 62] (fun v i wr => ∃ kk : Nat, kk ≤ n ∧ i = .int .i64 kk ∧ v = .string (lineK x s1 kk) ∧ Ext (w.alloc (.cells #[.int .i64 x.time, .int .i64 x.proc, .bool x.answer, .int .i64 x.id, .int .i64 x.object, .int .i64 x.kind, .int .i64 x.method, .int .i64 x.arg, .int .i64 x.second, .int .i64 x.result] 42)) wr ∧ Row1 wr B 3 [.int .i64 x.arg, .int .i64 x.second]) (fun _ i _ => n - (intOf i).toNat)
    case atStart => exact ⟨0, by omega, rfl, rfl, HBE.out, HROW.out⟩
    case round =>
      obtain ⟨kk, hkk, rfl, rfl, hb, hr⟩ := hrel
      have HB := Lib.hid hb
      have HR := Lib.hid hr
      have hBl := hr.lt
      have c0 := hr.cell 0
      have c1 := hr.cell 1
      simp only [List.getElem?_cons_zero, List.getElem?_cons_succ] at c0 c1
      clear hb hr HBE HROW HBD
      by_cases hlt : kk < n
      · have q1 : decide ((kk : Int) < (n : Int)) = true := by simp; omega
        have hk2 : kk = 0 ∨ kk = 1 := by omega
        rcases hk2 with rfl | rfl
        · have hz : lineK x s1 0 = s1 := rfl
          have i7 : (0 : Int) < (n : Int) := by omega
          have g1 : ¬ 9223372036854775807 < 1 + (numS x.arg).size := by omega
          have g2 : ¬ 9223372036854775807 < s1.size + (1 + (numS x.arg).size) := by omega
          rw [hz]
          clear hz
          go_wp2_with fail
          (with_reducible refine (digits_any x.arg _ X5.1 X5.2).mono ?_)
          rintro e w3 ⟨rfl, hb3⟩
          have HB3 : Hid (Ext (w.alloc (.cells #[.int .i64 x.time, .int .i64 x.proc, .bool x.answer, .int .i64 x.id, .int .i64 x.object, .int .i64 x.kind, .int .i64 x.method, .int .i64 x.arg, .int .i64 x.second, .int .i64 x.result] 42)) w3) := Ext.trans (by (repeat' (with_reducible first | exact HB.out | exact Below.refl _ _ | refine Ext.drewN ?_ _ | refine Below.drew ?_ | refine Below.setCell ?_ ?_ _ | refine Below.alloc ?_ ?_ _)) <;> (first | omega | (simp; done) | (simp; omega))) hb3
          have HR3 := Lib.hid (HR.out.ext hb3 (by first | exact hBl | (simp; omega)))
          clear hb3 c0 c1
          go_wp2_with fail
          go_roundw
          case measure => simp [intOf]; omega
          case rel => exact ⟨1, by omega, by go_num, rfl, by (repeat' (with_reducible first | exact HB3.out | exact Below.refl _ _ | refine Ext.drewN ?_ _ | refine Below.drew ?_ | refine Below.setCell ?_ ?_ _ | refine Below.alloc ?_ ?_ _)) <;> (first | omega | (simp; done) | (simp; omega)), HR3.out⟩
        · have hs2 : (lineK x s1 1).size ≤ 221 := by
            show (s1 ++ (txSp ++ numS x.arg)).size ≤ 221
            simp only [ByteArray.size_append]
            have e1 : txSp.size = 1 := rfl
            omega
          have i7 : (1 : Int) < (n : Int) := by omega
          have HL2 : Hid (∀ s2, lineK x s1 1 = s2 → lineK x s1 2 = s2 ++ (txSp ++ numS x.second)) := fun s2 h => by rw [← h]; rfl
          obtain ⟨s2, hs⟩ : ∃ s2, lineK x s1 1 = s2 := ⟨_, rfl⟩
          have HL3 := Lib.hid (HL2.out s2 hs)
          rw [hs] at hs2 ⊢
          have g1 : ¬ 9223372036854775807 < 1 + (numS x.second).size := by omega
          have g2 : ¬ 9223372036854775807 < s2.size + (1 + (numS x.second).size) := by omega
          clear hs HL2
          go_wp2_with fail
          (with_reducible refine (digits_any x.second _ X6.1 X6.2).mono ?_)
          rintro e w3 ⟨rfl, hb3⟩
          have HB3 : Hid (Ext (w.alloc (.cells #[.int .i64 x.time, .int .i64 x.proc, .bool x.answer, .int .i64 x.id, .int .i64 x.object, .int .i64 x.kind, .int .i64 x.method, .int .i64 x.arg, .int .i64 x.second, .int .i64 x.result] 42)) w3) := Ext.trans (by (repeat' (with_reducible first | exact HB.out | exact Below.refl _ _ | refine Ext.drewN ?_ _ | refine Below.drew ?_ | refine Below.setCell ?_ ?_ _ | refine Below.alloc ?_ ?_ _)) <;> (first | omega | (simp; done) | (simp; omega))) hb3
          have HR3 := Lib.hid (HR.out.ext hb3 (by first | exact hBl | (simp; omega)))
          clear hb3 c0 c1
          go_wp2_with fail
          go_roundw
          case measure => simp [intOf]; omega
          case rel => exact ⟨2, by omega, by go_num, by rw [HL3.out]; rfl, by (repeat' (with_reducible first | exact HB3.out | exact Below.refl _ _ | refine Ext.drewN ?_ _ | refine Below.drew ?_ | refine Below.setCell ?_ ?_ _ | refine Below.alloc ?_ ?_ _)) <;> (first | omega | (simp; done) | (simp; omega)), HR3.out⟩
      · obtain rfl : kk = n := by omega
        have q1 : decide ((kk : Int) < (kk : Int)) = false := by simp
        go_wp2_with fail
        go_ret
        exact ⟨by rw [HV.out]; rfl, Ext.trans (Ext.alloc _ _) (by (repeat' (with_reducible first | exact HB.out | exact Below.refl _ _ | refine Ext.drewN ?_ _ | refine Below.drew ?_ | refine Below.setCell ?_ ?_ _ | refine Below.alloc ?_ ?_ _)) <;> (first | omega | (simp; done) | (simp; omega)))⟩
end Go.Proofs.YtgpnockjonicpaaDoor
