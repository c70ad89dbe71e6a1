/- What an operation has in a field (find.Value), comparisons, times (Before, Overlap), ref12.Get. No conditions. -/
import Derived.Test.YtcilkdohpcmbgaaOps
namespace Go.Proofs.Ytcilkdohpcmbgaa
set_option linter.unusedSimpArgs false
set_option linter.unusedVariables false
open Go.RowKit

theorem valueL_ite (o : OpD) (f : ByteArray) : valueL o f = if f.toList = [105, 100] then some o.id else if f.toList = [112, 114, 111, 99] then some o.proc else if f.toList = [111, 98, 106, 101, 99, 116] then some o.object else
    if f.toList = [107, 105, 110, 100] then some o.kind else if f.toList = [109, 101, 116, 104, 111, 100] then some o.method else if f.toList = [97, 114, 103] then some o.arg else if f.toList = [115, 101, 99, 111, 110, 100] then some o.second else
    if f.toList = [100, 111, 110, 101] then some (doneI o) else if f.toList = [114, 101, 115, 117, 108, 116] then some o.result else if f.toList = [105, 110, 118, 111, 107, 101] then some o.invoke else if f.toList = [114, 101, 116, 117, 114, 110] then some o.ret else none := by
  have e : ∀ l : List UInt8, (l = f.toList) = (f.toList = l) := fun l => propext eq_comm
  simp only [valueL, namesB, valsL, findV]
  rw [show (⟨#[105, 100]⟩ : ByteArray).toList = [105, 100] by decide +kernel]
  rw [show (⟨#[112, 114, 111, 99]⟩ : ByteArray).toList = [112, 114, 111, 99] by decide +kernel]
  rw [show (⟨#[111, 98, 106, 101, 99, 116]⟩ : ByteArray).toList = [111, 98, 106, 101, 99, 116] by decide +kernel]
  rw [show (⟨#[107, 105, 110, 100]⟩ : ByteArray).toList = [107, 105, 110, 100] by decide +kernel]
  rw [show (⟨#[109, 101, 116, 104, 111, 100]⟩ : ByteArray).toList = [109, 101, 116, 104, 111, 100] by decide +kernel]
  rw [show (⟨#[97, 114, 103]⟩ : ByteArray).toList = [97, 114, 103] by decide +kernel]
  rw [show (⟨#[115, 101, 99, 111, 110, 100]⟩ : ByteArray).toList = [115, 101, 99, 111, 110, 100] by decide +kernel]
  rw [show (⟨#[100, 111, 110, 101]⟩ : ByteArray).toList = [100, 111, 110, 101] by decide +kernel]
  rw [show (⟨#[114, 101, 115, 117, 108, 116]⟩ : ByteArray).toList = [114, 101, 115, 117, 108, 116] by decide +kernel]
  rw [show (⟨#[105, 110, 118, 111, 107, 101]⟩ : ByteArray).toList = [105, 110, 118, 111, 107, 101] by decide +kernel]
  rw [show (⟨#[114, 101, 116, 117, 114, 110]⟩ : ByteArray).toList = [114, 101, 116, 117, 114, 110] by decide +kernel]
  simp only [e]
set_option maxRecDepth 100000 in
set_option maxHeartbeats 2000000 in
theorem findValue_any (o : OpD) (f : ByteArray) (w : World) :
    Calls Try.prog 48 #[o.val, .string f] w fun e w' => e = .returned (.tuple #[.int .i64 ((valueL o f).getD 0), .bool (valueL o f).isSome]) ∧ Ext w w' := by
  have HV := Lib.hid (valueL_ite o f)
  cases hd : o.done with
  | true =>
    have HD := Lib.hid (show doneI o = 1 by simp [doneI, hd])
    go_enter Try.func48, Try.ntmps48
    go_wp2
    all_goals (go_ret2)
    all_goals (refine ⟨?_, by (repeat' (with_reducible first | exact Below.refl _ _ | refine Ext.drewN ?_ _ | refine Below.drew ?_ | refine Below.setCell ?_ ?_ _ | refine Below.alloc ?_ ?_ _)) <;> (first | omega | (simp; done) | (simp; omega))⟩)
    all_goals go_light
    all_goals (rw [HV.out])
    all_goals (try rw [HD.out])
    all_goals (try simp only [beq_iff_eq, beq_eq_false_iff_ne, ne_eq] at *)
    all_goals (simp [*]; done)
  | false =>
    have HD := Lib.hid (show doneI o = 0 by simp [doneI, hd])
    go_enter Try.func48, Try.ntmps48
    go_wp2
    all_goals (go_ret2)
    all_goals (refine ⟨?_, by (repeat' (with_reducible first | exact Below.refl _ _ | refine Ext.drewN ?_ _ | refine Below.drew ?_ | refine Below.setCell ?_ ?_ _ | refine Below.alloc ?_ ?_ _)) <;> (first | omega | (simp; done) | (simp; omega))⟩)
    all_goals go_light
    all_goals (rw [HV.out])
    all_goals (try rw [HD.out])
    all_goals (try simp only [beq_iff_eq, beq_eq_false_iff_ne, ne_eq] at *)
    all_goals (simp [*]; done)

def soL (a : Int) (s : List UInt8) (b : Int) : Bool :=
  if s = [61] then a == b else if s = [33, 61] then a != b else if s = [60] then decide (a < b) else if s = [60, 61] then decide (a ≤ b) else
  if s = [62] then decide (b < a) else if s = [62, 61] then decide (b ≤ a) else false
set_option maxRecDepth 100000 in
theorem findCompare_any (a b : Int) (s : ByteArray) (w : World) :
    Calls Try.prog 60 #[.int .i64 a, .string s, .int .i64 b] w fun e w' => e = .returned (.bool (soL a s.toList b)) ∧ Ext w w' := by
  go_enter Try.func60, Try.ntmps60
  go_wp2
  all_goals (go_ret)
  all_goals (refine ⟨?_, by (repeat' (with_reducible first | exact Below.refl _ _ | refine Ext.drewN ?_ _ | refine Below.drew ?_ | refine Below.setCell ?_ ?_ _ | refine Below.alloc ?_ ?_ _)) <;> (first | omega | (simp; done) | (simp; omega))⟩)
  all_goals go_light
  all_goals (simp_all [soL])
set_option maxRecDepth 100000 in
theorem refSo_any (a b : Int) (s : ByteArray) (w : World) :
    Calls Try.prog 42 #[.int .i64 a, .string s, .int .i64 b] w fun e w' => e = .returned (.bool (soL a s.toList b)) ∧ Ext w w' := by
  go_enter Try.func42, Try.ntmps42
  go_wp2
  all_goals (go_ret)
  all_goals (refine ⟨?_, by (repeat' (with_reducible first | exact Below.refl _ _ | refine Ext.drewN ?_ _ | refine Below.drew ?_ | refine Below.setCell ?_ ?_ _ | refine Below.alloc ?_ ?_ _)) <;> (first | omega | (simp; done) | (simp; omega))⟩)
  all_goals go_light
  all_goals (simp_all [soL])
  all_goals (first | (cases h : (a == b) <;> simp_all; done) | (rw [← Bool.not_eq_not]; simp; omega) | (by_cases h : a < b <;> simp [h] <;> omega) | (by_cases h : b < a <;> simp [h] <;> omega))

def beforeL (a b : OpD) : Bool := a.done && decide (a.ret < b.invoke)
theorem opBefore_any (a b : OpD) (w : World) :
    Calls Try.prog 62 #[a.val, b.val] w fun e w' => e = .returned (.bool (beforeL a b)) ∧ Ext w w' := by
  cases hd : a.done with
  | true =>
    go_enter Try.func62, Try.ntmps62
    go_wp2
    go_ret
    exact ⟨by simp [beforeL, hd], by (repeat' (with_reducible first | exact Below.refl _ _ | refine Ext.drewN ?_ _ | refine Below.drew ?_ | refine Below.setCell ?_ ?_ _ | refine Below.alloc ?_ ?_ _)) <;> (first | omega | (simp; done) | (simp; omega))⟩
  | false =>
    go_enter Try.func62, Try.ntmps62
    go_wp2
    go_ret
    exact ⟨by simp [beforeL, hd], by (repeat' (with_reducible first | exact Below.refl _ _ | refine Ext.drewN ?_ _ | refine Below.drew ?_ | refine Below.setCell ?_ ?_ _ | refine Below.alloc ?_ ?_ _)) <;> (first | omega | (simp; done) | (simp; omega))⟩
theorem refBefore_any (a b : OpD) (w : World) :
    Calls Try.prog 43 #[a.val, b.val] w fun e w' => e = .returned (.bool (beforeL a b)) ∧ Ext w w' := by
  cases hd : a.done with
  | true =>
    go_enter Try.func43, Try.ntmps43
    go_wp2
    go_ret
    exact ⟨by simp [beforeL, hd], by (repeat' (with_reducible first | exact Below.refl _ _ | refine Ext.drewN ?_ _ | refine Below.drew ?_ | refine Below.setCell ?_ ?_ _ | refine Below.alloc ?_ ?_ _)) <;> (first | omega | (simp; done) | (simp; omega))⟩
  | false =>
    go_enter Try.func43, Try.ntmps43
    go_wp2
    go_ret
    exact ⟨by simp [beforeL, hd], by (repeat' (with_reducible first | exact Below.refl _ _ | refine Ext.drewN ?_ _ | refine Below.drew ?_ | refine Below.setCell ?_ ?_ _ | refine Below.alloc ?_ ?_ _)) <;> (first | omega | (simp; done) | (simp; omega))⟩
/-- eleven cells in a block -/
def At11 (w : World) (b : Nat) (o : OpD) : Prop := (w.cell? ⟨b, 0, none⟩ = some (.int .i64 o.id) ∧ w.cell? ⟨b, 1, none⟩ = some (.int .i64 o.proc) ∧ w.cell? ⟨b, 2, none⟩ = some (.int .i64 o.object) ∧ w.cell? ⟨b, 3, none⟩ = some (.int .i64 o.kind) ∧ w.cell? ⟨b, 4, none⟩ = some (.int .i64 o.method) ∧ w.cell? ⟨b, 5, none⟩ = some (.int .i64 o.arg) ∧ w.cell? ⟨b, 6, none⟩ = some (.int .i64 o.second) ∧ w.cell? ⟨b, 7, none⟩ = some (.bool o.done) ∧ w.cell? ⟨b, 8, none⟩ = some (.int .i64 o.result) ∧ w.cell? ⟨b, 9, none⟩ = some (.int .i64 o.invoke) ∧ w.cell? ⟨b, 10, none⟩ = some (.int .i64 o.ret))
theorem At11.ext {w w' : World} {b : Nat} {o : OpD} (h : At11 w b o) (hb : Ext w w') (hlt : b < w.heap.size) : At11 w' b o := by
  obtain ⟨h0, h1, h2, h3, h4, h5, h6, h7, h8, h9, h10⟩ := h
  have c := fun i => hb.cell (p := ⟨b, i, none⟩) hlt
  exact ⟨(c 0).trans h0, (c 1).trans h1, (c 2).trans h2, (c 3).trans h3, (c 4).trans h4, (c 5).trans h5, (c 6).trans h6, (c 7).trans h7, (c 8).trans h8, (c 9).trans h9, (c 10).trans h10⟩
theorem At11.row {w : World} {b : Nat} {t : TypeId} {o : OpD} (h : Row1 w b t o.cells) : At11 w b o :=
  ⟨h.cell 0, h.cell 1, h.cell 2, h.cell 3, h.cell 4, h.cell 5, h.cell 6, h.cell 7, h.cell 8, h.cell 9, h.cell 10⟩
theorem opOverlap_any (a b : OpD) (w : World) :
    Calls Try.prog 61 #[a.val, b.val] w fun e w' => e = .returned (.bool (!beforeL a b && !beforeL b a)) ∧ Ext w w' := by
  have HA := Lib.hid (At11.row ((Row1.made w 58 a.cells).alloc (.cells b.cells.toArray 58)))
  have HB := Lib.hid (At11.row (Row1.made' (w := w.alloc (.cells a.cells.toArray 58)) (n := w.heap.size + 1) (by simp) 58 b.cells))
  have HKS : Hid (∀ W : World, Ext ((w.alloc (.cells a.cells.toArray 58)).alloc (.cells b.cells.toArray 58)) W → At11 W w.heap.size a ∧ At11 W (w.heap.size + 1) b) := fun W hb => ⟨HA.out.ext hb (by simp; omega), HB.out.ext hb (by simp)⟩
  have HQ : Hid (Ext w ((w.alloc (.cells a.cells.toArray 58)).alloc (.cells b.cells.toArray 58))) := by unfold Hid; (repeat' (with_reducible first | exact Below.refl _ _ | refine Ext.drewN ?_ _ | refine Below.drew ?_ | refine Below.setCell ?_ ?_ _ | refine Below.alloc ?_ ?_ _)) <;> (first | omega | (simp; done) | (simp; omega))
  simp only [OpD.cells] at HKS HQ
  clear HA HB
  go_enter Try.func61, Try.ntmps61
  go_wp2_with fail
  refine (opBefore_any a b _).mono ?_
  rintro e w1 ⟨rfl, hb1⟩
  have K1 := Lib.hid hb1
  obtain ⟨⟨a0, a1, a2, a3, a4, a5, a6, a7, a8, a9, a10⟩, ⟨b0, b1, b2, b3, b4, b5, b6, b7, b8, b9, b10⟩⟩ := HKS.out _ hb1
  clear hb1
  have hz1 := K1.out.size
  cases hq : beforeL a b with
  | true =>
    go_wp2_with fail
    go_ret
    exact ⟨by simp [hq], HQ.out.trans K1.out⟩
  | false =>
    go_wp2_with fail
    refine (opBefore_any b a _).mono ?_
    rintro e w2 ⟨rfl, hb2⟩
    have K2 := Lib.hid (Ext.trans K1.out hb2)
    clear hb2
    go_wp2_with fail
    go_ret
    exact ⟨by simp [hq], HQ.out.trans K2.out⟩
end Go.Proofs.Ytcilkdohpcmbgaa
