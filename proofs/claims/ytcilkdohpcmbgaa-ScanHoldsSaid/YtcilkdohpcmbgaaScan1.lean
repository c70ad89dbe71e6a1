/- The leaves of scan: comparisons of numbers, bounds, the numbers that a comparison lets. No conditions. -/
import Derived.Test.YtcilkdohpcmbgaaBase
namespace Go.Proofs.Ytcilkdohpcmbgaa
set_option linter.unusedSimpArgs false
set_option linter.unusedVariables false
open Go.RowKit

theorem isNaN_any (x : Int) (w : World) : Calls Try.prog 65 #[.int .i64 x] w fun e w' => e = .returned (.bool false) ∧ w = w' := by
  go_enter Try.func65, Try.ntmps65
  go_wp2
  go_ret
  exact ⟨by simp, rfl⟩

def cmpI (x y : Int) : Int := if x < y then -1 else if y < x then 1 else 0

theorem cmpCompare_any (x y : Int) (w : World) : Calls Try.prog 50 #[.int .i64 x, .int .i64 y] w fun e w' => e = .returned (.int .i64 (cmpI x y)) ∧ w = w' := by
  go_enter Try.func50, Try.ntmps50
  go_wp2_with (go_at_call 65; refine (isNaN_any _ _).mono ?_; rintro e w' ⟨rfl, rfl⟩)
  all_goals (go_ret; refine ⟨?_, rfl⟩; simp [cmpI]; try omega)

/-- a bound: its field, from, to -/
structure Bnd where
  field : ByteArray
  lo : Int
  hi : Int
deriving DecidableEq
def Bnd.cells (b : Bnd) : List Value := [.string b.field, .int .i64 b.lo, .int .i64 b.hi]
def RBnd (b : Bnd) (cs : List Value) : Prop := cs = b.cells

theorem boundOne_any (f : ByteArray) (a b : Int) (w : World) :
    Calls Try.prog 35 #[.agg #[.string f, .int .i64 a, .int .i64 b]] w fun e w' => e = .returned (.bool (a == b)) ∧ Ext w w' := by
  go_enter Try.func35, Try.ntmps35
  go_wp2
  go_ret
  exact ⟨rfl, by (repeat' (with_reducible first | exact Below.refl _ _ | refine Ext.drewN ?_ _ | refine Below.drew ?_ | refine Below.setCell ?_ ?_ _ | refine Below.alloc ?_ ?_ _)) <;> (first | omega | (simp; done) | (simp; omega))⟩

theorem compare_any (f s : ByteArray) (n : Int) (w : World) :
    Calls Try.prog 25 #[.string f, .string s, .int .i64 n] w fun e w' => e = .returned (.agg #[.int .i64 4, .slice none 0 0, .string f, .string s, .int .i64 n]) ∧ Ext w w' := by
  go_enter Try.func25, Try.ntmps25
  go_wp2
  refine bodyPost_ret (v := .agg #[.int .i64 4, .slice none 0 0, .string f, .string s, .int .i64 n]) (by simp [results, Try.results25, go_sem]) rfl ⟨rfl, by (repeat' (with_reducible first | exact Below.refl _ _ | refine Ext.drewN ?_ _ | refine Below.drew ?_ | refine Below.setCell ?_ ?_ _ | refine Below.alloc ?_ ?_ _)) <;> (first | omega | (simp; done) | (simp; omega))⟩

def narrowL (l : List UInt8) (v : Int) : Option (Int × Int) :=
  if l = [61] then some (v, v) else
  if l = [60] then (if v = -9223372036854775808 then some (9223372036854775807, -9223372036854775808) else some (-9223372036854775808, v - 1)) else
  if l = [60, 61] then some (-9223372036854775808, v) else
  if l = [62] then (if v = 9223372036854775807 then some (9223372036854775807, -9223372036854775808) else some (v + 1, 9223372036854775807)) else
  if l = [62, 61] then some (v, 9223372036854775807) else none

def NarrowR (l : List UInt8) (v : Int) (e : Ending) : Prop :=
  ∃ a b ok, e = .returned (.tuple #[.int .i64 a, .int .i64 b, .bool ok]) ∧ narrowL l v = (if ok then some (a, b) else none)

theorem narrow_any (k v : Int) (kids : Value) (f s : ByteArray) (w : World) (hv1 : -9223372036854775808 ≤ v) (hv2 : v ≤ 9223372036854775807) :
    Calls Try.prog 27 #[.agg #[.int .i64 k, kids, .string f, .string s, .int .i64 v]] w fun e w' => NarrowR s.toList v e ∧ Ext w w' := by
  go_enter Try.func27, Try.ntmps27
  go_wp2
  all_goals (try go_quiet (fail))
  all_goals (try go_wp2)
  all_goals (try go_quiet (fail))
  all_goals (try go_wp2)
  all_goals (try go_quiet (fail))
  all_goals (go_ret3)
  all_goals (refine ⟨⟨_, _, _, rfl, ?_⟩, by (repeat' (with_reducible first | exact Below.refl _ _ | refine Ext.drewN ?_ _ | refine Below.drew ?_ | refine Below.setCell ?_ ?_ _ | refine Below.alloc ?_ ?_ _)) <;> (first | omega | (simp; done) | (simp; omega))⟩)
  all_goals go_light
  all_goals (simp_all [narrowL]; try (unfold wrap64; omega))

theorem says_any (v : Int) (s : ByteArray) (w : World) (hv1 : -9223372036854775808 ≤ v) (hv2 : v ≤ 9223372036854775807) :
    Calls Try.prog 28 #[.string s, .int .i64 v] w fun e w' => NarrowR s.toList v e ∧ Ext w w' := by
  go_enter Try.func28, Try.ntmps28
  go_wp2
  all_goals (go_ret3)
  all_goals (refine ⟨⟨_, _, _, rfl, ?_⟩, by (repeat' (with_reducible first | exact Below.refl _ _ | refine Ext.drewN ?_ _ | refine Below.drew ?_ | refine Below.setCell ?_ ?_ _ | refine Below.alloc ?_ ?_ _)) <;> (first | omega | (simp; done) | (simp; omega))⟩)
  all_goals go_light
  all_goals (simp_all [narrowL]; try omega)
  go_goals
end Go.Proofs.Ytcilkdohpcmbgaa
