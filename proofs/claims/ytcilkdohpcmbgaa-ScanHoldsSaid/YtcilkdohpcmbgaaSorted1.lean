/- find.Sorted's comparison of operations. Conditions: that the query's box can be read. -/
import Derived.Test.YtcilkdohpcmbgaaRun
import Derived.Test.YtcilkdohpcmbgaaScan1
import Derived.Test.YtcilkdohpcmbgaaSort0
namespace Go.Proofs.Ytcilkdohpcmbgaa
set_option linter.unusedSimpArgs false
set_option linter.unusedVariables false
open Go.RowKit Go.Sort Go.Shelf Go.Proofs

/-- draws and new blocks alone -/
def Grew (w w' : World) : Prop := ∃ q os', w' = grow (w.drewN q) os'
theorem Grew.refl (w : World) : Grew w w := ⟨0, #[], by simp [World.drewN]⟩
theorem Grew.alloc {a w : World} (h : Grew a w) (o : Obj) : Grew a (w.alloc o) := by
  obtain ⟨q, os, rfl⟩ := h
  exact ⟨q, os ++ #[o], by rw [alloc_eq_grow, grow_grow]⟩
theorem Grew.drew {a w : World} (h : Grew a w) : Grew a w.drew := by
  obtain ⟨q, os, rfl⟩ := h
  exact ⟨q + 1, os, rfl⟩
theorem Grew.drewN {a w : World} (h : Grew a w) (n : Nat) : Grew a (w.drewN n) := by
  obtain ⟨q, os, rfl⟩ := h
  exact ⟨q + n, os, by simp [grow, World.drewN, Nat.add_assoc]⟩

set_option maxRecDepth 100000 in
set_option maxHeartbeats 2000000 in
theorem findValueG_any (o : OpD) (f : ByteArray) (w : World) :
    Calls Try.prog 48 #[o.val, .string f] w fun e w' => e = .returned (.tuple #[.int .i64 ((valueL o f).getD 0), .bool (valueL o f).isSome]) ∧ w' = w.alloc (.cells #[.int .i64 o.id, .int .i64 o.proc, .int .i64 o.object, .int .i64 o.kind, .int .i64 o.method, .int .i64 o.arg, .int .i64 o.second, .bool o.done, .int .i64 o.result, .int .i64 o.invoke, .int .i64 o.ret] 58) := by
  have HV := Lib.hid (valueL_ite o f)
  cases hd : o.done with
  | true =>
    have HD := Lib.hid (show doneI o = 1 by simp [doneI, hd])
    have HDD := Lib.hid hd
    go_enter Try.func48, Try.ntmps48
    go_wp2
    all_goals (go_ret2)
    all_goals (refine ⟨?_, rfl⟩)
    all_goals go_light
    all_goals (rw [HV.out])
    all_goals (try rw [HD.out])
    all_goals (try simp only [beq_iff_eq, beq_eq_false_iff_ne, ne_eq] at *)
    all_goals (simp [*]; done)
  | false =>
    have HD := Lib.hid (show doneI o = 0 by simp [doneI, hd])
    have HDD := Lib.hid hd
    go_enter Try.func48, Try.ntmps48
    go_wp2
    all_goals (go_ret2)
    all_goals (refine ⟨?_, rfl⟩)
    all_goals go_light
    all_goals (rw [HV.out])
    all_goals (try rw [HD.out])
    all_goals (try simp only [beq_iff_eq, beq_eq_false_iff_ne, ne_eq] at *)
    all_goals (simp [*]; done)

def orI (x y : Int) : Int := if x = 0 then y else x
theorem cmpOr_any (g : Nat) (c : Nat) (x y : Int) (w : World) (h0 : w.cell? ⟨g, 0, none⟩ = some (.int .i64 x)) (h1 : w.cell? ⟨g, 1, none⟩ = some (.int .i64 y)) :
    Calls Try.prog 49 #[.slice (some ⟨g, 0, none⟩) 2 c] w fun e w' => e = .returned (.int .i64 (orI x y)) ∧ w' = w := by
  unfold orI
  by_cases hx : x = 0
  · subst hx
    by_cases hy : y = 0
    · subst hy
      go_enter Try.func49, Try.ntmps49
      go_wp2
      go_loop [8] (fun i => i = .int .i64 0 ∨ i = .int .i64 1 ∨ i = .int .i64 2) (fun i => 2 - (intOf i).toNat)
      case atStart => exact .inl rfl
      case round =>
        rcases hrel with rfl | rfl | rfl
        · go_wp2
          go_round
          case rel => exact .inr (.inl rfl)
          case measure => simp [intOf]
        · go_wp2
          go_round
          case rel => exact .inr (.inr rfl)
          case measure => simp [intOf]
        · go_wp2
          go_ret
          exact ⟨rfl, rfl⟩
    · have q : (y == 0) = false := by simpa using hy
      have q' : (y != 0) = true := by simpa using hy
      go_enter Try.func49, Try.ntmps49
      go_wp2
      go_loop [8] (fun i => i = .int .i64 0 ∨ i = .int .i64 1) (fun i => 2 - (intOf i).toNat)
      case atStart => exact .inl rfl
      case round =>
        rcases hrel with rfl | rfl
        · go_wp2
          go_round
          case rel => exact .inr rfl
          case measure => simp [intOf]
        · go_wp2
          go_ret
          exact ⟨rfl, rfl⟩
  · have q : (x == 0) = false := by simpa using hx
    have q' : (x != 0) = true := by simpa using hx
    rw [if_neg hx]
    clear hx
    go_enter Try.func49, Try.ntmps49
    go_wp2
    go_loop [8] (fun i => i = .int .i64 0) (fun i => 2 - (intOf i).toNat)
    case atStart => rfl
    case round =>
      obtain rfl := hrel
      go_wp2
      go_ret
      exact ⟨rfl, rfl⟩

/-- the comparison -/
def cmpO (ord : ByteArray) (down : Bool) (a b : OpD) : Int :=
  if (if down then cmpI (fieldI ord b) (fieldI ord a) else cmpI (fieldI ord a) (fieldI ord b)) = 0 then cmpI a.id b.id else (if down then cmpI (fieldI ord b) (fieldI ord a) else cmpI (fieldI ord a) (fieldI ord b))
theorem ltO (ord : ByteArray) (down : Bool) (x y : OpD) : ltOf (cmpO ord down) x y = aheadB ord down x y := by
  unfold ltOf cmpO aheadB cmpI
  generalize fieldI ord x = a
  generalize fieldI ord y = b
  cases down
  · by_cases h1 : a < b
    · have h2 : ¬ a = b := by omega
      simp [h1, h2]
    · by_cases h2 : b < a
      · have h3 : ¬ a = b := by omega
        simp [h1, h2, h3]
      · have h3 : a = b := by omega
        subst h3
        by_cases h4 : x.id < y.id
        · simp [h4]
        · by_cases h5 : y.id < x.id <;> simp [h4, h5]
  · by_cases h1 : b < a
    · have h2 : ¬ a = b := by omega
      have h3 : ¬ a < b := by omega
      simp [h1, h2, h3]
    · by_cases h2 : a < b
      · have h3 : ¬ a = b := by omega
        simp [h1, h2, h3]
      · have h3 : a = b := by omega
        subst h3
        by_cases h4 : x.id < y.id
        · simp [h4]
        · by_cases h5 : y.id < x.id <;> simp [h4, h5]
theorem swoO (ord : ByteArray) (down : Bool) : SWO (ltOf (cmpO ord down)) where
  irrefl x := by rw [ltO]; unfold aheadB; simp
  trans x y z h1 h2 := by
    rw [ltO] at *
    unfold aheadB at *
    generalize fieldI ord x = a at *
    generalize fieldI ord y = b at *
    generalize fieldI ord z = c at *
    cases down <;> simp at * <;> (repeat' split at *) <;> (try simp at *) <;> omega
  ntrans x y z h1 h2 := by
    rw [ltO] at *
    unfold aheadB at *
    generalize fieldI ord x = a at *
    generalize fieldI ord y = b at *
    generalize fieldI ord z = c at *
    cases down <;> simp at * <;> (repeat' split at *) <;> (try simp at *) <;> omega
end Go.Proofs.Ytcilkdohpcmbgaa
