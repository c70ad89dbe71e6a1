/- ref12.Get, ref12.With. Conditions: fewer than 10^9 operations. -/
import Derived.Test.YtcilkdohpcmbgaaHold1
import Derived.Test.YtcilkdohpcmbgaaOwnL
namespace Go.Proofs.Ytcilkdohpcmbgaa
set_option linter.unusedSimpArgs false
set_option linter.unusedVariables false
open Go.RowKit

theorem Try.infoOp : (Try.prog.info? 58).map (fun i => (i.zero, i.size, i.bytes)) = some (some (.agg #[.int .i64 0, .int .i64 0, .int .i64 0, .int .i64 0, .int .i64 0, .int .i64 0, .int .i64 0, .bool false, .int .i64 0, .int .i64 0, .int .i64 0]), 11, 88) := by kernel_rfl
theorem elOp : Elem Try.prog 33 58 11 88 := Elem.of Try.underlying33 Try.infoOp rfl (by decide)
theorem op_len (o : OpD) : o.cells.length = 11 := rfl
theorem op_one (o : OpD) : ∀ u ∈ o.cells, u.oneCell' = true := by
  intro u hu
  simp only [OpD.cells, List.mem_cons, List.not_mem_nil, or_false] at hu
  rcases hu with rfl | rfl | rfl | rfl | rfl | rfl | rfl | rfl | rfl | rfl | rfl <;> rfl

def getL (l : List OpD) (id : Int) : Option OpD := l.find? (fun o => o.id == id)
def opZero : OpD := ⟨0, 0, 0, 0, 0, 0, 0, false, 0, 0, 0⟩
theorem getL_hit (l : List OpD) (id : Int) (k : Nat) (h : k < l.length) (h1 : l[k].id = id) (h2 : ∀ j (hj : j < k), (l[j]'(by omega)).id ≠ id) : getL l id = some l[k] := by
  unfold getL
  rw [List.find?_eq_some_iff_getElem]
  refine ⟨by simpa using h1, k, h, rfl, fun j hj => by simpa using h2 j hj⟩
theorem getL_miss (l : List OpD) (id : Int) (h : ∀ j (hj : j < l.length), l[j].id ≠ id) : getL l id = none := by
  unfold getL
  rw [List.find?_eq_none]
  intro x hx
  obtain ⟨j, hj, rfl⟩ := List.mem_iff_getElem.1 hx
  simpa using h j hj

set_option maxRecDepth 100000 in
set_option maxHeartbeats 800000 in
theorem refGet_any (V : Value) (l : List OpD) (id : Int) (w : World) (hs : Sl w 11 ROp V l) :
    Calls Try.prog 19 #[V, .int .i64 id] w fun e w' => e = .returned (.tuple #[((getL l id).getD opZero).val, .bool (getL l id).isSome]) ∧ Ext w w' := by
  obtain ⟨A, c, rfl⟩ := hs.form
  obtain ⟨_, hc1, hc2, hA⟩ := hs.at
  clear hs
  go_enter Try.func19, Try.ntmps19
  go_wp2_with fail
  go_loop [6] (fun i => ∃ k : Nat, k ≤ l.length ∧ i = .int .i64 k ∧ ∀ j (hj : j < l.length), j < k → l[j].id ≠ id) (fun i => l.length - (intOf i).toNat)
  case atStart => exact ⟨0, by omega, rfl, fun j _ h => absurd h (by omega)⟩
  case round =>
    obtain ⟨k, hk, rfl, hf⟩ := hrel
    have HF := Lib.hid hf
    clear hf
    by_cases hlt : k < l.length
    · have hdk : decide ((k : Int) < (l.length : Int)) = true := by simp; omega
      obtain ⟨b, off, rfl, hbl, hx⟩ := hA (by omega)
      obtain ⟨cs, rfl, _, hcs⟩ := hx k hlt
      have h0 := hcs 0 _ rfl
      have h1 := hcs 1 _ rfl
      have h2 := hcs 2 _ rfl
      have h3 := hcs 3 _ rfl
      have h4 := hcs 4 _ rfl
      have h5 := hcs 5 _ rfl
      have h6 := hcs 6 _ rfl
      have h7 := hcs 7 _ rfl
      have h8 := hcs 8 _ rfl
      have h9 := hcs 9 _ rfl
      have h10 := hcs 10 _ rfl
      simp only [Nat.add_zero] at h0
      clear hx hcs hA
      by_cases heq : l[k].id = id
      · have HQ := Lib.hid (getL_hit l id k hlt heq (fun j hj => HF.out j (by omega) hj))
        have hq : (l[k].id == id) = true := by simpa using heq
        clear heq
        generalize l[k] = o at *
        go_wp2_with fail
        refine bodyPost_ret (v := .tuple #[o.val, .bool true]) (by simp [results, Try.results19, go_sem]) rfl ⟨?_, by (repeat' (with_reducible first | exact Below.refl _ _ | refine Ext.drewN ?_ _ | refine Below.drew ?_ | refine Below.setCell ?_ ?_ _ | refine Below.alloc ?_ ?_ _)) <;> (first | omega | (simp; done) | (simp; omega))⟩
        rw [HQ.out]; rfl
      · have hq : (l[k].id == id) = false := by simpa using heq
        have HF2 : Hid (∀ j (hj : j < l.length), j < k + 1 → l[j].id ≠ id) := by
          intro j hj hjk
          by_cases e : j = k
          · subst e; exact heq
          · exact HF.out j hj (by omega)
        clear heq
        generalize l[k] = o at *
        go_wp2_with fail
        go_round
        case rel => exact ⟨k + 1, by omega, by go_num, HF2.out⟩
        case measure => simp [intOf]; omega
    · have hdk : decide ((k : Int) < (l.length : Int)) = false := by simp; omega
      have HQ := Lib.hid (getL_miss l id (fun j hj => HF.out j hj (by omega)))
      go_wp2_with fail
      refine bodyPost_ret (v := .tuple #[opZero.val, .bool false]) (by simp [results, Try.results19, go_sem, opZero]) rfl ⟨?_, by (repeat' (with_reducible first | exact Below.refl _ _ | refine Ext.drewN ?_ _ | refine Below.drew ?_ | refine Below.setCell ?_ ?_ _ | refine Below.alloc ?_ ?_ _)) <;> (first | omega | (simp; done) | (simp; omega))⟩
      rw [HQ.out]; rfl
end Go.Proofs.Ytcilkdohpcmbgaa
