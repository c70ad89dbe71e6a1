/- Operations as data; what an operation has in a field (ref20.Value). No conditions. -/
import Derived.Test.YtcilkdohpcmbgaaBase
namespace Go.Proofs.Ytcilkdohpcmbgaa
set_option linter.unusedSimpArgs false
set_option linter.unusedVariables false
open Go.RowKit

/-- an operation -/
structure OpD where
  id : Int
  proc : Int
  object : Int
  kind : Int
  method : Int
  arg : Int
  second : Int
  done : Bool
  result : Int
  invoke : Int
  ret : Int
deriving DecidableEq
def OpD.cells (o : OpD) : List Value :=
  [.int .i64 o.id, .int .i64 o.proc, .int .i64 o.object, .int .i64 o.kind, .int .i64 o.method, .int .i64 o.arg, .int .i64 o.second, .bool o.done, .int .i64 o.result, .int .i64 o.invoke, .int .i64 o.ret]
abbrev OpD.val (o : OpD) : Value :=
  .agg #[.int .i64 o.id, .int .i64 o.proc, .int .i64 o.object, .int .i64 o.kind, .int .i64 o.method, .int .i64 o.arg, .int .i64 o.second, .bool o.done, .int .i64 o.result, .int .i64 o.invoke, .int .i64 o.ret]
def ROp (o : OpD) (cs : List Value) : Prop := cs = o.cells

def namesB : List ByteArray := [⟨#[105, 100]⟩, ⟨#[112, 114, 111, 99]⟩, ⟨#[111, 98, 106, 101, 99, 116]⟩, ⟨#[107, 105, 110, 100]⟩, ⟨#[109, 101, 116, 104, 111, 100]⟩, ⟨#[97, 114, 103]⟩, ⟨#[115, 101, 99, 111, 110, 100]⟩,
  ⟨#[100, 111, 110, 101]⟩, ⟨#[114, 101, 115, 117, 108, 116]⟩, ⟨#[105, 110, 118, 111, 107, 101]⟩, ⟨#[114, 101, 116, 117, 114, 110]⟩]
def doneI (o : OpD) : Int := if o.done then 1 else 0
def valsL (o : OpD) : List Int := [o.id, o.proc, o.object, o.kind, o.method, o.arg, o.second, doneI o, o.result, o.invoke, o.ret]
def findV (f : ByteArray) : List ByteArray → List Int → Option Int
  | n :: ns, v :: vs => if n.toList = f.toList then some v else findV f ns vs
  | _, _ => none
/-- what an operation has in a field -/
def valueL (o : OpD) (f : ByteArray) : Option Int := findV f namesB (valsL o)

theorem findV_hit (f : ByteArray) : ∀ (ns : List ByteArray) (vs : List Int) (k : Nat) (h : k < ns.length) (h' : k < vs.length), ns[k].toList = f.toList → (∀ j (hj : j < k), (ns[j]'(by omega)).toList ≠ f.toList) → findV f ns vs = some vs[k]
  | [], _, _, h, _, _, _ => absurd h (by simp)
  | _ :: _, [], _, _, h', _, _ => absurd h' (by simp)
  | n :: ns, v :: vs, 0, _, _, h1, _ => by
    have e : n.toList = f.toList := h1
    simp only [findV]
    rw [if_pos e]; rfl
  | n :: ns, v :: vs, k + 1, h, h', h1, h2 => by
    have e : ¬ n.toList = f.toList := h2 0 (by omega)
    simp only [findV]
    rw [if_neg e]
    exact findV_hit f ns vs k (by simpa using h) (by simpa using h') h1 (fun j hj => h2 (j + 1) (by omega))
theorem findV_miss (f : ByteArray) : ∀ (ns : List ByteArray) (vs : List Int), (∀ j (hj : j < ns.length), ns[j].toList ≠ f.toList) → findV f ns vs = none
  | [], vs, _ => by cases vs <;> rfl
  | _ :: _, [], _ => rfl
  | n :: ns, v :: vs, h => by
    have e : ¬ n.toList = f.toList := h 0 (by simp)
    simp only [findV]
    rw [if_neg e]
    exact findV_miss f ns vs (fun j hj => h (j + 1) (by simp; omega))

set_option maxRecDepth 100000 in
set_option maxHeartbeats 800000 in
theorem refValue_any (o : OpD) (f : ByteArray) (w : World) :
    Calls Try.prog 41 #[o.val, .string f] w fun e w' => e = .returned (.tuple #[.int .i64 ((valueL o f).getD 0), .bool (valueL o f).isSome]) ∧ Ext w w' := by
  go_enter Try.func41, Try.ntmps41
  go_upto_if 11 with fail
  go_cut [6] (fun s6 wx => s6 = .int .i64 (doneI o) ∧ wx = w.alloc (.cells #[.int .i64 o.id, .int .i64 o.proc, .int .i64 o.object, .int .i64 o.kind, .int .i64 o.method, .int .i64 o.arg, .int .i64 o.second, .bool o.done, .int .i64 o.result, .int .i64 o.invoke, .int .i64 o.ret] 58))
  case first =>
    cases hd : o.done with
    | true =>
      have HD := Lib.hid hd
      clear hd
      go_wp2_with fail
      go_meet
      exact ⟨by simp [doneI, HD.out], by simp [HD.out]⟩
    | false =>
      have HD := Lib.hid hd
      clear hd
      go_wp2_with fail
      go_meet
      exact ⟨by simp [doneI, HD.out], by simp [HD.out]⟩
  case rest =>
    obtain ⟨rfl, rfl⟩ := hcut
    go_upto_region 4 with fail
    go_cut [7] (fun s7 wx => ∃ g, s7 = .slice (some ⟨g, 0, none⟩) 11 11 ∧ Row1 wx g 9 (namesB.map Value.string) ∧ Row1 wx w.heap.size 58 [.int .i64 o.id, .int .i64 o.proc, .int .i64 o.object, .int .i64 o.kind, .int .i64 o.method, .int .i64 o.arg, .int .i64 o.second, .bool o.done, .int .i64 o.result, .int .i64 o.invoke, .int .i64 o.ret] ∧ Ext w wx)
    case first =>
      go_wp2_with fail
      go_meet
      exact ⟨w.heap.size + 1, rfl, Row1.made' (by simp) _ (namesB.map Value.string), (Row1.made w _ [.int .i64 o.id, .int .i64 o.proc, .int .i64 o.object, .int .i64 o.kind, .int .i64 o.method, .int .i64 o.arg, .int .i64 o.second, .bool o.done, .int .i64 o.result, .int .i64 o.invoke, .int .i64 o.ret]).alloc _, by (repeat' (with_reducible first | exact Below.refl _ _ | refine Ext.drewN ?_ _ | refine Below.drew ?_ | refine Below.setCell ?_ ?_ _ | refine Below.alloc ?_ ?_ _)) <;> (first | omega | (simp; done) | (simp; omega))⟩
    case rest =>
    obtain ⟨g, rfl, hg, hr, hb⟩ := hcut
    have HG := Lib.hid hg
    have HR := Lib.hid hr
    have HB := Lib.hid hb
    have c0 : wc.cell? ⟨w.heap.size, 0, none⟩ = some (.int .i64 o.id) := hr.cell 0
    have c1 : wc.cell? ⟨w.heap.size, 1, none⟩ = some (.int .i64 o.proc) := hr.cell 1
    have c2 : wc.cell? ⟨w.heap.size, 2, none⟩ = some (.int .i64 o.object) := hr.cell 2
    have c3 : wc.cell? ⟨w.heap.size, 3, none⟩ = some (.int .i64 o.kind) := hr.cell 3
    have c4 : wc.cell? ⟨w.heap.size, 4, none⟩ = some (.int .i64 o.method) := hr.cell 4
    have c5 : wc.cell? ⟨w.heap.size, 5, none⟩ = some (.int .i64 o.arg) := hr.cell 5
    have c6 : wc.cell? ⟨w.heap.size, 6, none⟩ = some (.int .i64 o.second) := hr.cell 6
    have c8 : wc.cell? ⟨w.heap.size, 8, none⟩ = some (.int .i64 o.result) := hr.cell 8
    have c9 : wc.cell? ⟨w.heap.size, 9, none⟩ = some (.int .i64 o.invoke) := hr.cell 9
    have c10 : wc.cell? ⟨w.heap.size, 10, none⟩ = some (.int .i64 o.ret) := hr.cell 10
    clear hg hr hb
    go_upto_region 5 with fail
    go_cut [8] (fun s8 wx => ∃ h, s8 = .slice (some ⟨h, 0, none⟩) 11 11 ∧ Row1 wx h 3 ((valsL o).map (Value.int .i64)) ∧ Ext wc wx)
    case first =>
      go_wp2_with fail
      go_meet
      exact ⟨wc.heap.size, rfl, Row1.made wc _ ((valsL o).map (Value.int .i64)), Ext.alloc _ _⟩
    case rest =>
    obtain ⟨h, rfl, hh, hb⟩ := hcut
    clear c0 c1 c2 c3 c4 c5 c6 c8 c9 c10
    have HG := Lib.hid (HG.out.ext hb HG.out.lt)
    have HH := Lib.hid hh
    have HB := Lib.hid (Ext.trans HB.out hb)
    clear hb hh
    go_wp2_with fail
    go_loop [9] (fun i => ∃ k : Nat, k ≤ 11 ∧ i = .int .i64 k ∧ ∀ j (hj : j < namesB.length), j < k → namesB[j].toList ≠ f.toList) (fun i => 11 - (intOf i).toNat)
    case atStart => exact ⟨0, by omega, rfl, fun j _ h => absurd h (by omega)⟩
    case round =>
      obtain ⟨k, hk, rfl, hf⟩ := hrel
      have HF := Lib.hid hf
      clear hf
      by_cases hlt : k < 11
      · have hkn : k < namesB.length := hlt
        have hkv : k < (valsL o).length := hlt
        have n0 : wc.cell? ⟨g, k, none⟩ = some (.string namesB[k]) := by rw [HG.out.cell, List.getElem?_map, List.getElem?_eq_getElem hkn]; rfl
        have v0 : wc.cell? ⟨h, k, none⟩ = some (.int .i64 (valsL o)[k]) := by rw [HH.out.cell, List.getElem?_map, List.getElem?_eq_getElem hkv]; rfl
        by_cases heq : namesB[k].toList = f.toList
        · have HQ := Lib.hid (findV_hit f namesB (valsL o) k hkn hkv heq (fun j hj => HF.out j (by omega) hj))
          have hq : (namesB[k].toList == f.toList) = true := by simpa using heq
          clear heq
          generalize namesB[k] = nk at *
          generalize (valsL o)[k] = vk at *
          go_wp2_with fail
          go_ret2
          refine ⟨?_, HB.out⟩
          rw [valueL, HQ.out]; rfl
        · have hq : (namesB[k].toList == f.toList) = false := by simpa using heq
          have HF2 : Hid (∀ j (hj : j < namesB.length), j < k + 1 → namesB[j].toList ≠ f.toList) := by
            intro j hj hjk
            by_cases e : j = k
            · subst e; exact heq
            · exact HF.out j hj (by omega)
          clear heq
          generalize namesB[k] = nk at n0 hq
          go_wp2_with fail
          go_round
          case rel => exact ⟨k + 1, by omega, by go_num, HF2.out⟩
          case measure => simp [intOf]; omega
      · go_wp2_with fail
        go_ret2
        refine ⟨?_, HB.out⟩
        rw [valueL, findV_miss f namesB (valsL o) (fun j hj => HF.out j hj (by have : namesB.length = 11 := rfl; omega))]; rfl
end Go.Proofs.Ytcilkdohpcmbgaa
