/- ref20.ahead, ref20.Run: the answer to a query, of a list of operations. Conditions: that all can be read, fewer than 10^8 operations. -/
import Derived.Test.YtcilkdohpcmbgaaTrue3
import Derived.Test.YtcilkdohpcmbgaaWith
import Derived.Test.YtcilkdohpcmbgaaGrp2
namespace Go.Proofs.Ytcilkdohpcmbgaa
set_option linter.unusedSimpArgs false
set_option linter.unusedVariables false
open Go.RowKit

/-- does an operation stand ahead of another one? -/
def aheadB (ord : ByteArray) (down : Bool) (a b : OpD) : Bool := if fieldI ord a = fieldI ord b then decide (a.id < b.id) else decide (fieldI ord a < fieldI ord b) != down

theorem refAhead_any (n : NCell) (nA : Option Addr) (nm nc : Nat) (hn : n.kids = .slice nA nm nc) (ord : ByteArray) (down : Bool) (limit : Int) (count : Bool) (a b : OpD) (w : World) :
    Calls Try.prog 44 #[.agg #[.int .i64 n.kind, n.kids, .string n.field, .string n.sign, .int .i64 n.value, .string ord, .bool down, .int .i64 limit, .bool count], a.val, b.val] w fun e w' => e = .returned (.bool (aheadB ord down a b)) ∧ Ext w w' := by
  obtain ⟨nk, nkids, nf, ns, nv⟩ := n
  dsimp only at *
  subst hn
  obtain ⟨x, hx⟩ : ∃ x, fieldI ord a = x := ⟨_, rfl⟩
  obtain ⟨y, hy⟩ : ∃ y, fieldI ord b = y := ⟨_, rfl⟩
  have HG : Hid (aheadB ord down a b = if x = y then decide (a.id < b.id) else decide (x < y) != down) := by unfold Hid aheadB; rw [hx, hy]
  have HX : Hid ((valueL a ord).getD 0 = x) := hx
  have HY : Hid ((valueL b ord).getD 0 = y) := hy
  clear hx hy
  have HQ : Hid (Ext w (((w.alloc (.cells #[.int .i64 nk, .slice nA nm nc, .string nf, .string ns, .int .i64 nv, .string ord, .bool down, .int .i64 limit, .bool count] 55)).alloc (.cells #[.int .i64 a.id, .int .i64 a.proc, .int .i64 a.object, .int .i64 a.kind, .int .i64 a.method, .int .i64 a.arg, .int .i64 a.second, .bool a.done, .int .i64 a.result, .int .i64 a.invoke, .int .i64 a.ret] 58)).alloc (.cells #[.int .i64 b.id, .int .i64 b.proc, .int .i64 b.object, .int .i64 b.kind, .int .i64 b.method, .int .i64 b.arg, .int .i64 b.second, .bool b.done, .int .i64 b.result, .int .i64 b.invoke, .int .i64 b.ret] 58))) := by unfold Hid; (repeat' (with_reducible first | exact Below.refl _ _ | refine Ext.drewN ?_ _ | refine Below.drew ?_ | refine Below.setCell ?_ ?_ _ | refine Below.alloc ?_ ?_ _)) <;> (first | omega | (simp; done) | (simp; omega))
  have HKS : Hid (∀ W : World, Ext (((w.alloc (.cells #[.int .i64 nk, .slice nA nm nc, .string nf, .string ns, .int .i64 nv, .string ord, .bool down, .int .i64 limit, .bool count] 55)).alloc (.cells #[.int .i64 a.id, .int .i64 a.proc, .int .i64 a.object, .int .i64 a.kind, .int .i64 a.method, .int .i64 a.arg, .int .i64 a.second, .bool a.done, .int .i64 a.result, .int .i64 a.invoke, .int .i64 a.ret] 58)).alloc (.cells #[.int .i64 b.id, .int .i64 b.proc, .int .i64 b.object, .int .i64 b.kind, .int .i64 b.method, .int .i64 b.arg, .int .i64 b.second, .bool b.done, .int .i64 b.result, .int .i64 b.invoke, .int .i64 b.ret] 58)) W →
      W.cell? ⟨w.heap.size, 5, none⟩ = some (.string ord) ∧ W.cell? ⟨w.heap.size, 6, none⟩ = some (.bool down) ∧ At11 W (w.heap.size + 1) a ∧ At11 W (w.heap.size + 1 + 1) b) := by
    intro W hb
    have h1 := (At11.row (Row1.made' (w := w.alloc (.cells #[.int .i64 nk, .slice nA nm nc, .string nf, .string ns, .int .i64 nv, .string ord, .bool down, .int .i64 limit, .bool count] 55)) (n := w.heap.size + 1) (by simp) 58 a.cells)).ext (Ext.alloc _ (.cells b.cells.toArray 58)) (by simp)
    have h2 := At11.row (Row1.made' (w := (w.alloc (.cells #[.int .i64 nk, .slice nA nm nc, .string nf, .string ns, .int .i64 nv, .string ord, .bool down, .int .i64 limit, .bool count] 55)).alloc (.cells #[.int .i64 a.id, .int .i64 a.proc, .int .i64 a.object, .int .i64 a.kind, .int .i64 a.method, .int .i64 a.arg, .int .i64 a.second, .bool a.done, .int .i64 a.result, .int .i64 a.invoke, .int .i64 a.ret] 58)) (n := w.heap.size + 1 + 1) (by simp) 58 b.cells)
    exact ⟨by rw [hb.cell (by first | (simp; done) | (simp; omega) | omega)]; go_simp, by rw [hb.cell (by first | (simp; done) | (simp; omega) | omega)]; go_simp, h1.ext hb (by first | (simp; done) | (simp; omega) | omega), h2.ext hb (by first | (simp; done) | (simp; omega) | omega)⟩
  go_enter Try.func44, Try.ntmps44
  go_wp2_with fail
  refine (refValue_any a ord _).mono ?_
  rintro e w1 ⟨rfl, hb1⟩
  rw [HX.out]
  generalize (valueL a ord).isSome = okx
  obtain ⟨c5, c6, ⟨a0, a1, a2, a3, a4, a5, a6, a7, a8, a9, a10⟩, b0, b1, b2, b3, b4, b5, b6, b7, b8, b9, b10⟩ := HKS.out _ hb1
  have K1 := Lib.hid hb1
  clear hb1
  go_wp2_with fail
  refine (refValue_any b ord _).mono ?_
  rintro e w2 ⟨rfl, hb2⟩
  rw [HY.out]
  generalize (valueL b ord).isSome = oky
  have K2 := Lib.hid (Ext.trans K1.out hb2)
  clear hb2 c5 c6 a0 a1 a2 a3 a4 a5 a6 a7 a8 a9 a10 b0 b1 b2 b3 b4 b5 b6 b7 b8 b9 b10
  obtain ⟨c5, c6, ⟨a0, a1, a2, a3, a4, a5, a6, a7, a8, a9, a10⟩, b0, b1, b2, b3, b4, b5, b6, b7, b8, b9, b10⟩ := HKS.out _ K2.out
  by_cases hxy : x = y
  · have q1 : (x != y) = false := by simpa using hxy
    rw [if_pos hxy] at HG
    clear hxy
    go_wp2_with fail
    go_ret
    exact ⟨by rw [HG.out]; rfl, Ext.trans HQ.out K2.out⟩
  · have q1 : (x != y) = true := by simpa using hxy
    rw [if_neg hxy] at HG
    clear hxy
    go_wp2_with fail
    go_ret
    exact ⟨by rw [HG.out]; rfl, Ext.trans HQ.out K2.out⟩

/-- an operation in its place -/
def insO (ord : ByteArray) (down : Bool) (o : OpD) : List OpD → List OpD
  | [] => [o]
  | x :: r => if aheadB ord down x o then x :: insO ord down o r else o :: x :: r
theorem insO_at (ord : ByteArray) (down : Bool) (o : OpD) : ∀ (xs : List OpD) (p : Nat) (hp : p ≤ xs.length), (∀ j (hj : j < p), aheadB ord down (xs[j]'(by omega)) o = true) → (∀ h : p < xs.length, aheadB ord down xs[p] o = false) → insO ord down o xs = xs.take p ++ [o] ++ xs.drop p
  | [], p, hp, _, _ => by
    obtain rfl : p = 0 := by simpa using hp
    rfl
  | x :: r, 0, _, _, h2 => by
    have : aheadB ord down x o = false := h2 (by simp)
    simp [insO, this]
  | x :: r, p + 1, hp, h1, h2 => by
    have h0 : aheadB ord down x o = true := h1 0 (by omega)
    have ih := insO_at ord down o r p (by simpa using hp) (fun j hj => h1 (j + 1) (by omega)) (fun h => h2 (by simpa using h))
    simp [insO, h0, ih]
theorem insO_len (ord : ByteArray) (down : Bool) (o : OpD) : ∀ xs : List OpD, (insO ord down o xs).length = xs.length + 1
  | [] => rfl
  | x :: r => by
    unfold insO
    split
    · simp [insO_len ord down o r]
    · simp
def runStep (ord : ByteArray) (down : Bool) (l0 : List OpD) (t : ND) (out : List OpD) (o : OpD) : List OpD := if trueT l0 o t then insO ord down o out else out
/-- those of which a condition is true, in their order -/
def runL (ord : ByteArray) (down : Bool) (l0 : List OpD) (t : ND) (l : List OpD) : List OpD := l.foldl (runStep ord down l0 t) []
theorem run_take (ord : ByteArray) (down : Bool) (l0 : List OpD) (t : ND) (l : List OpD) (k : Nat) (h : k < l.length) : runL ord down l0 t (l.take (k + 1)) = runStep ord down l0 t (runL ord down l0 t (l.take k)) l[k] := by
  unfold runL
  rw [List.take_succ_eq_append_getElem h, List.foldl_append]
  rfl
theorem run_len (ord : ByteArray) (down : Bool) (l0 : List OpD) (t : ND) (l : List OpD) (k : Nat) (h : k ≤ l.length) : (runL ord down l0 t (l.take k)).length ≤ k := by
  induction k with
  | zero => simp [runL]
  | succ k ih =>
    rw [run_take ord down l0 t l k (by omega)]
    have := ih (by omega)
    unfold runStep
    split
    · rw [insO_len]; omega
    · omega
/-- cut at a limit -/
def cutL (limit : Int) (l : List OpD) : List OpD := if 0 ≤ limit ∧ limit < l.length then l.take limit.toNat else l
end Go.Proofs.Ytcilkdohpcmbgaa
