/- The words that all walks share: a slice that reads as a list of data, and how it stays so. No conditions. -/
import Derived.Test.YtgpnockjonicpaaDoorRows
import Derived.WalkKit
import Derived.WalkSpells
import Derived.WalkLawsBesides
import Derived.Deep.QuietTactic
import Derived.BigQuiet
import Derived.Lib.Hide
import Derived.Deep.Light
import Derived.Deep.Cut
import Derived.Deep.DeepFit
import Derived.Deep.RegionWith
import Derived.Deep.RegionHeld3
import Derived.Deep.DeepCutAuto
namespace Go.Proofs.YtgpnockjonicpaaDoor
set_option linter.unusedSimpArgs false
set_option linter.unusedVariables false
open Go.RowKit

/-- Nothing that was there has turned. -/
abbrev Ext (w w' : World) : Prop := Below w.heap.size w w'

theorem Ext.refl (w : World) : Ext w w := Below.refl _ w
theorem Ext.trans {a b c : World} (h : Ext a b) (k : Ext b c) : Ext a c := Below.trans h (k.mono h.size)
theorem Ext.drewN {a w : World} (h : Ext a w) (n : Nat) : Ext a (w.drewN n) := ⟨h.os, h.tape, h.output, h.size, h.block⟩

theorem bcell {W w1 : World} {B : Nat} (hb : Below B W w1) : (∀ b o, b < B → w1.cell? ⟨b, o, none⟩ = W.cell? ⟨b, o, none⟩) ∧ (∀ b o, b < B → w1.frozen? ⟨b, o, none⟩ = W.frozen? ⟨b, o, none⟩) :=
  ⟨fun b o h => hb.cell (p := ⟨b, o, none⟩) h, fun b o h => hb.frozen (p := ⟨b, o, none⟩) h⟩

/-- 'v' is a slice over cells that lie in 'w' and read, 'sz' by 'sz', as the data 'xs' do by 'R'. -/
def Sl {α : Type} (w : World) (sz : Nat) (R : α → List Value → Prop) (v : Value) (xs : List α) : Prop :=
  ∃ (A : Option Addr) (c : Nat), v = .slice A xs.length c ∧ xs.length ≤ c ∧ c ≤ maxLen ∧
    (0 < xs.length → ∃ b off, A = some ⟨b, off, none⟩ ∧ b < w.heap.size ∧
      ∀ i x, xs[i]? = some x → ∃ cs, R x cs ∧ cs.length = sz ∧ ∀ j u, cs[j]? = some u → w.cell? ⟨b, off + i * sz + j, none⟩ = some u)

theorem Sl.keep {α : Type} {w w' : World} {sz : Nat} {R R' : α → List Value → Prop} {v : Value} {xs : List α} (h : Sl w sz R v xs)
    (hs : w.heap.size ≤ w'.heap.size) (hc : ∀ b o, b < w.heap.size → w'.cell? ⟨b, o, none⟩ = w.cell? ⟨b, o, none⟩) (hR : ∀ x cs, x ∈ xs → R x cs → R' x cs) : Sl w' sz R' v xs := by
  obtain ⟨A, c, rfl, h1, h2, h3⟩ := h
  refine ⟨A, c, rfl, h1, h2, fun hn => ?_⟩
  obtain ⟨b, off, rfl, hb, hx⟩ := h3 hn
  refine ⟨b, off, rfl, Nat.lt_of_lt_of_le hb hs, fun i x hi => ?_⟩
  obtain ⟨cs, hr, hl, hcs⟩ := hx i x hi
  exact ⟨cs, hR x cs (List.mem_of_getElem? hi) hr, hl, fun j u hu => (hc b _ hb).trans (hcs j u hu)⟩

theorem Sl.ext {α : Type} {w w' : World} {sz : Nat} {R : α → List Value → Prop} {v : Value} {xs : List α} (h : Sl w sz R v xs) (hb : Ext w w') : Sl w' sz R v xs :=
  h.keep hb.size (fun b o hlt => hb.cell (p := ⟨b, o, none⟩) hlt) (fun _ _ _ h => h)

theorem Sl.nil {α : Type} (w : World) (sz : Nat) (R : α → List Value → Prop) : Sl w sz R (.slice none 0 0) [] :=
  ⟨none, 0, rfl, Nat.le_refl _, Nat.zero_le _, fun h => absurd h (by simp)⟩

theorem Sl.at {α : Type} {w : World} {sz : Nat} {R : α → List Value → Prop} {A : Option Addr} {n c : Nat} {xs : List α} (h : Sl w sz R (.slice A n c) xs) :
    n = xs.length ∧ xs.length ≤ c ∧ c ≤ 9223372036854775807 ∧ (0 < xs.length → ∃ b off, A = some ⟨b, off, none⟩ ∧ b < w.heap.size ∧
      ∀ i (hi : i < xs.length), ∃ cs, R xs[i] cs ∧ cs.length = sz ∧ ∀ j u, cs[j]? = some u → w.cell? ⟨b, off + i * sz + j, none⟩ = some u) := by
  obtain ⟨A', c', he, h1, h2, h3⟩ := h
  injection he with e1 e2 e3
  subst e1 e2 e3
  refine ⟨rfl, h1, by simpa [maxLen] using h2, fun hn => ?_⟩
  obtain ⟨b, off, hA, hb, hx⟩ := h3 hn
  exact ⟨b, off, hA, hb, fun i hi => hx i _ (List.getElem?_eq_getElem hi)⟩

theorem Sl.form {α : Type} {w : World} {sz : Nat} {R : α → List Value → Prop} {v : Value} {xs : List α} (h : Sl w sz R v xs) : ∃ A c, v = .slice A xs.length c := by
  obtain ⟨A, c, rfl, _⟩ := h
  exact ⟨A, c, rfl⟩

theorem Sl.all {α : Type} {w : World} {sz : Nat} {R : α → List Value → Prop} {v : Value} {xs : List α} (h : Sl w sz R v xs) : ∀ x ∈ xs, ∃ cs, R x cs := by
  intro x hx
  obtain ⟨i, hi, rfl⟩ := List.mem_iff_getElem.1 hx
  obtain ⟨A, c, _, _, _, h3⟩ := h
  obtain ⟨b, off, _, _, hc⟩ := h3 (by omega)
  obtain ⟨cs, hr, _⟩ := hc i _ (List.getElem?_eq_getElem hi)
  exact ⟨cs, hr⟩
theorem Sl.mono {α : Type} {w : World} {sz : Nat} {R R' : α → List Value → Prop} {v : Value} {xs : List α} (h : Sl w sz R v xs) (hR : ∀ x cs, R x cs → R' x cs) : Sl w sz R' v xs :=
  h.keep (Nat.le_refl _) (fun _ _ _ => rfl) (fun x cs _ => hR x cs)

theorem Ext.alloc (w : World) (o : Obj) : Ext w (w.alloc o) := Below.alloc (Below.refl _ _) (Nat.le_refl _) o

/-- Block 'g' is a row of just these cells, of element type 't', none of them frozen. -/
def Row1 (w : World) (g : Nat) (t : TypeId) (cs : List Value) : Prop := w.heap[g]? = some (.cells cs.toArray t (0, 0))
section
variable {w w' : World} {g : Nat} {t : TypeId} {cs : List Value}
theorem Row1.lt (h : Row1 w g t cs) : g < w.heap.size := (Array.getElem?_eq_some_iff.1 h).1
theorem Row1.cell (h : Row1 w g t cs) (i : Nat) : w.cell? ⟨g, i, none⟩ = cs[i]? := by
  unfold Row1 at h
  simp [World.cell?, h]
theorem Row1.soft (h : Row1 w g t cs) (i : Nat) : w.frozen? ⟨g, i, none⟩ = false := by
  unfold Row1 at h
  simp [World.frozen?, h]
theorem Row1.same (h : Row1 w g t cs) (hb : w'.heap[g]? = w.heap[g]?) : Row1 w' g t cs := hb.trans h
theorem Row1.ext {B : Nat} (h : Row1 w g t cs) (hb : Below B w w') (hg : g < B) : Row1 w' g t cs := h.same (hb.block g hg)
theorem Row1.grown {row : Option Nat} (h : Row1 w g t cs) (hb : w.grownBy w' row) (hg : some g ≠ row) : Row1 w' g t cs := h.same (hb.block g h.lt hg)
theorem Row1.apart {g' : Nat} {t' : TypeId} {cs' : List Value} (h : Row1 w g t cs) (h' : Row1 w g' t' cs') (ht : t ≠ t') : g ≠ g' := by
  intro e
  subst e
  have := h.symm.trans h'
  injection this with this
  injection this with _ this
  exact ht this
theorem Row1.alloc (h : Row1 w g t cs) (o : Obj) : Row1 (w.alloc o) g t cs := h.same (Below.heap_alloc w o g h.lt)
theorem Row1.set (h : Row1 w g t cs) (i : Nat) (u : Value) : Row1 (w.setCell ⟨g, i, none⟩ u) g t (cs.set i u) := by
  unfold Row1 at h ⊢
  simp [World.setCell, Array.getElem?_modify, h]
theorem Row1.setFar (h : Row1 w g t cs) {p : Addr} (hp : g ≠ p.block) (u : Value) : Row1 (w.setCell p u) g t cs := h.same (Below.heap_setCell w p u g hp)
theorem Row1.made (w : World) (t : TypeId) (cs : List Value) : Row1 (w.alloc (.cells cs.toArray t)) w.heap.size t cs := heap_alloc_new w _
theorem Row1.made' {w : World} {n : Nat} (h : w.heap.size = n) (t : TypeId) (cs : List Value) : Row1 (w.alloc (.cells cs.toArray t)) n t cs := h ▸ Row1.made w t cs
end
theorem setCell_size (w : World) (p : Addr) (u : Value) : (w.setCell p u).heap.size = w.heap.size := by simp [World.setCell]

/-- All blocks that were there, but for one, are as they were. -/
abbrev But (g : Nat) (w w' : World) : Prop := w.grownBy w' (some g)
section
variable {g : Nat} {a w w' : World}
theorem But.of (h : Ext a w) : But g a w := ⟨h.os, h.tape, h.output, h.size, fun k hk _ => h.block k hk⟩
theorem But.refl : But g a a := But.of (Ext.refl a)
theorem But.trans (h : But g a w) (k : But g w w') : But g a w' :=
  ⟨k.os.trans h.os, k.tape.trans h.tape, k.output.trans h.output, Nat.le_trans h.size k.size, fun i hi hne => (k.block i (Nat.lt_of_lt_of_le hi h.size) hne).trans (h.block i hi hne)⟩
theorem But.drewN (h : But g a w) (n : Nat) : But g a (w.drewN n) := ⟨h.os, h.tape, h.output, h.size, h.block⟩
theorem But.drew (h : But g a w) : But g a w.drew := ⟨h.os, h.tape, h.output, h.size, h.block⟩
theorem But.alloc (h : But g a w) (o : Obj) : But g a (w.alloc o) := But.trans h (But.of (Ext.alloc w o))
theorem But.setCell (h : But g a w) {p : Addr} (hp : p.block = g ∨ a.heap.size ≤ p.block) (u : Value) : But g a (w.setCell p u) :=
  ⟨h.os, h.tape, h.output, by simpa [World.setCell] using h.size, fun i hi hne => (Below.heap_setCell w p u i (by
    intro e
    subst e
    rcases hp with e | e
    · exact hne (by rw [e])
    · omega)).trans (h.block _ hi hne)⟩
theorem But.cells (h : But g a w) : (∀ b o, b < a.heap.size → b ≠ g → w.cell? ⟨b, o, none⟩ = a.cell? ⟨b, o, none⟩) ∧ (∀ b o, b < a.heap.size → b ≠ g → w.frozen? ⟨b, o, none⟩ = a.frozen? ⟨b, o, none⟩) :=
  ⟨fun b _ hb hne => World.cell?_of_block (h.block b hb (fun e => hne (by injection e))), fun b _ hb hne => World.frozen?_of_block (h.block b hb (fun e => hne (by injection e)))⟩
/-- what was new at 'a' may turn -/
theorem But.fresh (h : But g a w) (hg : a.heap.size ≤ g) : Ext a w := ⟨h.os, h.tape, h.output, h.size, fun k hk => h.block k hk (fun e => by injection e with e; omega)⟩
end
theorem Sl.but {α : Type} {w w' : World} {sz : Nat} {R : α → List Value → Prop} {v : Value} {xs : List α} {g : Nat} (h : Sl w sz R v xs) (hb : But g w w') (hg : v.ownBlock ≠ some g) : Sl w' sz R v xs := by
  obtain ⟨A, c, rfl, h1, h2, h3⟩ := h
  refine ⟨A, c, rfl, h1, h2, fun hn => ?_⟩
  obtain ⟨b, off, rfl, hlt, hx⟩ := h3 hn
  refine ⟨b, off, rfl, Nat.lt_of_lt_of_le hlt hb.size, fun i x hi => ?_⟩
  obtain ⟨cs, hr, hl, hcs⟩ := hx i x hi
  exact ⟨cs, hr, hl, fun j u hu => (hb.cells.1 b _ hlt (fun e => hg (by simp [Value.ownBlock, e]))).trans (hcs j u hu)⟩
/-- a new slice, laid out -/
theorem Sl.laid {α : Type} {w : World} {sz g n c : Nat} {t : TypeId} {R : α → List Value → Prop} {xs : List α} {cs : List Value} (hg : Row1 w g t cs) (hn : n = xs.length) (hnc : n ≤ c) (hm : c ≤ maxLen)
    (hx : ∀ i x, xs[i]? = some x → ∃ ys, R x ys ∧ ys.length = sz ∧ ∀ j u, ys[j]? = some u → cs[i * sz + j]? = some u) : Sl w sz R (.slice (some ⟨g, 0, none⟩) n c) xs := by
  subst hn
  refine ⟨_, c, rfl, hnc, hm, fun _ => ⟨g, 0, rfl, hg.lt, fun i x hi => ?_⟩⟩
  obtain ⟨ys, h1, h2, h3⟩ := hx i x hi
  exact ⟨ys, h1, h2, fun j u hu => by rw [Nat.zero_add, hg.cell]; exact h3 j u hu⟩

/-- what the call itself has gathered reads as a list -/
theorem own_sl {α : Type} {w : World} {base sz n : Nat} {e : TypeId} {v : Value} {R : α → List Value → Prop} {xs : List α} {cs : List Value} (h : w.ownsRow base e sz v n cs) (hn : n = xs.length)
    (hx : ∀ i x, xs[i]? = some x → ∃ ys, R x ys ∧ ys.length = sz ∧ ∀ j u, ys[j]? = some u → cs[i * sz + j]? = some u) : Sl w sz R v xs := by
  subst hn
  rcases h.2 with ⟨rfl, h0⟩ | ⟨g, cap, cur, rfl, _, hg, hc, hm, _, ht⟩
  · obtain rfl : xs = [] := List.eq_nil_of_length_eq_zero h0
    exact Sl.nil _ _ _
  · refine ⟨_, cap, rfl, hc, hm, fun _ => ⟨g, 0, rfl, (Array.getElem?_eq_some_iff.1 hg).1, fun i x hi => ?_⟩⟩
    obtain ⟨ys, h1, h2, h3⟩ := hx i x hi
    refine ⟨ys, h1, h2, fun j u hu => ?_⟩
    have h4 := h3 j u hu
    rw [← ht, List.getElem?_take] at h4
    split at h4
    · simpa [World.cell?, hg] using h4
    · cases h4
theorem own_ext {w w' : World} {base sz n : Nat} {e : TypeId} {v : Value} {cs : List Value} (h : w.ownsRow base e sz v n cs) (hb : Ext w w') : w'.ownsRow base e sz v n cs :=
  h.kept (row := none) ⟨hb.os, hb.tape, hb.output, hb.size, fun k hk _ => hb.block k hk⟩ (by cases v.ownBlock <;> simp)
/-- lists of cells, one behind the other -/
theorem flat_at {α : Type} (f : α → List Value) (sz : Nat) (hf : ∀ x, (f x).length = sz) : ∀ (xs : List α) (i : Nat) (x : α), xs[i]? = some x → ∀ j u, (f x)[j]? = some u → (xs.flatMap f)[i * sz + j]? = some u
  | [], _, _, h, _, _, _ => by simp at h
  | y :: r, 0, x, h, j, u, hu => by
    obtain rfl : y = x := by simpa using h
    rw [List.flatMap_cons, Nat.zero_mul, Nat.zero_add, List.getElem?_append_left (List.getElem?_eq_some_iff.1 hu).1, hu]
  | y :: r, i + 1, x, h, j, u, hu => by
    have h1 := flat_at f sz hf r i x (by simpa using h) j u hu
    rw [List.flatMap_cons, List.getElem?_append_right (by rw [hf]; simp [Nat.add_mul]; omega), hf, ← h1]
    congr 1
    rw [Nat.add_mul]; omega
theorem flat_len {α : Type} (f : α → List Value) (sz : Nat) (hf : ∀ x, (f x).length = sz) (xs : List α) : (xs.flatMap f).length = xs.length * sz := by
  induction xs with
  | nil => simp
  | cons y r ih => rw [List.flatMap_cons, List.length_append, hf, ih, List.length_cons, Nat.add_mul]; omega

theorem new_cells (w : World) (t : TypeId) (cs : List Value) : ∀ j u, cs[j]? = some u → (w.alloc (.cells cs.toArray t)).cell? ((⟨w.heap.size, 0, none⟩ : Addr).add j) = some u := by
  intro j u hu
  rw [Addr.add_lit, Nat.zero_add, (Row1.made w t cs).cell j, hu]
theorem own_lt {w : World} {base sz n : Nat} {e : TypeId} {v : Value} {cs : List Value} (h : w.ownsRow base e sz v n cs) : ∀ k, v.ownBlock = some k → base ≤ k := fun k hk => (h.lt k hk).1

/-- a quiet call inside a quiet region that stands behind another one -/
theorem quiet2 {P : Program} {f : FuncId} {args : Array Value} {w : World} {a n : Nat} {v : Value} (h : Calls P f args (w.drewN (a + n)) fun e w' => e = .returned v ∧ w' = w.drewN (a + n)) :
    Calls P f args (w.drewN (a + n)) fun e w'' => e = .returned v ∧ ∃ m, w'' = w.drewN (a + m) :=
  h.mono fun _ _ ⟨he, hw⟩ => ⟨he, n, hw⟩

theorem ret_int {k : IntKind} {a b : Int} (h : a = b) : Ending.returned (.int k a) = .returned (.int k b) := by rw [h]

end Go.Proofs.YtgpnockjonicpaaDoor
