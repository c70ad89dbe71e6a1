/- What a call gathers, element by element: an owned row that reads as a list; appending to it. No conditions but the lengths. -/
import Derived.Test.YtcilkdohpcmbgaaApp
import Derived.Test.YtcilkdohpcmbgaaGrp
namespace Go.Proofs.Ytcilkdohpcmbgaa
set_option linter.unusedSimpArgs false
set_option linter.unusedVariables false
open Go.RowKit

/-- what is known of a slice type: its elements' type, their cells and bytes -/
structure Elem (P : Program) (t e : TypeId) (size bytes : Nat) : Prop where
  ht : P.underlying t = some (.slice e)
  hi : ∃ i z, P.info? e = some i ∧ i.zero = some z ∧ i.size = size ∧ i.bytes = bytes ∧ z.cells.size = size
  pos : 0 < size
theorem Elem.of {P : Program} {t e : TypeId} {size bytes : Nat} {z : Value} (ht : P.underlying t = some (.slice e)) (h : (P.info? e).map (fun i => (i.zero, i.size, i.bytes)) = some (some z, size, bytes)) (hz : z.cells.size = size) (hp : 0 < size) : Elem P t e size bytes := by
  obtain ⟨i, h1, h2, h3, h4⟩ := info_parts h
  exact ⟨ht, ⟨i, z, h1, h2, h3, h4, hz⟩, hp⟩

/-- a row of the call's own (from block 'base' on) that reads as the list 'xs' -/
def OwnL {α : Type} (w : World) (base : Nat) (e : TypeId) (k : Nat) (enc : α → List Value) (v : Value) (xs : List α) : Prop := w.ownsRow base e k v xs.length (xs.flatMap enc)
section
variable {α : Type} {w w' : World} {base k : Nat} {e : TypeId} {enc : α → List Value} {v : Value} {xs : List α}
theorem OwnL.nil (w : World) (base : Nat) (e : TypeId) (k : Nat) (enc : α → List Value) : OwnL w base e k enc (.slice none 0 0) [] := World.ownsRow_nil _ _ _ _
theorem OwnL.ext (h : OwnL w base e k enc v xs) (hb : Ext w w') : OwnL w' base e k enc v xs := own_ext h hb
theorem OwnL.alloc (h : OwnL w base e k enc v xs) (o : Obj) : OwnL (w.alloc o) base e k enc v xs := own_ext h (Ext.alloc _ _)
theorem OwnL.drew (h : OwnL w base e k enc v xs) : OwnL w.drew base e k enc v xs := own_ext h (Below.drew (Ext.refl _))
theorem OwnL.lower {base' : Nat} (h : OwnL w base e k enc v xs) (hb : base' ≤ base) : OwnL w base' e k enc v xs := own_base h hb
theorem OwnL.form (h : OwnL w base e k enc v xs) : ∃ A c, v = .slice A xs.length c := by
  obtain ⟨A, c, rfl, _⟩ := own_form h
  exact ⟨A, c, rfl⟩
theorem OwnL.sl {R : α → List Value → Prop} (henc : ∀ x, (enc x).length = k) (hR : ∀ x, R x (enc x)) (h : OwnL w base e k enc v xs) : Sl w k R v xs :=
  own_sl h rfl (fun i x hi => ⟨enc x, hR x, henc x, flat_at enc k henc xs i x hi⟩)
theorem OwnL.lt (h : OwnL w base e k enc v xs) : ∀ g, v.ownBlock = some g → base ≤ g ∧ g < w.heap.size := World.ownsRow.lt h
theorem OwnL.grown (h : OwnL w base e k enc v xs) {a : World} (hb : Ext a w) (hg : w.grownBy w' v.ownBlock) (hbase : a.heap.size ≤ base) : Ext a w' :=
  Below.grown hb hg hb.size (fun j hj => Nat.le_trans hbase (h.lt j hj).1)
theorem OwnL.made (w : World) (e : TypeId) (k : Nat) (enc : α → List Value) : OwnL (w.alloc (.cells #[] e)) w.heap.size e k enc (.slice (some ⟨w.heap.size, 0, none⟩) 0 0) [] :=
  World.ownsRow_made w #[] 0 (Nat.le_refl _) (Nat.zero_le _) (by simp)
end

section
variable {P : Program} {α : Type} {t e : TypeId} {size bytes : Nat} {enc : α → List Value}
/-- append of a slice -/
theorem wp_more (el : Elem P t e size bytes) (henc : ∀ x, (enc x).length = size) (h1 : ∀ x, ∀ u ∈ enc x, u.oneCell' = true) {o : Oper} {a : Act} {w : World} {K : Act → World → Prop} {Q : Exit → Act → World → Prop} (s x : Operand)
    (ho : o.op = .call { callee := .builtin .append, args := #[s, x], argTypes := #[t, t] })
    {base : Nat} (v : Value) (xs : List α) (hs : a.eval s = v) (hown : OwnL w base e size enc v xs) (hbase : base ≤ w.heap.size)
    (A : Option Addr) (m c : Nat) (ys : List α) (hx : a.eval x = .slice A m c) (hm : m = ys.length) (hsrc : Src w A m size (ys.flatMap enc))
    (h63 : xs.length + ys.length ≤ 1000000000) (hbytes : bytes ≤ 100000)
    (h : ∀ A' c' w', OwnL w' base e size enc (.slice A' (xs ++ ys).length c') (xs ++ ys) → w.grownBy w' v.ownBlock → K (a.put o.dst (.slice A' (xs ++ ys).length c')) w') : o.wp P a w K Q := by
  subst hm
  obtain ⟨i, z, hi, hz, hsize, hby, hzs⟩ := el.hi
  refine wp_append_src w s x t ho base e i z size bytes el.ht hi hz hsize hby hzs el.pos v xs.length (xs.flatMap enc) hs hown A ys.length c (ys.flatMap enc) hx hsrc (fun u hu => ?_) (by simp [maxLen]; omega) ?_ hbase ?_
  · obtain ⟨y, _, hy⟩ := List.mem_flatMap.1 hu
    exact h1 y u hy
  · exact Nat.le_trans (Nat.mul_le_mul h63 hbytes) (by omega)
  · intro v' w' hown' hg
    have hown2 : OwnL w' base e size enc v' (xs ++ ys) := by
      unfold OwnL
      rw [List.length_append, List.flatMap_append]
      exact hown'
    obtain ⟨A', c', rfl⟩ := hown2.form
    exact h A' c' w' hown2 hg
/-- append of one element that has been laid in a block -/
theorem wp_push (el : Elem P t e size bytes) (henc : ∀ x, (enc x).length = size) (h1 : ∀ x, ∀ u ∈ enc x, u.oneCell' = true) {o : Oper} {a : Act} {w : World} {K : Act → World → Prop} {Q : Exit → Act → World → Prop} (s x : Operand)
    (ho : o.op = .call { callee := .builtin .append, args := #[s, x], argTypes := #[t, t] })
    {base : Nat} (v : Value) (xs : List α) (hs : a.eval s = v) (hown : OwnL w base e size enc v xs) (hbase : base ≤ w.heap.size)
    (G c : Nat) (y : α) (hx : a.eval x = .slice (some ⟨G, 0, none⟩) 1 c) (hrow : Row1 w G e (enc y)) (h63 : xs.length + 1 ≤ 1000000000) (hbytes : bytes ≤ 100000)
    (h : ∀ A' c' w', OwnL w' base e size enc (.slice A' (xs ++ [y]).length c') (xs ++ [y]) → w.grownBy w' v.ownBlock → K (a.put o.dst (.slice A' (xs ++ [y]).length c')) w') : o.wp P a w K Q :=
  wp_more el henc h1 s x ho v xs hs hown hbase _ 1 c [y] hx rfl ⟨by simp [henc], fun _ => ⟨G, 0, rfl, hrow.lt, fun j u hu => by rw [Nat.zero_add, hrow.cell]; simpa using hu⟩⟩ (by simpa using h63) hbytes h
theorem wpList_more (el : Elem P t e size bytes) (henc : ∀ x, (enc x).length = size) (h1 : ∀ x, ∀ u ∈ enc x, u.oneCell' = true) {ops : Array Oper} {rest : List Oper} {o : Oper} {a : Act} {w : World} {Q : Exit → Act → World → Prop} (hgd : o.guard = none) (s x : Operand)
    (ho : o.op = .call { callee := .builtin .append, args := #[s, x], argTypes := #[t, t] })
    {base : Nat} (v : Value) (xs : List α) (hs : a.eval s = v) (hown : OwnL w base e size enc v xs) (hbase : base ≤ w.heap.size)
    (A : Option Addr) (m c : Nat) (ys : List α) (hx : a.eval x = .slice A m c) (hm : m = ys.length) (hsrc : Src w A m size (ys.flatMap enc))
    (h63 : xs.length + ys.length ≤ 1000000000) (hbytes : bytes ≤ 100000)
    (h : ∀ A' c' w', OwnL w' base e size enc (.slice A' (xs ++ ys).length c') (xs ++ ys) → w.grownBy w' v.ownBlock → wpList P ops Q rest (a.put o.dst (.slice A' (xs ++ ys).length c')) w') : wpList P ops Q (o :: rest) a w :=
  wpList_plain hgd fun _ hK => wp_more el henc h1 s x ho v xs hs hown hbase A m c ys hx hm hsrc h63 hbytes fun A' c' w' h2 h3 => hK _ _ (h A' c' w' h2 h3)
theorem wpList_push (el : Elem P t e size bytes) (henc : ∀ x, (enc x).length = size) (h1 : ∀ x, ∀ u ∈ enc x, u.oneCell' = true) {ops : Array Oper} {rest : List Oper} {o : Oper} {a : Act} {w : World} {Q : Exit → Act → World → Prop} (hgd : o.guard = none) (s x : Operand)
    (ho : o.op = .call { callee := .builtin .append, args := #[s, x], argTypes := #[t, t] })
    {base : Nat} (v : Value) (xs : List α) (hs : a.eval s = v) (hown : OwnL w base e size enc v xs) (hbase : base ≤ w.heap.size)
    (G c : Nat) (y : α) (hx : a.eval x = .slice (some ⟨G, 0, none⟩) 1 c) (hrow : Row1 w G e (enc y)) (h63 : xs.length + 1 ≤ 1000000000) (hbytes : bytes ≤ 100000)
    (h : ∀ A' c' w', OwnL w' base e size enc (.slice A' (xs ++ [y]).length c') (xs ++ [y]) → w.grownBy w' v.ownBlock → wpList P ops Q rest (a.put o.dst (.slice A' (xs ++ [y]).length c')) w') : wpList P ops Q (o :: rest) a w :=
  wpList_plain hgd fun _ hK => wp_push el henc h1 s x ho v xs hs hown hbase G c y hx hrow h63 hbytes fun A' c' w' h2 h3 => hK _ _ (h A' c' w' h2 h3)
/-- at a step of a region that draws its order -/
theorem step_push (el : Elem P t e size bytes) (henc : ∀ x, (enc x).length = size) (h1 : ∀ x, ∀ u ∈ enc x, u.oneCell' = true) {ops : Array Oper} {o : Oper} {a : Act} {w : World} {K : Act → World → Prop} {Q : Exit → Act → World → Prop} {E : Prop} (hgd : o.guard = none) (s x : Operand)
    (ho : o.op = .call { callee := .builtin .append, args := #[s, x], argTypes := #[t, t] })
    {base : Nat} (v : Value) (xs : List α) (hs : a.eval s = v) (hown : OwnL w base e size enc v xs) (hbase : base ≤ w.heap.size)
    (G c : Nat) (y : α) (hx : a.eval x = .slice (some ⟨G, 0, none⟩) 1 c) (hrow : Row1 w G e (enc y)) (h63 : xs.length + 1 ≤ 1000000000) (hbytes : bytes ≤ 100000)
    (h : ∀ A' c' w', OwnL w' base e size enc (.slice A' (xs ++ [y]).length c') (xs ++ [y]) → w.grownBy w' v.ownBlock → K (a.put o.dst (.slice A' (xs ++ [y]).length c')) w') :
    if Region.wanted o (yielded ops a.tmps) = true then Oper.wp P o a w K Q else E := by
  have hw : Region.wanted o (yielded ops a.tmps) = true := by simp [Region.wanted, hgd]
  rw [if_pos hw]
  exact wp_push el henc h1 s x ho v xs hs hown hbase G c y hx hrow h63 hbytes h
end
section
variable {α : Type} {w w' : World} {base k n c p : Nat} {e : TypeId} {enc : α → List Value} {A : Option Addr} {xs : List α}
theorem Src.sl {R : α → List Value → Prop} (henc : ∀ x, (enc x).length = k) (hk : 0 < k) (hR : ∀ x cs, R x cs → cs = enc x) (h : Sl w k R (.slice A n c) xs) : Src w A n k (xs.flatMap enc) :=
  Src.of_sl henc hk (h.mono hR)
theorem Sl.take {R : α → List Value → Prop} (h : Sl w k R (.slice A n c) xs) (hp : p ≤ n) : Sl w k R (.slice A p c) (xs.take p) := by
  obtain ⟨hn, h1, h2, h3⟩ := h.at
  subst hn
  refine ⟨A, c, by rw [List.length_take, Nat.min_eq_left hp], by rw [List.length_take]; omega, by simpa [maxLen] using h2, fun hl => ?_⟩
  rw [List.length_take] at hl
  obtain ⟨b, off, hA, hb, hx⟩ := h3 (by omega)
  refine ⟨b, off, hA, hb, fun i x hi => ?_⟩
  rw [List.getElem?_take] at hi
  split at hi
  · obtain ⟨hi', rfl⟩ := List.getElem?_eq_some_iff.1 hi
    exact hx i hi'
  · cases hi
/-- the rest of a slice -/
theorem Sl.drop {R : α → List Value → Prop} (h : Sl w k R (.slice A n c) xs) (hp : p ≤ n) : Sl w k R (.slice (if c = p then A else A.map (·.add (p * k))) (n - p) (c - p)) (xs.drop p) := by
  obtain ⟨hn, h1, h2, h3⟩ := h.at
  subst hn
  refine ⟨_, c - p, by rw [List.length_drop], by rw [List.length_drop]; omega, by simp [maxLen]; omega, fun hl => ?_⟩
  rw [List.length_drop] at hl
  obtain ⟨b, off, rfl, hb, hx⟩ := h3 (by omega)
  rw [if_neg (by omega)]
  refine ⟨b, off + p * k, by simp [Addr.add], hb, fun i x hi => ?_⟩
  rw [List.getElem?_drop] at hi
  obtain ⟨hi', rfl⟩ := List.getElem?_eq_some_iff.1 hi
  obtain ⟨cs, h4, h5, h6⟩ := hx (p + i) hi'
  refine ⟨cs, h4, h5, fun j u hu => ?_⟩
  have := h6 j u hu
  rw [Nat.add_mul, ← Nat.add_assoc] at this
  exact this
end
end Go.Proofs.Ytcilkdohpcmbgaa
