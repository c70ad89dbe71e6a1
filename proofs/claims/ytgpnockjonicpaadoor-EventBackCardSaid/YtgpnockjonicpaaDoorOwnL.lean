/- append onto a row of the call's own, from whatever slice can be read. No conditions but the lengths. -/
/- Owned rows: their cells, one set, how they look; lists of cells taken and dropped. No conditions. -/
/- What a call gathers, element by element: an owned row that reads as a list; appending to it. No conditions but the lengths. -/
import Derived.Test.YtgpnockjonicpaaDoorBase
namespace Go.Proofs.YtgpnockjonicpaaDoor
set_option linter.unusedSimpArgs false
set_option linter.unusedVariables false
open Go.RowKit

/-- the cells that a slice shows, one behind the other -/
def Src (w : World) (A : Option Addr) (m size : Nat) (news : List Value) : Prop :=
  news.length = m * size ∧ (0 < m → ∃ b off, A = some ⟨b, off, none⟩ ∧ b < w.heap.size ∧ ∀ j u, news[j]? = some u → w.cell? ⟨b, off + j, none⟩ = some u)

theorem Src.ext {w w' : World} {A : Option Addr} {m size : Nat} {news : List Value} (h : Src w A m size news) (hb : Ext w w') : Src w' A m size news :=
  ⟨h.1, fun hm => by
    obtain ⟨b, off, e, hlt, hc⟩ := h.2 hm
    exact ⟨b, off, e, Nat.lt_of_lt_of_le hlt hb.size, fun j u hu => (hb.cell (p := ⟨b, off + j, none⟩) hlt).trans (hc j u hu)⟩⟩

/-- a slice of data that are cells by 'f' -/
theorem Src.of_sl {α : Type} {w : World} {size n c : Nat} {A : Option Addr} {f : α → List Value} {xs : List α} (hf : ∀ x, (f x).length = size) (hs : 0 < size) (h : Sl w size (fun x cs => cs = f x) (.slice A n c) xs) : Src w A n size (xs.flatMap f) := by
  obtain ⟨hn, _, _, hx⟩ := h.at
  subst hn
  refine ⟨flat_len f size hf xs, fun hm => ?_⟩
  obtain ⟨b, off, rfl, hlt, hc⟩ := hx hm
  refine ⟨b, off, rfl, hlt, fun j u hu => ?_⟩
  have hj : j < xs.length * size := by rw [← flat_len f size hf xs]; exact (List.getElem?_eq_some_iff.1 hu).1
  have hi : j / size < xs.length := Nat.div_lt_of_lt_mul (by rw [Nat.mul_comm]; exact hj)
  obtain ⟨cs, rfl, _, hcs⟩ := hc (j / size) hi
  have hm' : j % size < size := Nat.mod_lt _ hs
  have hd : j / size * size + j % size = j := by rw [Nat.mul_comm]; exact Nat.div_add_mod j size
  have hv : (f xs[j / size])[j % size]? = some ((f xs[j / size])[j % size]'(by rw [hf]; exact hm')) := List.getElem?_eq_getElem _
  have h1 := flat_at f size hf xs (j / size) _ (List.getElem?_eq_getElem hi) (j % size) _ hv
  rw [hd, hu] at h1
  have h2 := hcs (j % size) _ hv
  rw [Nat.add_assoc, hd] at h2
  rw [h2, h1]

section
variable {P : Program} (w : World)
theorem run_append_nothing (base : Nat) (t ty e : TypeId) (i : TypeInfo) (size : Nat) (ht : P.underlying t = some (.slice e)) (hi : P.info? e = some i)
    (v : Value) (n : Nat) (xs : List Value) (hown : w.ownsRow base e size v n xs) (c : Nat) : (Builtin.append_ #[t, t] ty #[v, .slice none 0 c]).run P w = .ok v w := by
  rcases hown.2 with ⟨rfl, rfl⟩ | ⟨g, cap, cur, rfl, _, _, hnc, _⟩
  · simp [Builtin.append_, run_underlying ht, sizeOf, typeInfo, hi, Builtin.lenOf, Builtin.firstCells]
  · simp [Builtin.append_, run_underlying ht, sizeOf, typeInfo, hi, Builtin.lenOf, Builtin.firstCells, hnc, storeCells]

theorem wp_append_src {o : Oper} {a : Act} {K : Act → World → Prop} {Q : Exit → Act → World → Prop} (s x : Operand) (t : TypeId)
    (ho : o.op = .call { callee := .builtin .append, args := #[s, x], argTypes := #[t, t] })
    (base : Nat) (e : TypeId) (i : TypeInfo) (z : Value) (size bytes : Nat) (ht : P.underlying t = some (.slice e)) (hi : P.info? e = some i) (hz : i.zero = some z)
    (hsize : i.size = size) (hby : i.bytes = bytes) (hzs : z.cells.size = size) (hsz : 0 < size)
    (v : Value) (n : Nat) (xs : List Value) (hs : a.eval s = v) (hown : w.ownsRow base e size v n xs)
    (A : Option Addr) (m c : Nat) (news : List Value) (hx : a.eval x = .slice A m c) (hsrc : Src w A m size news) (h1 : ∀ u ∈ news, u.oneCell' = true)
    (h63 : n + m ≤ maxLen) (hbytes : (n + m) * bytes ≤ 140737488355328) (hbase : base ≤ w.heap.size)
    (h : ∀ v' w', w'.ownsRow base e size v' (n + m) (xs ++ news) → w.grownBy w' v.ownBlock → K (a.put o.dst v') w') : o.wp P a w K Q := by
  by_cases hm : 0 < m
  · obtain ⟨b, off, rfl, _, hc⟩ := hsrc.2 hm
    exact wp_append_own w s x t ho base e i z size bytes ht hi hz hsize hby hzs hsz v n xs hs hown ⟨b, off, none⟩ m c news hx hsrc.1
      (fun j u hu => by rw [Addr.add_lit]; exact hc j u hu) h1 h63 hbytes hbase (fun v' w' h2 h3 _ => h v' w' h2 h3)
  · obtain rfl : m = 0 := by omega
    have hn : news = [] := List.eq_nil_of_length_eq_zero (by simpa using hsrc.1)
    subst hn
    cases A with
    | some ad =>
      exact wp_append_own w s x t ho base e i z size bytes ht hi hz hsize hby hzs hsz v n xs hs hown ad 0 c [] hx (by simp) (by simp) h1 h63 hbytes hbase (fun v' w' h2 h3 _ => h v' w' h2 h3)
    | none =>
      have hr := run_append_nothing (P := P) w base t o.type e i size ht hi v n xs hown c
      unfold Oper.wp execOp
      simp only [ho, resolve, invoke, builtin, Sem.run_bind, Sem.run_pure, Result.andThen_ok, List.map_toArray, List.map_cons, List.map_nil, hs, hx, hr]
      exact h v w (by simpa using hown) (World.grownBy.refl _ _)

theorem wpList_append_src {ops : Array Oper} {rest : List Oper} {o : Oper} {a : Act} {Q : Exit → Act → World → Prop} (hgd : o.guard = none) (s x : Operand) (t : TypeId)
    (ho : o.op = .call { callee := .builtin .append, args := #[s, x], argTypes := #[t, t] })
    (base : Nat) (e : TypeId) (i : TypeInfo) (z : Value) (size bytes : Nat) (ht : P.underlying t = some (.slice e)) (hi : P.info? e = some i) (hz : i.zero = some z)
    (hsize : i.size = size) (hby : i.bytes = bytes) (hzs : z.cells.size = size) (hsz : 0 < size)
    (v : Value) (n : Nat) (xs : List Value) (hs : a.eval s = v) (hown : w.ownsRow base e size v n xs)
    (A : Option Addr) (m c : Nat) (news : List Value) (hx : a.eval x = .slice A m c) (hsrc : Src w A m size news) (h1 : ∀ u ∈ news, u.oneCell' = true)
    (h63 : n + m ≤ maxLen) (hbytes : (n + m) * bytes ≤ 140737488355328) (hbase : base ≤ w.heap.size)
    (h : ∀ v' w', w'.ownsRow base e size v' (n + m) (xs ++ news) → w.grownBy w' v.ownBlock → wpList P ops Q rest (a.put o.dst v') w') : wpList P ops Q (o :: rest) a w :=
  wpList_plain hgd fun _ hK => wp_append_src w s x t ho base e i z size bytes ht hi hz hsize hby hzs hsz v n xs hs hown A m c news hx hsrc h1 h63 hbytes hbase fun v' w' h2 h3 => hK _ _ (h v' w' h2 h3)
end
end Go.Proofs.YtgpnockjonicpaaDoor
namespace Go.Proofs.YtgpnockjonicpaaDoor
set_option linter.unusedSimpArgs false
set_option linter.unusedVariables false
open Go.RowKit

theorem own_set {w : World} {base sz n cap g : Nat} {e : TypeId} {cs : List Value} (h : w.ownsRow base e sz (.slice (some ⟨g, 0, none⟩) n cap) n cs) (j : Nat) (u : Value) :
    (w.setCell ⟨g, j, none⟩ u).ownsRow base e sz (.slice (some ⟨g, 0, none⟩) n cap) n (cs.set j u) := by
  refine ⟨by rw [List.length_set]; exact h.1, ?_⟩
  rcases h.2 with ⟨he, _⟩ | ⟨g', cap', cur, he, hb, hg, hc, hm, hs, ht⟩
  · cases he
  · injection he with e1 e2 e3
    injection e1 with e1
    injection e1 with e1
    subst e1 e3
    refine .inr ⟨g, cap, cur.setIfInBounds j u, rfl, hb, ?_, hc, hm, by simpa using hs, ?_⟩
    · simp [World.setCell, Array.getElem?_modify, hg]
    · rw [← ht, Array.toList_setIfInBounds, List.take_set]
theorem own_form {w : World} {base sz n : Nat} {e : TypeId} {v : Value} {cs : List Value} (h : w.ownsRow base e sz v n cs) : ∃ A c, v = .slice A n c ∧ n ≤ c ∧ c ≤ 9223372036854775807 ∧
    (0 < n → ∃ g, A = some ⟨g, 0, none⟩ ∧ base ≤ g ∧ g < w.heap.size ∧ (∀ i, w.frozen? ⟨g, i, none⟩ = false) ∧ ∀ j u, cs[j]? = some u → w.cell? ⟨g, j, none⟩ = some u) := by
  rcases h.2 with ⟨rfl, rfl⟩ | ⟨g, cap, cur, rfl, hb, hg, hc, hm, hs, ht⟩
  · exact ⟨none, 0, rfl, by omega, by omega, fun h => absurd h (by omega)⟩
  · refine ⟨_, cap, rfl, hc, by simpa [maxLen] using hm, fun _ => ⟨g, rfl, hb, (Array.getElem?_eq_some_iff.1 hg).1, fun i => by simp [World.frozen?, hg], fun j u hu => ?_⟩⟩
    have h1 := h.cells (g := g) rfl j u hu
    rwa [Addr.add_lit, Nat.zero_add] at h1

theorem flat_take {α : Type} (f : α → List Value) (xs : List α) (p j : Nat) (u : Value) (h : ((xs.take p).flatMap f)[j]? = some u) : (xs.flatMap f)[j]? = some u := by
  have e : xs.flatMap f = (xs.take p).flatMap f ++ (xs.drop p).flatMap f := by rw [← List.flatMap_append, List.take_append_drop]
  rw [e, List.getElem?_append_left (List.getElem?_eq_some_iff.1 h).1, h]
theorem flat_drop {α : Type} (f : α → List Value) (sz : Nat) (hf : ∀ x, (f x).length = sz) (xs : List α) (p j : Nat) (hp : p ≤ xs.length) (u : Value) (h : ((xs.drop p).flatMap f)[j]? = some u) : (xs.flatMap f)[p * sz + j]? = some u := by
  have e : xs.flatMap f = (xs.take p).flatMap f ++ (xs.drop p).flatMap f := by rw [← List.flatMap_append, List.take_append_drop]
  have hl : ((xs.take p).flatMap f).length = p * sz := by rw [flat_len f sz hf, List.length_take, Nat.min_eq_left hp]
  rw [e, List.getElem?_append_right (by omega), hl, ← h]
  congr 1
  omega
theorem flat_set {α : Type} (f : α → List Value) (sz : Nat) (hf : ∀ x, (f x).length = sz) : ∀ (xs : List α) (i : Nat) (x : α) (j : Nat) (u : Value) (y : α) (h : i < xs.length), xs[i] = x → j < sz → (f x).set j u = f y →
    (xs.flatMap f).set (i * sz + j) u = (xs.set i y).flatMap f
  | [], i, _, _, _, _, h, _, _, _ => absurd h (by simp)
  | a :: r, 0, x, j, u, y, _, e, hj, hy => by
    have e' : a = x := e
    subst e'
    rw [List.flatMap_cons, Nat.zero_mul, Nat.zero_add, List.set_append_left _ _ (by rw [hf]; exact hj), hy]
    rfl
  | a :: r, i + 1, x, j, u, y, h, e, hj, hy => by
    have h1 := flat_set f sz hf r i x j u y (by simpa using h) (by simpa using e) hj hy
    rw [List.flatMap_cons, List.set_append_right _ _ (by rw [hf]; simp [Nat.add_mul]; omega), hf, show (i + 1) * sz + j - sz = i * sz + j by rw [Nat.add_mul]; omega, h1]
    rfl
theorem Src.new (w : World) (t : TypeId) (cs : List Value) (m size : Nat) (h : cs.length = m * size) : Src (w.alloc (.cells cs.toArray t)) (some ⟨w.heap.size, 0, none⟩) m size cs :=
  ⟨h, fun _ => ⟨w.heap.size, 0, rfl, by simp, fun j u hu => by rw [Nat.zero_add, (Row1.made w t cs).cell j, hu]⟩⟩
theorem own_base {w : World} {base base' sz n : Nat} {e : TypeId} {v : Value} {cs : List Value} (h : w.ownsRow base e sz v n cs) (hb : base' ≤ base) : w.ownsRow base' e sz v n cs := by
  refine ⟨h.1, ?_⟩
  rcases h.2 with h | ⟨g, cap, cur, e1, e2, r⟩
  · exact .inl h
  · exact .inr ⟨g, cap, cur, e1, by omega, r⟩

end Go.Proofs.YtgpnockjonicpaaDoor
namespace Go.Proofs.YtgpnockjonicpaaDoor
set_option linter.unusedSimpArgs false
set_option linter.unusedVariables false
open Go.RowKit

/-- what is known of a slice type: its elements' type, their cells and bytes -/
structure Elem (P : Program) (t e : TypeId) (size bytes : Nat) : Prop where
  ht : P.underlying t = some (.slice e)
  hi : ∃ i z, P.info? e = some i ∧ i.zero = some z ∧ i.size = size ∧ i.bytes = bytes ∧ z.cells.size = size
  pos : 0 < size
theorem Elem.of {P : Program} {t e : TypeId} {size bytes : Nat} {z : Value} (ht : P.underlying t = some (.slice e)) (h : (P.info? e).map (fun i => (i.zero, i.size, i.bytes)) = some (some z, size, bytes)) (hz : z.cells.size = size) (hp : 0 < size) : Elem P t e size bytes := by
  obtain ⟨i, h1, h2, h3, h4⟩ := info_parts h
  exact ⟨ht, ⟨i, z, h1, h2, h3, h4, hz⟩, hp⟩

/-- a row of the call's own (from block 'base' on) that reads as the list 'xs' -/
def OwnL {α : Type} (w : World) (base : Nat) (e : TypeId) (k : Nat) (enc : α → List Value) (v : Value) (xs : List α) : Prop := w.ownsRow base e k v xs.length (xs.flatMap enc)
section
variable {α : Type} {w w' : World} {base k : Nat} {e : TypeId} {enc : α → List Value} {v : Value} {xs : List α}
theorem OwnL.nil (w : World) (base : Nat) (e : TypeId) (k : Nat) (enc : α → List Value) : OwnL w base e k enc (.slice none 0 0) [] := World.ownsRow_nil _ _ _ _
theorem OwnL.ext (h : OwnL w base e k enc v xs) (hb : Ext w w') : OwnL w' base e k enc v xs := own_ext h hb
theorem OwnL.alloc (h : OwnL w base e k enc v xs) (o : Obj) : OwnL (w.alloc o) base e k enc v xs := own_ext h (Ext.alloc _ _)
theorem OwnL.drew (h : OwnL w base e k enc v xs) : OwnL w.drew base e k enc v xs := own_ext h (Below.drew (Ext.refl _))
theorem OwnL.lower {base' : Nat} (h : OwnL w base e k enc v xs) (hb : base' ≤ base) : OwnL w base' e k enc v xs := own_base h hb
theorem OwnL.form (h : OwnL w base e k enc v xs) : ∃ A c, v = .slice A xs.length c := by
  obtain ⟨A, c, rfl, _⟩ := own_form h
  exact ⟨A, c, rfl⟩
theorem OwnL.sl {R : α → List Value → Prop} (henc : ∀ x, (enc x).length = k) (hR : ∀ x, R x (enc x)) (h : OwnL w base e k enc v xs) : Sl w k R v xs :=
  own_sl h rfl (fun i x hi => ⟨enc x, hR x, henc x, flat_at enc k henc xs i x hi⟩)
theorem OwnL.lt (h : OwnL w base e k enc v xs) : ∀ g, v.ownBlock = some g → base ≤ g ∧ g < w.heap.size := World.ownsRow.lt h
theorem OwnL.grown (h : OwnL w base e k enc v xs) {a : World} (hb : Ext a w) (hg : w.grownBy w' v.ownBlock) (hbase : a.heap.size ≤ base) : Ext a w' :=
  Below.grown hb hg hb.size (fun j hj => Nat.le_trans hbase (h.lt j hj).1)
theorem OwnL.made (w : World) (e : TypeId) (k : Nat) (enc : α → List Value) : OwnL (w.alloc (.cells #[] e)) w.heap.size e k enc (.slice (some ⟨w.heap.size, 0, none⟩) 0 0) [] :=
  World.ownsRow_made w #[] 0 (Nat.le_refl _) (Nat.zero_le _) (by simp)
end

section
variable {P : Program} {α : Type} {t e : TypeId} {size bytes : Nat} {enc : α → List Value}
/-- append of a slice -/
theorem wp_more (el : Elem P t e size bytes) (henc : ∀ x, (enc x).length = size) (h1 : ∀ x, ∀ u ∈ enc x, u.oneCell' = true) {o : Oper} {a : Act} {w : World} {K : Act → World → Prop} {Q : Exit → Act → World → Prop} (s x : Operand)
    (ho : o.op = .call { callee := .builtin .append, args := #[s, x], argTypes := #[t, t] })
    {base : Nat} (v : Value) (xs : List α) (hs : a.eval s = v) (hown : OwnL w base e size enc v xs) (hbase : base ≤ w.heap.size)
    (A : Option Addr) (m c : Nat) (ys : List α) (hx : a.eval x = .slice A m c) (hm : m = ys.length) (hsrc : Src w A m size (ys.flatMap enc))
    (h63 : xs.length + ys.length ≤ 1000000000) (hbytes : bytes ≤ 100000)
    (h : ∀ A' c' w', OwnL w' base e size enc (.slice A' (xs ++ ys).length c') (xs ++ ys) → w.grownBy w' v.ownBlock → K (a.put o.dst (.slice A' (xs ++ ys).length c')) w') : o.wp P a w K Q := by
  subst hm
  obtain ⟨i, z, hi, hz, hsize, hby, hzs⟩ := el.hi
  refine wp_append_src w s x t ho base e i z size bytes el.ht hi hz hsize hby hzs el.pos v xs.length (xs.flatMap enc) hs hown A ys.length c (ys.flatMap enc) hx hsrc (fun u hu => ?_) (by simp [maxLen]; omega) ?_ hbase ?_
  · obtain ⟨y, _, hy⟩ := List.mem_flatMap.1 hu
    exact h1 y u hy
  · exact Nat.le_trans (Nat.mul_le_mul h63 hbytes) (by omega)
  · intro v' w' hown' hg
    have hown2 : OwnL w' base e size enc v' (xs ++ ys) := by
      unfold OwnL
      rw [List.length_append, List.flatMap_append]
      exact hown'
    obtain ⟨A', c', rfl⟩ := hown2.form
    exact h A' c' w' hown2 hg
/-- append of one element that has been laid in a block -/
theorem wp_push (el : Elem P t e size bytes) (henc : ∀ x, (enc x).length = size) (h1 : ∀ x, ∀ u ∈ enc x, u.oneCell' = true) {o : Oper} {a : Act} {w : World} {K : Act → World → Prop} {Q : Exit → Act → World → Prop} (s x : Operand)
    (ho : o.op = .call { callee := .builtin .append, args := #[s, x], argTypes := #[t, t] })
    {base : Nat} (v : Value) (xs : List α) (hs : a.eval s = v) (hown : OwnL w base e size enc v xs) (hbase : base ≤ w.heap.size)
    (G c : Nat) (y : α) (hx : a.eval x = .slice (some ⟨G, 0, none⟩) 1 c) (hrow : Row1 w G e (enc y)) (h63 : xs.length + 1 ≤ 1000000000) (hbytes : bytes ≤ 100000)
    (h : ∀ A' c' w', OwnL w' base e size enc (.slice A' (xs ++ [y]).length c') (xs ++ [y]) → w.grownBy w' v.ownBlock → K (a.put o.dst (.slice A' (xs ++ [y]).length c')) w') : o.wp P a w K Q :=
  wp_more el henc h1 s x ho v xs hs hown hbase _ 1 c [y] hx rfl ⟨by simp [henc], fun _ => ⟨G, 0, rfl, hrow.lt, fun j u hu => by rw [Nat.zero_add, hrow.cell]; simpa using hu⟩⟩ (by simpa using h63) hbytes h
theorem wpList_more (el : Elem P t e size bytes) (henc : ∀ x, (enc x).length = size) (h1 : ∀ x, ∀ u ∈ enc x, u.oneCell' = true) {ops : Array Oper} {rest : List Oper} {o : Oper} {a : Act} {w : World} {Q : Exit → Act → World → Prop} (hgd : o.guard = none) (s x : Operand)
    (ho : o.op = .call { callee := .builtin .append, args := #[s, x], argTypes := #[t, t] })
    {base : Nat} (v : Value) (xs : List α) (hs : a.eval s = v) (hown : OwnL w base e size enc v xs) (hbase : base ≤ w.heap.size)
    (A : Option Addr) (m c : Nat) (ys : List α) (hx : a.eval x = .slice A m c) (hm : m = ys.length) (hsrc : Src w A m size (ys.flatMap enc))
    (h63 : xs.length + ys.length ≤ 1000000000) (hbytes : bytes ≤ 100000)
    (h : ∀ A' c' w', OwnL w' base e size enc (.slice A' (xs ++ ys).length c') (xs ++ ys) → w.grownBy w' v.ownBlock → wpList P ops Q rest (a.put o.dst (.slice A' (xs ++ ys).length c')) w') : wpList P ops Q (o :: rest) a w :=
  wpList_plain hgd fun _ hK => wp_more el henc h1 s x ho v xs hs hown hbase A m c ys hx hm hsrc h63 hbytes fun A' c' w' h2 h3 => hK _ _ (h A' c' w' h2 h3)
theorem wpList_push (el : Elem P t e size bytes) (henc : ∀ x, (enc x).length = size) (h1 : ∀ x, ∀ u ∈ enc x, u.oneCell' = true) {ops : Array Oper} {rest : List Oper} {o : Oper} {a : Act} {w : World} {Q : Exit → Act → World → Prop} (hgd : o.guard = none) (s x : Operand)
    (ho : o.op = .call { callee := .builtin .append, args := #[s, x], argTypes := #[t, t] })
    {base : Nat} (v : Value) (xs : List α) (hs : a.eval s = v) (hown : OwnL w base e size enc v xs) (hbase : base ≤ w.heap.size)
    (G c : Nat) (y : α) (hx : a.eval x = .slice (some ⟨G, 0, none⟩) 1 c) (hrow : Row1 w G e (enc y)) (h63 : xs.length + 1 ≤ 1000000000) (hbytes : bytes ≤ 100000)
    (h : ∀ A' c' w', OwnL w' base e size enc (.slice A' (xs ++ [y]).length c') (xs ++ [y]) → w.grownBy w' v.ownBlock → wpList P ops Q rest (a.put o.dst (.slice A' (xs ++ [y]).length c')) w') : wpList P ops Q (o :: rest) a w :=
  wpList_plain hgd fun _ hK => wp_push el henc h1 s x ho v xs hs hown hbase G c y hx hrow h63 hbytes fun A' c' w' h2 h3 => hK _ _ (h A' c' w' h2 h3)
/-- at a step of a region that draws its order -/
theorem step_push (el : Elem P t e size bytes) (henc : ∀ x, (enc x).length = size) (h1 : ∀ x, ∀ u ∈ enc x, u.oneCell' = true) {ops : Array Oper} {o : Oper} {a : Act} {w : World} {K : Act → World → Prop} {Q : Exit → Act → World → Prop} {E : Prop} (hgd : o.guard = none) (s x : Operand)
    (ho : o.op = .call { callee := .builtin .append, args := #[s, x], argTypes := #[t, t] })
    {base : Nat} (v : Value) (xs : List α) (hs : a.eval s = v) (hown : OwnL w base e size enc v xs) (hbase : base ≤ w.heap.size)
    (G c : Nat) (y : α) (hx : a.eval x = .slice (some ⟨G, 0, none⟩) 1 c) (hrow : Row1 w G e (enc y)) (h63 : xs.length + 1 ≤ 1000000000) (hbytes : bytes ≤ 100000)
    (h : ∀ A' c' w', OwnL w' base e size enc (.slice A' (xs ++ [y]).length c') (xs ++ [y]) → w.grownBy w' v.ownBlock → K (a.put o.dst (.slice A' (xs ++ [y]).length c')) w') :
    if Region.wanted o (yielded ops a.tmps) = true then Oper.wp P o a w K Q else E := by
  have hw : Region.wanted o (yielded ops a.tmps) = true := by simp [Region.wanted, hgd]
  rw [if_pos hw]
  exact wp_push el henc h1 s x ho v xs hs hown hbase G c y hx hrow h63 hbytes h
end
section
variable {α : Type} {w w' : World} {base k n c p : Nat} {e : TypeId} {enc : α → List Value} {A : Option Addr} {xs : List α}
theorem Src.sl {R : α → List Value → Prop} (henc : ∀ x, (enc x).length = k) (hk : 0 < k) (hR : ∀ x cs, R x cs → cs = enc x) (h : Sl w k R (.slice A n c) xs) : Src w A n k (xs.flatMap enc) :=
  Src.of_sl henc hk (h.mono hR)
theorem Sl.take {R : α → List Value → Prop} (h : Sl w k R (.slice A n c) xs) (hp : p ≤ n) : Sl w k R (.slice A p c) (xs.take p) := by
  obtain ⟨hn, h1, h2, h3⟩ := h.at
  subst hn
  refine ⟨A, c, by rw [List.length_take, Nat.min_eq_left hp], by rw [List.length_take]; omega, by simpa [maxLen] using h2, fun hl => ?_⟩
  rw [List.length_take] at hl
  obtain ⟨b, off, hA, hb, hx⟩ := h3 (by omega)
  refine ⟨b, off, hA, hb, fun i x hi => ?_⟩
  rw [List.getElem?_take] at hi
  split at hi
  · obtain ⟨hi', rfl⟩ := List.getElem?_eq_some_iff.1 hi
    exact hx i hi'
  · cases hi
/-- the rest of a slice -/
theorem Sl.drop {R : α → List Value → Prop} (h : Sl w k R (.slice A n c) xs) (hp : p ≤ n) : Sl w k R (.slice (if c = p then A else A.map (·.add (p * k))) (n - p) (c - p)) (xs.drop p) := by
  obtain ⟨hn, h1, h2, h3⟩ := h.at
  subst hn
  refine ⟨_, c - p, by rw [List.length_drop], by rw [List.length_drop]; omega, by simp [maxLen]; omega, fun hl => ?_⟩
  rw [List.length_drop] at hl
  obtain ⟨b, off, rfl, hb, hx⟩ := h3 (by omega)
  rw [if_neg (by omega)]
  refine ⟨b, off + p * k, by simp [Addr.add], hb, fun i x hi => ?_⟩
  rw [List.getElem?_drop] at hi
  obtain ⟨hi', rfl⟩ := List.getElem?_eq_some_iff.1 hi
  obtain ⟨cs, h4, h5, h6⟩ := hx (p + i) hi'
  refine ⟨cs, h4, h5, fun j u hu => ?_⟩
  have := h6 j u hu
  rw [Nat.add_mul, ← Nat.add_assoc] at this
  exact this
end
end Go.Proofs.YtgpnockjonicpaaDoor
