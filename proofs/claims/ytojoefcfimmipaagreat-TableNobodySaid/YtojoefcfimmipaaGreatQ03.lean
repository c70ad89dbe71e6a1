/- Maps from ints to values of any make that the call itself has made: looked up, stored, deleted, ranged over. Conditions: keys that an int holds. -/
/- Where an owned row lies behind an append: where it lay, or in a new block. No conditions but the lengths. -/
/- A disk as data, and in memory. No conditions. -/
/- Bytes that a call itself has gathered, made, appended to and turned to texts. Conditions: lengths. -/
import Derived.Test.YtojoefcfimmipaaGreatQ01
import Derived.Maps.OwnOps
import Derived.Maps.OwnSet
import Derived.Maps.RangeWalk
import Derived.Maps.Views
import Derived.OwnWalk
import Derived.Laws.Cover3
import Derived.Laws.IdiomStrings
namespace Go.Proofs.YtojoefcfimmipaaGreat
set_option linter.unusedSimpArgs false
set_option linter.unusedVariables false
open Go.RowKit Go.Maps
/-- every value reads as itself -/
def Rv (v : Value) : Option (DataW Value × List MemPlace) := some (.held v, [])
/-- a datum that reads as a function -/
structure MapD {α : Type} (enc : α → Value) (f : Int → Option α) (D : DataW Value) : Prop where
  tidy : Tidy D
  has : ∀ x, Maps.has D (.int .i64 x) = (f x).isSome
  hit : ∀ x a, f x = some a → ∀ z, D.atKey (.int .i64 x) z = .held (enc a)
def updI {α : Type} (f : Int → Option α) (x : Int) (v : Option α) : Int → Option α := fun y => if y = x then v else f y
theorem updI_same {α : Type} (f : Int → Option α) (x : Int) (v : Option α) : updI f x v x = v := if_pos rfl
theorem updI_other {α : Type} (f : Int → Option α) {x y : Int} (v : Option α) (h : y ≠ x) : updI f x v y = f y := if_neg h
theorem lit_ne {a b : Int} (h : a ≠ b) : (Lit.int .i64 a) ≠ Lit.int .i64 b := fun e => h (by injection e)
section
variable {α : Type} {enc : α → Value} {f : Int → Option α} {D : DataW Value}
theorem MapD.start : MapD enc (fun _ => none) (.map []) := ⟨tidy_empty, fun _ => rfl, fun _ _ h => by cases h⟩
theorem MapD.put (h : MapD enc f D) (x : Int) (a : α) : MapD enc (updI f x (some a)) (D.put (.int .i64 x) (.held (enc a))) := by
  have hk : WideAt.IsKeyLit (Lit.int .i64 x) := trivial
  refine ⟨h.tidy.put hk _, fun y => ?_, fun y c hy z => ?_⟩
  · by_cases e : y = x
    · subst e; rw [updI_same, has_put_same h.tidy.isMap hk]; rfl
    · rw [updI_other _ _ e, has_put_other (lit_ne e), h.has]
  · by_cases e : y = x
    · subst e
      rw [updI_same] at hy
      injection hy with hy
      subst hy
      exact atKey_put_same h.tidy.isMap hk _ _
    · rw [updI_other _ _ e] at hy
      rw [atKey_put_other (lit_ne e)]
      exact h.hit y c hy z
theorem MapD.del (h : MapD enc f D) (x : Int) : MapD enc (updI f x none) (D.del (.int .i64 x)) := by
  refine ⟨h.tidy.del _, fun y => ?_, fun y c hy z => ?_⟩
  · by_cases e : y = x
    · subst e; rw [updI_same, has_del_same]; rfl
    · rw [updI_other _ _ e, has_del_other (lit_ne e), h.has]
  · by_cases e : y = x
    · subst e; rw [updI_same] at hy; cases hy
    · rw [updI_other _ _ e] at hy
      rw [atKey_del_other (lit_ne e)]
      exact h.hit y c hy z
theorem MapD.miss (h : MapD enc f D) {x : Int} (hx : f x = none) (z : DataW Value) : D.atKey (.int .i64 x) z = z := atKey_of_not_has (by rw [h.has, hx]; rfl) z
theorem MapD.value (h : MapD enc f D) {x : Int} {v z : Value} {ps : List MemPlace} (hv : Rv v = some (D.atKey (.int .i64 x) (.held z), ps)) : v = ((f x).map enc).getD z := by
  unfold Rv at hv
  injection hv with hv
  injection hv with hv _
  cases hf : f x with
  | none => rw [h.miss hf] at hv; injection hv with hv
  | some a => rw [h.hit x a hf] at hv; injection hv with hv
end
/-- block 'b' is a map of at most 'n' entries that reads as the function 'f' -/
def MapI {α : Type} (w : World) (k : TypeId) (b n : Nat) (enc : α → Value) (f : Int → Option α) : Prop := ∃ D : DataW Value, w.ownsMap Tryz.prog k Rv b n D ∧ MapD enc f D
section
variable {α : Type} {enc : α → Value} {f : Int → Option α} {w w' : World} {k t e : TypeId} {b n : Nat}
theorem MapI.made (w : World) (k : TypeId) (enc : α → Value) : MapI (w.alloc (.map #[] 0)) k w.heap.size 0 enc (fun _ => none) := ⟨_, World.ownsMap_made _ _ _ _, MapD.start⟩
theorem MapI.lt (h : MapI w k b n enc f) : b < w.heap.size := let ⟨_, h, _⟩ := h; h.lt
theorem MapI.kept {row : Option Nat} (h : MapI w k b n enc f) (hg : w.grownBy w' row) (hne : some b ≠ row) : MapI w' k b n enc f := let ⟨D, h1, h2⟩ := h; ⟨D, h1.kept hg hne, h2⟩
theorem MapI.ext (h : MapI w k b n enc f) (hb : Ext w w') : MapI w' k b n enc f := h.kept (row := none) ⟨hb.os, hb.tape, hb.output, hb.size, fun k hk _ => hb.block k hk⟩ (by simp)
theorem MapI.mono {m : Nat} (h : MapI w k b n enc f) (hm : n ≤ m) : MapI w k b m enc f := let ⟨D, h1, h2⟩ := h; ⟨D, h1.mono hm, h2⟩
/-- what is found: with 'ok' -/
theorem MapI.look (h : MapI w k b n enc f) (hk : Tryz.prog.underlying k = some (.int .i64)) (ht : Tryz.prog.underlying t = some (.map k e)) {z : Value} (hz : (zeroValue e).run Tryz.prog w = .ok z w) {x : Int} (hx : (Lit.int .i64 x).wf = true) :
    (Instr.lookup t (.map (some b)) (.int .i64 x) true).run Tryz.prog w = .ok (.tuple #[((f x).map enc).getD z, .bool (f x).isSome]) w := by
  obtain ⟨D, h1, h2⟩ := h
  obtain ⟨v, ps, hr, hv⟩ := h1.look_ok (int_keyed hk) ht hz (zd := .held z) (zp := []) rfl (keyOf_int_mk hk hx)
  have hv : v = ((f x).map enc).getD z := h2.value hv
  subst hv
  have hb := h2.has x
  rw [hb] at hr
  exact hr
theorem MapI.store (h : MapI w k b n enc f) (hk : Tryz.prog.underlying k = some (.int .i64)) (ht : Tryz.prog.underlying t = some (.map k e)) (hn : n ≤ 1000000000) {x : Int} (hx : (Lit.int .i64 x).wf = true) (a : α) {V : Value} (hV : V = enc a) :
    ∃ w', (Instr.mapUpdate t (.map (some b)) (.int .i64 x) V).run Tryz.prog w = .ok () w' ∧ MapI w' k b (n + 1) enc (updI f x (some a)) ∧ w.mapTurned w' b := by
  obtain ⟨D, h1, h2⟩ := h
  subst hV
  obtain ⟨w', hr, h3, h4⟩ := h1.store (int_keyed hk) ht (by simp [maxLen]; omega) (keyOf_int_mk hk hx) (d := .held (enc a)) (ps := []) rfl
  exact ⟨w', hr, ⟨_, h3, h2.put x a⟩, h4⟩
theorem MapI.drop (h : MapI w k b n enc f) (hk : Tryz.prog.underlying k = some (.int .i64)) (ht : Tryz.prog.underlying t = some (.map k e)) {x : Int} (hx : (Lit.int .i64 x).wf = true) (ty : TypeId) :
    ∃ w', (Builtin.delete_ #[t, k] ty #[.map (some b), .int .i64 x]).run Tryz.prog w = .ok (.tuple #[]) w' ∧ MapI w' k b n enc (updI f x none) ∧ w.mapTurned w' b := by
  obtain ⟨D, h1, h2⟩ := h
  obtain ⟨w', hr, h3, h4⟩ := h1.drop (int_keyed hk) ht (keyOf_int_mk hk hx) ty
  exact ⟨w', hr, ⟨_, h3, h2.del x⟩, h4⟩
end
/-- a range over such a map under way: 'left' tells what is still to come -/
def RangeI {α : Type} (w : World) (k : TypeId) (b r n : Nat) (enc : α → Value) (f : Int → Option α) (left : Int → Bool) (cnt : Nat) : Prop :=
  ∃ (D : DataW Value) (l : Lit → Bool), w.ranges Tryz.prog k Rv b r n D l cnt ∧ MapD enc f D ∧ ∀ x, l (.int .i64 x) = left x
section
variable {α : Type} {enc : α → Value} {f : Int → Option α} {w w' : World} {k t e : TypeId} {b r n cnt : Nat} {left : Int → Bool}
theorem RangeI.lt (h : RangeI w k b r n enc f left cnt) : r < w.heap.size := let ⟨_, _, h, _⟩ := h; h.lt
theorem RangeI.kept {row : Option Nat} (h : RangeI w k b r n enc f left cnt) (hg : w.grownBy w' row) (hb' : some b ≠ row) (hr' : some r ≠ row) : RangeI w' k b r n enc f left cnt :=
  let ⟨D, l, h1, h2, h3⟩ := h; ⟨D, l, h1.kept hg hb' hr', h2, h3⟩
theorem RangeI.ext (h : RangeI w k b r n enc f left cnt) (hb : Ext w w') : RangeI w' k b r n enc f left cnt := h.kept (row := none) ⟨hb.os, hb.tape, hb.output, hb.size, fun k hk _ => hb.block k hk⟩ (by simp) (by simp)
variable {ops : Array Oper} {rest : List Oper} {o : Oper} {a : Act} {Q : Exit → Act → World → Prop}
end
theorem mapTurned_but {w w' : World} {b : Nat} (h : w.mapTurned w' b) : But b w w' := h.grown
end Go.Proofs.YtojoefcfimmipaaGreat
namespace Go.Proofs.YtojoefcfimmipaaGreat
set_option linter.unusedSimpArgs false
set_option linter.unusedVariables false
open Go.RowKit Go.Maps
theorem ownsMap_block {w w' : World} {P : Program} {k : TypeId} {R : Value → Option (DataW Value × List MemPlace)} {b n : Nat} {D : DataW Value} (h : w.ownsMap P k R b n D) (hb : w'.heap[b]? = w.heap[b]?) : w'.ownsMap P k R b n D := by
  obtain ⟨es, clock, h1, h2⟩ := h
  exact ⟨es, clock, hb.trans h1, h2⟩
theorem MapI.block {α : Type} {enc : α → Value} {f : Int → Option α} {w w' : World} {k : TypeId} {b n : Nat} (h : MapI w k b n enc f) (hb : w'.heap[b]? = w.heap[b]?) : MapI w' k b n enc f :=
  let ⟨D, h1, h2⟩ := h; ⟨D, ownsMap_block h1 hb, h2⟩
/-- of the blocks that were there just those of 'F' may have turned -/
structure Only (F : Nat → Prop) (w w' : World) : Prop where
  os : w'.os = w.os
  tape : w'.tape = w.tape
  output : w'.output = w.output
  size : w.heap.size ≤ w'.heap.size
  block : ∀ i, i < w.heap.size → ¬ F i → w'.heap[i]? = w.heap[i]?
section
variable {F : Nat → Prop} {a w w' : World}
theorem Only.of (h : Ext a w) : Only F a w := ⟨h.os, h.tape, h.output, h.size, fun i hi _ => h.block i hi⟩
theorem Only.refl : Only F a a := ⟨rfl, rfl, rfl, Nat.le_refl _, fun _ _ _ => rfl⟩
theorem Only.but {b : Nat} (h : But b a w) (hb : F b ∨ a.heap.size ≤ b) : Only F a w := ⟨h.os, h.tape, h.output, h.size, fun i hi hn => h.block i hi (fun e => by
  injection e with e
  subst e
  rcases hb with hb | hb
  · exact hn hb
  · omega)⟩
theorem Only.trans {F' : Nat → Prop} (h : Only F a w) (k : Only F' w w') (hF : ∀ i, F' i → F i ∨ a.heap.size ≤ i) : Only F a w' :=
  ⟨k.os.trans h.os, k.tape.trans h.tape, k.output.trans h.output, Nat.le_trans h.size k.size, fun i hi hn => (k.block i (Nat.lt_of_lt_of_le hi h.size) (fun q => by
    rcases hF i q with q | q
    · exact hn q
    · omega)).trans (h.block i hi hn)⟩
theorem Only.trans' (h : Only F a w) (k : Only F w w') : Only F a w' := h.trans k (fun _ q => .inl q)
theorem Only.mono {F' : Nat → Prop} (h : Only F a w) (hF : ∀ i, F i → F' i ∨ a.heap.size ≤ i) : Only F' a w := ⟨h.os, h.tape, h.output, h.size, fun i hi hn => h.block i hi (fun q => by
  rcases hF i q with q | q
  · exact hn q
  · omega)⟩
theorem Only.ext (h : Only F a w) (k : Ext w w') : Only F a w' := h.trans' (Only.of k)
theorem Only.turn {b : Nat} (h : Only F a w) (k : But b w w') (hb : F b ∨ a.heap.size ≤ b) : Only F a w' := h.trans (F' := fun i => i = b) (Only.but k (.inl rfl)) (fun i q => by subst q; exact hb)
theorem Only.drewN (h : Only F a w) (n : Nat) : Only F a (w.drewN n) := ⟨h.os, h.tape, h.output, h.size, h.block⟩
theorem Only.drew (h : Only F a w) : Only F a w.drew := ⟨h.os, h.tape, h.output, h.size, h.block⟩
theorem Only.alloc (h : Only F a w) (o : Obj) : Only F a (w.alloc o) := h.ext (Ext.alloc _ _)
theorem Only.setCell (h : Only F a w) {p : Addr} (hp : F p.block ∨ a.heap.size ≤ p.block) (u : Value) : Only F a (w.setCell p u) :=
  h.turn (But.setCell But.refl (.inl rfl) u) hp
theorem Only.below {B : Nat} (h : Only F a w) (hB : ∀ i, F i → B ≤ i) (hs : B ≤ a.heap.size) : Below B a w :=
  ⟨h.os, h.tape, h.output, h.size, fun i hi => h.block i (by omega) (fun q => by have := hB i q; omega)⟩
theorem Only.toExt (h : Only F a w) (hB : ∀ i, F i → a.heap.size ≤ i) : Ext a w := h.below hB (Nat.le_refl _)
theorem Only.row {g : Nat} {t : TypeId} {cs : List Value} (h : Only F a w) (hr : Row1 a g t cs) (hg : ¬ F g) : Row1 w g t cs := hr.same (h.block g hr.lt hg)
theorem Only.cell (h : Only F a w) {b o : Nat} (hb : b < a.heap.size) (hn : ¬ F b) : w.cell? ⟨b, o, none⟩ = a.cell? ⟨b, o, none⟩ := World.cell?_of_block (h.block b hb hn)
theorem Only.map {α : Type} {enc : α → Value} {f : Int → Option α} {k : TypeId} {b n : Nat} (h : Only F a w) (hm : MapI a k b n enc f) (hb : ¬ F b) : MapI w k b n enc f := hm.block (h.block b hm.lt hb)
end
end Go.Proofs.YtojoefcfimmipaaGreat
namespace Go.Proofs.YtojoefcfimmipaaGreat
set_option linter.unusedSimpArgs false
set_option linter.unusedVariables false
open Go.RowKit
section
variable {P : Program} (w : World)
theorem append_where (base : Nat) (t ty e : TypeId) (i : TypeInfo) (z : Value) (size bytes : Nat) (ht : P.underlying t = some (.slice e)) (hi : P.info? e = some i) (hz : i.zero = some z)
    (hsize : i.size = size) (hby : i.bytes = bytes) (hzs : z.cells.size = size) (hsz : 0 < size)
    (v : Value) (n : Nat) (xs : List Value) (hown : w.ownsRow base e size v n xs)
    (a : Addr) (m c : Nat) (news : List Value) (hl : news.length = m * size) (hnews : ∀ j u, news[j]? = some u → w.cell? (a.add j) = some u) (h1 : ∀ u ∈ news, u.oneCell' = true)
    (h63 : n + m ≤ maxLen) (hbytes : (n + m) * bytes ≤ 140737488355328) (hbase : base ≤ w.heap.size) :
    ∃ v' w', (Builtin.append_ #[t, t] ty #[v, .slice (some a) m c]).run P w = .ok v' w' ∧ w'.ownsRow base e size v' (n + m) (xs ++ news) ∧ w.grownBy w' v.ownBlock ∧ (∀ k, v'.ownBlock = some k → v.ownBlock = some k ∨ w.heap.size ≤ k) := by
  obtain ⟨v', w', hr, h2, h3, h4⟩ := run_append_own (P := P) w base t ty e i z size bytes ht hi hz hsize hby hzs hsz v n xs hown a m c news hl hnews h1 h63 hbytes hbase
  refine ⟨v', w', hr, h2, h3, fun k hk => ?_⟩
  subst hsize
  subst hby
  have hsmall : n + m ≤ 9223372036854775807 := by simp only [maxLen] at h63; omega
  rcases hown.2 with ⟨rfl, rfl⟩ | ⟨g, cap, cur, rfl, hbg, hg, hnc, hcm, hcs, htake⟩
  · by_cases hm : m = 0
    · have := h4.2 ⟨rfl, hm⟩
      subst this
      exact .inl hk
    · have hr2 := run_append_nil (P := P) w t ty e i z ht hi hz a m c news hl hnews (by omega) (by omega) (by have hb := hbytes; simp only [Nat.zero_add] at hb; omega)
      rw [hr] at hr2
      injection hr2 with q1 q2
      subst q1
      simp only [Value.ownBlock, Option.some.injEq] at hk
      exact .inr (by omega)
  · by_cases hroom : n + m ≤ cap
    · have hfit : n * i.size + news.length ≤ cur.size := by rw [hl, hcs, ← Nat.add_mul]; exact Nat.mul_le_mul_right _ hroom
      have hr2 := run_append_room (P := P) w t ty e i ht hi g n cap cur hg a m c news hl hnews h1 hroom hfit
      rw [hr] at hr2
      injection hr2 with q1 q2
      subst q1
      exact .inl hk
    · have holds : ∀ j u, xs[j]? = some u → w.cell? ((⟨g, 0, none⟩ : Addr).add j) = some u := hown.cells (g := g) rfl
      have hr2 := run_append_grow (P := P) w t ty e i z ht hi hz ⟨g, 0, none⟩ n cap xs hown.1 holds a m c news hl hnews (by omega) (by omega) (growslice_fits (by omega) hbytes)
      rw [hr] at hr2
      injection hr2 with q1 q2
      subst q1
      simp only [Value.ownBlock, Option.some.injEq] at hk
      exact .inr (by omega)
end
section
variable {P : Program} {α : Type} {t e : TypeId} {size bytes : Nat} {enc : α → List Value}
/-- append of one element that has been laid in a block: where the row lies is told -/
theorem wp_push2 (el : Elem P t e size bytes) (henc : ∀ x, (enc x).length = size) (h1 : ∀ x, ∀ u ∈ enc x, u.oneCell' = true) {o : Oper} {a : Act} {w : World} {K : Act → World → Prop} {Q : Exit → Act → World → Prop} (s x : Operand)
    (ho : o.op = .call { callee := .builtin .append, args := #[s, x], argTypes := #[t, t] })
    {base : Nat} (v : Value) (xs : List α) (hs : a.eval s = v) (hown : OwnL w base e size enc v xs) (hbase : base ≤ w.heap.size)
    (G c : Nat) (y : α) (hx : a.eval x = .slice (some ⟨G, 0, none⟩) 1 c) (hrow : Row1 w G e (enc y)) (h63 : xs.length + 1 ≤ 1000000000) (hbytes : bytes ≤ 100000)
    (h : ∀ A' c' w', OwnL w' base e size enc (.slice A' (xs ++ [y]).length c') (xs ++ [y]) → w.grownBy w' v.ownBlock → (∀ k, (Value.slice A' (xs ++ [y]).length c').ownBlock = some k → v.ownBlock = some k ∨ w.heap.size ≤ k) → K (a.put o.dst (.slice A' (xs ++ [y]).length c')) w') : o.wp P a w K Q := by
  obtain ⟨i, z, hi, hz, hsize, hby, hzs⟩ := el.hi
  obtain ⟨v', w', hr, h2, h3, h4⟩ := append_where (P := P) w base t o.type e i z size bytes el.ht hi hz hsize hby hzs el.pos v xs.length (xs.flatMap enc) hown ⟨G, 0, none⟩ 1 c (enc y) (by simp [henc]) (fun j u hu => by rw [Addr.add_lit, Nat.zero_add, hrow.cell]; exact hu) (h1 y) (by simp [maxLen]; omega) (Nat.le_trans (Nat.mul_le_mul h63 hbytes) (by omega)) hbase
  have hown2 : OwnL w' base e size enc v' (xs ++ [y]) := by
    unfold OwnL
    rw [List.length_append, List.flatMap_append]
    simpa using h2
  obtain ⟨A', c', rfl⟩ := hown2.form
  unfold Oper.wp execOp
  simp only [ho, resolve, invoke, builtin, Sem.run_bind, Sem.run_pure, Result.andThen_ok, List.map_toArray, List.map_cons, List.map_nil, hs, hx, hr]
  exact h A' c' w' hown2 h3 h4
theorem wpList_push2 (el : Elem P t e size bytes) (henc : ∀ x, (enc x).length = size) (h1 : ∀ x, ∀ u ∈ enc x, u.oneCell' = true) {ops : Array Oper} {rest : List Oper} {o : Oper} {a : Act} {w : World} {Q : Exit → Act → World → Prop} (hgd : o.guard = none) (s x : Operand)
    (ho : o.op = .call { callee := .builtin .append, args := #[s, x], argTypes := #[t, t] })
    {base : Nat} (v : Value) (xs : List α) (hs : a.eval s = v) (hown : OwnL w base e size enc v xs) (hbase : base ≤ w.heap.size)
    (G c : Nat) (y : α) (hx : a.eval x = .slice (some ⟨G, 0, none⟩) 1 c) (hrow : Row1 w G e (enc y)) (h63 : xs.length + 1 ≤ 1000000000) (hbytes : bytes ≤ 100000)
    (h : ∀ A' c' w', OwnL w' base e size enc (.slice A' (xs ++ [y]).length c') (xs ++ [y]) → w.grownBy w' v.ownBlock → (∀ k, (Value.slice A' (xs ++ [y]).length c').ownBlock = some k → v.ownBlock = some k ∨ w.heap.size ≤ k) → wpList P ops Q rest (a.put o.dst (.slice A' (xs ++ [y]).length c')) w') : wpList P ops Q (o :: rest) a w :=
  wpList_plain hgd fun _ hK => wp_push2 el henc h1 s x ho v xs hs hown hbase G c y hx hrow h63 hbytes fun A' c' w' h2 h3 h4 => hK _ _ (h A' c' w' h2 h3 h4)
/-- at a step of a region that draws its order -/
theorem step_push2 (el : Elem P t e size bytes) (henc : ∀ x, (enc x).length = size) (h1 : ∀ x, ∀ u ∈ enc x, u.oneCell' = true) {ops : Array Oper} {o : Oper} {a : Act} {w : World} {K : Act → World → Prop} {Q : Exit → Act → World → Prop} {E : Prop} (hgd : o.guard = none) (s x : Operand)
    (ho : o.op = .call { callee := .builtin .append, args := #[s, x], argTypes := #[t, t] })
    {base : Nat} (v : Value) (xs : List α) (hs : a.eval s = v) (hown : OwnL w base e size enc v xs) (hbase : base ≤ w.heap.size)
    (G c : Nat) (y : α) (hx : a.eval x = .slice (some ⟨G, 0, none⟩) 1 c) (hrow : Row1 w G e (enc y)) (h63 : xs.length + 1 ≤ 1000000000) (hbytes : bytes ≤ 100000)
    (h : ∀ A' c' w', OwnL w' base e size enc (.slice A' (xs ++ [y]).length c') (xs ++ [y]) → w.grownBy w' v.ownBlock → (∀ k, (Value.slice A' (xs ++ [y]).length c').ownBlock = some k → v.ownBlock = some k ∨ w.heap.size ≤ k) → K (a.put o.dst (.slice A' (xs ++ [y]).length c')) w') :
    if Region.wanted o (yielded ops a.tmps) = true then Oper.wp P o a w K Q else E := by
  have hw : Region.wanted o (yielded ops a.tmps) = true := by simp [Region.wanted, hgd]
  rw [if_pos hw]
  exact wp_push2 el henc h1 s x ho v xs hs hown hbase G c y hx hrow h63 hbytes h
end
/-- an owned row is as it was where its block is -/
theorem own_same {w w' : World} {base sz n : Nat} {e : TypeId} {v : Value} {cs : List Value} (h : w.ownsRow base e sz v n cs) (hb : ∀ k, v.ownBlock = some k → w'.heap[k]? = w.heap[k]?) : w'.ownsRow base e sz v n cs := by
  refine ⟨h.1, ?_⟩
  rcases h.2 with h | ⟨g, cap, cur, rfl, e2, e3, r⟩
  · exact .inl h
  · exact .inr ⟨g, cap, cur, rfl, e2, (hb g rfl).trans e3, r⟩
theorem OwnL.same {α : Type} {w w' : World} {base k : Nat} {e : TypeId} {enc : α → List Value} {v : Value} {xs : List α} (h : OwnL w base e k enc v xs) (hb : ∀ k, v.ownBlock = some k → w'.heap[k]? = w.heap[k]?) : OwnL w' base e k enc v xs := own_same h hb
theorem OwnL.only {α : Type} {w w' : World} {base k : Nat} {e : TypeId} {enc : α → List Value} {v : Value} {xs : List α} {G : Nat → Prop} (h : OwnL w base e k enc v xs) (hb : Only G w w') (hG : ∀ k, v.ownBlock = some k → ¬ G k) : OwnL w' base e k enc v xs :=
  h.same fun k hk => hb.block k (h.lt k hk).2 (hG k hk)
/-- the block of an owned row: its elements' type -/
theorem own_cells {w : World} {base sz n : Nat} {e : TypeId} {v : Value} {cs : List Value} (h : w.ownsRow base e sz v n cs) {k : Nat} (hk : v.ownBlock = some k) : ∃ cur, w.heap[k]? = some (.cells cur e (0, 0)) := by
  rcases h.2 with ⟨rfl, _⟩ | ⟨g, cap, cur, rfl, _, hg, _⟩
  · cases hk
  · simp only [Value.ownBlock, Option.some.injEq] at hk
    subst hk
    exact ⟨cur, hg⟩
theorem OwnL.apart {α β : Type} {w : World} {base base' k k' : Nat} {e e' : TypeId} {enc : α → List Value} {enc' : β → List Value} {v v' : Value} {xs : List α} {ys : List β} (h : OwnL w base e k enc v xs) (h' : OwnL w base' e' k' enc' v' ys) (he : e ≠ e') {b : Nat} (hb : v.ownBlock = some b) : v'.ownBlock ≠ some b := fun hb' => by
  obtain ⟨c1, h1⟩ := own_cells h hb
  obtain ⟨c2, h2⟩ := own_cells h' hb'
  rw [h1] at h2
  injection h2 with h2
  injection h2 with _ h2
  exact he h2
theorem OwnL.apartRow {α : Type} {w : World} {base k g : Nat} {e t : TypeId} {enc : α → List Value} {v : Value} {xs : List α} {cs : List Value} (h : OwnL w base e k enc v xs) (h' : Row1 w g t cs) (he : e ≠ t) : v.ownBlock ≠ some g := fun hb => by
  obtain ⟨c1, h1⟩ := own_cells h hb
  have h2 := h1.symm.trans h'
  injection h2 with h2
  injection h2 with _ h2
  exact he h2
end Go.Proofs.YtojoefcfimmipaaGreat
namespace Go.Proofs.YtojoefcfimmipaaGreat
set_option linter.unusedSimpArgs false
set_option linter.unusedVariables false
open Go.RowKit
/-- blocks; what was written since the last flush; how many writes and flushes are left (below 0: no end); power lost -/
structure DiskD where
  blocks : List ByteArray
  late : List (Nat × ByteArray)
  left : Int
  dead : Bool
def zeroB : ByteArray := ⟨Array.replicate 256 0⟩
theorem zeroB_size : zeroB.size = 256 := by simp [zeroB, ByteArray.size]
def encS (s : ByteArray) : List Value := [.string s]
def encP (p : Nat × ByteArray) : List Value := [.int .i64 p.1, .string p.2]
theorem encS_len (s : ByteArray) : (encS s).length = 1 := rfl
theorem encS_one (s : ByteArray) : ∀ u ∈ encS s, u.oneCell' = true := by
  intro u hu
  simp only [encS, List.mem_cons, List.not_mem_nil, or_false] at hu
  rcases hu with rfl
  rfl
theorem encP_len (p : Nat × ByteArray) : (encP p).length = 2 := rfl
theorem encP_one (p : Nat × ByteArray) : ∀ u ∈ encP p, u.oneCell' = true := by
  intro u hu
  simp only [encP, List.mem_cons, List.not_mem_nil, or_false] at hu
  rcases hu with rfl | rfl <;> rfl
structure DiskWf (D : DiskD) : Prop where
  one : 1 ≤ D.blocks.length
  many : D.blocks.length ≤ 2048
  size : ∀ b ∈ D.blocks, b.size = 256
  late : ∀ p ∈ D.late, p.1 < D.blocks.length ∧ p.2.size = 256
  fits : D.left ≤ 9223372036854775807
/-- a disk in memory: at a block, its parts in blocks of 'F' -/
structure DiskAs (w : World) (g : Nat) (F : Nat → Prop) (D : DiskD) (bv lv : Value) : Prop where
  row : Row1 w g 222 [bv, lv, .int .i64 D.left, .bool D.dead, .string zeroB]
  blocks : OwnL w 0 9 1 encS bv D.blocks
  late : OwnL w 0 262 2 encP lv D.late
  fg : F g
  fb : ∀ b, bv.ownBlock = some b → F b
  fl : ∀ b, lv.ownBlock = some b → F b
  wf : DiskWf D
def DiskAt (w : World) (g : Nat) (F : Nat → Prop) (D : DiskD) : Prop := ∃ bv lv, DiskAs w g F D bv lv
section
variable {w w' : World} {g : Nat} {F F' G : Nat → Prop} {D : DiskD} {bv lv : Value}
theorem DiskAs.only (h : DiskAs w g F D bv lv) (hb : Only G w w') (hG : ∀ i, F i → ¬ G i) : DiskAs w' g F D bv lv :=
  ⟨hb.row h.row (hG g h.fg), h.blocks.only hb (fun k hk => hG k (h.fb k hk)), h.late.only hb (fun k hk => hG k (h.fl k hk)), h.fg, h.fb, h.fl, h.wf⟩
theorem DiskAs.ext (h : DiskAs w g F D bv lv) (hb : Ext w w') : DiskAs w' g F D bv lv := h.only (G := fun _ => False) (Only.of hb) (fun _ _ q => q)
theorem DiskAs.mono (h : DiskAs w g F D bv lv) (hF : ∀ i, F i → F' i) : DiskAs w g F' D bv lv := ⟨h.row, h.blocks, h.late, hF _ h.fg, fun b hb => hF b (h.fb b hb), fun b hb => hF b (h.fl b hb), h.wf⟩
theorem DiskAt.only (h : DiskAt w g F D) (hb : Only G w w') (hG : ∀ i, F i → ¬ G i) : DiskAt w' g F D := let ⟨_, _, h⟩ := h; ⟨_, _, h.only hb hG⟩
theorem DiskAt.ext (h : DiskAt w g F D) (hb : Ext w w') : DiskAt w' g F D := let ⟨_, _, h⟩ := h; ⟨_, _, h.ext hb⟩
theorem DiskAt.mono (h : DiskAt w g F D) (hF : ∀ i, F i → F' i) : DiskAt w g F' D := let ⟨_, _, h⟩ := h; ⟨_, _, h.mono hF⟩
theorem DiskAt.wf (h : DiskAt w g F D) : DiskWf D := let ⟨_, _, h⟩ := h; h.wf
theorem DiskAt.lt (h : DiskAt w g F D) : g < w.heap.size := let ⟨_, _, h⟩ := h; h.row.lt
theorem DiskAt.fg (h : DiskAt w g F D) : F g := let ⟨_, _, h⟩ := h; h.fg
end
/-- what a call may turn: blocks of 'F'; what belongs to it behind: blocks of 'F', or new ones -/
structure Keeps (F F' : Nat → Prop) (w w' : World) : Prop where
  only : Only F w w'
  new : ∀ i, F' i → F i ∨ w.heap.size ≤ i
section
variable {F F' F'' : Nat → Prop} {w w' w'' : World}
theorem Keeps.refl : Keeps F F w w := ⟨Only.refl, fun _ h => .inl h⟩
theorem Keeps.of (h : Ext w w') : Keeps F F w w' := ⟨Only.of h, fun _ h => .inl h⟩
theorem Keeps.trans (h : Keeps F F' w w') (k : Keeps F' F'' w' w'') : Keeps F F'' w w'' :=
  ⟨h.only.trans k.only h.new, fun i q => by
    rcases k.new i q with q | q
    · exact h.new i q
    · exact .inr (Nat.le_trans h.only.size q)⟩
theorem Keeps.ext (h : Keeps F F' w w') (k : Ext w' w'') : Keeps F F' w w'' := ⟨h.only.ext k, h.new⟩
/-- what did not belong to it still does not -/
theorem Keeps.out (h : Keeps F F' w w') {i : Nat} (hi : i < w.heap.size) (hn : ¬ F i) : ¬ F' i := fun q => by
  rcases h.new i q with q | q
  · exact hn q
  · omega
end
/-! what a disk answers -/
def readyD (D : DiskD) (n : Int) : Int := if D.dead = true then 11 else if n < 0 ∨ (D.blocks.length : Int) ≤ n then 10 else 0
def useD (D : DiskD) : DiskD × Int := if D.left = 0 then ({ D with dead := true }, 11) else if 0 < D.left then ({ D with left := D.left - 1 }, 0) else (D, 0)
/-- a block, as it would be if all that was written were kept -/
def lastW (n : Nat) (late : List (Nat × ByteArray)) (s : ByteArray) : ByteArray := late.foldl (fun s p => if p.1 = n then p.2 else s) s
def blockD (D : DiskD) (n : Nat) : ByteArray := lastW n D.late (D.blocks[n]?.getD zeroB)
def padB (s : ByteArray) : ByteArray := s ++ zeroB.extract s.size 256
def writeD (D : DiskD) (n : Int) (s : ByteArray) : DiskD × Int :=
  if readyD D n ≠ 0 then (D, readyD D n) else if 256 < s.size then (D, 21) else if (useD D).2 ≠ 0 then useD D else ({ (useD D).1 with late := (useD D).1.late ++ [(n.toNat, padB s)] }, 0)
/-- what was written, laid where it belongs -/
def layB (late : List (Nat × ByteArray)) (blocks : List ByteArray) : List ByteArray := late.foldl (fun b p => b.set p.1 p.2) blocks
def flushD (D : DiskD) : DiskD × Int :=
  if readyD D 0 ≠ 0 then (D, readyD D 0) else if (useD D).2 ≠ 0 then useD D else ({ (useD D).1 with blocks := layB D.late D.blocks, late := [] }, 0)
end Go.Proofs.YtojoefcfimmipaaGreat
namespace Go.Proofs.YtojoefcfimmipaaGreat
set_option linter.unusedSimpArgs false
set_option linter.unusedVariables false
open Go.RowKit
theorem eqlNil0 {P : Program} (w : World) (t e : TypeId) (a : Option Addr) (l c : Nat) (h : P.underlying t = some (.slice e)) : (binOp .eql t (.slice a l c) (.slice none 0 0)).run P w = .ok (.bool a.isNone) w := by
  simp only [binOp]
  simp [run_equal_slice_nil w t e a l c h]
theorem eqlNil {P : Program} (w : World) (t e : TypeId) (a : Addr) (l c : Nat) (h : P.underlying t = some (.slice e)) : (binOp .eql t (.slice (some a) l c) (.slice none 0 0)).run P w = .ok (.bool false) w := eqlNil0 w t e (some a) l c h
/-- a text of these bytes -/
def bts (l : List UInt8) : ByteArray := ⟨l.toArray⟩
theorem bts_size (l : List UInt8) : (bts l).size = l.length := by simp [bts, ByteArray.size]
theorem bts_data (l : List UInt8) : (bts l).data.toList = l := by simp [bts]
theorem bts_of (s : ByteArray) : bts s.data.toList = s := by simp [bts]
theorem bts_app (a b : List UInt8) : bts a ++ bts b = bts (a ++ b) := by
  rw [ByteArray.ext_iff]
  simp [bts]
theorem bts_rep (n : Nat) : bts (List.replicate n 0) = ⟨Array.replicate n 0⟩ := by simp [bts]
theorem bts_zero : bts (List.replicate 256 0) = zeroB := bts_rep 256
theorem bts_nil : bts [] = ByteArray.empty := rfl
def encU (b : UInt8) : List Value := [.int .u8 b.toNat]
theorem encU_len (b : UInt8) : (encU b).length = 1 := rfl
theorem encU_one (b : UInt8) : ∀ u ∈ encU b, u.oneCell' = true := by
  intro u hu
  simp only [encU, List.mem_cons, List.not_mem_nil, or_false] at hu
  rcases hu with rfl
  rfl
theorem Tryz.elemU8 : (Tryz.prog.info? 5).map (fun i => (i.zero, i.size, i.bytes)) = some (some (.int .u8 0), 1, 1) := by kernel_rfl
abbrev OwnB (w : World) (base : Nat) (v : Value) (l : List UInt8) : Prop := OwnL w base 5 1 encU v l
theorem flatU (l : List UInt8) (j : Nat) (hj : j < l.length) : (l.flatMap encU)[j]? = some (.int .u8 (l[j].toNat : Int)) := by
  have := flat_at encU 1 encU_len l j _ (List.getElem?_eq_getElem hj) 0 _ rfl
  simpa using this
set_option maxRecDepth 100000 in
/-- bytes turned to a text -/
theorem OwnB.text {w : World} {base : Nat} {v : Value} {l : List UInt8} (h : OwnB w base v l) : (convert 126 9 v).run Tryz.prog w = .ok (.string (bts l)) w := by
  have h' : w.ownsRow base 5 1 v l.length (l.flatMap encU) := h
  obtain ⟨A, c, rfl, _, _, hx⟩ := own_form h'
  by_cases h0 : l.length = 0
  · obtain rfl : l = [] := List.eq_nil_of_length_eq_zero h0
    rcases h'.2 with ⟨he, _⟩ | ⟨g, cap, cur, he, _⟩
    · injection he with e1 e2 e3
      subst e1
      rw [bts_nil]
      exact run_convert_bytes_nil (P := Tryz.prog) w 126 5 Tryz.underlying126 Tryz.underlying5 0 c 9 Tryz.underlying9
    · injection he with e1 e2 e3
      subst e1
      exact run_convert_bytes_back (P := Tryz.prog) w 126 9 5 ⟨g, 0, none⟩ c [] Tryz.underlying126 Tryz.underlying5 Tryz.underlying9 (fun j hj => absurd hj (by simp))
  · obtain ⟨g, rfl, _, _, _, hc⟩ := hx (by omega)
    exact run_convert_bytes_back (P := Tryz.prog) w 126 9 5 ⟨g, 0, none⟩ c l Tryz.underlying126 Tryz.underlying5 Tryz.underlying9 (fun j hj => by rw [Addr.add_lit, Nat.zero_add]; exact hc j _ (flatU l j hj))
theorem made_U (n : Nat) : (madeCells (Value.int .u8 0).cells (n * 1)).toList = (List.replicate n (0 : UInt8)).flatMap encU := by
  apply List.ext_getElem?
  intro j
  rw [Nat.mul_one]
  by_cases hj : j < n
  · rw [flatU _ j (by simpa using hj)]
    have e : j % 1 = 0 := Nat.mod_one j
    simp [madeCells, Value.cells, hj, e]
  · rw [List.getElem?_eq_none (by simp [madeCells, Value.cells]; omega), List.getElem?_eq_none (by rw [flat_len encU 1 encU_len]; simp; omega)]
/-- 'make([]byte, n)' -/
theorem wpList_makeB (w : World) {ops : Array Oper} {rest : List Oper} {o : Oper} {a : Act} {Q : Exit → Act → World → Prop} (hg : o.guard = none) (l c : Operand) (hop : o.op = Op.makeSlice 126 l c)
    {L C : Int} (n : Nat) (hl : a.eval l = .int .i64 L) (hc : a.eval c = .int .i64 C) (hL : L = (n : Int)) (hC : C = (n : Int)) (hn : n ≤ 1000000000)
    (hK : ∀ w', OwnB w' w.heap.size (.slice (some ⟨w.heap.size, 0, none⟩) n n) (List.replicate n 0) → Ext w w' → wpList Tryz.prog ops Q rest (a.put o.dst (.slice (some ⟨w.heap.size, 0, none⟩) n n)) w') :
    wpList Tryz.prog ops Q (o :: rest) a w := by
  obtain ⟨i, hi, hz, hs, hb⟩ := info_parts Tryz.elemU8
  refine wpList_make_full w hg l c 126 hop w.heap.size 5 i (.int .u8 0) 1 Tryz.underlying126 hi hz hs .i64 .i64 L C n hl hc hL hC (by rw [hb]; omega) (by simp [maxLen]; omega) (Nat.le_refl _) (fun w' h1 h2 => hK w' ?_ ⟨h2.os, h2.tape, h2.output, h2.size, fun k hk => h2.block k hk (by simp)⟩)
  rw [made_U] at h1
  unfold OwnB OwnL
  rw [List.length_replicate]
  exact h1
/-- 'make([]byte, 0, n)' -/
theorem wpList_make0 (w : World) {ops : Array Oper} {rest : List Oper} {o : Oper} {a : Act} {Q : Exit → Act → World → Prop} (hg : o.guard = none) (l c : Operand) (hop : o.op = Op.makeSlice 126 l c)
    {C : Int} (n : Nat) (hl : a.eval l = .int .i64 0) (hc : a.eval c = .int .i64 C) (hC : C = (n : Int)) (hn : n ≤ 1000000000)
    (hK : ∀ w', OwnB w' w.heap.size (.slice (some ⟨w.heap.size, 0, none⟩) 0 n) [] → Ext w w' → wpList Tryz.prog ops Q rest (a.put o.dst (.slice (some ⟨w.heap.size, 0, none⟩) 0 n)) w') :
    wpList Tryz.prog ops Q (o :: rest) a w := by
  obtain ⟨i, hi, hz, hs, hb⟩ := info_parts Tryz.elemU8
  refine wpList_make_own w hg l c 126 hop w.heap.size 5 i (.int .u8 0) 1 Tryz.underlying126 hi hz hs .i64 .i64 C n hl hc hC (by rw [hb]; omega) (by simp [maxLen]; omega) (Nat.le_refl _) (fun w' h1 h2 => hK w' ?_ ⟨h2.os, h2.tape, h2.output, h2.size, fun k hk => h2.block k hk (by simp)⟩)
  unfold OwnB OwnL
  simpa using h1
set_option maxRecDepth 100000 in
set_option maxHeartbeats 1000000 in
theorem zeros_any (w : World) : Calls Tryz.prog 134 #[] w fun e w' => e = .returned (.string zeroB) ∧ Ext w w' := by
  go_enter Tryz.func134, Tryz.ntmps134
  go_wp2_with (at_make; refine wpList_makeB _ rfl _ _ rfl 256 rfl rfl rfl rfl (by omega) ?_; intro w1 h1 hb1)
  have hc := h1.text
  rw [bts_zero] at hc
  go_wp2_with fail; (try (rw [hc]; simp only [Result.andThen]; rw [Oper.upon_value]))
  go_wp2_with fail
  go_ret
  exact ⟨rfl, hb1⟩
end Go.Proofs.YtojoefcfimmipaaGreat
