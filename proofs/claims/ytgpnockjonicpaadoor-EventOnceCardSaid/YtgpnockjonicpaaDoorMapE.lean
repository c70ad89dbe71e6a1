/- Maps from ints to values of any make that the call itself has made: looked up, stored, deleted, ranged over. Conditions: keys that an int holds. -/
/- 'm[k], .. = v, ..': an entry made and stored, where the key is new; worlds that turn in some blocks alone. Conditions: keys that an int holds. -/
import Derived.Test.YtgpnockjonicpaaDoorBase
import Derived.Maps.OwnOps
import Derived.Maps.OwnSet
import Derived.Maps.RangeWalk
import Derived.Maps.Views
namespace Go.Proofs.YtgpnockjonicpaaDoor
set_option linter.unusedSimpArgs false
set_option linter.unusedVariables false
open Go.RowKit Go.Maps

/-- every value reads as itself -/
def Rv (v : Value) : Option (DataW Value × List MemPlace) := some (.held v, [])
/-- a datum that reads as a function -/
structure MapD {α : Type} (enc : α → Value) (f : Int → Option α) (D : DataW Value) : Prop where
  tidy : Tidy D
  has : ∀ x, Maps.has D (.int .i64 x) = (f x).isSome
  hit : ∀ x a, f x = some a → ∀ z, D.atKey (.int .i64 x) z = .held (enc a)
def updI {α : Type} (f : Int → Option α) (x : Int) (v : Option α) : Int → Option α := fun y => if y = x then v else f y
theorem updI_same {α : Type} (f : Int → Option α) (x : Int) (v : Option α) : updI f x v x = v := if_pos rfl
theorem updI_other {α : Type} (f : Int → Option α) {x y : Int} (v : Option α) (h : y ≠ x) : updI f x v y = f y := if_neg h
theorem lit_ne {a b : Int} (h : a ≠ b) : (Lit.int .i64 a) ≠ Lit.int .i64 b := fun e => h (by injection e)
section
variable {α : Type} {enc : α → Value} {f : Int → Option α} {D : DataW Value}
theorem MapD.start : MapD enc (fun _ => none) (.map []) := ⟨tidy_empty, fun _ => rfl, fun _ _ h => by cases h⟩
theorem MapD.put (h : MapD enc f D) (x : Int) (a : α) : MapD enc (updI f x (some a)) (D.put (.int .i64 x) (.held (enc a))) := by
  have hk : WideAt.IsKeyLit (Lit.int .i64 x) := trivial
  refine ⟨h.tidy.put hk _, fun y => ?_, fun y c hy z => ?_⟩
  · by_cases e : y = x
    · subst e; rw [updI_same, has_put_same h.tidy.isMap hk]; rfl
    · rw [updI_other _ _ e, has_put_other (lit_ne e), h.has]
  · by_cases e : y = x
    · subst e
      rw [updI_same] at hy
      injection hy with hy
      subst hy
      exact atKey_put_same h.tidy.isMap hk _ _
    · rw [updI_other _ _ e] at hy
      rw [atKey_put_other (lit_ne e)]
      exact h.hit y c hy z
theorem MapD.del (h : MapD enc f D) (x : Int) : MapD enc (updI f x none) (D.del (.int .i64 x)) := by
  refine ⟨h.tidy.del _, fun y => ?_, fun y c hy z => ?_⟩
  · by_cases e : y = x
    · subst e; rw [updI_same, has_del_same]; rfl
    · rw [updI_other _ _ e, has_del_other (lit_ne e), h.has]
  · by_cases e : y = x
    · subst e; rw [updI_same] at hy; cases hy
    · rw [updI_other _ _ e] at hy
      rw [atKey_del_other (lit_ne e)]
      exact h.hit y c hy z
theorem MapD.miss (h : MapD enc f D) {x : Int} (hx : f x = none) (z : DataW Value) : D.atKey (.int .i64 x) z = z := atKey_of_not_has (by rw [h.has, hx]; rfl) z
theorem MapD.value (h : MapD enc f D) {x : Int} {v z : Value} {ps : List MemPlace} (hv : Rv v = some (D.atKey (.int .i64 x) (.held z), ps)) : v = ((f x).map enc).getD z := by
  unfold Rv at hv
  injection hv with hv
  injection hv with hv _
  cases hf : f x with
  | none => rw [h.miss hf] at hv; injection hv with hv
  | some a => rw [h.hit x a hf] at hv; injection hv with hv
end

/-- block 'b' is a map of at most 'n' entries that reads as the function 'f' -/
def MapI {α : Type} (w : World) (k : TypeId) (b n : Nat) (enc : α → Value) (f : Int → Option α) : Prop := ∃ D : DataW Value, w.ownsMap Tryd.prog k Rv b n D ∧ MapD enc f D
section
variable {α : Type} {enc : α → Value} {f : Int → Option α} {w w' : World} {k t e : TypeId} {b n : Nat}
theorem MapI.made (w : World) (k : TypeId) (enc : α → Value) : MapI (w.alloc (.map #[] 0)) k w.heap.size 0 enc (fun _ => none) := ⟨_, World.ownsMap_made _ _ _ _, MapD.start⟩
theorem MapI.lt (h : MapI w k b n enc f) : b < w.heap.size := let ⟨_, h, _⟩ := h; h.lt
theorem MapI.kept {row : Option Nat} (h : MapI w k b n enc f) (hg : w.grownBy w' row) (hne : some b ≠ row) : MapI w' k b n enc f := let ⟨D, h1, h2⟩ := h; ⟨D, h1.kept hg hne, h2⟩
theorem MapI.ext (h : MapI w k b n enc f) (hb : Ext w w') : MapI w' k b n enc f := h.kept (row := none) ⟨hb.os, hb.tape, hb.output, hb.size, fun k hk _ => hb.block k hk⟩ (by simp)
theorem MapI.mono {m : Nat} (h : MapI w k b n enc f) (hm : n ≤ m) : MapI w k b m enc f := let ⟨D, h1, h2⟩ := h; ⟨D, h1.mono hm, h2⟩
/-- what is found: with 'ok' -/
theorem MapI.look (h : MapI w k b n enc f) (hk : Tryd.prog.underlying k = some (.int .i64)) (ht : Tryd.prog.underlying t = some (.map k e)) {z : Value} (hz : (zeroValue e).run Tryd.prog w = .ok z w) {x : Int} (hx : (Lit.int .i64 x).wf = true) :
    (Instr.lookup t (.map (some b)) (.int .i64 x) true).run Tryd.prog w = .ok (.tuple #[((f x).map enc).getD z, .bool (f x).isSome]) w := by
  obtain ⟨D, h1, h2⟩ := h
  obtain ⟨v, ps, hr, hv⟩ := h1.look_ok (int_keyed hk) ht hz (zd := .held z) (zp := []) rfl (keyOf_int_mk hk hx)
  have hv : v = ((f x).map enc).getD z := h2.value hv
  subst hv
  have hb := h2.has x
  rw [hb] at hr
  exact hr
theorem MapI.look0 (h : MapI w k b n enc f) (hk : Tryd.prog.underlying k = some (.int .i64)) (ht : Tryd.prog.underlying t = some (.map k e)) {z : Value} (hz : (zeroValue e).run Tryd.prog w = .ok z w) {x : Int} (hx : (Lit.int .i64 x).wf = true) :
    (Instr.lookup t (.map (some b)) (.int .i64 x) false).run Tryd.prog w = .ok (((f x).map enc).getD z) w := by
  obtain ⟨D, h1, h2⟩ := h
  obtain ⟨v, ps, hr, hv⟩ := h1.lookup (int_keyed hk) ht hz (zd := .held z) (zp := []) rfl (keyOf_int_mk hk hx)
  have hv : v = ((f x).map enc).getD z := h2.value hv
  subst hv
  exact hr
theorem MapI.store (h : MapI w k b n enc f) (hk : Tryd.prog.underlying k = some (.int .i64)) (ht : Tryd.prog.underlying t = some (.map k e)) (hn : n ≤ 1000000000) {x : Int} (hx : (Lit.int .i64 x).wf = true) (a : α) {V : Value} (hV : V = enc a) :
    ∃ w', (Instr.mapUpdate t (.map (some b)) (.int .i64 x) V).run Tryd.prog w = .ok () w' ∧ MapI w' k b (n + 1) enc (updI f x (some a)) ∧ w.mapTurned w' b := by
  obtain ⟨D, h1, h2⟩ := h
  subst hV
  obtain ⟨w', hr, h3, h4⟩ := h1.store (int_keyed hk) ht (by simp [maxLen]; omega) (keyOf_int_mk hk hx) (d := .held (enc a)) (ps := []) rfl
  exact ⟨w', hr, ⟨_, h3, h2.put x a⟩, h4⟩
theorem MapI.drop (h : MapI w k b n enc f) (hk : Tryd.prog.underlying k = some (.int .i64)) (ht : Tryd.prog.underlying t = some (.map k e)) {x : Int} (hx : (Lit.int .i64 x).wf = true) (ty : TypeId) :
    ∃ w', (Builtin.delete_ #[t, k] ty #[.map (some b), .int .i64 x]).run Tryd.prog w = .ok (.tuple #[]) w' ∧ MapI w' k b n enc (updI f x none) ∧ w.mapTurned w' b := by
  obtain ⟨D, h1, h2⟩ := h
  obtain ⟨w', hr, h3, h4⟩ := h1.drop (int_keyed hk) ht (keyOf_int_mk hk hx) ty
  exact ⟨w', hr, ⟨_, h3, h2.del x⟩, h4⟩
end

/-- a range over such a map under way: 'left' tells what is still to come -/
def RangeI {α : Type} (w : World) (k : TypeId) (b r n : Nat) (enc : α → Value) (f : Int → Option α) (left : Int → Bool) (cnt : Nat) : Prop :=
  ∃ (D : DataW Value) (l : Lit → Bool), w.ranges Tryd.prog k Rv b r n D l cnt ∧ MapD enc f D ∧ ∀ x, l (.int .i64 x) = left x
section
variable {α : Type} {enc : α → Value} {f : Int → Option α} {w w' : World} {k t e : TypeId} {b r n cnt : Nat} {left : Int → Bool}
theorem RangeI.left_eq (h : RangeI w k b r n enc f left cnt) : w.rangeLeft b r = cnt := let ⟨_, _, h, _⟩ := h; h.left_eq
theorem RangeI.lt (h : RangeI w k b r n enc f left cnt) : r < w.heap.size := let ⟨_, _, h, _⟩ := h; h.lt
theorem RangeI.kept {row : Option Nat} (h : RangeI w k b r n enc f left cnt) (hg : w.grownBy w' row) (hb' : some b ≠ row) (hr' : some r ≠ row) : RangeI w' k b r n enc f left cnt :=
  let ⟨D, l, h1, h2, h3⟩ := h; ⟨D, l, h1.kept hg hb' hr', h2, h3⟩
theorem RangeI.ext (h : RangeI w k b r n enc f left cnt) (hb : Ext w w') : RangeI w' k b r n enc f left cnt := h.kept (row := none) ⟨hb.os, hb.tape, hb.output, hb.size, fun k hk _ => hb.block k hk⟩ (by simp) (by simp)
theorem RangeI.owns (h : RangeI w k b r n enc f left cnt) : MapI w k b n enc f := let ⟨D, _, h1, h2, _⟩ := h; ⟨D, h1.owns, h2⟩
variable {ops : Array Oper} {rest : List Oper} {o : Oper} {a : Act} {Q : Exit → Act → World → Prop}
theorem wpList_range_I (w : World) (hg : o.guard = none) (m : Operand) (t : TypeId) (hop : o.op = Op.range t m) (k e : TypeId) (hk : Tryd.prog.underlying k = some (.int .i64)) (ht : Tryd.prog.underlying t = some (.map k e)) (b n : Nat)
    (hm : a.eval m = .map (some b)) (h : MapI w k b n enc f)
    (hK : ∀ w' cnt, cnt ≤ n → RangeI w' k b w.heap.size n enc f (fun x => (f x).isSome) cnt → w.grownBy w' none → w'.heap.size = w.heap.size + 1 → wpList Tryd.prog ops Q rest (a.put o.dst (.pointer (some ⟨w.heap.size, 0, none⟩))) w') :
    wpList Tryd.prog ops Q (o :: rest) a w := by
  obtain ⟨D, h1, h2⟩ := h
  exact wpList_range_own w hg m t hop k e (int_keyed hk) ht Rv b n D hm h1 (fun w' h3 h4 h5 => hK w' _ h1.size_le ⟨D, _, h3, h2, h2.has⟩ h4 h5)
theorem wpList_next_I (w : World) (hg : o.guard = none) (it : Operand) (hop : o.op = Op.next it false) (k : TypeId) (hk : Tryd.prog.underlying k = some (.int .i64)) (b r n cnt : Nat)
    (hit : a.eval it = .pointer (some ⟨r, 0, none⟩)) (h : RangeI w k b r n enc f left cnt)
    (hDone : cnt = 0 → (∀ x, left x = false) → wpList Tryd.prog ops Q rest (a.put o.dst (.tuple #[.bool false])) w)
    (hMore : ∀ (x : Int) (c : α) (w' : World) (cnt' : Nat), (Lit.int .i64 x).wf = true → left x = true → f x = some c → RangeI w' k b r n enc f (fun y => left y && !decide (y = x)) cnt' → cnt' < cnt →
      w.grownBy w' (some r) → w'.heap.size = w.heap.size → (Instr.entry (.pointer (some ⟨r, 0, none⟩))).run Tryd.prog w' = .ok (.tuple #[.int .i64 x, enc c]) w' → wpList Tryd.prog ops Q rest (a.put o.dst (.tuple #[.bool true, .int .i64 x, enc c])) w') :
    wpList Tryd.prog ops Q (o :: rest) a w := by
  obtain ⟨D, l, h1, h2, h3⟩ := h
  refine wpList_next_ranges w hg it hop k (int_keyed hk) Rv (Value.int .i64) (fun v : Value => v) (fun key kl hkey => by obtain ⟨x, rfl, _⟩ := Maps.keyOf_int_inv hk hkey; exact ⟨x, rfl⟩) (fun v y _ => ⟨v, rfl⟩) b r n D l cnt hit h1
    (fun h0 hl => hDone h0 (fun x => by rw [← h3, hl])) (fun x c kl y w' cnt' hkey hlk hv hat hrg hlt hgr hsz hen => ?_)
  obtain ⟨x', ex, rfl, hwx⟩ := Maps.keyOf_int_inv hk hkey
  cases ex
  unfold Rv at hv
  injection hv with hv
  subst hv
  have hh := has_true_of_atKey hat
  rw [h2.has] at hh
  cases hf : f x with
  | none => rw [hf] at hh; cases hh
  | some c' =>
    have h4 := h2.hit x c' hf (.held c)
    rw [hat] at h4
    injection h4 with h4
    subst h4
    refine hMore x c' w' cnt' hwx (by rw [← h3]; exact hlk) hf ⟨D, _, hrg, h2, fun y => ?_⟩ hlt hgr hsz hen
    dsimp only
    rw [h3]
    by_cases e : y = x
    · subst e; simp [Lit.sameKey]
    · rw [sameKey_ne (lit_ne e)]; simp [e]
end
theorem mapTurned_but {w w' : World} {b : Nat} (h : w.mapTurned w' b) : But b w w' := h.grown
end Go.Proofs.YtgpnockjonicpaaDoor
namespace Go.Proofs.YtgpnockjonicpaaDoor
set_option linter.unusedSimpArgs false
set_option linter.unusedVariables false
open Go.RowKit Go.Maps

theorem ownsMap_block {w w' : World} {P : Program} {k : TypeId} {R : Value → Option (DataW Value × List MemPlace)} {b n : Nat} {D : DataW Value} (h : w.ownsMap P k R b n D) (hb : w'.heap[b]? = w.heap[b]?) : w'.ownsMap P k R b n D := by
  obtain ⟨es, clock, h1, h2⟩ := h
  exact ⟨es, clock, hb.trans h1, h2⟩
theorem MapI.block {α : Type} {enc : α → Value} {f : Int → Option α} {w w' : World} {k : TypeId} {b n : Nat} (h : MapI w k b n enc f) (hb : w'.heap[b]? = w.heap[b]?) : MapI w' k b n enc f :=
  let ⟨D, h1, h2⟩ := h; ⟨D, ownsMap_block h1 hb, h2⟩
theorem but_setBlock {w : World} {b : Nat} {es : Array MapEntry} {clock : Nat} (hb : w.heap[b]? = some (.map es clock)) (o : Obj) : But b w (ChangeMaps.setBlock w b o) :=
  ⟨rfl, rfl, rfl, by simp [ChangeMaps.setBlock], fun i _ hne => ChangeMaps.heap_setBlock_other hb o (fun e => hne (by rw [e]))⟩
theorem findIdx_push (es : Array MapEntry) (clock : Nat) (h : ∀ x ∈ es.toList, x.born < clock) (e : MapEntry) (he : e.born = clock) : (es.push e).findIdx? (fun x => (x.born : Int) == (clock : Int)) = some es.size := by
  rw [Array.findIdx?_push]
  have h0 : es.findIdx? (fun x => (x.born : Int) == (clock : Int)) = none := by
    rw [Array.findIdx?_eq_none_iff]
    intro x hx
    have := h x (by simpa using hx)
    simp
    omega
  rw [h0]
  simp [he]
theorem MapI.entry {α : Type} {enc : α → Value} {f : Int → Option α} {w : World} {k t e : TypeId} {b n : Nat} (h : MapI w k b n enc f) (hk : Tryd.prog.underlying k = some (.int .i64)) (ht : Tryd.prog.underlying t = some (.map k e))
    {z : Value} (hz : (zeroValue e).run Tryd.prog w = .ok z w) (hn : n ≤ 1000000000) {x : Int} (hx : (Lit.int .i64 x).wf = true) (hf : f x = none) :
    ∃ (w1 : World) (s : Int), (Instr.mapEntry t (.map (some b)) (.int .i64 x)).run Tryd.prog w = .ok (.tuple #[z, .int .i64 s]) w1 ∧ But b w w1 ∧
      ∀ (W : World), W.heap[b]? = w1.heap[b]? → ∀ (a : α) (V : Value), V = enc a →
        ∃ w2, (Instr.entryStore t (.map (some b)) (.int .i64 s) V).run Tryd.prog W = .ok () w2 ∧ MapI w2 k b (n + 1) enc (updI f x (some a)) ∧ But b W w2 := by
  obtain ⟨D, h1, h2⟩ := h
  have K := int_keyed hk
  have hkey := keyOf_int_mk (P := Tryd.prog) hk hx
  have hown := h1
  obtain ⟨es, clock, hb, F, hs, hD⟩ := h1
  have hnone : ∀ y ∈ es.toList, y.key ≠ .int .i64 x := by
    rcases Maps.fit_look true K ht hz hb F hkey with ⟨_, q, _⟩ | ⟨e0, y, _, _, _, _, hat, _⟩
    · exact q
    · rw [← hD] at hat
      have := has_true_of_atKey hat
      rw [h2.has, hf] at this
      cases this
  rcases K.find w hkey es.toList F.keys with ⟨q1, _⟩ | ⟨j, e0, _, q2, q3⟩
  · refine ⟨ChangeMaps.setBlock w b (.map (es.push ⟨.int .i64 x, z, clock⟩) (clock + 1)), clock, ?_, but_setBlock hb _, fun W hW a V hV => ?_⟩
    · simp [Instr.mapEntry, run_underlying ht, MapKept.run_getObj_map hb, K.check w false hkey, q1, hz, MapKept.run_setObj_map _ hb, Result.andThen, ChangeMaps.setBlock, goInt]
    · rw [ChangeMaps.heap_setBlock_same hb] at hW
      subst hV
      obtain ⟨w', hr, h3, h4⟩ := hown.store K ht (by simp [maxLen]; omega) hkey (d := .held (enc a)) (ps := []) rfl
      have hr2 : (Instr.mapUpdate t (.map (some b)) (.int .i64 x) (enc a)).run Tryd.prog w = .ok () (ChangeMaps.setBlock w b (.map (es.push ⟨.int .i64 x, enc a, clock⟩) (clock + 1))) := by
        simp [Instr.mapUpdate, run_underlying ht, MapKept.run_getObj_map hb, K.check w false hkey, q1, MapKept.run_setObj_map _ hb, Result.andThen, ChangeMaps.setBlock]
      rw [hr2] at hr
      injection hr with _ hr
      subst hr
      have hm : ((es.push ⟨.int .i64 x, z, clock⟩).modify es.size fun e => { e with val := enc a }) = es.push ⟨.int .i64 x, enc a, clock⟩ := by
        apply Array.ext_getElem?
        intro i
        rw [Array.getElem?_modify]
        by_cases hi : es.size = i
        · subst hi; simp
        · have hi' : ¬ i = es.size := fun q => hi q.symm
          simp [hi, hi', Array.getElem?_push]
      refine ⟨ChangeMaps.setBlock W b (.map (es.push ⟨.int .i64 x, enc a, clock⟩) (clock + 1)), ?_, ⟨_, ownsMap_block h3 ?_, h2.put x a⟩, but_setBlock hW _⟩
      · have hfi := findIdx_push es clock F.stamped.1 ⟨.int .i64 x, z, clock⟩ rfl
        have hai : (asInt (.int .i64 (clock : Int))).run Tryd.prog W = .ok (clock : Int) W := by simp [asInt, asIntOf]
        simp only [Instr.entryStore, Sem.run_bind, MapKept.run_getObj_map hW, Result.andThen, hai, hfi, hm, MapKept.run_setObj_map _ hW, ChangeMaps.setBlock]
      · rw [ChangeMaps.heap_setBlock_same hW, ChangeMaps.heap_setBlock_same hb]
  · exact absurd q3 (hnone e0 (List.mem_of_getElem? q2))

/-- of the blocks that were there just those of 'F' may have turned -/
structure Only (F : Nat → Prop) (w w' : World) : Prop where
  os : w'.os = w.os
  tape : w'.tape = w.tape
  output : w'.output = w.output
  size : w.heap.size ≤ w'.heap.size
  block : ∀ i, i < w.heap.size → ¬ F i → w'.heap[i]? = w.heap[i]?
section
variable {F : Nat → Prop} {a w w' : World}
theorem Only.of (h : Ext a w) : Only F a w := ⟨h.os, h.tape, h.output, h.size, fun i hi _ => h.block i hi⟩
theorem Only.refl : Only F a a := ⟨rfl, rfl, rfl, Nat.le_refl _, fun _ _ _ => rfl⟩
theorem Only.but {b : Nat} (h : But b a w) (hb : F b ∨ a.heap.size ≤ b) : Only F a w := ⟨h.os, h.tape, h.output, h.size, fun i hi hn => h.block i hi (fun e => by
  injection e with e
  subst e
  rcases hb with hb | hb
  · exact hn hb
  · omega)⟩
theorem Only.trans {F' : Nat → Prop} (h : Only F a w) (k : Only F' w w') (hF : ∀ i, F' i → F i ∨ a.heap.size ≤ i) : Only F a w' :=
  ⟨k.os.trans h.os, k.tape.trans h.tape, k.output.trans h.output, Nat.le_trans h.size k.size, fun i hi hn => (k.block i (Nat.lt_of_lt_of_le hi h.size) (fun q => by
    rcases hF i q with q | q
    · exact hn q
    · omega)).trans (h.block i hi hn)⟩
theorem Only.trans' (h : Only F a w) (k : Only F w w') : Only F a w' := h.trans k (fun _ q => .inl q)
theorem Only.mono {F' : Nat → Prop} (h : Only F a w) (hF : ∀ i, F i → F' i ∨ a.heap.size ≤ i) : Only F' a w := ⟨h.os, h.tape, h.output, h.size, fun i hi hn => h.block i hi (fun q => by
  rcases hF i q with q | q
  · exact hn q
  · omega)⟩
theorem Only.ext (h : Only F a w) (k : Ext w w') : Only F a w' := h.trans' (Only.of k)
theorem Only.turn {b : Nat} (h : Only F a w) (k : But b w w') (hb : F b ∨ a.heap.size ≤ b) : Only F a w' := h.trans (F' := fun i => i = b) (Only.but k (.inl rfl)) (fun i q => by subst q; exact hb)
theorem Only.drewN (h : Only F a w) (n : Nat) : Only F a (w.drewN n) := ⟨h.os, h.tape, h.output, h.size, h.block⟩
theorem Only.drew (h : Only F a w) : Only F a w.drew := ⟨h.os, h.tape, h.output, h.size, h.block⟩
theorem Only.alloc (h : Only F a w) (o : Obj) : Only F a (w.alloc o) := h.ext (Ext.alloc _ _)
theorem Only.setCell (h : Only F a w) {p : Addr} (hp : F p.block ∨ a.heap.size ≤ p.block) (u : Value) : Only F a (w.setCell p u) :=
  h.turn (But.setCell But.refl (.inl rfl) u) hp
theorem Only.below {B : Nat} (h : Only F a w) (hB : ∀ i, F i → B ≤ i) (hs : B ≤ a.heap.size) : Below B a w :=
  ⟨h.os, h.tape, h.output, h.size, fun i hi => h.block i (by omega) (fun q => by have := hB i q; omega)⟩
theorem Only.toExt (h : Only F a w) (hB : ∀ i, F i → a.heap.size ≤ i) : Ext a w := h.below hB (Nat.le_refl _)
theorem Only.row {g : Nat} {t : TypeId} {cs : List Value} (h : Only F a w) (hr : Row1 a g t cs) (hg : ¬ F g) : Row1 w g t cs := hr.same (h.block g hr.lt hg)
theorem Only.cell (h : Only F a w) {b o : Nat} (hb : b < a.heap.size) (hn : ¬ F b) : w.cell? ⟨b, o, none⟩ = a.cell? ⟨b, o, none⟩ := World.cell?_of_block (h.block b hb hn)
theorem Only.map {α : Type} {enc : α → Value} {f : Int → Option α} {k : TypeId} {b n : Nat} (h : Only F a w) (hm : MapI a k b n enc f) (hb : ¬ F b) : MapI w k b n enc f := hm.block (h.block b hm.lt hb)
end
end Go.Proofs.YtgpnockjonicpaaDoor
