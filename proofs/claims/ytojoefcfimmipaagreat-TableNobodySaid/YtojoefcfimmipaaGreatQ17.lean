/- strings.Builder: WriteString, WriteByte, String, Len. Conditions: a builder in memory, lengths. -/
/- op.Encode: an operation as a record. Conditions: a result that an int holds. -/
import Derived.Test.YtojoefcfimmipaaGreatQ03
import Derived.Test.YtojoefcfimmipaaGreatQ07
import Derived.Test.YtojoefcfimmipaaGreatQ04
import Derived.Lib.Builder
import Derived.Lib.AppendStr
import Derived.Lib.UnsafeStr
import Derived.Laws.Externs
import Derived.Shelf.Strings.Builder1
import Derived.Shelf.Strings.BuilderF
import Derived.Shelf.Strings.BuilderK
import Derived.Test.YtojoefcfimmipaaGreatProg
import Derived.Test.YtojoefcfimmipaaGreatQ02
namespace Go.Proofs.YtojoefcfimmipaaGreat
set_option linter.unusedSimpArgs false
set_option linter.unusedVariables false
open Go.RowKit
theorem Tryz.sizeBuilder : (Tryz.prog.info? 128).map (·.size) = some 2 := by kernel_rfl
theorem Tryz.liesBuilder : liesAt Tryz.prog Tryz.prog.depth 128 (2 / Tryz.prog.cellsOf 128) 0 128 1 = true := by kernel_rfl
theorem Tryz.infoU8 : (Tryz.prog.info? 5).map (fun i => (i.zero, i.size, i.bytes)) = some (some (.int .u8 0), 1, 1) := by kernel_rfl
set_option maxHeartbeats 1000000 in
set_option maxRecDepth 100000 in
theorem copyCheck_used (b : Nat) (w : World) (h0 : w.cell? ⟨b, 0, none⟩ = some (.pointer (some ⟨b, 0, none⟩))) :
    Calls Tryz.prog 123 #[.pointer (some ⟨b, 0, none⟩)] w fun e w' => e = .returned (.tuple #[]) ∧ w' = w := by
  obtain ⟨j, hj, _⟩ := Option.map_eq_some_iff.1 Tryz.sizeBuilder
  go_enter Tryz.func123, Tryz.ntmps123
  go_wp2
  rw [Lib.run_neq_ptr_same w _ Tryz.underlying125 hj]
  go_wp2
  go_end0
  exact ⟨rfl, rfl⟩
set_option maxHeartbeats 1000000 in
set_option maxRecDepth 100000 in
theorem copyCheck_fresh (b : Nat) (w : World) (h0 : w.cell? ⟨b, 0, none⟩ = some (.pointer none)) (hsh : w.shape? b = some (128, 2)) (hfz : w.frozen? ⟨b, 0, none⟩ = false) :
    Calls Tryz.prog 123 #[.pointer (some ⟨b, 0, none⟩)] w fun e w' => e = .returned (.tuple #[]) ∧ w' = w.setCell ⟨b, 0, none⟩ (.pointer (some ⟨b, 0, none⟩)) := by
  obtain ⟨j, hj, hjs⟩ := Option.map_eq_some_iff.1 Tryz.sizeBuilder
  go_enter Tryz.func123, Tryz.ntmps123
  go_wp2_with fail
  rw [Lib.run_to_unsafe w ⟨b, 0, none⟩ Tryz.underlying125 Tryz.underlying257 hj (by rw [hjs]; decide) hsh (Nat.zero_lt_succ 1)]
  simp only [Result.andThen]
  rw [Oper.upon_value]
  go_wp2_with fail
  rw [run_callFunc_extern Tryz.func169 (by kernel_rfl) (by kernel_rfl) (by kernel_rfl) (e := Extern.AbiNoEscape.same) (by kernel_rfl)]
  rw [Lib.run_noEscape]
  simp only [Result.andThen]
  rw [Oper.upon_value]
  go_wp2_with fail
  rw [Lib.run_from_unsafe w ⟨b, 0, none⟩ Tryz.underlying257 Tryz.underlying125 hj hsh Tryz.liesBuilder]
  simp only [Result.andThen]
  rw [Oper.upon_value]
  go_wp2_with fail
  go_end0
  exact ⟨rfl, rfl⟩
theorem strCells_flat (s : ByteArray) : Lib.strCells s = s.data.toList.flatMap encU := by
  unfold Lib.strCells
  rw [List.flatMap_def]
  induction s.data.toList with
  | nil => rfl
  | cons c r ih => simp [encU] at ih ⊢; exact ih
theorem byteCells_flat (l : List UInt8) : Lib.byteCells l = l.flatMap encU := by
  unfold Lib.byteCells
  induction l with
  | nil => rfl
  | cons c r ih => simp [encU] at ih ⊢; exact ih
section
variable {P : Program} (w : World)
theorem appendS_where (base : Nat) (t u ty e : TypeId) (i : TypeInfo) (ht : P.underlying t = some (.slice e)) (hu : P.underlying u = some .string) (hi : P.info? e = some i) (hz : i.zero = some (.int .u8 0))
    (hsize : i.size = 1) (hby : i.bytes = 1) (v : Value) (n : Nat) (xs : List Value) (hown : w.ownsRow base e 1 v n xs) (s : ByteArray)
    (h63 : n + s.size ≤ maxLen) (hbytes : n + s.size ≤ 140737488355328) (hbase : base ≤ w.heap.size) :
    ∃ v' w', (Builtin.append_ #[t, u] ty #[v, .string s]).run P w = .ok v' w' ∧ w'.ownsRow base e 1 v' (n + s.size) (xs ++ Lib.strCells s) ∧ w.grownBy w' v.ownBlock ∧ (∀ k, v'.ownBlock = some k → v.ownBlock = some k ∨ w.heap.size ≤ k) := by
  obtain ⟨v', w', hr, h2, h3, h4⟩ := Lib.run_append_own_string (P := P) w base t u ty e i ht hu hi hz hsize hby v n xs hown s h63 hbytes hbase
  refine ⟨v', w', hr, h2, h3, fun k hk => ?_⟩
  have hxl : xs.length = n := by simpa using hown.1
  have hsmall : n + s.size ≤ 9223372036854775807 := by simp only [maxLen] at h63; omega
  rcases hown.2 with ⟨rfl, rfl⟩ | ⟨g, cap, cur, rfl, hbg, hg, hnc, hcm, hcs, htake⟩
  · by_cases hm : s.size = 0
    · have := h4.2 ⟨rfl, hm⟩
      subst this
      exact .inl hk
    · have hr2 := run_append_nil_string (P := P) w t u ty e i (.int .u8 0) ht hu hi hz s (by omega) (by omega) (by rw [hby]; omega)
      rw [hr] at hr2
      injection hr2 with q1 q2
      subst q1
      simp only [Value.ownBlock, Option.some.injEq] at hk
      exact .inr (by omega)
  · by_cases hroom : n + s.size ≤ cap
    · have hcs' : cur.size = cap := by simpa using hcs
      have hr2 := Lib.run_append_room_string (P := P) w t u ty e i ht hu hi hsize g n cap cur hg s hroom (by omega)
      rw [hr] at hr2
      injection hr2 with q1 q2
      subst q1
      exact .inl hk
    · have holds : ∀ j u, xs[j]? = some u → w.cell? ((⟨g, 0, none⟩ : Addr).add j) = some u := hown.cells (g := g) rfl
      have hr2 := Lib.run_append_grow_string (P := P) w t u ty e i (.int .u8 0) ht hu hi hz ⟨g, 0, none⟩ n cap xs (by rw [hsize]; simpa using hxl) holds s (by omega) (by omega) (by rw [hby]; exact growslice_fits (by omega) (by omega))
      rw [hr] at hr2
      injection hr2 with q1 q2
      subst q1
      simp only [Value.ownBlock, Option.some.injEq] at hk
      exact .inr (by omega)
end
/-- append of a text's bytes to bytes that the call owns -/
theorem wpList_pushS {ops : Array Oper} {rest : List Oper} {o : Oper} {a : Act} {w : World} {Q : Exit → Act → World → Prop} (hgd : o.guard = none) (s x : Operand)
    (ho : o.op = .call { callee := .builtin .append, args := #[s, x], argTypes := #[126, 9] })
    {base : Nat} (v : Value) (l : List UInt8) (hs : a.eval s = v) (hown : OwnB w base v l) (hbase : base ≤ w.heap.size) (d : ByteArray) (hx : a.eval x = .string d) (h63 : l.length + d.size ≤ 1000000000)
    (h : ∀ A' c' n' w', n' = (l ++ d.data.toList).length → OwnB w' base (.slice A' n' c') (l ++ d.data.toList) → w.grownBy w' v.ownBlock → (∀ k, (Value.slice A' n' c').ownBlock = some k → v.ownBlock = some k ∨ w.heap.size ≤ k) → wpList Tryz.prog ops Q rest (a.put o.dst (.slice A' n' c')) w') : wpList Tryz.prog ops Q (o :: rest) a w := by
  refine wpList_plain hgd fun K hK => ?_
  obtain ⟨i0, hi, hz0, hz1, hz2⟩ := info_parts Tryz.infoU8
  have hown' : w.ownsRow base 5 1 v l.length (l.flatMap encU) := hown
  obtain ⟨v', w', hr, h2, h3, h4⟩ := appendS_where (P := Tryz.prog) w base 126 9 o.type 5 i0 Tryz.underlying126 Tryz.underlying9 hi hz0 hz1 hz2 v l.length (l.flatMap encU) hown' d (by unfold maxLen; omega) (by omega) hbase
  have hdl : d.data.toList.length = d.size := by rw [Array.length_toList]; rfl
  have h2' : OwnB w' base v' (l ++ d.data.toList) := by
    unfold OwnB OwnL
    rw [List.flatMap_append, ← strCells_flat, List.length_append, hdl]
    exact h2
  obtain ⟨A', c', rfl⟩ := OwnL.form h2'
  unfold Oper.wp execOp
  simp only [ho, resolve, invoke, builtin, Sem.run_bind, Sem.run_pure, Result.andThen_ok, List.map_toArray, List.map_cons, List.map_nil, hs, hx, hr]
  exact hK _ _ (h A' c' _ w' rfl h2' h3 h4)
/-- a builder in memory: at a block, its bytes in a block of 'F' -/
structure BldAs (w : World) (b : Nat) (F : Nat → Prop) (l : List UInt8) (p v : Value) : Prop where
  row : Row1 w b 128 [p, v]
  ptr : p = .pointer none ∨ p = .pointer (some ⟨b, 0, none⟩)
  own : OwnB w 0 v l
  fb : F b
  fv : ∀ k, v.ownBlock = some k → F k
def BldAt (w : World) (b : Nat) (F : Nat → Prop) (l : List UInt8) : Prop := ∃ p v, BldAs w b F l p v
section
variable {w w' : World} {b : Nat} {F F' G : Nat → Prop} {l : List UInt8} {p v : Value}
theorem BldAs.ne (h : BldAs w b F l p v) : v.ownBlock ≠ some b := h.own.apartRow h.row (by decide)
theorem BldAs.only (h : BldAs w b F l p v) (hb : Only G w w') (hG : ∀ i, F i → ¬ G i) : BldAs w' b F l p v := ⟨hb.row h.row (hG b h.fb), h.ptr, h.own.only hb (fun k hk => hG k (h.fv k hk)), h.fb, h.fv⟩
theorem BldAt.only (h : BldAt w b F l) (hb : Only G w w') (hG : ∀ i, F i → ¬ G i) : BldAt w' b F l := let ⟨_, _, h⟩ := h; ⟨_, _, h.only hb hG⟩
theorem BldAt.ext (h : BldAt w b F l) (hb : Ext w w') : BldAt w' b F l := h.only (G := fun _ => False) (Only.of hb) (fun _ _ q => q)
theorem BldAt.mono (h : BldAt w b F l) (hF : ∀ i, F i → F' i) : BldAt w b F' l := let ⟨_, _, h⟩ := h; ⟨_, _, h.row, h.ptr, h.own, hF _ h.fb, fun k hk => hF _ (h.fv k hk)⟩
theorem BldAt.shrink (h : BldAt w b F l) : BldAt w b (fun i => F i ∧ i < w.heap.size) l := let ⟨_, _, h⟩ := h; ⟨_, _, h.row, h.ptr, h.own, ⟨h.fb, h.row.lt⟩, fun k hk => ⟨h.fv k hk, (h.own.lt k hk).2⟩⟩
theorem BldAt.lt (h : BldAt w b F l) : b < w.heap.size := let ⟨_, _, h⟩ := h; h.row.lt
theorem BldAt.made (w : World) : BldAt (w.alloc (.cells #[.pointer none, .slice none 0 0] 128)) w.heap.size (fun i => i = w.heap.size) [] :=
  ⟨_, _, Row1.made w _ _, .inl rfl, OwnL.nil _ _ _ _ _, rfl, fun k hk => by cases hk⟩
end
theorem copyCheck3 {w : World} {b : Nat} {F : Nat → Prop} {l : List UInt8} (h : BldAt w b F l) :
    Calls Tryz.prog 123 #[.pointer (some ⟨b, 0, none⟩)] w fun e w' => e = .returned (.tuple #[]) ∧ (∃ v, BldAs w' b F l (.pointer (some ⟨b, 0, none⟩)) v) ∧ Only (fun i => i = b) w w' := by
  obtain ⟨p, v, h⟩ := h
  rcases h.ptr with rfl | rfl
  · refine (copyCheck_fresh b w (h.row.cell 0) (by unfold World.shape?; rw [show w.heap[b]? = _ from h.row]; rfl) (h.row.soft 0)).mono ?_
    rintro e w' ⟨rfl, rfl⟩
    have ho : Only (fun i => i = b) w (w.setCell ⟨b, 0, none⟩ (.pointer (some ⟨b, 0, none⟩))) := Only.setCell (F := fun i => i = b) (p := ⟨b, 0, none⟩) Only.refl (.inl rfl) _
    exact ⟨rfl, ⟨v, h.row.set 0 _, .inr rfl, h.own.only ho (fun k hk q => h.ne (by rw [hk, q])), h.fb, h.fv⟩, ho⟩
  · refine (copyCheck_used b w (h.row.cell 0)).mono ?_
    rintro e w' ⟨rfl, rfl⟩
    exact ⟨rfl, ⟨v, h⟩, Only.refl⟩
theorem bld_pushed {w0 w1 W w2 : World} {b : Nat} {F : Nat → Prop} {l l' : List UInt8} {p v v' : Value} (H : BldAs w1 b F l p v) (hp : p = .pointer (some ⟨b, 0, none⟩)) (h01 : Only (fun i => i = b) w0 w1) (hW : Ext w1 W) (hown : OwnB w2 0 v' l') (hgr : W.grownBy w2 v.ownBlock)
    (hwh : ∀ k, v'.ownBlock = some k → v.ownBlock = some k ∨ W.heap.size ≤ k) :
    ∃ F', BldAt (w2.setCell ⟨b, 1, none⟩ v') b F' l' ∧ Keeps F F' w0 (w2.setCell ⟨b, 1, none⟩ v') := by
  subst hp
  have hR : Row1 W b 128 [.pointer (some ⟨b, 0, none⟩), v] := H.row.ext hW H.row.lt
  have hR2 := hR.grown hgr (fun e => H.ne e.symm)
  have hvb : v'.ownBlock ≠ some b := hown.apartRow hR2 (by decide)
  have ho : Only (fun i => i = b) w2 (w2.setCell ⟨b, 1, none⟩ v') := Only.setCell (F := fun i => i = b) (p := ⟨b, 1, none⟩) Only.refl (.inl rfl) v'
  refine ⟨fun i => F i ∨ v'.ownBlock = some i, ⟨_, v', hR2.set 1 v', .inr rfl, hown.only ho (fun k hk q => hvb (by rw [hk, q])), .inl H.fb, fun k hk => .inr hk⟩, ⟨?_, fun i q => ?_⟩⟩
  · refine (((h01.mono (fun i q => .inl (by rw [q]; exact H.fb))).ext hW).trans' (Only.grown hgr |>.mono (fun i q => .inl (H.fv i q)))).trans' (ho.mono (fun i q => .inl (by rw [q]; exact H.fb)))
  · rcases q with q | q
    · exact .inl q
    · rcases hwh i q with q | q
      · exact .inl (H.fv i q)
      · exact .inr (Nat.le_trans h01.size (Nat.le_trans hW.size q))
set_option maxHeartbeats 2000000 in
set_option maxRecDepth 100000 in
theorem bldString_any {w : World} {b : Nat} {F : Nat → Prop} {l : List UInt8} (s : ByteArray) (h : BldAt w b F l) (hlen : l.length + s.size ≤ 1000000000) :
    Calls Tryz.prog 61 #[.pointer (some ⟨b, 0, none⟩), .string s] w fun e w' => e = .returned (.tuple #[.int .i64 s.size, .nilIface]) ∧ ∃ F', BldAt w' b F' (l ++ s.data.toList) ∧ Keeps F F' w w' := by
  have cC := copyCheck3 h
  clear h
  go_enter Tryz.func61, Tryz.ntmps61
  go_wp2_with (go_at_call 123; refine cC.mono ?_)
  rintro e w1 ⟨rfl, ⟨v, h1⟩, hb1⟩
  clear cC
  obtain ⟨A, c, rfl⟩ := OwnL.form h1.own
  have H1 := Lib.hid h1
  have HB1 := Lib.hid hb1
  have c1 : w1.cell? ⟨b, 1, none⟩ = some (.slice A l.length c) := h1.row.cell 1
  clear h1 hb1
  go_wp2_with (at_builtin; refine wpList_pushS rfl _ _ rfl _ l rfl H1.out.own (Nat.zero_le _) s rfl hlen ?_; intro A' c' n' w2 hn' hown2 hgr hwh; have HF := Lib.hid (bld_pushed H1.out rfl HB1.out (Ext.refl _) hown2 hgr hwh); have HR2 := H1.out.row.grown hgr (fun e => H1.out.ne e.symm); have d1 : w2.cell? ⟨b, 1, none⟩ = some (.slice A l.length c) := HR2.cell 1; have f1 : w2.frozen? ⟨b, 1, none⟩ = false := HR2.soft 1; clear hn' hown2 hgr hwh HR2)
  go_ret2
  exact ⟨rfl, HF.out⟩
set_option maxHeartbeats 2000000 in
set_option maxRecDepth 100000 in
theorem bldByte_any {w : World} {b : Nat} {F : Nat → Prop} {l : List UInt8} (c : UInt8) (h : BldAt w b F l) (hlen : l.length + 1 ≤ 1000000000) :
    Calls Tryz.prog 205 #[.pointer (some ⟨b, 0, none⟩), .int .u8 c.toNat] w fun e w' => e = .returned .nilIface ∧ ∃ F', BldAt w' b F' (l ++ [c]) ∧ Keeps F F' w w' := by
  have cC := copyCheck3 h
  clear h
  go_enter Tryz.func205, Tryz.ntmps205
  go_wp2_with (go_at_call 123; refine cC.mono ?_)
  rintro e w1 ⟨rfl, ⟨v, h1⟩, hb1⟩
  clear cC
  obtain ⟨A, cc, rfl⟩ := OwnL.form h1.own
  have H1 := Lib.hid h1
  have HB1 := Lib.hid hb1
  have c1 : w1.cell? ⟨b, 1, none⟩ = some (.slice A l.length cc) := h1.row.cell 1
  have hbl := h1.row.lt
  clear h1 hb1
  go_wp2_with (at_builtin; refine wpList_push2 elU8 encU_len encU_one rfl _ _ rfl _ l rfl (H1.out.own.only (G := fun _ => False) (Only.of (by (repeat' (with_reducible first | exact Below.refl _ _ | refine Ext.drewN ?_ _ | refine Below.drew ?_ | refine Below.setCell ?_ ?_ _ | refine Below.alloc ?_ ?_ _)) <;> (first | omega | (simp; done) | (simp; omega)))) (fun _ _ q => q)) (Nat.zero_le _) w1.heap.size 1 c rfl (Row1.made w1 _ (encU c)) hlen (by decide) ?_; intro A' c' w2 hown2 hgr hwh; have HF := Lib.hid (bld_pushed H1.out rfl HB1.out (Ext.alloc w1 _) hown2 hgr hwh); have HR2 := (H1.out.row.alloc (.cells #[.int .u8 c.toNat] 5)).grown hgr (fun e => H1.out.ne e.symm); have d1 : w2.cell? ⟨b, 1, none⟩ = some (.slice A l.length cc) := HR2.cell 1; have f1 : w2.frozen? ⟨b, 1, none⟩ = false := HR2.soft 1; clear hown2 hgr hwh HR2)
  go_ret
  refine ⟨rfl, ?_⟩
  have := HF.out
  rw [List.length_append, List.length_singleton] at this
  exact this
theorem freeze_only (w : World) (g n : Nat) : Only (fun i => i = g) w (w.freeze ⟨g, 0, none⟩ n) := by
  unfold World.freeze
  split
  · exact Only.refl
  · exact ⟨rfl, rfl, rfl, by simp, fun i hi hn => Array.getElem?_modify .. |>.trans (if_neg (fun e => hn e.symm))⟩
set_option maxHeartbeats 2000000 in
set_option maxRecDepth 100000 in
/-- the text; the builder's bytes are frozen -/
theorem bldText_any {w : World} {b : Nat} {F : Nat → Prop} {l : List UInt8} (h : BldAt w b F l) (h0 : l ≠ []) :
    Calls Tryz.prog 63 #[.pointer (some ⟨b, 0, none⟩)] w fun e w' => e = .returned (.string (bts l)) ∧ Only F w w' := by
  obtain ⟨p, v, h⟩ := h
  have hl0 : l.length ≠ 0 := by simpa using h0
  have hown : w.ownsRow 0 5 1 v l.length (l.flatMap encU) := h.own
  obtain ⟨g, cap, cur, rfl, hbg, hg, hnc, hcm, hcs, htake⟩ : ∃ g cap cur, v = .slice (some ⟨g, 0, none⟩) l.length cap ∧ 0 ≤ g ∧ w.heap[g]? = some (.cells cur 5 (0, 0)) ∧ l.length ≤ cap ∧ cap ≤ maxLen ∧ cur.size = cap * 1 ∧ cur.toList.take (l.length * 1) = l.flatMap encU := by
    rcases hown.2 with ⟨_, hz⟩ | ⟨g, cap, cur, hv, r⟩
    · exact absurd hz hl0
    · exact ⟨g, cap, cur, hv, r⟩
  have c1 : w.drew.cell? ⟨b, 1, none⟩ = some (.slice (some ⟨g, 0, none⟩) l.length cap) := h.row.cell 1
  have hSD : ∀ ty, (Builtin.unsafeSliceData_ #[126] ty #[.slice (some ⟨g, 0, none⟩) l.length cap]).run Tryz.prog w.drew = .ok (.pointer (some ⟨g, 0, none⟩)) w.drew := fun ty =>
    Lib.run_unsafeSliceData_row _ _ _ _ _ _ (by omega)
  have hUS : (Builtin.unsafeString_ #[208, 3] 9 #[.pointer (some ⟨g, 0, none⟩), .int .i64 l.length]).run Tryz.prog w.drew = .ok (.string (bts l)) (w.drew.freeze ⟨g, 0, none⟩ l.length) := by
    refine Lib.run_unsafeString_row w.drew 208 3 9 5 Tryz.underlying208 (by kernel_rfl) g cur.size (by have hg' : w.drew.heap[g]? = some (.cells cur 5 (0, 0)) := hg; simp [World.shape?, hg']) l h0 (by omega) (by unfold maxLen at hcm; omega) ?_
    intro j x hx
    have := hown.cells (g := g) rfl j (.int .u8 x.toNat) (by rw [← byteCells_flat]; simp [Lib.byteCells, hx])
    exact this
  have HF : Hid (Only F w (w.drew.freeze ⟨g, 0, none⟩ l.length)) := ((Only.refl (F := F)).drew).trans' ((freeze_only w.drew g l.length).mono (fun i q => .inl (by rw [q]; exact h.fv g rfl)))
  clear h hown hg htake hcs
  go_enter Tryz.func63, Tryz.ntmps63
  go_wp2_with fail
  go_region
  go_wp2_with fail
  go_ret
  exact ⟨rfl, HF.out⟩
end Go.Proofs.YtojoefcfimmipaaGreat
namespace Go.Proofs.YtojoefcfimmipaaGreat
set_option linter.unusedSimpArgs false
set_option linter.unusedVariables false
open Go.RowKit
/-- a builder of the call's own at a block, beside another block of the call's own -/
def BX (w wr : World) (b B : Nat) (t : TypeId) (cs : List Value) (l : List UInt8) : Prop :=
  ∃ F : Nat → Prop, BldAt wr b F l ∧ (∀ i, F i → w.heap.size ≤ i ∧ i ≠ B) ∧ Ext w wr ∧ Row1 wr B t cs
theorem BX.bstep {w wr w' : World} {b B : Nat} {t : TypeId} {cs : List Value} {l' : List UInt8} {F F' : Nat → Prop} (hF : ∀ i, F i → w.heap.size ≤ i ∧ i ≠ B) (hx : Ext w wr) (hr : Row1 wr B t cs) (hb : BldAt w' b F' l') (hk : Keeps F F' wr w') : BX w w' b B t cs l' := by
  have hs := hx.size
  refine ⟨F', hb, fun i q => ?_, ?_, hk.only.row hr (fun q => (hF _ q).2 rfl)⟩
  · rcases hk.new i q with q | q
    · exact hF i q
    · have := hr.lt; omega
  · refine Only.toExt (F := fun i => w.heap.size ≤ i) ?_ (fun i q => q)
    exact (Only.of hx).trans' (hk.only.mono (fun i q => .inl (hF i q).1))
theorem BX.ext {w W W' : World} {b B : Nat} {t : TypeId} {cs : List Value} {l : List UInt8} (h : BX w W b B t cs l) (hx : Ext W W') : BX w W' b B t cs l := by
  obtain ⟨F, h1, h2, h3, h4⟩ := h
  exact ⟨F, h1.ext hx, h2, h3.trans hx, h4.ext hx h4.lt⟩
theorem BX.turn {w W : World} {b B B' : Nat} {t t' : TypeId} {cs cs' : List Value} {l : List UInt8} (h : BX w W b B t cs l) (hr : Row1 W B' t' cs') (hB : B' < w.heap.size ∨ (∀ F : Nat → Prop, BldAt W b F l → (∀ i, F i → w.heap.size ≤ i ∧ i ≠ B) → ¬ F B')) : BX w W b B' t' cs' l := by
  obtain ⟨F, h1, h2, h3, h4⟩ := h
  refine ⟨F, h1, fun i q => ⟨(h2 i q).1, fun e => ?_⟩, h3, hr⟩
  rcases hB with hB | hB
  · have := (h2 i q).1; omega
  · exact hB F h1 h2 (e ▸ q)
theorem bxString {w W : World} {b B : Nat} {t : TypeId} {cs : List Value} {l : List UInt8} (s : ByteArray) (hs : s.size ≤ 1000000) (h : BX w W b B t cs l) (hl : l.length ≤ 100000000) :
    Calls Tryz.prog 61 #[.pointer (some ⟨b, 0, none⟩), .string s] W fun e w' => e = .returned (.tuple #[.int .i64 s.size, .nilIface]) ∧ BX w w' b B t cs (l ++ s.data.toList) := by
  obtain ⟨F, h1, h2, h3, h4⟩ := h
  refine (bldString_any s h1 (by omega)).mono ?_
  rintro e w' ⟨rfl, F', q1, q2⟩
  exact ⟨rfl, BX.bstep h2 h3 h4 q1 q2⟩
theorem bxText {w W : World} {b B : Nat} {t : TypeId} {cs : List Value} {l : List UInt8} (h : BX w W b B t cs l) (h0 : l ≠ []) :
    Calls Tryz.prog 63 #[.pointer (some ⟨b, 0, none⟩)] W fun e w' => e = .returned (.string (bts l)) ∧ Ext w w' := by
  obtain ⟨F, h1, h2, h3, h4⟩ := h
  refine (bldText_any h1 h0).mono ?_
  rintro e w' ⟨rfl, q2⟩
  refine ⟨rfl, Only.toExt (F := fun i => w.heap.size ≤ i) ?_ (fun i q => q)⟩
  exact (Only.of h3).trans' (q2.mono (fun i q => .inl (h2 i q).1))
def opP (o : OpD) (k : Nat) : List UInt8 := ((opV o).take k).flatMap (fun n => varL n.toNat)
theorem opP_step (o : OpD) (k : Nat) (n : Int) (h : (opV o)[k]? = some n) : opP o (k + 1) = opP o k ++ varL n.toNat := by
  unfold opP
  rw [List.take_add_one, h, List.flatMap_append]
  simp
theorem opP_len {o : OpD} (h : OpIn o) (k : Nat) : (opP o k).length ≤ 100 := by
  have h1 := opV_flat_len ((opV o).take k) (fun n hn => h.nums n (List.mem_of_mem_take hn))
  have h2 : ((opV o).take k).length ≤ 8 := by rw [List.length_take]; exact Nat.min_le_right _ _
  unfold opP
  omega
set_option maxRecDepth 100000 in
set_option maxHeartbeats 4000000 in
theorem opEncode_any (o : OpD) (w : World) (hr : -9223372036854775808 ≤ o.result ∧ o.result ≤ 9223372036854775807) :
    Calls Tryz.prog 73 #[o.val] w fun e w' => e = .returned (.tuple #[.string (if opChk o = 0 then bts (opL o) else ⟨#[]⟩), .int .i64 (opChk o)]) ∧ Ext w w' := by
  have cC : Hid (∀ W, Calls Tryz.prog 130 #[.agg #[.int .i64 o.id, .int .i64 o.proc, .int .i64 o.object, .int .i64 o.kind, .int .i64 o.method, .int .i64 o.arg, .int .i64 o.second, .bool o.done, .int .i64 o.result, .int .i64 o.invoke, .int .i64 o.ret]] W fun e w' => e = .returned (.int .i64 (opChk o)) ∧ Ext W w') := fun W => opCheck_any o W hr
  have HBX : Hid (∀ W : World, Ext (w.alloc (.cells #[.int .i64 o.id, .int .i64 o.proc, .int .i64 o.object, .int .i64 o.kind, .int .i64 o.method, .int .i64 o.arg, .int .i64 o.second, .bool o.done, .int .i64 o.result, .int .i64 o.invoke, .int .i64 o.ret] 53)) W → At11 W w.heap.size o) := fun W h => (At11.row (Row1.made w 53 o.cells)).ext h (by simp)
  have HIN : Hid (opChk o = 0 → OpIn o) := OpIn.of
  obtain ⟨c, hc⟩ : ∃ c, opChk o = c := ⟨_, rfl⟩
  rw [hc] at cC HIN
  rw [hc]
  clear hc hr
  by_cases h0 : c = 0
  · subst h0
    rw [if_pos rfl]
    have HI := Lib.hid (HIN.out rfl)
    clear HIN
    go_enter Tryz.func73, Tryz.ntmps73
    go_upto_region 5 with (go_at_call 130; (with_reducible refine (cC.out _).mono ?_); clear cC; rintro e w1 ⟨rfl, hb1⟩; have HB1 := Lib.hid hb1; clear hb1)
    obtain ⟨d0, d1, d2, d3, d4, d5, d6, d7, d8, d9, d10⟩ := HBX.out (w1.alloc (.cells #[.pointer none, .slice none 0 0] 128)) (HB1.out.trans (Ext.alloc _ _))
    have HBB : Hid (BX w1 ((w1.alloc (.cells #[.pointer none, .slice none 0 0] 128)).alloc (.cells #[.int .i64 o.id, .int .i64 o.proc, .int .i64 o.object, .int .i64 o.kind, .int .i64 o.method, .int .i64 o.arg, .int .i64 o.second, .int .i64 o.invoke] 3)) w1.heap.size (w1.heap.size + 1) 3 ((opV o).map (fun n => Value.int .i64 n)) (opP o 0)) :=
      ⟨fun i => i = w1.heap.size, (BldAt.made w1).ext (Ext.alloc _ _), fun i q => by omega, (Ext.alloc _ _).trans (Ext.alloc _ _), Row1.made' (by simp) _ _⟩
    have cS : Hid (∀ (s : ByteArray) (l : List UInt8) W, s.size ≤ 1000000 → BX w1 W w1.heap.size (w1.heap.size + 1) 3 ((opV o).map (fun n => Value.int .i64 n)) l → l.length ≤ 100000000 → Calls Tryz.prog 61 #[.pointer (some ⟨w1.heap.size, 0, none⟩), .string s] W fun e w' => e = .returned (.tuple #[.int .i64 s.size, .nilIface]) ∧ BX w1 w' w1.heap.size (w1.heap.size + 1) 3 ((opV o).map (fun n => Value.int .i64 n)) (l ++ s.data.toList)) := fun s l W hs hb hl => bxString s hs hb hl
    have cV : Hid (∀ (n : Nat) W, n < 18446744073709551616 → Calls Tryz.prog 53 #[.int .u64 n] W fun e w' => e = .returned (.string (bts (varL n))) ∧ Ext W w') := fun n W hn => var_any n W hn
    have HVS : Hid (∀ n, (bts (varL n)).size ≤ 1000000) := fun n => by have := (varL_len n).2; rw [bts_size]; omega
    go_wp2_with fail
    clear d0 d1 d2 d3 d4 d5 d6 d7 d8 d9 d10
    go_loopw [31] (fun i wr => ∃ k : Nat, k ≤ 8 ∧ i = .int .i64 k ∧ BX w1 wr w1.heap.size (w1.heap.size + 1) 3 ((opV o).map (fun n => Value.int .i64 n)) (opP o k)) (fun i _ => 8 - (intOf i).toNat)
    case atStart => exact ⟨0, by omega, rfl, HBB.out⟩
    case round =>
      obtain ⟨k, hk, rfl, hbw⟩ := hrel
      have HBW := Lib.hid hbw
      have hx1 : Ext w1 wr := hbw.choose_spec.2.2.1
      have hrow : Row1 wr (w1.heap.size + 1) 3 ((opV o).map (fun n => Value.int .i64 n)) := hbw.choose_spec.2.2.2
      clear hbw
      by_cases hkl : k < 8
      · have q1 : decide ((k : Int) < 8) = true := decide_eq_true (by omega)
        have hkv : k < (opV o).length := hkl
        have c0 : wr.cell? ⟨w1.heap.size + 1, k, none⟩ = some (.int .i64 (opV o)[k]) := by rw [hrow.cell k, List.getElem?_map, List.getElem?_eq_getElem hkv]; rfl
        have hin := HI.out.nums _ (List.getElem_mem hkv)
        have HST := Lib.hid (opP_step o k _ (List.getElem?_eq_getElem hkv))
        have hpl := opP_len HI.out k
        have HROW := Lib.hid hrow
        have hgl := hrow.lt
        generalize (opV o)[k] = n at *
        obtain ⟨m, rfl⟩ : ∃ m : Nat, n = m := ⟨n.toNat, by omega⟩
        have hu : IntKind.u64.wrap (m : Int) = m := by rw [IntKind.wrap_u64]; omega
        have cV1 := cV.out m wr (by omega)
        have cS1 : Hid (∀ W, Ext wr W → Calls Tryz.prog 61 #[.pointer (some ⟨w1.heap.size, 0, none⟩), .string (bts (varL m))] W fun e w' => e = .returned (.tuple #[.int .i64 (bts (varL m)).size, .nilIface]) ∧ BX w1 w' w1.heap.size (w1.heap.size + 1) 3 ((opV o).map (fun n => Value.int .i64 n)) (opP o (k + 1))) := fun W hW => by
          have h1 := cS.out (bts (varL m)) (opP o k) W (HVS.out m) (HBW.out.ext hW) (by omega)
          rw [bts_data] at h1
          rw [HST.out]
          exact h1
        generalize bts (varL m) = bx at *
        clear hx1 hrow hin HST cS
        go_wp2_with (first
          | (go_at_call 53; (with_reducible refine cV1.mono ?_); clear cV1; rintro e w2 ⟨rfl, hb2⟩)
          | (go_at_call 61; (with_reducible refine (cS1.out _ hb2).mono ?_); clear cS1; rintro e w3 ⟨rfl, hb3⟩; have HB3 := Lib.hid hb3; clear hb3))
        go_roundw
        case rel => exact ⟨k + 1, by omega, by go_num, HB3.out⟩
        case measure => simp [intOf]; omega
      · obtain rfl : k = 8 := by omega
        obtain ⟨d0, d1, d2, d3, d4, d5, d6, d7, d8, d9, d10⟩ := HBX.out wr (HB1.out.trans hx1)
        have HX1 := Lib.hid hx1
        have HE : Hid (opP o 8 = (opV o).flatMap (fun n => varL n.toNat)) := rfl
        have cT : Hid (∀ (l : List UInt8) W, BX w1 W w1.heap.size (w1.heap.size + 1) 3 ((opV o).map (fun n => Value.int .i64 n)) l → l = opL o → Calls Tryz.prog 63 #[.pointer (some ⟨w1.heap.size, 0, none⟩)] W fun e w' => e = .returned (.string (bts (opL o))) ∧ Ext w1 w') := fun l W hb hl => by
          subst hl
          exact bxText hb (opL_pos o)
        have hpl := opP_len HI.out 8
        clear hx1 hrow d0 d1 d2 d3 d4 d5 d6
        cases hd : o.done with
        | false =>
          rw [hd] at d7
          have cT1 := cT.out _ _ HBW.out (by unfold opL; rw [if_neg (by rw [hd]; simp), List.append_nil]; rfl)
          generalize hbx : bts (opL o) = bx at cT1
          go_wp2_with (go_at_call 63; (with_reducible refine cT1.mono ?_); clear cT1; rintro e w4 ⟨rfl, hb4⟩; have HB4 := Lib.hid hb4; clear hb4)
          go_ret2
          subst hbx
          exact ⟨rfl, ((Ext.alloc _ _).trans HB1.out).trans HB4.out⟩
        | true =>
          rw [hd] at d7
          have hy := HI.out.yes hd
          have hiv := HI.out.invoke
          have hre := HI.out.result
          obtain ⟨m, hm⟩ : ∃ m : Nat, o.ret - o.invoke = m := ⟨(o.ret - o.invoke).toNat, by omega⟩
          have hu1 : IntKind.i64.wrap (o.ret - o.invoke) = o.ret - o.invoke := by rw [IntKind.wrap_i64]; omega
          have hu : IntKind.u64.wrap (m : Int) = m := by rw [IntKind.wrap_u64]; omega
          have HEND : Hid (opL o = opP o 8 ++ varL m ++ varL (foldN o.result)) := by
            unfold Hid opL
            rw [if_pos hd, HE.out, hm, List.append_assoc]
            rfl
          have cV1 := cV.out m wr (by omega)
          have cV2 : Hid (∀ W, Calls Tryz.prog 53 #[.int .u64 (foldN o.result)] W fun e w' => e = .returned (.string (bts (varL (foldN o.result)))) ∧ Ext W w') := fun W => cV.out _ W (foldN_lt (by omega) (by omega))
          have cF : Hid (∀ W, Calls Tryz.prog 54 #[.int .i64 o.result] W fun e w' => e = .returned (.int .u64 (foldN o.result)) ∧ W = w') := fun W => fold_any o.result W (by omega) (by omega)
          have HQ8 : Hid ((opP o 8).length ≤ 100) := hpl
          have cS1 : Hid (∀ W, Ext wr W → Calls Tryz.prog 61 #[.pointer (some ⟨w1.heap.size, 0, none⟩), .string (bts (varL m))] W fun e w' => e = .returned (.tuple #[.int .i64 (bts (varL m)).size, .nilIface]) ∧ BX w1 w' w1.heap.size (w1.heap.size + 1) 3 ((opV o).map (fun n => Value.int .i64 n)) (opP o 8 ++ varL m)) := fun W hW => by
            have h1 := cS.out (bts (varL m)) (opP o 8) W (HVS.out m) (HBW.out.ext hW) (by have := HQ8.out; omega)
            rw [bts_data] at h1
            exact h1
          have cS2 : Hid (∀ W, BX w1 W w1.heap.size (w1.heap.size + 1) 3 ((opV o).map (fun n => Value.int .i64 n)) (opP o 8 ++ varL m) → Calls Tryz.prog 61 #[.pointer (some ⟨w1.heap.size, 0, none⟩), .string (bts (varL (foldN o.result)))] W fun e w' => e = .returned (.tuple #[.int .i64 (bts (varL (foldN o.result))).size, .nilIface]) ∧ BX w1 w' w1.heap.size (w1.heap.size + 1) 3 ((opV o).map (fun n => Value.int .i64 n)) (opL o)) := fun W hW => by
            have h1 := cS.out (bts (varL (foldN o.result))) (opP o 8 ++ varL m) W (HVS.out _) hW (by have := HQ8.out; have := (varL_len m).2; rw [List.length_append]; omega)
            rw [bts_data] at h1
            rw [HEND.out]
            exact h1
          have cT1 : Hid (∀ W, BX w1 W w1.heap.size (w1.heap.size + 1) 3 ((opV o).map (fun n => Value.int .i64 n)) (opL o) → Calls Tryz.prog 63 #[.pointer (some ⟨w1.heap.size, 0, none⟩)] W fun e w' => e = .returned (.string (bts (opL o))) ∧ Ext w1 w') := fun W hW => cT.out _ W hW rfl
          have HAX : Hid (∀ (W : World) (l : List UInt8), BX w1 W w1.heap.size (w1.heap.size + 1) 3 ((opV o).map (fun n => Value.int .i64 n)) l → W.cell? ⟨w.heap.size, 8, none⟩ = some (.int .i64 o.result)) := fun W l ⟨_, _, _, hx, _⟩ => (HBX.out W (HB1.out.trans hx)).2.2.2.2.2.2.2.2.1
          generalize hbx : bts (opL o) = bx at cT1
          generalize bts (varL (foldN o.result)) = by2 at *
          generalize foldN o.result = fr at *
          generalize bts (varL m) = by1 at *
          obtain ⟨hy1, hy2⟩ := hy
          have hu : IntKind.u64.wrap (o.ret - o.invoke) = m := by rw [hm]; exact hu
          clear cT cS cV HEND
          go_wp2_with (first
            | (go_at_call 53; (with_reducible refine cV1.mono ?_); clear cV1; rintro e w2 ⟨rfl, hb2⟩)
            | (go_at_call 61; (with_reducible refine (cS1.out _ hb2).mono ?_); clear cS1; rintro e w3 ⟨rfl, hb3⟩; have e8 := HAX.out _ _ hb3)
            | (go_at_call 54; (with_reducible refine (cF.out _).mono ?_); clear cF; rintro e w4 ⟨rfl, rfl⟩)
            | (go_at_call 53; (with_reducible refine (cV2.out _).mono ?_); clear cV2; rintro e w5 ⟨rfl, hb5⟩; have hb6 := hb3.ext hb5)
            | (go_at_call 61; (with_reducible refine (cS2.out _ hb6).mono ?_); clear cS2; rintro e w7 ⟨rfl, hb7⟩)
            | (go_at_call 63; (with_reducible refine (cT1.out _ hb7).mono ?_); clear cT1; rintro e w8 ⟨rfl, hb8⟩; have HB4 := Lib.hid hb8))
          go_ret2
          subst hbx
          exact ⟨rfl, ((Ext.alloc _ _).trans HB1.out).trans HB4.out⟩
  · rw [if_neg h0]
    have q1 : decide (c = 0) = false := decide_eq_false h0
    go_enter Tryz.func73, Tryz.ntmps73
    go_wp2_with (go_at_call 130; (with_reducible refine (cC.out _).mono ?_); clear cC; rintro e w1 ⟨rfl, hb1⟩; have HB1 := Lib.hid hb1; clear hb1)
    go_ret2
    exact ⟨rfl, (Ext.alloc _ _).trans HB1.out⟩
end Go.Proofs.YtojoefcfimmipaaGreat
