/- A tree's node as data and as bytes; a text taken off a page. Conditions: texts of at most 255 bytes. -/
/- A leaf is read off a page. Conditions: a page that bears one. -/
import Derived.Test.YtojoefcfimmipaaGreatQ16
import Derived.Test.YtojoefcfimmipaaGreatQ17
namespace Go.Proofs.YtojoefcfimmipaaGreat
set_option linter.unusedSimpArgs false
set_option linter.unusedVariables false
open Go.RowKit
/-- a text behind its length -/
def lenL (s : ByteArray) : List UInt8 := UInt8.ofNat s.size :: s.data.toList
theorem lenL_len (s : ByteArray) : (lenL s).length = 1 + s.size := by
  unfold lenL
  rw [List.length_cons, Array.length_toList]
  show s.size + 1 = _
  omega
structure NodeD where
  leaf : Bool
  keys : List ByteArray
  vals : List ByteArray
  kids : List Int
structure NodeOk (n : NodeD) : Prop where
  keys : ∀ k ∈ n.keys, k.size ≤ 255
  vals : ∀ v ∈ n.vals, v.size ≤ 255
  kids : ∀ c ∈ n.kids, 0 ≤ c ∧ c < 65536
  many : n.keys.length ≤ 255
  leafs : n.leaf = true → n.vals.length = n.keys.length ∧ n.kids = []
  inner : n.leaf = false → n.vals = [] ∧ n.kids.length = n.keys.length + 1
def entL (n : NodeD) (i : Nat) : List UInt8 := lenL (n.keys[i]?.getD ByteArray.empty) ++ (if n.leaf = true then lenL (n.vals[i]?.getD ByteArray.empty) else [])
def kidL (c : Int) : List UInt8 := [UInt8.ofNat (c.toNat % 256), UInt8.ofNat (c.toNat / 256 % 256)]
def entsL (n : NodeD) (i : Nat) : List UInt8 := (List.range' i (n.keys.length - i)).flatMap (entL n)
def kidsL (n : NodeD) (i : Nat) : List UInt8 := (n.kids.drop i).flatMap kidL
def nodeL (n : NodeD) : List UInt8 := (if n.leaf = true then 1 else 2) :: UInt8.ofNat n.keys.length :: (entsL n 0 ++ kidsL n 0)
theorem entsL_step (n : NodeD) {i : Nat} (h : i < n.keys.length) : entsL n i = entL n i ++ entsL n (i + 1) := by
  unfold entsL
  rw [show n.keys.length - i = (n.keys.length - (i + 1)) + 1 by omega, List.range'_succ, List.flatMap_cons]
theorem entsL_end (n : NodeD) : entsL n n.keys.length = [] := by unfold entsL; rw [Nat.sub_self]; rfl
theorem kidsL_step (n : NodeD) {i : Nat} (h : i < n.kids.length) : kidsL n i = kidL n.kids[i] ++ kidsL n (i + 1) := by
  unfold kidsL
  rw [List.drop_eq_getElem_cons h, List.flatMap_cons]
def kSize (l : List ByteArray) : Nat := (l.map fun k => 1 + k.size).sum
def sizeN (n : NodeD) : Nat := 2 + 2 * n.kids.length + kSize n.keys + kSize n.vals
theorem bts_at (l r : List UInt8) (c : UInt8) (i : Nat) (hi : l.length = i) (h : i < (bts (l ++ c :: r)).size) : (bts (l ++ c :: r))[i] = c := by
  subst hi
  simp [bts, ByteArray.getElem_eq_getElem_data]
theorem bts_extract (a m r : List UInt8) (i j : Nat) (hi : a.length = i) (hj : i + m.length = j) : (bts (a ++ m ++ r)).extract i j = bts m := by
  subst hi hj
  rw [ByteArray.ext_iff]
  simp [bts]
theorem bts_extract_end (a m : List UInt8) (i j : Nat) (hi : a.length = i) (hj : i + m.length = j) : (bts (a ++ m)).extract i j = bts m := by
  have := bts_extract a m [] i j hi hj
  rwa [List.append_nil] at this
set_option maxRecDepth 100000 in
set_option maxHeartbeats 1000000 in
theorem text_any (x : ByteArray) (r : List UInt8) (w : World) (hx : x.size ≤ 255) (hr : r.length ≤ 100000) :
    Calls Tryz.prog 204 #[.string (bts (lenL x ++ r))] w fun e w' => e = .returned (.tuple #[.string x, .string (bts r), .bool true]) ∧ Ext w w' := by
  obtain ⟨s, hs⟩ : ∃ s, bts (lenL x ++ r) = s := ⟨_, rfl⟩
  have hsz : s.size = 1 + x.size + r.length := by rw [← hs, bts_size, List.length_append, lenL_len]
  have h0 : 0 < s.size := by omega
  have hb : s[0] = UInt8.ofNat x.size := by
    subst hs
    exact bts_at [] (x.data.toList ++ r) _ 0 rfl (by simpa [lenL] using h0)
  have hbn : (s[0].toNat : Int) = x.size := by rw [hb, UInt8.toNat_ofNat_of_lt' (by show x.size < 256; omega)]
  have e1 : s.extract 1 (1 + x.size) = x := by
    have := bts_extract [UInt8.ofNat x.size] x.data.toList r 1 (1 + x.size) rfl (by rw [Array.length_toList]; rfl)
    rw [bts_of] at this
    rw [← hs]
    exact this
  have e2 : s.extract (1 + x.size) s.size = bts r := by
    rw [hsz, ← hs]
    exact bts_extract_end (lenL x) r (1 + x.size) _ (lenL_len x) (by omega)
  rw [hs]
  have hne3 : ¬ s.toList = [] := fun q => by
    rw [ByteArray.toList_eq] at q
    have h1 : s.data.toList.length = 0 := by rw [q]; rfl
    rw [Array.length_toList] at h1
    have h2 : s.data.size = s.size := rfl
    omega
  have hne2 : s.toList.isEmpty = false := by
    cases hh : s.toList with
    | nil => exact absurd hh hne3
    | cons => rfl
  obtain ⟨n, hn⟩ : ∃ n, x.size = n := ⟨_, rfl⟩
  rw [hn] at hbn e1 e2 hsz hx
  have h1 : (n : Int) ≤ 255 := by omega
  have h2 : (1 : Int) + n ≤ s.size := by omega
  have h3 : ((1 : Int) + n).toNat = 1 + n := by omega
  have q1 : decide ((s.size : Int) < 1 + n) = false := decide_eq_false (by omega)
  have q3 : (0 : Int) < s.size := by omega
  have HS := Lib.hid hs
  clear hs hb hn hsz
  go_enter Tryz.func204, Tryz.ntmps204
  go_wp2_with fail
  go_quiet (fail)
  go_wp2_with fail
  go_ret3
  exact ⟨rfl, Ext.drewN (Ext.refl w) _⟩
end Go.Proofs.YtojoefcfimmipaaGreat
namespace Go.Proofs.YtojoefcfimmipaaGreat
set_option linter.unusedSimpArgs false
set_option linter.unusedVariables false
open Go.RowKit
/-- a node as a value: its lists in blocks of 'F', no two of them in one -/
structure NodeAs (w : World) (F : Nat → Prop) (n : NodeD) (kv vv cv : Value) : Prop where
  keys : OwnL w 0 9 1 encS kv n.keys
  vals : OwnL w 0 9 1 encS vv n.vals
  kids : OwnL w 0 3 1 encN cv n.kids
  sep : ∀ b, kv.ownBlock = some b → vv.ownBlock ≠ some b
  fk : ∀ b, kv.ownBlock = some b → F b
  fv : ∀ b, vv.ownBlock = some b → F b
  fc : ∀ b, cv.ownBlock = some b → F b
def nodeV (n : NodeD) (kv vv cv : Value) : Value := .agg #[.bool n.leaf, kv, vv, cv]
section
variable {w w' : World} {F F' G : Nat → Prop} {n : NodeD} {kv vv cv : Value}
theorem NodeAs.only (h : NodeAs w F n kv vv cv) (hb : Only G w w') (hG : ∀ i, F i → ¬ G i) : NodeAs w' F n kv vv cv :=
  ⟨h.keys.only hb (fun k q => hG k (h.fk k q)), h.vals.only hb (fun k q => hG k (h.fv k q)), h.kids.only hb (fun k q => hG k (h.fc k q)), h.sep, h.fk, h.fv, h.fc⟩
theorem NodeAs.ext (h : NodeAs w F n kv vv cv) (hb : Ext w w') : NodeAs w' F n kv vv cv := h.only (G := fun _ => False) (Only.of hb) (fun _ _ q => q)
theorem NodeAs.mono (h : NodeAs w F n kv vv cv) (hF : ∀ i, F i → F' i) : NodeAs w F' n kv vv cv := ⟨h.keys, h.vals, h.kids, h.sep, fun b q => hF b (h.fk b q), fun b q => hF b (h.fv b q), fun b q => hF b (h.fc b q)⟩
theorem NodeAs.shrink (h : NodeAs w F n kv vv cv) : NodeAs w (fun i => F i ∧ i < w.heap.size) n kv vv cv :=
  ⟨h.keys, h.vals, h.kids, h.sep, fun b q => ⟨h.fk b q, (h.keys.lt b q).2⟩, fun b q => ⟨h.fv b q, (h.vals.lt b q).2⟩, fun b q => ⟨h.fc b q, (h.kids.lt b q).2⟩⟩
end
/-- what has been read so far -/
structure PM (w wr : World) (leaf : Bool) (K V : List ByteArray) (C : List Int) (kv vv cv : Value) : Prop where
  r2 : Row1 wr w.heap.size 186 [.bool false, .slice none 0 0, .slice none 0 0, .slice none 0 0]
  r4 : Row1 wr (w.heap.size + 1) 186 [.bool leaf, kv, vv, cv]
  ok : OwnL wr (w.heap.size + 2) 9 1 encS kv K
  ov : OwnL wr (w.heap.size + 2) 9 1 encS vv V
  oc : OwnL wr (w.heap.size + 2) 3 1 encN cv C
  sep : ∀ b, kv.ownBlock = some b → vv.ownBlock ≠ some b
  ext : Ext w wr
section
variable {w wr W w3 : World} {leaf : Bool} {K V : List ByteArray} {C : List Int} {kv vv cv v' : Value}
theorem PM.more (h : PM w wr leaf K V C kv vv cv) (hb : Ext wr W) : PM w W leaf K V C kv vv cv :=
  ⟨h.r2.ext hb h.r2.lt, h.r4.ext hb h.r4.lt, h.ok.ext hb, h.ov.ext hb, h.oc.ext hb, h.sep, Ext.trans h.ext hb⟩
theorem PM.pushV (h : PM w W leaf K V C kv vv cv) {y : ByteArray} (hown : OwnL w3 (w.heap.size + 2) 9 1 encS v' (V ++ [y])) (hgr : W.grownBy w3 vv.ownBlock) (hwh : ∀ k, v'.ownBlock = some k → vv.ownBlock = some k ∨ W.heap.size ≤ k) :
    PM w (w3.setCell ⟨w.heap.size + 1, 2, none⟩ v') leaf K (V ++ [y]) C kv v' cv := by
  have h4 := h.ov.apartRow h.r4 (by decide)
  have h2 := h.ov.apartRow h.r2 (by decide)
  have hR4 := h.r4.grown hgr (fun e => h4 e.symm)
  have hR2 := h.r2.grown hgr (fun e => h2 e.symm)
  have hv4 := hown.apartRow hR4 (by decide)
  have ho3 : Only (fun i => vv.ownBlock = some i) W w3 := Only.grown hgr
  have ho : Only (fun i => i = w.heap.size + 1) w3 (w3.setCell ⟨w.heap.size + 1, 2, none⟩ v') := Only.setCell (F := fun i => i = w.heap.size + 1) (p := ⟨w.heap.size + 1, 2, none⟩) Only.refl (.inl rfl) v'
  have hk3 := h.ok.only ho3 (fun k q q' => h.sep k q q')
  have hc3 := h.oc.only ho3 (fun k q q' => h.oc.apart h.ov (by decide) q q')
  have hk4 := hk3.apartRow hR4 (by decide)
  have hc4 := hc3.apartRow hR4 (by decide)
  refine ⟨hR2.setFar (by simp) v', hR4.set 2 v', hk3.only ho (fun k q q' => hk4 (by rw [q, q'])), hown.only ho (fun k q q' => hv4 (by rw [q, q'])), hc3.only ho (fun k q q' => hc4 (by rw [q, q'])), fun b hb hb' => ?_, ?_⟩
  · rcases hwh b hb' with q | q
    · exact h.sep b hb q
    · have := (h.ok.lt b hb).2; omega
  · refine Only.toExt (F := fun i => w.heap.size ≤ i) ?_ (fun i q => q)
    exact ((Only.of h.ext).trans' (ho3.mono (fun i q => .inl (by have := (h.ov.lt i q).1; omega)))).trans' (ho.mono (fun i q => .inl (by omega)))
theorem PM.pushK (h : PM w W leaf K V C kv vv cv) {y : ByteArray} (hown : OwnL w3 (w.heap.size + 2) 9 1 encS v' (K ++ [y])) (hgr : W.grownBy w3 kv.ownBlock) (hwh : ∀ k, v'.ownBlock = some k → kv.ownBlock = some k ∨ W.heap.size ≤ k) :
    PM w (w3.setCell ⟨w.heap.size + 1, 1, none⟩ v') leaf (K ++ [y]) V C v' vv cv := by
  have h4 := h.ok.apartRow h.r4 (by decide)
  have h2 := h.ok.apartRow h.r2 (by decide)
  have hR4 := h.r4.grown hgr (fun e => h4 e.symm)
  have hR2 := h.r2.grown hgr (fun e => h2 e.symm)
  have hv4 := hown.apartRow hR4 (by decide)
  have ho3 : Only (fun i => kv.ownBlock = some i) W w3 := Only.grown hgr
  have ho : Only (fun i => i = w.heap.size + 1) w3 (w3.setCell ⟨w.heap.size + 1, 1, none⟩ v') := Only.setCell (F := fun i => i = w.heap.size + 1) (p := ⟨w.heap.size + 1, 1, none⟩) Only.refl (.inl rfl) v'
  have hk3 := h.ov.only ho3 (fun k q q' => h.sep k q' q)
  have hc3 := h.oc.only ho3 (fun k q q' => h.oc.apart h.ok (by decide) q q')
  have hk4 := hk3.apartRow hR4 (by decide)
  have hc4 := hc3.apartRow hR4 (by decide)
  refine ⟨hR2.setFar (by simp) v', hR4.set 1 v', hown.only ho (fun k q q' => hv4 (by rw [q, q'])), hk3.only ho (fun k q q' => hk4 (by rw [q, q'])), hc3.only ho (fun k q q' => hc4 (by rw [q, q'])), fun b hb hb' => ?_, ?_⟩
  · rcases hwh b hb with q | q
    · exact h.sep b q hb'
    · have := (h.ov.lt b hb').2; omega
  · refine Only.toExt (F := fun i => w.heap.size ≤ i) ?_ (fun i q => q)
    exact ((Only.of h.ext).trans' (ho3.mono (fun i q => .inl (by have := (h.ok.lt i q).1; omega)))).trans' (ho.mono (fun i q => .inl (by omega)))
theorem PM.pushC (h : PM w W leaf K V C kv vv cv) {y : Int} (hown : OwnL w3 (w.heap.size + 2) 3 1 encN v' (C ++ [y])) (hgr : W.grownBy w3 cv.ownBlock) :
    PM w (w3.setCell ⟨w.heap.size + 1, 3, none⟩ v') leaf K V (C ++ [y]) kv vv v' := by
  have h4 := h.oc.apartRow h.r4 (by decide)
  have h2 := h.oc.apartRow h.r2 (by decide)
  have hR4 := h.r4.grown hgr (fun e => h4 e.symm)
  have hR2 := h.r2.grown hgr (fun e => h2 e.symm)
  have hv4 := hown.apartRow hR4 (by decide)
  have ho3 : Only (fun i => cv.ownBlock = some i) W w3 := Only.grown hgr
  have ho : Only (fun i => i = w.heap.size + 1) w3 (w3.setCell ⟨w.heap.size + 1, 3, none⟩ v') := Only.setCell (F := fun i => i = w.heap.size + 1) (p := ⟨w.heap.size + 1, 3, none⟩) Only.refl (.inl rfl) v'
  have hk3 := h.ok.only ho3 (fun k q q' => h.ok.apart h.oc (by decide) q q')
  have hc3 := h.ov.only ho3 (fun k q q' => h.ov.apart h.oc (by decide) q q')
  have hk4 := hk3.apartRow hR4 (by decide)
  have hc4 := hc3.apartRow hR4 (by decide)
  refine ⟨hR2.setFar (by simp) v', hR4.set 3 v', hk3.only ho (fun k q q' => hk4 (by rw [q, q'])), hc3.only ho (fun k q q' => hc4 (by rw [q, q'])), hown.only ho (fun k q q' => hv4 (by rw [q, q'])), h.sep, ?_⟩
  refine Only.toExt (F := fun i => w.heap.size ≤ i) ?_ (fun i q => q)
  exact ((Only.of h.ext).trans' (ho3.mono (fun i q => .inl (by have := (h.oc.lt i q).1; omega)))).trans' (ho.mono (fun i q => .inl (by omega)))
end
theorem PM.done {w wr wf : World} {leaf : Bool} {K V : List ByteArray} {C : List Int} {kv vv cv : Value} (h : PM w wr leaf K V C kv vv cv) (ho : Only (fun i => i = w.heap.size) wr wf) :
    NodeAs wf (fun i => w.heap.size ≤ i) ⟨leaf, K, V, C⟩ kv vv cv ∧ Ext w wf := by
  refine ⟨⟨(h.ok.only ho (fun k q q' => by have := (h.ok.lt k q).1; omega)).lower (Nat.zero_le _), (h.ov.only ho (fun k q q' => by have := (h.ov.lt k q).1; omega)).lower (Nat.zero_le _), (h.oc.only ho (fun k q q' => by have := (h.oc.lt k q).1; omega)).lower (Nat.zero_le _), h.sep, fun b q => by have := (h.ok.lt b q).1; omega, fun b q => by have := (h.ov.lt b q).1; omega, fun b q => by have := (h.oc.lt b q).1; omega⟩, ?_⟩
  refine Only.toExt (F := fun i => w.heap.size ≤ i) ?_ (fun i q => q)
  exact (Only.of h.ext).trans' (ho.mono (fun i q => .inl (by omega)))
theorem only4 {w : World} (B : Nat) (a b c d : Value) : Only (fun i => i = B) w ((((w.setCell ⟨B, 0, none⟩ a).setCell ⟨B, 1, none⟩ b).setCell ⟨B, 2, none⟩ c).setCell ⟨B, 3, none⟩ d) :=
  ((((Only.refl : Only (fun i => i = B) w w).setCell (p := ⟨B, 0, none⟩) (.inl rfl) a).setCell (p := ⟨B, 1, none⟩) (.inl rfl) b).setCell (p := ⟨B, 2, none⟩) (.inl rfl) c).setCell (p := ⟨B, 3, none⟩) (.inl rfl) d
theorem entsL_le (n : NodeD) : ∀ k, (entsL n k).length ≤ (entsL n 0).length
  | 0 => Nat.le_refl _
  | k + 1 => by
    have ih := entsL_le n k
    by_cases h : k < n.keys.length
    · rw [entsL_step n h, List.length_append] at ih
      omega
    · unfold entsL
      rw [show n.keys.length - (k + 1) = 0 by omega]
      simp
theorem take_snocS (l : List ByteArray) (k : Nat) (h : k < l.length) : l.take (k + 1) = l.take k ++ [l[k]] := by rw [List.take_add_one, List.getElem?_eq_getElem h]; rfl
set_option maxRecDepth 100000 in
theorem res_node {fn : Func} (h : fn.results = #[.cell 2 186, .tmp 3]) (tmps : Array Value) (w : World) (B : Nat) (n : NodeD) (kv vv cv v : Value) (hB : tmps.getD 2 undef = .pointer (some ⟨B, 0, none⟩)) (hv : tmps.getD 3 undef = v) (hr : Row1 w B 186 [.bool n.leaf, kv, vv, cv]) :
    (results fn tmps).run Tryz.prog w = .ok (.tuple #[nodeV n kv vv cv, v]) w := by
  rw [results_cell_tmp h, hB, hv]
  have c0 : w.cell? ⟨B, 0, none⟩ = some (.bool n.leaf) := hr.cell 0
  have c1 : w.cell? ⟨B, 1, none⟩ = some kv := hr.cell 1
  have c2 : w.cell? ⟨B, 2, none⟩ = some vv := hr.cell 2
  have c3 : w.cell? ⟨B, 3, none⟩ = some cv := hr.cell 3
  unfold nodeV
  go_simp
set_option maxRecDepth 100000 in
set_option maxHeartbeats 4000000 in
theorem parse_leaf (n : NodeD) (tail : List UInt8) (w : World) (hn : NodeOk n) (hl : n.leaf = true) (hsz : (nodeL n).length + tail.length ≤ 100000) :
    Calls Tryz.prog 159 #[.string (bts (nodeL n ++ tail))] w fun e w' => ∃ kv vv cv, e = .returned (.tuple #[nodeV n kv vv cv, .int .i64 0]) ∧ NodeAs w' (fun i => w.heap.size ≤ i) n kv vv cv ∧ Ext w w' := by
  obtain ⟨hvl, hkids⟩ := hn.leafs hl
  have hnl : nodeL n ++ tail = 1 :: UInt8.ofNat n.keys.length :: (entsL n 0 ++ tail) := by
    unfold nodeL
    rw [if_pos hl, show kidsL n 0 = [] by unfold kidsL; rw [hkids]; rfl, List.append_nil]
    rfl
  rw [hnl]
  have hsz : (entsL n 0).length + tail.length + 2 ≤ 100000 := by
    have h1 := congrArg List.length hnl
    simp only [List.length_append, List.length_cons] at h1
    omega
  obtain ⟨L, hL⟩ : ∃ L, entsL n 0 ++ tail = L := ⟨_, rfl⟩
  have hLl : L.length = (entsL n 0).length + tail.length := by rw [← hL, List.length_append]
  rw [hL]
  obtain ⟨s, hs⟩ : ∃ s, bts (1 :: UInt8.ofNat n.keys.length :: L) = s := ⟨_, rfl⟩
  have hss : s.size = 2 + L.length := by rw [← hs, bts_size]; simp; omega
  have hs0 : 0 < s.size := by omega
  have hs1 : 1 < s.size := by omega
  have hb0 : s[0] = 1 := by subst hs; exact bts_at [] _ 1 0 rfl hs0
  have hb1 : s[1] = UInt8.ofNat n.keys.length := by subst hs; exact bts_at [1] _ _ 1 rfl hs1
  have hbn : (s[1].toNat : Int) = n.keys.length := by rw [hb1, UInt8.toNat_ofNat_of_lt' (by have := hn.many; show n.keys.length < 256; omega)]
  have hbz : (s[0].toNat : Int) = 1 := by rw [hb0]; rfl
  have he2 : s.extract 2 s.size = bts (entsL n 0 ++ tail) := by
    rw [hss, ← hs, hL]
    exact bts_extract_end [1, UInt8.ofNat n.keys.length] L 2 _ rfl rfl
  have hsl : s.size ≤ 100000 := by omega
  have HTX : Hid (∀ (x : ByteArray) (r : List UInt8) W, x.size ≤ 255 → r.length ≤ 100000 → Calls Tryz.prog 204 #[.string (bts (lenL x ++ r))] W fun e w' => e = .returned (.tuple #[.string x, .string (bts r), .bool true]) ∧ Ext W w') := fun x r W h1 h2 => text_any x r W h1 h2
  obtain ⟨m, hm⟩ : ∃ m, n.keys.length = m := ⟨_, rfl⟩
  have HM := Lib.hid hm
  have HVL : Hid (n.vals.length = m) := by unfold Hid; omega
  rw [hs]
  rw [hm] at hbn
  have hm255 : m ≤ 255 := by rw [← hm]; exact hn.many
  have HLEN : Hid (∀ k, (entsL n k ++ tail).length ≤ 100000) := fun k => by
    have := entsL_le n k
    rw [List.length_append]
    omega
  have q1 : decide ((s.size : Int) < 2) = false := decide_eq_false (by omega)
  have q2 : (1 : Int) < s.size := by omega
  have q3 : (0 : Int) < s.size := by omega
  have q4 : (2 : Int) ≤ s.size := by omega
  have HN := Lib.hid hn
  have HLF := Lib.hid hl
  clear hs hss hb0 hb1 hnl hm hn hl hvl hkids hsz hL hLl
  go_enter Tryz.func159, Tryz.ntmps159
  go_wp2_with fail
  go_loopw [0, 34] (fun sv i wr => ∃ (k : Nat) (kv vv : Value), k ≤ m ∧ i = .int .i64 k ∧ sv = .string (bts (entsL n k ++ tail)) ∧ PM w wr n.leaf (n.keys.take k) (n.vals.take k) [] kv vv (.slice none 0 0)) (fun _ i _ => m - (intOf i).toNat)
  case atStart =>
    refine ⟨0, .slice none 0 0, .slice none 0 0, by omega, rfl, rfl, ?_⟩
    rw [List.take_zero, List.take_zero, HLF.out]
    exact ⟨(Row1.made w _ _).alloc _, Row1.made' (by simp) _ _, OwnL.nil _ _ _ _ _, OwnL.nil _ _ _ _ _, OwnL.nil _ _ _ _ _, (fun b q => by cases q), by (repeat' (with_reducible first | exact Below.refl _ _ | refine Ext.drewN ?_ _ | refine Below.drew ?_ | refine Below.setCell ?_ ?_ _ | refine Below.alloc ?_ ?_ _)) <;> (first | omega | (simp; done) | (simp; omega))⟩
  case round =>
    obtain ⟨k, kv, vv, hk, rfl, rfl, hp⟩ := hrel
    obtain ⟨K, hK⟩ : ∃ K, n.keys.take k = K := ⟨_, rfl⟩
    obtain ⟨V, hV⟩ : ∃ V, n.vals.take k = V := ⟨_, rfl⟩
    have hKl : K.length = k := by rw [← hK, List.length_take, HM.out]; omega
    have hVl : V.length = k := by rw [← hV, List.length_take, HVL.out]; omega
    have hok := hp.ok
    have hov := hp.ov
    rw [hK] at hok
    rw [hV] at hov
    obtain ⟨kA, kc, rfl⟩ := OwnL.form hok
    obtain ⟨vA, vc, rfl⟩ := OwnL.form hov
    rw [hKl] at hok
    rw [hVl] at hov
    rw [hKl, hVl] at hp
    have HP := Lib.hid hp
    have HOK := Lib.hid hok
    have HOV := Lib.hid hov
    have HK := Lib.hid hK
    have HV := Lib.hid hV
    have HKL := Lib.hid hKl
    have HVV := Lib.hid hVl
    have hz := hp.ext.size
    have hb4 := hp.r4.lt
    have r40 : wr.cell? ⟨w.heap.size + 1, 0, none⟩ = some (.bool true) := by rw [← HLF.out]; exact hp.r4.cell 0
    have r41 : wr.cell? ⟨w.heap.size + 1, 1, none⟩ = some (.slice kA k kc) := hp.r4.cell 1
    have r42 : wr.cell? ⟨w.heap.size + 1, 2, none⟩ = some (.slice vA k vc) := hp.r4.cell 2
    have r43 : wr.cell? ⟨w.heap.size + 1, 3, none⟩ = some (.slice none 0 0) := hp.r4.cell 3
    clear hp hok hov hK hV hKl hVl
    by_cases hkl : k < m
    · have q5 : decide ((k : Int) < m) = true := decide_eq_true (by omega)
      have q5' : decide (k < m) = true := decide_eq_true hkl
      have hkk : k < n.keys.length := by rw [HM.out]; exact hkl
      have hkv : k < n.vals.length := by rw [HVL.out]; exact hkl
      have HST : Hid (entsL n k ++ tail = lenL n.keys[k] ++ (lenL n.vals[k] ++ (entsL n (k + 1) ++ tail))) := by
        unfold Hid
        rw [entsL_step n hkk]
        unfold entL
        rw [if_pos HLF.out, List.getElem?_eq_getElem hkk, List.getElem?_eq_getElem hkv]
        simp only [Option.getD_some, List.append_assoc]
      have hk1 := HN.out.keys _ (List.getElem_mem hkk)
      have hv1 := HN.out.vals _ (List.getElem_mem hkv)
      have HK1 := Lib.hid (take_snocS n.keys k hkk)
      have HV1 := Lib.hid (take_snocS n.vals k hkv)
      obtain ⟨x, hx⟩ : ∃ x, n.keys[k] = x := ⟨_, rfl⟩
      obtain ⟨y, hy⟩ : ∃ y, n.vals[k] = y := ⟨_, rfl⟩
      obtain ⟨R, hR⟩ : ∃ R, entsL n (k + 1) ++ tail = R := ⟨_, rfl⟩
      have HRR := Lib.hid hR
      rw [hx] at HST HK1 hk1
      rw [hy] at HST HV1 hv1
      rw [hR] at HST
      rw [HST.out]
      have hRl : R.length ≤ 100000 := by rw [← hR]; exact HLEN.out (k + 1)
      have hRl2 : (lenL y ++ R).length ≤ 100000 := by
        have h1 := HLEN.out k
        rw [HST.out, List.length_append] at h1
        omega
      have cT1 := fun W => HTX.out x (lenL y ++ R) W hk1 hRl2
      have cT2 := fun W => HTX.out y R W hv1 hRl
      have HV1000 : Hid (V.length + 1 ≤ 1000000000) := by have := HVV.out; unfold Hid; omega
      have HK1000 : Hid (K.length + 1 ≤ 1000000000) := by have := HKL.out; unfold Hid; omega
      have CT1 := Lib.hid cT1
      have CT2 := Lib.hid cT2
      clear hx hy hR cT1 cT2
      go_wp2_with (first
        | (go_at_call 204; (with_reducible refine (CT1.out _).mono ?_); clear CT1; rintro e w1 ⟨rfl, hb1⟩; have HB1 := Lib.hid hb1; have hz1 := hb1.size; have HP1 := Lib.hid (HP.out.more hb1); have d40 : w1.cell? ⟨w.heap.size + 1, 0, none⟩ = some (.bool true) := (by rw [← HLF.out]; exact HP1.out.r4.cell 0); clear hb1)
        | (go_at_call 204; (with_reducible refine (CT2.out _).mono ?_); clear CT2; rintro e w2 ⟨rfl, hb2⟩; have hz2 := hb2.size; have HP2 := Lib.hid (HP1.out.more hb2); have HP2a := Lib.hid (HP2.out.more (Ext.alloc w2 (.cells #[.string y] 9))); have hb42 := HP2.out.r4.lt; have e42 : w2.cell? ⟨w.heap.size + 1, 2, none⟩ = some (.slice vA k vc) := HP2.out.r4.cell 2; have G1 := HP2a.out.ov; have G2 : w.heap.size + 2 ≤ (w2.alloc (.cells #[.string y] 9)).heap.size := (by rw [World.size_alloc]; omega); rw [HV.out] at G1; have G1 := Lib.hid G1; have G2 := Lib.hid G2; have HNE : Hid (some (w.heap.size + 1) ≠ (Value.slice vA k vc).ownBlock) := (fun e => HP2a.out.ov.apartRow HP2a.out.r4 (by decide) e.symm); have HP2v := HP2a.out; rw [HV.out] at HP2v; have HP2v := Lib.hid HP2v; clear hb2)
        | (at_builtin; refine wpList_push2 elStr encS_len encS_one rfl (.tmp 55) (.tmp 57) rfl (.slice vA k vc) V rfl G1.out G2.out w2.heap.size 1 y rfl (Row1.made w2 _ (encS y)) HV1000.out (by decide) ?_; intro A3 c3 w3 hown3 hgr3 hwh3; have HLV : (V ++ [y]).length = k + 1 := (by rw [List.length_append, HVV.out]; rfl); rw [HLV] at hown3 hwh3 ⊢; have HP3 := Lib.hid (PM.pushV HP2v.out hown3 hgr3 hwh3); have HR3 := HP2a.out.r4.grown hgr3 HNE.out; have t41 : w3.cell? ⟨w.heap.size + 1, 1, none⟩ = some (.slice kA k kc) := HR3.cell 1; have t42 : w3.cell? ⟨w.heap.size + 1, 2, none⟩ = some (.slice vA k vc) := HR3.cell 2; have tf2 : w3.frozen? ⟨w.heap.size + 1, 2, none⟩ = false := HR3.soft 2; have hz3 := HP3.out.r4.lt; have HP3a := HP3.out.more (Ext.alloc _ (.cells #[.string x] 9)); have HNK : Hid (some (w.heap.size + 1) ≠ (Value.slice kA k kc).ownBlock) := (fun e => HP3a.ok.apartRow HP3a.r4 (by decide) e.symm); rw [HK.out] at HP3a; have HP3a := Lib.hid HP3a; have G3 : Hid (w.heap.size + 2 ≤ ((w3.setCell ⟨w.heap.size + 1, 2, none⟩ (.slice A3 (k + 1) c3)).alloc (.cells #[.string x] 9)).heap.size) := (by unfold Hid; rw [World.size_alloc, setCell_size]; have := HP3.out.r4.lt; rw [setCell_size] at this; omega); have G5 : Hid (Row1 ((w3.setCell ⟨w.heap.size + 1, 2, none⟩ (.slice A3 (k + 1) c3)).alloc (.cells #[.string x] 9)) w3.heap.size 9 (encS x)) := (Row1.made' (setCell_size _ _ _) _ (encS x)); clear hown3 hgr3 hwh3 HR3 HLV G1 G2)
        | (at_builtin; go_loud (refine wpList_push2 elStr encS_len encS_one rfl (.tmp 64) (.tmp 66) rfl (.slice kA k kc) K rfl HP3a.out.ok G3.out w3.heap.size 1 x rfl G5.out HK1000.out (by decide) ?_; intro A4 c4 w4 hown4 hgr4 hwh4; have HLK : (K ++ [x]).length = k + 1 := (by rw [List.length_append, HKL.out]; rfl); rw [HLK] at hown4 hwh4 ⊢; have HP4 := Lib.hid (PM.pushK HP3a.out hown4 hgr4 hwh4); have HR4 := HP3a.out.r4.grown hgr4 HNK.out; have v41 : w4.cell? ⟨w.heap.size + 1, 1, none⟩ = some (.slice kA k kc) := HR4.cell 1; have vf1 : w4.frozen? ⟨w.heap.size + 1, 1, none⟩ = false := HR4.soft 1; clear hown4 hgr4 hwh4 HR4 HLK)))
      go_roundw
      case rel => exact ⟨k + 1, _, _, by omega, by go_num, by rw [HRR.out], by rw [HK1.out, HK.out, HV1.out, HV.out]; exact HP4.out⟩
      case measure => simp [intOf]; omega
    · obtain rfl : k = m := by omega
      have q5 : decide ((k : Int) < k) = false := decide_eq_false (by omega)
      have z0 : wr.cell? ⟨w.heap.size, 0, none⟩ = some (.bool false) := HP.out.r2.cell 0
      have z1 : wr.cell? ⟨w.heap.size, 1, none⟩ = some (.slice none 0 0) := HP.out.r2.cell 1
      have z2 : wr.cell? ⟨w.heap.size, 2, none⟩ = some (.slice none 0 0) := HP.out.r2.cell 2
      have z3 : wr.cell? ⟨w.heap.size, 3, none⟩ = some (.slice none 0 0) := HP.out.r2.cell 3
      have f0 : wr.frozen? ⟨w.heap.size, 0, none⟩ = false := HP.out.r2.soft 0
      have f1 : wr.frozen? ⟨w.heap.size, 1, none⟩ = false := HP.out.r2.soft 1
      have f2 : wr.frozen? ⟨w.heap.size, 2, none⟩ = false := HP.out.r2.soft 2
      have f3 : wr.frozen? ⟨w.heap.size, 3, none⟩ = false := HP.out.r2.soft 3
      go_wp2_with fail
      refine bodyPost_ret (res_node rfl _ _ w.heap.size n (.slice kA k kc) (.slice vA k vc) (.slice none 0 0) _ rfl rfl (by rw [HLF.out]; exact ((((HP.out.r2.set 0 _).set 1 _).set 2 _).set 3 _))) rfl ?_
      obtain ⟨d1, d2⟩ := HP.out.done (only4 w.heap.size (.bool true) (.slice kA k kc) (.slice vA k vc) (.slice none 0 0))
      rw [List.take_of_length_le (by rw [HM.out]; exact Nat.le_refl _), List.take_of_length_le (by rw [HVL.out]; exact Nat.le_refl _)] at d1
      refine ⟨.slice kA k kc, .slice vA k vc, .slice none 0 0, rfl, ?_, d2⟩
      have hk0 := (HN.out.leafs HLF.out).2
      obtain ⟨lf, ks, vs, cs⟩ := n
      dsimp only at hk0 d1 ⊢
      subst hk0
      exact d1
end Go.Proofs.YtojoefcfimmipaaGreat
