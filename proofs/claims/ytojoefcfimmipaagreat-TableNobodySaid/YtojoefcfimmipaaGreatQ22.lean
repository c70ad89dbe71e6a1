/- A node that fits is laid down as it is (cut); a leaf's tree: room, put. Conditions: pages that bear nodes. -/
/- A leaf takes a record (put at a leaf). Conditions: a page that bears a leaf, and what comes fits. -/
/- A node in a block of its own whose lists are turned, one at a time. No conditions. -/
/- Whether a tree's pager has room (room). Conditions: a path of pages that bear nodes. -/
import Derived.Test.YtojoefcfimmipaaGreatQ21
import Derived.Test.YtojoefcfimmipaaGreatQ14
namespace Go.Proofs.YtojoefcfimmipaaGreat
set_option linter.unusedSimpArgs false
set_option linter.unusedVariables false
open Go.RowKit
set_option maxRecDepth 100000 in
set_option maxHeartbeats 4000000 in
theorem cut_fits {t p i : Nat} {F G : Nat → Prop} {S : StoreD} (a : Nat) (n : NodeD) {kv vv cv : Value} (w : World) (ht : TreeRow w t p i) (hnt : ¬ F t) (h : PagerAt w p F S) (hg : GivenS S a) (hn : NodeOk n) (hf : Fair n) (hs : sizeN n ≤ 256) (hv : NodeAs w G n kv vv cv) :
    Calls Tryz.prog 166 #[.pointer (some ⟨t, 0, none⟩), .int .i64 a, .agg #[.bool n.leaf, kv, vv, cv]] w fun e w' => e = .returned (.tuple #[.string ⟨#[]⟩, .int .i64 0, .int .i64 0]) ∧ ∃ F', PagerAt w' p F' (layP S a n) ∧ Keeps F F' w w' := by
  obtain ⟨kA, kc, rfl⟩ := OwnL.form hv.keys
  obtain ⟨vA, vc, rfl⟩ := OwnL.form hv.vals
  obtain ⟨cA, cc, rfl⟩ := OwnL.form hv.kids
  have cZ : Hid (∀ W, Ext w W → Calls Tryz.prog 202 #[.agg #[.bool n.leaf, .slice kA n.keys.length kc, .slice vA n.vals.length vc, .slice cA n.kids.length cc]] W fun e w' => e = .returned (.int .i64 (sizeN n)) ∧ Ext W w') := fun W hW => size_any W (hv.ext hW) hf
  have cL : Hid (∀ W, Ext w W → Calls Tryz.prog 108 #[.pointer (some ⟨t, 0, none⟩), .int .i64 a, .agg #[.bool n.leaf, .slice kA n.keys.length kc, .slice vA n.vals.length vc, .slice cA n.kids.length cc]] W fun e w' => e = .returned (.int .i64 0) ∧ ∃ F', PagerAt w' p F' (layP S a n) ∧ Keeps F F' W w') := fun W hW => lay_any a n W (ht.ext hW ht.lt) hnt (h.ext hW) hg hn hs (hv.ext hW)
  have T1 : decide ((sizeN n : Int) ≤ 256) = true := decide_eq_true (by omega)
  generalize sizeN n = sz at *
  obtain ⟨lf, hlf⟩ : ∃ lf, n.leaf = lf := ⟨_, rfl⟩
  obtain ⟨kn, hkn⟩ : ∃ kn, n.keys.length = kn := ⟨_, rfl⟩
  obtain ⟨vn, hvn⟩ : ∃ vn, n.vals.length = vn := ⟨_, rfl⟩
  obtain ⟨cn, hcn⟩ : ∃ cn, n.kids.length = cn := ⟨_, rfl⟩
  rw [hlf, hkn, hvn, hcn] at cZ cL ⊢
  obtain ⟨w0, hw0⟩ : ∃ w0, w.alloc (.cells #[.bool lf, .slice kA kn kc, .slice vA vn vc, .slice cA cn cc] 186) = w0 := ⟨_, rfl⟩
  have hx0 : Ext w w0 := hw0 ▸ Ext.alloc _ _
  have hr0 : Row1 w0 w.heap.size 186 [.bool lf, .slice kA kn kc, .slice vA vn vc, .slice cA cn cc] := hw0 ▸ Row1.made w _ _
  have c0 : w0.cell? ⟨w.heap.size, 0, none⟩ = some (.bool lf) := hr0.cell 0
  have c1 : w0.cell? ⟨w.heap.size, 1, none⟩ = some (.slice kA kn kc) := hr0.cell 1
  have c2 : w0.cell? ⟨w.heap.size, 2, none⟩ = some (.slice vA vn vc) := hr0.cell 2
  have c3 : w0.cell? ⟨w.heap.size, 3, none⟩ = some (.slice cA cn cc) := hr0.cell 3
  have HR := Lib.hid hr0
  have HX := Lib.hid hx0
  clear ht h hg hn hs hv hlf hkn hvn hcn hr0 hx0 hf
  go_enter Tryz.func166, Tryz.ntmps166
  go_wp2_with (first
    | (go_at_call 202; (with_reducible refine (cZ.out _ HX.out).mono ?_); clear cZ; rintro e w1 ⟨rfl, hx1⟩; have hr1 := HR.out.ext hx1 HR.out.lt; have d0 : w1.cell? ⟨w.heap.size, 0, none⟩ = some (.bool lf) := hr1.cell 0; have d1 : w1.cell? ⟨w.heap.size, 1, none⟩ = some (.slice kA kn kc) := hr1.cell 1; have d2 : w1.cell? ⟨w.heap.size, 2, none⟩ = some (.slice vA vn vc) := hr1.cell 2; have d3 : w1.cell? ⟨w.heap.size, 3, none⟩ = some (.slice cA cn cc) := hr1.cell 3; have HX1 := Lib.hid (Ext.trans HX.out hx1); clear hr1 hx1)
    | (go_at_call 108; (with_reducible refine (cL.out _ HX1.out).mono ?_); clear cL; rintro e w2 ⟨rfl, F2, hp2, hk2⟩; have HP2 := Lib.hid hp2; have HK2 := Lib.hid hk2; clear hp2 hk2))
  go_ret3
  exact ⟨rfl, F2, HP2.out, Keeps.trans (Keeps.of HX1.out) HK2.out⟩
end Go.Proofs.YtojoefcfimmipaaGreat
namespace Go.Proofs.YtojoefcfimmipaaGreat
set_option linter.unusedSimpArgs false
set_option linter.unusedVariables false
open Go.RowKit
theorem Keeps.side {F F' G : Nat → Prop} {w w' w'' : World} (h : Keeps F F' w w') (k : Only G w' w'') (hG : ∀ i, G i → w.heap.size ≤ i) : Keeps F F' w w'' := ⟨h.only.trans k (fun i q => .inr (hG i q)), h.new⟩
theorem NodeOk.fair {n : NodeD} (h : NodeOk n) : Fair n := by
  refine ⟨fun k hk => by have := h.keys k hk; omega, fun k hk => by have := h.vals k hk; omega, by have := h.many; omega, ?_, ?_⟩
  · cases hl : n.leaf with
    | true => have := (h.leafs hl).1; have := h.many; omega
    | false => rw [(h.inner hl).1]; simp
  · cases hl : n.leaf with
    | true => rw [(h.leafs hl).2]; simp
    | false => have := (h.inner hl).2; have := h.many; omega
/-- what cut answers for a node, and what it leaves behind -/
def CutsTo (t p i a : Nat) (S : StoreD) (n : NodeD) (R : ByteArray → Nat → StoreD → Prop) : Prop :=
  ∀ (W : World) (F G : Nat → Prop) (kv vv cv : Value), TreeRow W t p i → ¬ F t → PagerAt W p F S → NodeAs W G n kv vv cv → (∀ i, F i → ¬ G i) →
    Calls Tryz.prog 166 #[.pointer (some ⟨t, 0, none⟩), .int .i64 a, .agg #[.bool n.leaf, kv, vv, cv]] W fun e w' => ∃ (mid : ByteArray) (right : Nat) (S' : StoreD), e = .returned (.tuple #[.string mid, .int .i64 right, .int .i64 0]) ∧ R mid right S' ∧ ∃ F', PagerAt w' p F' S' ∧ Keeps F F' W w'
/-- a record in a leaf, or in the place of one -/
def putN (n : NodeD) (k v : ByteArray) : NodeD := if hasB n.keys k = true then { n with vals := n.vals.set (posB n.keys k) v } else { n with keys := insL n.keys (posB n.keys k) k, vals := insL n.vals (posB n.keys k) v }
theorem OwnL.setS {w : World} {base : Nat} {v : Value} {l : List ByteArray} (h : OwnL w base 9 1 encS v l) (i : Nat) (hi : i < l.length) (x : ByteArray) :
    ∃ g c old, v = .slice (some ⟨g, 0, none⟩) l.length c ∧ base ≤ g ∧ ∀ W, Ext w W → W.cell? ⟨g, i, none⟩ = some old ∧ W.frozen? ⟨g, i, none⟩ = false ∧ OwnL (W.setCell ⟨g, i, none⟩ (.string x)) base 9 1 encS (.slice (some ⟨g, 0, none⟩) l.length c) (l.set i x) := by
  obtain ⟨g, cap, spare, rfl, hb, hr0, hc1, hc2, hs, hfl⟩ := h.row (by omega)
  have h1 := flat_set encS 1 encS_len l i l[i] 0 (.string x) x hi rfl (by omega) rfl
  have hle : i < (l.flatMap encS ++ spare).length := by rw [List.length_append, hfl]; omega
  refine ⟨g, cap, (l.flatMap encS ++ spare)[i], rfl, hb, fun W hW => ?_⟩
  have hr := hr0.ext hW hr0.lt
  refine ⟨by rw [hr.cell]; exact List.getElem?_eq_getElem hle, hr.soft i, ?_⟩
  have h2 := hr.set i (.string x)
  rw [List.set_append_left _ _ (by rw [hfl]; omega), show (l.flatMap encS).set i (.string x) = (l.set i x).flatMap encS by rw [← h1]; simp] at h2
  have h3 := OwnL.ofRow (base := base) (cap := cap) (k := 1) (enc := encS) h2 hb (by rw [List.length_set]; exact hc1) hc2 (by rw [List.length_append, flat1_len encS_len, List.length_set]; rw [List.length_append, flat1_len encS_len] at hs; exact hs) encS_len
  rw [List.length_set] at h3
  exact h3
set_option maxRecDepth 100000 in
set_option maxHeartbeats 4000000 in
theorem put_leaf_has {t p i : Nat} {F : Nat → Prop} {S : StoreD} {R : ByteArray → Nat → StoreD → Prop} (a d : Nat) (k v : ByteArray) (n : NodeD) (w : World) (ht : TreeRow w t p i) (hnt : ¬ F t) (h : PagerAt w p F S) (hp : PageN S a n) (hl : n.leaf = true) (hr : RiseB n.keys) (hd : 0 < d) (hhas : hasB n.keys k = true) (hcut : CutsTo t p i a S (putN n k v) R) :
    Calls Tryz.prog 110 #[.pointer (some ⟨t, 0, none⟩), .int .i64 a, .int .i64 d, .string k, .string v] w fun e w' => ∃ (mid : ByteArray) (right : Nat) (S' : StoreD), e = .returned (.tuple #[.string mid, .int .i64 right, .int .i64 0]) ∧ R mid right S' ∧ ∃ F', PagerAt w' p F' S' ∧ Keeps F F' w w' := by
  have cL := load_any a n w ht h hp
  have hvl : n.vals.length = n.keys.length := (hp.ok.leafs hl).1
  have hput : putN n k v = { n with vals := n.vals.set (posB n.keys k) v } := if_pos hhas
  have hpos : posB n.keys k < n.keys.length := by
    obtain ⟨j, hj, hje⟩ := List.mem_iff_getElem.1 ((hasB_iff _ _).1 hhas)
    rw [posB_at (l := n.keys) (k := k) (p := j) (by omega) (fun q hq hlt => by rw [← hje]; exact riseB_lt hr hj hlt) (fun q hq hle => ?_)]
    · exact hj
    · rw [← hje]
      rcases Nat.eq_or_lt_of_le hle with e | e
      · subst e; exact ltB_irrefl _
      · exact ltB_asymm (riseB_lt hr hq e)
  have hlen := hp.ok.many
  have HT := Lib.hid ht
  have HNT := Lib.hid hnt
  have HG := Lib.hid hp.given
  have HRI := Lib.hid hr
  have HCUT := Lib.hid hcut
  have hlt := ht.lt
  have T0 : decide ((d : Int) = 0) = false := decide_eq_false (by omega)
  have HPOS := Lib.hid hpos
  have HVL := Lib.hid hvl
  have HP : Hid (∀ W kv vv cv G, NodeAs W G { n with vals := n.vals.set (posB n.keys k) v } kv vv cv → NodeAs W G (putN n k v) kv vv cv) := by
    rw [hput]; exact fun W kv vv cv G q => q
  have HPL : Hid ((putN n k v).leaf = true) := by rw [hput]; exact hl
  have HLF := Lib.hid hl
  have HLEN := Lib.hid hlen
  obtain ⟨pos, hpo⟩ : ∃ pos, posB n.keys k = pos := ⟨_, rfl⟩
  obtain ⟨kn, hkn⟩ : ∃ kn, n.keys.length = kn := ⟨_, rfl⟩
  rw [hpo, hkn] at HPOS
  rw [hpo] at HP
  have B1 : (pos : Int) < kn := by have := HPOS.out; omega
  have HPO := Lib.hid hpo
  have HKN := Lib.hid hkn
  have HHAS := Lib.hid hhas
  clear ht hnt h hp hr hcut hhas hput hl hlen hpos hvl hpo hkn
  go_enter Tryz.func110, Tryz.ntmps110
  go_wp2_with (first
    | (go_at_call 104; (with_reducible refine cL.mono ?_); clear cL; rintro e w1 ⟨kv, vv, cv, B, F1, rfl, hn1, hp1, hk1, hB, hF1⟩
       obtain ⟨kA, kc, rfl⟩ := OwnL.form hn1.keys; obtain ⟨vg, vc, old, rfl, hvb, hvs⟩ := OwnL.setS hn1.vals pos (by rw [HVL.out, HKN.out]; exact HPOS.out) v; obtain ⟨cA, cc, rfl⟩ := OwnL.form hn1.kids
       rw [HVL.out, HKN.out] at hn1 hvs
       rw [HLF.out, HVL.out, HKN.out]
       have HVS := Lib.hid hvs; clear hvs
       have HBV : Hid (B ≤ vg) := hn1.fv vg rfl
       have HR1 : Hid (TreeRow w1 t p i) := Lib.hid (hk1.only.row HT.out HNT.out)
       have HNT1 : Hid (¬ F1 t) := hk1.out hlt HNT.out
       have HTV : Hid (¬ t = vg) := by have h8 := Nat.lt_of_lt_of_le hlt hB; have h9 := HBV.out; intro e; omega
       have HN1 := Lib.hid hn1; have HP1 := Lib.hid hp1; have HK1 := Lib.hid hk1; have HB := Lib.hid hB; have HF1 := Lib.hid hF1
       have cS : Hid (∀ W, Ext w1 W → Calls Tryz.prog 127 #[.slice kA kn kc, .string k] W fun e w' => e = .returned (.tuple #[.int .i64 pos, .bool true]) ∧ W = w') := fun W hW => by
         have q := search_any k W (hn1.keys.ext hW) HRI.out (by have := HLEN.out; omega)
         rw [HPO.out, HHAS.out] at q; exact q
       clear hn1 hp1 hk1 hB hF1)
    | (go_at_call 127; (with_reducible refine (cS.out _ (Ext.alloc _ _)).mono ?_); clear cS; rintro e w2 ⟨rfl, hW⟩
       have hx2 : Ext w1 w2 := hW ▸ Ext.alloc _ _
       have hr2 : Row1 w2 w1.heap.size 186 [.bool true, .slice kA kn kc, .slice (some ⟨vg, 0, none⟩) kn vc, .slice cA n.kids.length cc] := hW ▸ Row1.made w1 _ _
       clear hW
       have hvlt : vg < w1.heap.size := (HN1.out.vals.lt vg rfl).2
       have d0 : w2.cell? ⟨w1.heap.size, 0, none⟩ = some (.bool true) := hr2.cell 0; have d1 : w2.cell? ⟨w1.heap.size, 1, none⟩ = some (.slice kA kn kc) := hr2.cell 1; have d2 : w2.cell? ⟨w1.heap.size, 2, none⟩ = some (.slice (some ⟨vg, 0, none⟩) kn vc) := hr2.cell 2; have d3 : w2.cell? ⟨w1.heap.size, 3, none⟩ = some (.slice cA n.kids.length cc) := hr2.cell 3
       have o1 : w2.cell? ⟨vg, pos, none⟩ = some old := (HVS.out _ hx2).1
       have o2 : w2.frozen? ⟨vg, pos, none⟩ = false := (HVS.out _ hx2).2.1
       have n1 : ¬ (vg = w1.heap.size) := by omega
       have n2 : ¬ (w1.heap.size = vg) := by omega
       have HX2 := Lib.hid hx2; have HR2 := Lib.hid hr2
       have hW3 : Only (fun j => j = vg) w2 (w2.setCell ⟨vg, pos, none⟩ (.string v)) := Only.setCell (F := fun j => j = vg) (p := ⟨vg, pos, none⟩) Only.refl (.inl rfl) _
       have hN3 : NodeAs (w2.setCell ⟨vg, pos, none⟩ (.string v)) (fun j => B ≤ j) { n with vals := n.vals.set pos v } (.slice kA kn kc) (.slice (some ⟨vg, 0, none⟩) kn vc) (.slice cA n.kids.length cc) := by
         have h2 := HN1.out.ext hx2
         have h3 := (HVS.out _ hx2).2.2
         exact ⟨h2.keys.only hW3 (fun j q q' => h2.sep j q (by rw [q']; rfl)), h3.lower (Nat.zero_le _), h2.kids.only hW3 (fun j q q' => h2.kids.apart h2.vals (by decide) q (by rw [q']; rfl)), h2.sep, h2.fk, h2.fv, h2.fc⟩
       have cC := HCUT.out (w2.setCell ⟨vg, pos, none⟩ (.string v)) _ _ _ _ _ (hW3.row (HR1.out.ext hx2 HR1.out.lt) (fun q => HTV.out q)) (fun q => HNT1.out q) ((HP1.out.ext hx2).only hW3 (fun j q q' => by subst q'; have h8 := HF1.out _ q; have h9 := HBV.out; omega)) (HP.out _ _ _ _ _ hN3) (fun j q q' => by have h8 := HF1.out _ q; have h9 : B ≤ j := q'; omega)
       rw [HPL.out] at cC
       have HX3 : Hid (Only (fun j => j = vg) w1 (w2.setCell ⟨vg, pos, none⟩ (.string v))) := (Only.of hx2).trans' hW3
       clear hx2 hr2 hW3 hN3)
    | (go_at_call 166; (with_reducible refine cC.mono ?_); clear cC; rintro e w4 ⟨mid, right, S4, rfl, hcr, F4, hp4, hk4⟩; have HCR := Lib.hid hcr; have HP4 := Lib.hid hp4; have HK4 := Lib.hid hk4; clear hcr hp4 hk4))
  go_ret3
  exact ⟨mid, right, S4, rfl, HCR.out, F4, HP4.out, Keeps.trans (HK1.out.side HX3.out (fun j q => by subst q; have := HB.out; have := HBV.out; omega)) HK4.out⟩
end Go.Proofs.YtojoefcfimmipaaGreat
namespace Go.Proofs.YtojoefcfimmipaaGreat
set_option linter.unusedSimpArgs false
set_option linter.unusedVariables false
open Go.RowKit
structure Boxed (w1 W : World) (B D : Nat) (n : NodeD) (kv vv cv : Value) : Prop where
  own : NodeAs W (fun j => B ≤ j) n kv vv cv
  row : Row1 W D 186 [.bool n.leaf, kv, vv, cv]
  only : Only (fun j => B ≤ j) w1 W
  bd : B ≤ D
section
variable {w1 W w3 : World} {B D : Nat} {n : NodeD} {kv vv cv : Value}
theorem Boxed.ext (h : Boxed w1 W B D n kv vv cv) (hb : Ext W w3) : Boxed w1 w3 B D n kv vv cv := ⟨h.own.ext hb, h.row.ext hb h.row.lt, h.only.ext hb, h.bd⟩
theorem Boxed.made (h : NodeAs w1 (fun j => B ≤ j) n kv vv cv) (hB : B ≤ w1.heap.size) (hW : w1.alloc (.cells #[.bool n.leaf, kv, vv, cv] 186) = W) : Boxed w1 W B w1.heap.size n kv vv cv := by
  subst hW
  exact ⟨h.ext (Ext.alloc _ _), Row1.made w1 _ _, Only.of (Ext.alloc _ _), hB⟩
theorem Boxed.keysD (h : Boxed w1 W B D n kv vv cv) : kv.ownBlock ≠ some D := h.own.keys.apartRow h.row (by decide)
theorem Boxed.valsD (h : Boxed w1 W B D n kv vv cv) : vv.ownBlock ≠ some D := h.own.vals.apartRow h.row (by decide)
theorem Boxed.kidsD (h : Boxed w1 W B D n kv vv cv) : cv.ownBlock ≠ some D := h.own.kids.apartRow h.row (by decide)
theorem only1 (w : World) (D o : Nat) (u : Value) : Only (fun j => j = D) w (w.setCell ⟨D, o, none⟩ u) := Only.setCell (F := fun j => j = D) (p := ⟨D, o, none⟩) Only.refl (.inl rfl) u
theorem Boxed.rowK (h : Boxed w1 W B D n kv vv cv) (hx : Only (fun j => kv.ownBlock = some j) W w3) : Row1 w3 D 186 [.bool n.leaf, kv, vv, cv] := hx.row h.row h.keysD
theorem Boxed.rowV (h : Boxed w1 W B D n kv vv cv) (hx : Only (fun j => vv.ownBlock = some j) W w3) : Row1 w3 D 186 [.bool n.leaf, kv, vv, cv] := hx.row h.row h.valsD
theorem Boxed.rowC (h : Boxed w1 W B D n kv vv cv) (hx : Only (fun j => cv.ownBlock = some j) W w3) : Row1 w3 D 186 [.bool n.leaf, kv, vv, cv] := hx.row h.row h.kidsD
theorem Boxed.setK (h : Boxed w1 W B D n kv vv cv) {kv' : Value} {K' : List ByteArray} (hown : OwnL w3 0 9 1 encS kv' K') (hwh : ∀ b, kv'.ownBlock = some b → kv.ownBlock = some b ∨ W.heap.size ≤ b) (hx : Only (fun j => kv.ownBlock = some j) W w3) :
    Boxed w1 (w3.setCell ⟨D, 1, none⟩ kv') B D { n with keys := K' } kv' vv cv := by
  have ho := only1 w3 D 1 kv'
  have hr3 := h.rowK hx
  have hlt := h.row.lt
  have hv3 := h.own.vals.only hx (fun k q q' => h.own.sep k q' q)
  have hc3 := h.own.kids.only hx (fun k q q' => h.own.kids.apart h.own.keys (by decide) q q')
  have hF : ∀ b, kv'.ownBlock = some b → B ≤ b := fun b q => by
    rcases hwh b q with r | r
    · exact h.own.fk b r
    · have := h.bd; omega
  refine ⟨⟨hown.only ho (fun k q q' => hown.apartRow hr3 (by decide) (by rw [q, q'])), hv3.only ho (fun k q q' => hv3.apartRow hr3 (by decide) (by rw [q, q'])), hc3.only ho (fun k q q' => hc3.apartRow hr3 (by decide) (by rw [q, q'])), fun b q q' => ?_, hF, h.own.fv, h.own.fc⟩, hr3.set 1 kv', ?_, h.bd⟩
  · rcases hwh b q with r | r
    · exact h.own.sep b r q'
    · have := (h.own.vals.lt b q').2; omega
  · exact (h.only.trans' (hx.mono (fun i q => .inl (h.own.fk i q)))).trans' (ho.mono (fun i q => .inl (by have := h.bd; omega)))
theorem Boxed.setV (h : Boxed w1 W B D n kv vv cv) {vv' : Value} {V' : List ByteArray} (hown : OwnL w3 0 9 1 encS vv' V') (hwh : ∀ b, vv'.ownBlock = some b → vv.ownBlock = some b ∨ W.heap.size ≤ b) (hx : Only (fun j => vv.ownBlock = some j) W w3) :
    Boxed w1 (w3.setCell ⟨D, 2, none⟩ vv') B D { n with vals := V' } kv vv' cv := by
  have ho := only1 w3 D 2 vv'
  have hr3 := h.rowV hx
  have hlt := h.row.lt
  have hk3 := h.own.keys.only hx (fun k q q' => h.own.sep k q q')
  have hc3 := h.own.kids.only hx (fun k q q' => h.own.kids.apart h.own.vals (by decide) q q')
  have hF : ∀ b, vv'.ownBlock = some b → B ≤ b := fun b q => by
    rcases hwh b q with r | r
    · exact h.own.fv b r
    · have := h.bd; omega
  refine ⟨⟨hk3.only ho (fun k q q' => hk3.apartRow hr3 (by decide) (by rw [q, q'])), hown.only ho (fun k q q' => hown.apartRow hr3 (by decide) (by rw [q, q'])), hc3.only ho (fun k q q' => hc3.apartRow hr3 (by decide) (by rw [q, q'])), fun b q q' => ?_, h.own.fk, hF, h.own.fc⟩, hr3.set 2 vv', ?_, h.bd⟩
  · rcases hwh b q' with r | r
    · exact h.own.sep b q r
    · have := (h.own.keys.lt b q).2; omega
  · exact (h.only.trans' (hx.mono (fun i q => .inl (h.own.fv i q)))).trans' (ho.mono (fun i q => .inl (by have := h.bd; omega)))
theorem Boxed.setC (h : Boxed w1 W B D n kv vv cv) {cv' : Value} {C' : List Int} (hown : OwnL w3 0 3 1 encN cv' C') (hwh : ∀ b, cv'.ownBlock = some b → cv.ownBlock = some b ∨ W.heap.size ≤ b) (hx : Only (fun j => cv.ownBlock = some j) W w3) :
    Boxed w1 (w3.setCell ⟨D, 3, none⟩ cv') B D { n with kids := C' } kv vv cv' := by
  have ho := only1 w3 D 3 cv'
  have hr3 := h.rowC hx
  have hlt := h.row.lt
  have hk3 := h.own.keys.only hx (fun k q q' => h.own.keys.apart h.own.kids (by decide) q q')
  have hv3 := h.own.vals.only hx (fun k q q' => h.own.vals.apart h.own.kids (by decide) q q')
  have hF : ∀ b, cv'.ownBlock = some b → B ≤ b := fun b q => by
    rcases hwh b q with r | r
    · exact h.own.fc b r
    · have := h.bd; omega
  refine ⟨⟨hk3.only ho (fun k q q' => hk3.apartRow hr3 (by decide) (by rw [q, q'])), hv3.only ho (fun k q q' => hv3.apartRow hr3 (by decide) (by rw [q, q'])), hown.only ho (fun k q q' => hown.apartRow hr3 (by decide) (by rw [q, q'])), h.own.sep, h.own.fk, h.own.fv, hF⟩, hr3.set 3 cv', ?_, h.bd⟩
  exact (h.only.trans' (hx.mono (fun i q => .inl (h.own.fc i q)))).trans' (ho.mono (fun i q => .inl (by have := h.bd; omega)))
end
theorem load2_any {t p i : Nat} {F : Nat → Prop} {S : StoreD} (a : Nat) (n : NodeD) (w : World) (ht : TreeRow w t p i) (h : PagerAt w p F S) (hp : PageN S a n) :
    Calls Tryz.prog 104 #[.pointer (some ⟨t, 0, none⟩), .int .i64 a] w fun e w' => ∃ kA kn kc vA vn vc cA cn cc B F', e = .returned (.tuple #[.agg #[.bool n.leaf, .slice kA kn kc, .slice vA vn vc, .slice cA cn cc], .int .i64 0]) ∧ NodeAs w' (fun i => B ≤ i) n (.slice kA kn kc) (.slice vA vn vc) (.slice cA cn cc) ∧ PagerAt w' p F' S ∧ Keeps F F' w w' ∧ w.heap.size ≤ B ∧ (∀ i, F' i → i < B) ∧ B ≤ w'.heap.size := by
  refine (load_any a n w ht h hp).mono ?_
  rintro e w1 ⟨kv, vv, cv, B, F1, rfl, hn1, hp1, hk1, hB, hF1⟩
  obtain ⟨kA, kc, rfl⟩ := OwnL.form hn1.keys
  obtain ⟨vA, vc, rfl⟩ := OwnL.form hn1.vals
  obtain ⟨cA, cc, rfl⟩ := OwnL.form hn1.kids
  have hs := hk1.only.size
  refine ⟨_, _, _, _, _, _, _, _, _, Nat.min B w1.heap.size, _, rfl, hn1.mono (fun i q => Nat.le_trans (Nat.min_le_left _ _) q), hp1.shrink, hk1.shrink, Nat.le_min.2 ⟨hB, hs⟩, fun i q => Nat.lt_min.2 ⟨hF1 i q.1, q.2⟩, Nat.min_le_right _ _⟩
set_option maxRecDepth 100000 in
set_option maxHeartbeats 4000000 in
theorem put_leaf_new {t p i : Nat} {F : Nat → Prop} {S : StoreD} {R : ByteArray → Nat → StoreD → Prop} (a d : Nat) (k v : ByteArray) (n : NodeD) (w : World) (ht : TreeRow w t p i) (hnt : ¬ F t) (h : PagerAt w p F S) (hp : PageN S a n) (hl : n.leaf = true) (hr : RiseB n.keys) (hd : 0 < d) (hhas : hasB n.keys k = false) (hcut : CutsTo t p i a S (putN n k v) R) :
    Calls Tryz.prog 110 #[.pointer (some ⟨t, 0, none⟩), .int .i64 a, .int .i64 d, .string k, .string v] w fun e w' => ∃ (mid : ByteArray) (right : Nat) (S' : StoreD), e = .returned (.tuple #[.string mid, .int .i64 right, .int .i64 0]) ∧ R mid right S' ∧ ∃ F', PagerAt w' p F' S' ∧ Keeps F F' w w' := by
  have cL := load2_any a n w ht h hp
  have hvl : n.vals.length = n.keys.length := (hp.ok.leafs hl).1
  have hput : putN n k v = { n with keys := insL n.keys (posB n.keys k) k, vals := insL n.vals (posB n.keys k) v } := if_neg (by rw [hhas]; decide)
  have hpos : posB n.keys k ≤ n.keys.length := posB_le _ _
  have hlen := hp.ok.many
  have HT := Lib.hid ht
  have HNT := Lib.hid hnt
  have HG := Lib.hid hp.given
  have HRI := Lib.hid hr
  have HCUT := Lib.hid hcut
  have hlt := ht.lt
  have T0 : decide ((d : Int) = 0) = false := decide_eq_false (by omega)
  have HPOS := Lib.hid hpos
  have HVL := Lib.hid hvl
  have HP : Hid (∀ W kv vv cv G, NodeAs W G { n with keys := insL n.keys (posB n.keys k) k, vals := insL n.vals (posB n.keys k) v } kv vv cv → NodeAs W G (putN n k v) kv vv cv) := by
    rw [hput]; exact fun W kv vv cv G q => q
  have HPL : Hid ((putN n k v).leaf = true) := by rw [hput]; exact hl
  have HLF := Lib.hid hl
  have HLEN := Lib.hid hlen
  obtain ⟨pos, hpo⟩ : ∃ pos, posB n.keys k = pos := ⟨_, rfl⟩
  rw [hpo] at HPOS HP
  have HPO := Lib.hid hpo
  have HHAS := Lib.hid hhas
  clear ht hnt h hp hr hcut hhas hput hl hlen hpos hvl hpo
  go_enter Tryz.func110, Tryz.ntmps110
  go_wp2_with (first
    | (go_at_call 104; (with_reducible refine cL.mono ?_); clear cL; rintro e w1 ⟨kA, kn, kc, vA, vn, vc, cA, cn, cc, B, F1, rfl, hn1, hp1, hk1, hB, hF1, hBW⟩
       rw [HLF.out]
       have HR1 : Hid (TreeRow w1 t p i) := Lib.hid (hk1.only.row HT.out HNT.out)
       have HNT1 : Hid (¬ F1 t) := hk1.out hlt HNT.out
       have HTB : Hid (¬ B ≤ t) := by have h8 := Nat.lt_of_lt_of_le hlt hB; intro e; omega
       have HBW : Hid (B ≤ w1.heap.size) := Lib.hid hBW
       have HN1 := Lib.hid hn1; have HP1 := Lib.hid hp1; have HK1 := Lib.hid hk1; have HB := Lib.hid hB; have HF1 := Lib.hid hF1
       have cS : Hid (∀ W, Ext w1 W → Calls Tryz.prog 127 #[.slice kA kn kc, .string k] W fun e w' => e = .returned (.tuple #[.int .i64 pos, .bool false]) ∧ W = w') := fun W hW => by
         have q := search_any k W (hn1.keys.ext hW) HRI.out (by have := HLEN.out; omega)
         rw [HPO.out, HHAS.out] at q; exact q
       clear hn1 hp1 hk1 hB hF1)
    | (go_at_call 127; (with_reducible refine (cS.out _ (Ext.alloc _ _)).mono ?_); clear cS; rintro e w2 ⟨rfl, hW⟩
       have hb2 : Boxed w1 w2 B w1.heap.size n (.slice kA kn kc) (.slice vA vn vc) (.slice cA cn cc) := Boxed.made HN1.out HBW.out (by rw [HLF.out]; exact hW)
       clear hW
       have d0 : w2.cell? ⟨w1.heap.size, 0, none⟩ = some (.bool true) := by rw [hb2.row.cell, HLF.out]; rfl
       have d1 : w2.cell? ⟨w1.heap.size, 1, none⟩ = some (.slice kA kn kc) := hb2.row.cell 1
       have cI := insS_any k w2.heap.size pos (w2.alloc (.cells #[.string k] 9)) (hb2.own.keys.alloc _) HPOS.out (Row1.made w2 _ [.string k]) (fun q => by have := (hb2.own.keys.lt _ q).2; omega) (by have := HLEN.out; omega)
       have HB2 := Lib.hid (hb2.ext (Ext.alloc w2 (.cells #[.string k] 9)))
       have HLT := Lib.hid hb2.row.lt
       clear hb2)
    | (go_at_call 165; (with_reducible refine cI.mono ?_); clear cI; rintro e w4 ⟨kv', rfl, h1, h2, h3⟩
       obtain ⟨kA', kn', kc', rfl⟩ : ∃ kA kn kc, kv' = .slice kA kn kc := let ⟨A, c, q⟩ := OwnL.form h1; ⟨A, _, c, q⟩
       have hb4 := HB2.out.setK h1 h2 h3
       have hr4 := HB2.out.rowK h3
       have e1 : w4.cell? ⟨w1.heap.size, 1, none⟩ = some (.slice kA kn kc) := hr4.cell 1
       have e2 : w4.cell? ⟨w1.heap.size, 2, none⟩ = some (.slice vA vn vc) := hr4.cell 2
       have e3 : w4.frozen? ⟨w1.heap.size, 1, none⟩ = false := hr4.soft 1
       have cJ := insS_any v (w4.setCell ⟨w1.heap.size, 1, none⟩ (.slice kA' kn' kc')).heap.size pos ((w4.setCell ⟨w1.heap.size, 1, none⟩ (.slice kA' kn' kc')).alloc (.cells #[.string v] 9)) (hb4.own.vals.alloc _) (by show pos ≤ n.vals.length; rw [HVL.out]; exact HPOS.out) (Row1.made _ _ [.string v]) (fun q => by have := (hb4.own.vals.lt _ q).2; omega) (by show n.vals.length ≤ 100000; have := HLEN.out; have := HVL.out; omega)
       rw [setCell_size] at cJ
       have HB4 := Lib.hid (hb4.ext (Ext.alloc _ (.cells #[.string v] 9)))
       clear hb4 hr4 h1 h2 h3)
    | (go_at_call 165; (with_reducible refine cJ.mono ?_); clear cJ; rintro e w7 ⟨vv', rfl, h1, h2, h3⟩
       obtain ⟨vA', vn', vc', rfl⟩ : ∃ kA kn kc, vv' = .slice kA kn kc := let ⟨A, c, q⟩ := OwnL.form h1; ⟨A, _, c, q⟩
       have hb7 := HB4.out.setV h1 h2 h3
       have hr7 := HB4.out.rowV h3
       have g0 : w7.cell? ⟨w1.heap.size, 0, none⟩ = some (.bool true) := by rw [hr7.cell]; show some (Value.bool n.leaf) = _; rw [HLF.out]
       have g1 : w7.cell? ⟨w1.heap.size, 1, none⟩ = some (.slice kA' kn' kc') := hr7.cell 1
       have g2 : w7.cell? ⟨w1.heap.size, 2, none⟩ = some (.slice vA vn vc) := hr7.cell 2
       have g3 : w7.cell? ⟨w1.heap.size, 3, none⟩ = some (.slice cA cn cc) := hr7.cell 3
       have g4 : w7.frozen? ⟨w1.heap.size, 2, none⟩ = false := hr7.soft 2
       have cC := HCUT.out (w7.setCell ⟨w1.heap.size, 2, none⟩ (.slice vA' vn' vc')) _ _ _ _ _ (hb7.only.row HR1.out HTB.out) HNT1.out (HP1.out.only hb7.only (fun j q q' => by have h8 := HF1.out _ q; omega)) (HP.out _ _ _ _ _ hb7.own) (fun j q q' => by have h8 := HF1.out _ q; have h9 : B ≤ j := q'; omega)
       rw [HPL.out] at cC
       have HB7 := Lib.hid hb7.only
       clear hb7 hr7 h1 h2 h3)
    | (go_at_call 166; (with_reducible refine cC.mono ?_); clear cC; rintro e w8 ⟨mid, right, S4, rfl, hcr, F4, hp4, hk4⟩; have HCR := Lib.hid hcr; have HP4 := Lib.hid hp4; have HK4 := Lib.hid hk4; clear hcr hp4 hk4))
  go_ret3
  exact ⟨mid, right, S4, rfl, HCR.out, F4, HP4.out, Keeps.trans (HK1.out.side HB7.out (fun j q => by have := HB.out; omega)) HK4.out⟩
end Go.Proofs.YtojoefcfimmipaaGreat
namespace Go.Proofs.YtojoefcfimmipaaGreat
set_option linter.unusedSimpArgs false
set_option linter.unusedVariables false
open Go.RowKit
/-- leftmost path of a tree: so many inner nodes and a leaf -/
def Spine (S : StoreD) : Nat → Nat → Prop
  | 0, a => ∃ n, PageN S a n ∧ n.leaf = true
  | d + 1, a => ∃ n, PageN S a n ∧ n.leaf = false ∧ Spine S d (n.kids[0]?.getD 0).toNat
def roomR (S : StoreD) (d : Nat) : Nat := if roomS S < d + 2 then 13 else 0
theorem own_head {w : World} {v : Value} {base : Nat} {l : List Int} (h : OwnL w base 3 1 encN v l) (hl : 0 < l.length) : ∃ g c, v = .slice (some ⟨g, 0, none⟩) l.length c ∧ g < w.heap.size ∧ w.cell? ⟨g, 0, none⟩ = some (.int .i64 (l[0]?.getD 0)) := by
  obtain ⟨A, c, rfl, _, _, hx⟩ := ownN_open h
  obtain ⟨b, rfl, _, hb, _, hc⟩ := hx hl
  have := hc 0 hl
  exact ⟨b, c, rfl, hb, by rw [List.getElem?_eq_getElem hl]; exact this⟩
set_option maxRecDepth 100000 in
set_option maxHeartbeats 4000000 in
theorem room_any {t p i : Nat} {F : Nat → Prop} {S : StoreD} (a d : Nat) (w : World) (ht : TreeRow w t p i) (hnt : ¬ F t) (h : PagerAt w p F S) (hs : Spine S d a) (hd : d < 32) :
    Calls Tryz.prog 109 #[.pointer (some ⟨t, 0, none⟩), .int .i64 a] w fun e w' => e = .returned (.int .i64 (roomR S d)) ∧ ∃ F', PagerAt w' p F' S ∧ Keeps F F' w w' := by
  have HS := Lib.hid hs
  have HT := Lib.hid ht
  have HNT := Lib.hid hnt
  have HP := Lib.hid h
  have HTL := Lib.hid ht.lt
  have HR : Hid (roomR S d = if roomS S < d + 2 then 13 else 0) := rfl
  obtain ⟨r, hr⟩ : ∃ r, roomS S = r := ⟨_, rfl⟩
  rw [hr] at HR
  have HRR : Hid (∀ W F1, PagerAt W p F1 S → Calls Tryz.prog 50 #[.pointer (some ⟨p, 0, none⟩)] W fun e w' => e = .returned (.int .i64 r) ∧ ∃ F', PagerAt w' p F' S ∧ Keeps F1 F' W w') := by
    rw [← hr]; exact fun W F1 q => proom_any W q
  clear hs ht hnt h hr
  go_enter Tryz.func109, Tryz.ntmps109
  go_wp2_with fail
  go_loopw [1, 5, 8] (fun x y z wr => ∃ (k j b : Nat), k + j = d ∧ x = .int .i64 b ∧ y = .int .i64 ((k : Int) + 1) ∧ z = .int .i64 k ∧ Hid (Spine S j b) ∧ ∃ Fr, Hid (PagerAt wr p Fr S) ∧ Hid (Keeps F Fr w wr)) (fun _ _ z _ => d - (intOf z).toNat)
  case atStart => exact ⟨0, d, a, by omega, rfl, rfl, rfl, HS, F, HP, Keeps.refl⟩
  case round =>
    obtain ⟨k, j, b, hk, rfl, rfl, rfl, hsp, Fr, hpr, hkr⟩ := hrel
    have q1 : decide ((k : Int) < 32) = true := decide_eq_true (by omega)
    have hnr : ¬ Fr t := hkr.out.out HTL.out HNT.out
    have htr : TreeRow wr t p i := hkr.out.only.row HT.out HNT.out
    cases j with
    | zero =>
      obtain ⟨n, hn, hl⟩ := hsp.out
      have cL := load2_any b n wr htr hpr.out hn
      have HNR := Lib.hid hnr
      have HTR := Lib.hid htr
      have HKR := hkr
      have HHD := Lib.hid hk
      rw [hl] at cL
      clear hn hl hnr htr hpr hkr hsp
      obtain ⟨bb, hbb⟩ : ∃ bb, decide ((r : Int) < (k : Int) + 1 + 1) = bb := ⟨_, rfl⟩
      have HBB := Lib.hid hbb
      cases bb
      · go_wp2_with (first
          | (go_at_call 104; (with_reducible refine cL.mono ?_); clear cL; rintro e w1 ⟨kA, kn, kc, vA, vn, vc, cA, cn, cc, B, F1, rfl, hn1, hp1, hk1, hB, hF1, hBW⟩
             have hr1 : TreeRow (w1.alloc (.cells #[.bool true, .slice kA kn kc, .slice vA vn vc, .slice cA cn cc] 186)) t p i := Row1.alloc (hk1.only.row HTR.out HNR.out) _
             have c0 : (w1.alloc (.cells #[.bool true, .slice kA kn kc, .slice vA vn vc, .slice cA cn cc] 186)).cell? ⟨t, 0, none⟩ = some (.pointer (some ⟨p, 0, none⟩)) := hr1.cell 0
             have cR := HRR.out _ _ (hp1.ext (Ext.alloc w1 (.cells #[.bool true, .slice kA kn kc, .slice vA vn vc, .slice cA cn cc] 186)))
             have HK1 : Hid (Keeps F F1 w (w1.alloc (.cells #[.bool true, .slice kA kn kc, .slice vA vn vc, .slice cA cn cc] 186))) := Keeps.ext (Keeps.trans HKR.out hk1) (Ext.alloc _ _)
             clear hn1 hp1 hk1 hB hF1 hBW hr1)
          | (go_at_call 50; (with_reducible refine cR.mono ?_); clear cR; rintro e w2 ⟨rfl, F2, hp2, hk2⟩; have HP2 := Lib.hid hp2; have HK2 := Lib.hid hk2; clear hp2 hk2))
        go_ret
        refine ⟨?_, F2, HP2.out, Keeps.trans HK1.out HK2.out⟩
        rw [HR.out, if_neg (by have := of_decide_eq_false HBB.out; have := HHD.out; omega)]
        rfl
      · go_wp2_with (first
          | (go_at_call 104; (with_reducible refine cL.mono ?_); clear cL; rintro e w1 ⟨kA, kn, kc, vA, vn, vc, cA, cn, cc, B, F1, rfl, hn1, hp1, hk1, hB, hF1, hBW⟩
             have hr1 : TreeRow (w1.alloc (.cells #[.bool true, .slice kA kn kc, .slice vA vn vc, .slice cA cn cc] 186)) t p i := Row1.alloc (hk1.only.row HTR.out HNR.out) _
             have c0 : (w1.alloc (.cells #[.bool true, .slice kA kn kc, .slice vA vn vc, .slice cA cn cc] 186)).cell? ⟨t, 0, none⟩ = some (.pointer (some ⟨p, 0, none⟩)) := hr1.cell 0
             have cR := HRR.out _ _ (hp1.ext (Ext.alloc w1 (.cells #[.bool true, .slice kA kn kc, .slice vA vn vc, .slice cA cn cc] 186)))
             have HK1 : Hid (Keeps F F1 w (w1.alloc (.cells #[.bool true, .slice kA kn kc, .slice vA vn vc, .slice cA cn cc] 186))) := Keeps.ext (Keeps.trans HKR.out hk1) (Ext.alloc _ _)
             clear hn1 hp1 hk1 hB hF1 hBW hr1)
          | (go_at_call 50; (with_reducible refine cR.mono ?_); clear cR; rintro e w2 ⟨rfl, F2, hp2, hk2⟩; have HP2 := Lib.hid hp2; have HK2 := Lib.hid hk2; clear hp2 hk2))
        go_ret
        refine ⟨?_, F2, HP2.out, Keeps.trans HK1.out HK2.out⟩
        rw [HR.out, if_pos (by have := of_decide_eq_true HBB.out; have := HHD.out; omega)]
        rfl
    | succ j =>
      obtain ⟨n, hn, hl, hsn⟩ := hsp.out
      have cL := load2_any b n wr htr hpr.out hn
      have hkl := (hn.ok.inner hl).2
      have hk0 : 0 < n.kids.length := by omega
      have hc0 : (0 : Int) ≤ n.kids[0]?.getD 0 := by rw [List.getElem?_eq_getElem hk0]; exact (hn.ok.kids _ (List.getElem_mem _)).1
      have HNR := Lib.hid hnr
      have HTR := Lib.hid htr
      have HKR := hkr
      have HSN := Lib.hid hsn
      have HK0 := Lib.hid hk0
      have HC : Hid ((((n.kids[0]?.getD 0).toNat : Nat) : Int) = n.kids[0]?.getD 0) := Int.toNat_of_nonneg hc0
      rw [hl] at cL
      clear hn hl hnr htr hpr hkr hsp hsn hkl hk0 hc0
      go_wp2_with (first
        | (go_at_call 104; (with_reducible refine cL.mono ?_); clear cL; rintro e w1 ⟨kA, kn, kc, vA, vn, vc, cA, cn, cc, B, F1, rfl, hn1, hp1, hk1, hB, hF1, hBW⟩
           obtain ⟨g, c, hcv, hg, hgc⟩ := own_head hn1.kids HK0.out
           obtain ⟨x, hx⟩ : ∃ x, (n.kids[0]?.getD 0).toNat = x := ⟨_, rfl⟩
           injection hcv with e1 e2 e3
           subst e1 e3
           have q3 : decide (0 < cn) = true := decide_eq_true (by have := HK0.out; omega)
           have q4 : 0 < cn := by have := HK0.out; omega
           have d0 : (w1.alloc (.cells #[.bool false, .slice kA kn kc, .slice vA vn vc, .slice (some ⟨g, 0, none⟩) cn cc] 186)).cell? ⟨g, 0, none⟩ = some (.int .i64 x) := by rw [(Ext.alloc w1 _).cell (p := ⟨g, 0, none⟩) hg, hgc, ← hx, HC.out]
           have HX := Lib.hid hx
           have HK1 : Hid (Keeps F F1 w (w1.alloc (.cells #[.bool false, .slice kA kn kc, .slice vA vn vc, .slice (some ⟨g, 0, none⟩) cn cc] 186))) := Keeps.ext (Keeps.trans HKR.out hk1) (Ext.alloc _ _)
           have HP1 : Hid (PagerAt (w1.alloc (.cells #[.bool false, .slice kA kn kc, .slice vA vn vc, .slice (some ⟨g, 0, none⟩) cn cc] 186)) p F1 S) := hp1.ext (Ext.alloc _ _)
           clear hn1 hp1 hk1 hB hF1 hBW hx hgc e2))
      go_roundw
      case rel => exact ⟨k + 1, j, x, by omega, by go_num, by go_num, by go_num, Lib.hid (by have q := HSN.out; rw [HX.out] at q; exact q), F1, HP1, HK1⟩
      case measure => simp [intOf]; omega
end Go.Proofs.YtojoefcfimmipaaGreat
