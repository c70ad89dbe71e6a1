/- An inner node is written. Conditions: a node that a page holds. -/
/- A tree's handle: root, load, lay; where a key lies. Conditions: pages that bear nodes. -/
/- A tree's handle: lay, root; where a key lies. Conditions: pages that bear nodes. -/
import Derived.Test.YtojoefcfimmipaaGreatQ20
namespace Go.Proofs.YtojoefcfimmipaaGreat
set_option linter.unusedSimpArgs false
set_option linter.unusedVariables false
open Go.RowKit
set_option maxRecDepth 100000 in
set_option maxHeartbeats 4000000 in
theorem write_inner {n : NodeD} {kv vv cv : Value} (w : World) (h : NodeRd w n kv vv cv) (hn : NodeOk n) (hl : n.leaf = false) :
    Calls Tryz.prog 164 #[.agg #[.bool n.leaf, kv, vv, cv]] w fun e w' => e = .returned (.string (bts (nodeL n))) ∧ Ext w w' := by
  obtain ⟨hvl, hkids⟩ := hn.inner hl
  obtain ⟨kA, kc, rfl, _, _, hkx⟩ := slS_open h.keys
  obtain ⟨vA, vc, rfl, _, _, hvx⟩ := slS_open h.vals
  obtain ⟨cA, cc, rfl, _, _, hcx⟩ := slN_open h.kids
  have HCX := Lib.hid hcx
  have HKX := Lib.hid hkx
  have HVX := Lib.hid hvx
  obtain ⟨K, hK⟩ : ∃ K, n.keys.length = K := ⟨_, rfl⟩
  have HK := Lib.hid hK
  have HC : Hid (n.kids.length = K + 1) := by unfold Hid; omega
  have HE : Hid (preK n (K + 1) = nodeL n) := by unfold Hid; rw [← HC.out]; exact preK_end n
  have hK255 : K ≤ 255 := by rw [← hK]; exact hn.many
  have HPL : Hid (∀ i, i ≤ K → (preL n i).length ≤ 200000) := fun i hi => by have := preL_len n hn i (by omega); omega
  have HPK : Hid (∀ j, (preK n j).length ≤ 210000) := fun j => by have := preK_len n hn j; rw [HC.out] at this; omega
  have HPE : Hid (preK n 0 = preL n K) := by unfold Hid preK; rw [hK]; simp
  rw [hK, show n.vals.length = 0 by rw [hvl]; rfl, HC.out, hl]
  have HN := Lib.hid hn
  have HL := Lib.hid hl
  have HP0 : Hid (preL n 0 = [2, UInt8.ofNat K]) := by unfold Hid preL; rw [if_neg (by rw [hl]; simp), hK]; rfl
  have cB : Hid (∀ (m : Nat) (l : List UInt8) W, m < 256 → BW w W [.bool false, .slice kA K kc, .slice vA 0 vc, .slice cA (K + 1) cc] l → l.length ≤ 1000000 → Calls Tryz.prog 205 #[.pointer (some ⟨w.heap.size + 1, 0, none⟩), .int .u8 (m : Int)] W fun e w' => e = .returned .nilIface ∧ BW w w' [.bool false, .slice kA K kc, .slice vA 0 vc, .slice cA (K + 1) cc] (l ++ [UInt8.ofNat m])) := fun m l W hm hb hl => bwByte m hm hb hl
  have cS : Hid (∀ (s : ByteArray) (l : List UInt8) W, s.size ≤ 1000 → BW w W [.bool false, .slice kA K kc, .slice vA 0 vc, .slice cA (K + 1) cc] l → l.length ≤ 1000000 → Calls Tryz.prog 61 #[.pointer (some ⟨w.heap.size + 1, 0, none⟩), .string s] W fun e w' => e = .returned (.tuple #[.int .i64 s.size, .nilIface]) ∧ BW w w' [.bool false, .slice kA K kc, .slice vA 0 vc, .slice cA (K + 1) cc] (l ++ s.data.toList)) := fun s l W hs hb hl => bwString s hs hb hl
  have cT : Hid (∀ (l : List UInt8) W, BW w W [.bool false, .slice kA K kc, .slice vA 0 vc, .slice cA (K + 1) cc] l → l ≠ [] → Calls Tryz.prog 63 #[.pointer (some ⟨w.heap.size + 1, 0, none⟩)] W fun e w' => e = .returned (.string (bts l)) ∧ Ext w w') := fun l W hb h0 => bwText hb h0
  have HB0 : Hid (BW w ((w.alloc (.cells #[.bool false, .slice kA K kc, .slice vA 0 vc, .slice cA (K + 1) cc] 186)).alloc (.cells #[.pointer none, .slice none 0 0] 128)) [.bool false, .slice kA K kc, .slice vA 0 vc, .slice cA (K + 1) cc] []) := by
    refine ⟨fun i => i = w.heap.size + 1, ?_, fun i q => by omega, by (repeat' (with_reducible first | exact Below.refl _ _ | refine Ext.drewN ?_ _ | refine Below.drew ?_ | refine Below.setCell ?_ ?_ _ | refine Below.alloc ?_ ?_ _)) <;> (first | omega | (simp; done) | (simp; omega)), (Row1.made w _ _).alloc _⟩
    have := BldAt.made (w.alloc (.cells #[.bool false, .slice kA K kc, .slice vA 0 vc, .slice cA (K + 1) cc] 186))
    rwa [World.size_alloc] at this
  have HCE : Hid (∀ W l, BW w W [.bool false, .slice kA K kc, .slice vA 0 vc, .slice cA (K + 1) cc] l → Hid (Ext w W) ∧ W.cell? ⟨w.heap.size, 0, none⟩ = some (.bool false) ∧ W.cell? ⟨w.heap.size, 1, none⟩ = some (.slice kA K kc) ∧ W.cell? ⟨w.heap.size, 2, none⟩ = some (.slice vA 0 vc) ∧ W.cell? ⟨w.heap.size, 3, none⟩ = some (.slice cA (K + 1) cc)) := fun W l ⟨F, _, _, hx, hr⟩ => ⟨hx, hr.cell 0, hr.cell 1, hr.cell 2, hr.cell 3⟩
  have u1 : IntKind.u8.wrap (K : Int) = K := by rw [IntKind.wrap_u8]; omega
  have q31 : (2 : Nat) < 256 := by omega
  have cB1 : Calls Tryz.prog 205 #[.pointer (some ⟨w.heap.size + 1, 0, none⟩), .int .u8 2] _ fun e w' => e = .returned .nilIface ∧ BW w w' [.bool false, .slice kA K kc, .slice vA 0 vc, .slice cA (K + 1) cc] [2] := cB.out 2 [] _ q31 HB0.out (by simp)
  clear h hkx hvx hcx hn hl hvl hkids hK
  go_enter Tryz.func164, Tryz.ntmps164
  go_wp2_with (first
    | (go_at_call 205; (with_reducible refine cB1.mono ?_); clear cB1; rintro e w1 ⟨rfl, hb1⟩; obtain ⟨HX1, d0, d1, d2, d3⟩ := HCE.out _ _ hb1; have cB2 := cB.out K _ _ (by omega) hb1 (by simp); clear hb1)
    | (go_at_call 205; (with_reducible refine cB2.mono ?_); clear cB2; rintro e w2 ⟨rfl, hb2⟩; obtain ⟨HX2, e0, e1, e2, e3⟩ := HCE.out _ _ hb2; have HB2 := Lib.hid hb2; clear hb2))
  have HB2 : Hid (BW w w2 [.bool false, .slice kA K kc, .slice vA 0 vc, .slice cA (K + 1) cc] (preL n 0)) := by rw [HP0.out]; exact HB2.out
  clear d0 d1 d2 d3 e0 e1 e2 e3
  go_loopw [21] (fun i wr => ∃ k : Nat, k ≤ K ∧ i = .int .i64 k ∧ BW w wr [.bool false, .slice kA K kc, .slice vA 0 vc, .slice cA (K + 1) cc] (preL n k)) (fun i _ => K - (intOf i).toNat)
  case atStart => exact ⟨0, by omega, rfl, HB2.out⟩
  case round =>
    obtain ⟨k, hk, rfl, hbw⟩ := hrel
    have HBW := Lib.hid hbw
    obtain ⟨HXW, r0, r1, r2, r3⟩ := HCE.out _ _ hbw
    clear hbw
    by_cases hkl : k < K
    · have q1 : decide ((k : Int) < K) = true := decide_eq_true (by omega)
      have q1' : decide (k < K) = true := decide_eq_true hkl
      have hkk : k < n.keys.length := by rw [HK.out]; exact hkl
      obtain ⟨kb, ko, rfl, hkb, hkc⟩ := HKX.out (by omega)
      have HCK := Lib.hid (hkc k hkk)
      have hk1 := HN.out.keys _ (List.getElem_mem hkk)
      have HST : Hid (preL n (k + 1) = preL n k ++ [UInt8.ofNat n.keys[k].size] ++ n.keys[k].data.toList) := by
        unfold Hid
        rw [preL_step]
        unfold entL
        rw [if_neg (by rw [HL.out]; simp), List.getElem?_eq_getElem hkk]
        simp [lenL]
      obtain ⟨x, hx⟩ : ∃ x, n.keys[k] = x := ⟨_, rfl⟩
      rw [hx] at HCK hk1 HST
      have hpl := HPL.out k hk
      have c0 : wr.cell? ⟨kb, ko + k, none⟩ = some (.string x) := (HXW.out.cell (p := ⟨kb, ko + k, none⟩) hkb).trans HCK.out
      have x1 : IntKind.u8.wrap (x.size : Int) = x.size := by rw [IntKind.wrap_u8]; omega
      have cA1 := cB.out x.size _ _ (by omega) HBW.out (by omega)
      clear hx hkc
      go_wp2_with (first
        | (go_at_call 205; (with_reducible refine cA1.mono ?_); clear cA1; rintro e w3 ⟨rfl, hb3⟩; obtain ⟨HX3, s0, s1, s2, s3⟩ := HCE.out _ _ hb3; have cA2 := cS.out x _ _ (by omega) hb3 (by rw [List.length_append]; simp; omega); clear hb3)
        | (go_at_call 61; (with_reducible refine cA2.mono ?_); clear cA2; rintro e w4 ⟨rfl, hb4⟩; obtain ⟨HX4, t0, t1, t2, t3⟩ := HCE.out _ _ hb4; have HB6 := Lib.hid hb4; clear hb4))
      go_roundw
      case rel => exact ⟨k + 1, by omega, by go_num, by rw [HST.out]; exact HB6.out⟩
      case measure => simp [intOf]; omega
    · obtain rfl : k = K := by omega
      have q1 : decide ((k : Int) < k) = false := decide_eq_false (by omega)
      have HB7 := HBW.out
      rw [← HPE.out] at HB7
      have HB7 := Lib.hid HB7
      go_wp2_with fail
      clear r0 r1 r2 r3
      go_loopw [52] (fun i wr => ∃ j : Nat, j ≤ k + 1 ∧ i = .int .i64 j ∧ BW w wr [.bool false, .slice kA k kc, .slice vA 0 vc, .slice cA (k + 1) cc] (preK n j)) (fun i _ => k + 1 - (intOf i).toNat)
      case atStart => exact ⟨0, by omega, rfl, HB7.out⟩
      case round =>
        obtain ⟨j, hj, rfl, hbw⟩ := hrel
        have HBK := Lib.hid hbw
        obtain ⟨HXK, r0, r1, r2, r3⟩ := HCE.out _ _ hbw
        clear hbw
        by_cases hjl : j < k + 1
        · have q2 : decide ((j : Int) < k + 1) = true := decide_eq_true (by omega)
          have q2' : decide (j < k + 1) = true := decide_eq_true hjl
          have hjk : j < n.kids.length := by rw [HC.out]; exact hjl
          obtain ⟨cb, co, rfl, hcb, hcc⟩ := HCX.out (by rw [HC.out]; omega)
          have hc0 := HN.out.kids _ (List.getElem_mem hjk)
          have c0 := (HXK.out.cell (p := ⟨cb, co + j, none⟩) hcb).trans (hcc j hjk)
          have HST : Hid (preK n (j + 1) = preK n j ++ [UInt8.ofNat (n.kids[j].toNat % 256)] ++ [UInt8.ofNat (n.kids[j].toNat / 256 % 256)]) := by
            unfold Hid
            rw [preK_step n hjk]
            simp [kidL]
          obtain ⟨c, hc⟩ : ∃ c : Nat, n.kids[j] = c := ⟨n.kids[j].toNat, by omega⟩
          rw [hc] at c0 hc0 HST
          rw [Int.toNat_natCast] at HST
          have hpl := HPK.out j
          obtain ⟨b0, hb0⟩ : ∃ b, c % 256 = b := ⟨_, rfl⟩
          obtain ⟨b1, hb1⟩ : ∃ b, c / 256 % 256 = b := ⟨_, rfl⟩
          rw [hb0, hb1] at HST
          have hb0l : b0 < 256 := by omega
          have hb1l : b1 < 256 := by omega
          have x1 : IntKind.u8.wrap (c : Int) = (b0 : Int) := by rw [IntKind.wrap_u8]; omega
          have x2 : IntKind.u8.wrap ((c : Int) / 256) = (b1 : Int) := by rw [IntKind.wrap_u8]; omega
          have cA1 := cB.out b0 _ _ hb0l HBK.out (by omega)
          clear hb0 hb1
          clear hc hcc
          go_wp2_with (first
            | (go_at_call 205; (with_reducible refine cA1.mono ?_); clear cA1; rintro e w8 ⟨rfl, hb8⟩; obtain ⟨HX8, s0, s1, s2, s3⟩ := HCE.out _ _ hb8; have cA2 := cB.out b1 _ _ hb1l hb8 (by rw [List.length_append]; simp; omega); clear hb8)
            | (go_at_call 205; (with_reducible refine cA2.mono ?_); clear cA2; rintro e w9 ⟨rfl, hb9⟩; have HB9 := Lib.hid hb9; clear hb9))
          go_roundw
          case rel => exact ⟨j + 1, by omega, by go_num, by rw [HST.out]; exact HB9.out⟩
          case measure => simp [intOf]; omega
        · obtain rfl : j = k + 1 := by omega
          have q2 : decide (((k + 1 : Nat) : Int) < k + 1) = false := decide_eq_false (by omega)
          have q2' : decide (k + 1 < k + 1) = false := decide_eq_false (by omega)
          have hne : preK n (k + 1) ≠ [] := by unfold preK preL; simp
          have cTT := cT.out _ _ HBK.out hne
          rw [HE.out] at cTT
          have HTT := Lib.hid cTT
          clear cTT hne
          go_wp2_with (go_at_call 63; (with_reducible refine HTT.out.mono ?_); rintro e w7 ⟨rfl, hb7⟩)
          go_ret
          exact ⟨rfl, hb7⟩
end Go.Proofs.YtojoefcfimmipaaGreat
namespace Go.Proofs.YtojoefcfimmipaaGreat
set_option linter.unusedSimpArgs false
set_option linter.unusedVariables false
open Go.RowKit
/-- a page that bears a node -/
structure PageN (S : StoreD) (a : Nat) (n : NodeD) : Prop where
  given : GivenS S a
  ok : NodeOk n
  fits : (nodeL n).length ≤ 256
  view : viewS S a = padB (bts (nodeL n))
theorem entsL_len (n : NodeD) (hn : NodeOk n) : (entsL n 0).length = kSize n.keys + kSize n.vals := by
  have h : ∀ i, i ≤ n.keys.length → ((List.range' 0 i).flatMap (entL n)).length = kSize (n.keys.take i) + kSize (n.vals.take i) := fun i => by
    induction i with
    | zero => intro _; simp [kSize]
    | succ i ih =>
      intro hi
      rw [List.range'_1_concat, List.flatMap_append, List.length_append, ih (by omega), kSize_snoc _ _ (by omega)]
      simp only [List.flatMap_cons, List.flatMap_nil, List.append_nil, Nat.zero_add]
      unfold entL
      rw [List.length_append, lenL_len, List.getElem?_eq_getElem (show i < n.keys.length by omega)]
      cases hl : n.leaf with
      | true =>
        have hv := (hn.leafs hl).1
        rw [kSize_snoc _ _ (by omega), if_pos rfl, lenL_len, List.getElem?_eq_getElem (show i < n.vals.length by omega)]
        simp only [Option.getD_some]
        omega
      | false =>
        have hv := (hn.inner hl).1
        rw [hv]
        simp only [Option.getD_some, List.take_nil]
        simp
        omega
  unfold entsL
  rw [Nat.sub_zero, h _ (Nat.le_refl _), List.take_length]
  cases hl : n.leaf with
  | true => rw [← (hn.leafs hl).1, List.take_length]
  | false => rw [(hn.inner hl).1]; simp
theorem kidsL_len (l : List Int) : (l.flatMap kidL).length = 2 * l.length := by
  induction l with
  | nil => rfl
  | cons c r ih => rw [List.flatMap_cons, List.length_append, ih, List.length_cons]; show 2 + _ = _; omega
theorem nodeL_len (n : NodeD) (hn : NodeOk n) : (nodeL n).length = sizeN n := by
  unfold nodeL
  rw [List.length_cons, List.length_cons, List.length_append, entsL_len n hn]
  unfold kidsL sizeN
  rw [List.drop_zero, kidsL_len]
  omega
theorem padB_list (l : List UInt8) (h : l.length ≤ 256) : padB (bts l) = bts (l ++ List.replicate (256 - l.length) 0) := by
  rw [← padB_bts (bts l) (256 - l.length) (by rw [bts_size]) (by rw [bts_size]; exact h), bts_app]
theorem PageN.fair {S : StoreD} {a : Nat} {n : NodeD} (h : PageN S a n) : Fair n := by
  have h1 := nodeL_len n h.ok
  have h2 := h.fits
  have h3 : ∀ l : List ByteArray, l.length ≤ kSize l := fun l => by
    induction l with
    | nil => simp
    | cons a r ih => simp only [kSize, List.map_cons, List.sum_cons, List.length_cons] at *; omega
  have h4 := h3 n.keys
  have h5 := h3 n.vals
  unfold sizeN at h1
  exact ⟨fun k hk => by have := h.ok.keys k hk; omega, fun k hk => by have := h.ok.vals k hk; omega, by omega, by omega, by omega⟩
/-- any node is read -/
theorem parse_any (n : NodeD) (tail : List UInt8) (w : World) (hn : NodeOk n) (hsz : (nodeL n).length + tail.length ≤ 100000) :
    Calls Tryz.prog 159 #[.string (bts (nodeL n ++ tail))] w fun e w' => ∃ kv vv cv, e = .returned (.tuple #[nodeV n kv vv cv, .int .i64 0]) ∧ NodeAs w' (fun i => w.heap.size ≤ i) n kv vv cv ∧ Ext w w' := by
  cases hl : n.leaf with
  | true => exact parse_leaf n tail w hn hl hsz
  | false => exact parse_inner n tail w hn hl hsz
theorem write_rd {n : NodeD} {kv vv cv : Value} (w : World) (h : NodeRd w n kv vv cv) (hn : NodeOk n) :
    Calls Tryz.prog 164 #[.agg #[.bool n.leaf, kv, vv, cv]] w fun e w' => e = .returned (.string (bts (nodeL n))) ∧ Ext w w' := by
  cases hl : n.leaf with
  | true => have := write_leaf w h hn hl; rwa [hl] at this
  | false => have := write_inner w h hn hl; rwa [hl] at this
/-- a tree's handle: a pager, and which root -/
abbrev TreeRow (w : World) (t p i : Nat) : Prop := Row1 w t 180 [.pointer (some ⟨p, 0, none⟩), .int .i64 i]
set_option maxRecDepth 100000 in
theorem res_node4 {fn : Func} (h : fn.results = #[.cell 4 186, .tmp 5]) (tmps : Array Value) (w : World) (B : Nat) (n : NodeD) (kv vv cv v : Value) (hB : tmps.getD 4 undef = .pointer (some ⟨B, 0, none⟩)) (hv : tmps.getD 5 undef = v) (hr : Row1 w B 186 [.bool n.leaf, kv, vv, cv]) :
    (results fn tmps).run Tryz.prog w = .ok (.tuple #[nodeV n kv vv cv, v]) w := by
  rw [results_cell_tmp h, hB, hv]
  have c0 : w.cell? ⟨B, 0, none⟩ = some (.bool n.leaf) := hr.cell 0
  have c1 : w.cell? ⟨B, 1, none⟩ = some kv := hr.cell 1
  have c2 : w.cell? ⟨B, 2, none⟩ = some vv := hr.cell 2
  have c3 : w.cell? ⟨B, 3, none⟩ = some cv := hr.cell 3
  unfold nodeV
  go_simp
set_option maxRecDepth 100000 in
set_option maxHeartbeats 2000000 in
theorem load_any {t p i : Nat} {F : Nat → Prop} {S : StoreD} (a : Nat) (n : NodeD) (w : World) (ht : TreeRow w t p i) (h : PagerAt w p F S) (hp : PageN S a n) :
    Calls Tryz.prog 104 #[.pointer (some ⟨t, 0, none⟩), .int .i64 a] w fun e w' => ∃ kv vv cv B F', e = .returned (.tuple #[.agg #[.bool n.leaf, kv, vv, cv], .int .i64 0]) ∧ NodeAs w' (fun i => B ≤ i) n kv vv cv ∧ PagerAt w' p F' S ∧ Keeps F F' w w' ∧ w.heap.size ≤ B ∧ ∀ i, F' i → i < B := by
  have c0 : (w.alloc (.cells #[.bool false, .slice none 0 0, .slice none 0 0, .slice none 0 0] 186)).cell? ⟨t, 0, none⟩ = some (.pointer (some ⟨p, 0, none⟩)) := (Row1.alloc ht _).cell 0
  have hx0 : Ext w (w.alloc (.cells #[.bool false, .slice none 0 0, .slice none 0 0, .slice none 0 0] 186)) := Ext.alloc _ _
  have cG : Hid (∀ W, Ext w W → Calls Tryz.prog 158 #[.pointer (some ⟨p, 0, none⟩), .int .i64 a] W fun e w' => e = .returned (.tuple #[.string (bts (nodeL n ++ List.replicate (256 - (nodeL n).length) 0)), .int .i64 0]) ∧ ∃ F', PagerAt w' p F' S ∧ Keeps (fun i => F i ∧ i < w.heap.size) F' W w') := fun W hW => by
    have h1 := pget_any a W (h.shrink.ext hW) hp.given
    rw [hp.view, padB_list _ hp.fits] at h1
    exact h1
  have cP : Hid (∀ W, Calls Tryz.prog 159 #[.string (bts (nodeL n ++ List.replicate (256 - (nodeL n).length) 0))] W fun e w' => ∃ kv vv cv, e = .returned (.tuple #[.agg #[.bool n.leaf, kv, vv, cv], .int .i64 0]) ∧ NodeAs w' (fun i => W.heap.size ≤ i) n kv vv cv ∧ Ext W w') := fun W => parse_any n _ W hp.ok (by have := hp.fits; rw [List.length_replicate]; omega)
  generalize bts (nodeL n ++ List.replicate (256 - (nodeL n).length) 0) = s at cG cP
  have HR0 : Hid (Row1 (w.alloc (.cells #[.bool false, .slice none 0 0, .slice none 0 0, .slice none 0 0] 186)) w.heap.size 186 [.bool false, .slice none 0 0, .slice none 0 0, .slice none 0 0]) := Row1.made w _ _
  have HX0 := Lib.hid hx0
  clear ht h hp hx0
  go_enter Tryz.func104, Tryz.ntmps104
  go_wp2_with (first
    | (go_at_call 158; (with_reducible refine (cG.out _ HX0.out).mono ?_); clear cG; rintro e w1 ⟨rfl, F1, hp1, k1⟩; have hzz := k1.only.size; have HR1 := Lib.hid (k1.only.row HR0.out (fun q => by have := q.2; omega)); have HP1 := Lib.hid hp1.shrink; have HK1 := Lib.hid (Keeps.shrink (P := fun i => i < w1.heap.size) k1); clear hp1 k1)
    | (go_at_call 159; (with_reducible refine (cP.out _).mono ?_); clear cP; rintro e w2 ⟨kv, vv, cv, rfl, hn2, hb2⟩; obtain ⟨kA, kc, rfl⟩ := OwnL.form hn2.keys; obtain ⟨vA, vc, rfl⟩ := OwnL.form hn2.vals; obtain ⟨cA, cc, rfl⟩ := OwnL.form hn2.kids; have HN2 := Lib.hid hn2; have HB2 := Lib.hid hb2; have hR2 := HR1.out.ext hb2 HR1.out.lt; have z0 : w2.cell? ⟨w.heap.size, 0, none⟩ = some (.bool false) := hR2.cell 0; have z1 : w2.cell? ⟨w.heap.size, 1, none⟩ = some (.slice none 0 0) := hR2.cell 1; have z2 : w2.cell? ⟨w.heap.size, 2, none⟩ = some (.slice none 0 0) := hR2.cell 2; have z3 : w2.cell? ⟨w.heap.size, 3, none⟩ = some (.slice none 0 0) := hR2.cell 3; have f0 : w2.frozen? ⟨w.heap.size, 0, none⟩ = false := hR2.soft 0; have f1 : w2.frozen? ⟨w.heap.size, 1, none⟩ = false := hR2.soft 1; have f2 : w2.frozen? ⟨w.heap.size, 2, none⟩ = false := hR2.soft 2; have f3 : w2.frozen? ⟨w.heap.size, 3, none⟩ = false := hR2.soft 3; have HR2 := Lib.hid hR2; clear hn2 hb2 hR2))
  refine bodyPost_ret (res_node4 rfl _ _ w.heap.size n (.slice kA n.keys.length kc) (.slice vA n.vals.length vc) (.slice cA n.kids.length cc) _ rfl rfl ((((HR2.out.set 0 _).set 1 _).set 2 _).set 3 _)) rfl ?_
  have ho := only4 (w := w2) w.heap.size (.bool n.leaf) (.slice kA n.keys.length kc) (.slice vA n.vals.length vc) (.slice cA n.kids.length cc)
  have hlt : w.heap.size < w1.heap.size := HR1.out.lt
  refine ⟨_, _, _, w1.heap.size, fun i => F1 i ∧ i < w1.heap.size, rfl, HN2.out.only ho (fun i q q' => by omega), (HP1.out.ext HB2.out).only ho (fun i q q' => ?_), ?_, by omega, fun i q => q.2⟩
  · rcases HK1.out.new i q with r | r
    · have := r.2; omega
    · rw [World.size_alloc] at r; omega
  · refine ⟨?_, fun i q => ?_⟩
    · refine (((Only.of HX0.out).trans' (HK1.out.only.mono (fun i q => .inl q.1))).ext HB2.out).trans (F' := fun i => i = w.heap.size) ho (fun i q => .inr (by omega))
    · rcases HK1.out.new i q with r | r
      · exact .inl r.1
      · rw [World.size_alloc] at r; exact .inr (by omega)
end Go.Proofs.YtojoefcfimmipaaGreat
namespace Go.Proofs.YtojoefcfimmipaaGreat
set_option linter.unusedSimpArgs false
set_option linter.unusedVariables false
open Go.RowKit
def layP (S : StoreD) (a : Nat) (n : NodeD) : StoreD := putP S a (bts (nodeL n))
set_option maxRecDepth 100000 in
set_option maxHeartbeats 4000000 in
theorem lay_rd {t p i : Nat} {F : Nat → Prop} {S : StoreD} (a : Nat) (n : NodeD) {kv vv cv : Value} (w : World) (ht : TreeRow w t p i) (hnt : ¬ F t) (h : PagerAt w p F S) (hg : GivenS S a) (hn : NodeOk n) (hs : sizeN n ≤ 256) (hv : NodeRd w n kv vv cv) :
    Calls Tryz.prog 108 #[.pointer (some ⟨t, 0, none⟩), .int .i64 a, .agg #[.bool n.leaf, kv, vv, cv]] w fun e w' => e = .returned (.int .i64 0) ∧ ∃ F', PagerAt w' p F' (layP S a n) ∧ Keeps F F' w w' := by
  have hsz : (bts (nodeL n)).size ≤ 256 := by rw [bts_size, nodeL_len n hn]; exact hs
  obtain ⟨kA, kc, rfl⟩ := hv.keys.form
  obtain ⟨vA, vc, rfl⟩ := hv.vals.form
  obtain ⟨cA, cc, rfl⟩ := hv.kids.form
  have cW : Hid (∀ W, Ext w W → Calls Tryz.prog 164 #[.agg #[.bool n.leaf, .slice kA n.keys.length kc, .slice vA n.vals.length vc, .slice cA n.kids.length cc]] W fun e w' => e = .returned (.string (bts (nodeL n))) ∧ Ext W w') := fun W hW => write_rd W (hv.ext hW) hn
  have cS : Hid (∀ W, Ext w W → Calls Tryz.prog 163 #[.pointer (some ⟨p, 0, none⟩), .int .i64 a, .string (bts (nodeL n))] W fun e w' => e = .returned (.int .i64 0) ∧ ∃ F', PagerAt w' p F' (layP S a n) ∧ Keeps (fun i => F i ∧ i < w.heap.size) F' W w') := fun W hW => pset_any a (bts (nodeL n)) W (h.shrink.ext hW) hg hsz
  generalize bts (nodeL n) = s at cW cS
  obtain ⟨lf, hlf⟩ : ∃ lf, n.leaf = lf := ⟨_, rfl⟩
  obtain ⟨kn, hkn⟩ : ∃ kn, n.keys.length = kn := ⟨_, rfl⟩
  obtain ⟨vn, hvn⟩ : ∃ vn, n.vals.length = vn := ⟨_, rfl⟩
  obtain ⟨cn, hcn⟩ : ∃ cn, n.kids.length = cn := ⟨_, rfl⟩
  rw [hlf, hkn, hvn, hcn] at cW ⊢
  have HKS : Hid (∀ W, Only (fun i => F i ∧ i < w.heap.size) (w.alloc (.cells #[.bool lf, .slice kA kn kc, .slice vA vn vc, .slice cA cn cc] 186)) W → W.cell? ⟨t, 0, none⟩ = some (.pointer (some ⟨p, 0, none⟩)) ∧ W.cell? ⟨w.heap.size, 0, none⟩ = some (.bool lf) ∧ W.cell? ⟨w.heap.size, 1, none⟩ = some (.slice kA kn kc) ∧ W.cell? ⟨w.heap.size, 2, none⟩ = some (.slice vA vn vc) ∧ W.cell? ⟨w.heap.size, 3, none⟩ = some (.slice cA cn cc)) := fun W hW => by
    have hr := hW.row (Row1.made w 186 [.bool lf, .slice kA kn kc, .slice vA vn vc, .slice cA cn cc]) (fun q => by have := q.2; omega)
    have h1 : TreeRow W t p i := hW.row (Row1.alloc ht _) (fun q => hnt q.1)
    exact ⟨h1.cell 0, hr.cell 0, hr.cell 1, hr.cell 2, hr.cell 3⟩
  clear ht h hg hn hs hv hsz hlf hkn hvn hcn
  go_enter Tryz.func108, Tryz.ntmps108
  go_upto_region 1 with fail
  refine wp_region_held_drew (S := fun W => W.cell? ⟨t, 0, none⟩ = some (.pointer (some ⟨p, 0, none⟩)) ∧ W.cell? ⟨w.heap.size, 0, none⟩ = some (.bool lf) ∧ W.cell? ⟨w.heap.size, 1, none⟩ = some (.slice kA kn kc) ∧ W.cell? ⟨w.heap.size, 2, none⟩ = some (.slice vA vn vc) ∧ W.cell? ⟨w.heap.size, 3, none⟩ = some (.slice cA cn cc)) (by kernel_rfl) (HKS.out _ (Only.of (by (repeat' (with_reducible first | exact Below.refl _ _ | refine Ext.drewN ?_ _ | refine Below.drew ?_ | refine Below.setCell ?_ ?_ _ | refine Below.alloc ?_ ?_ _)) <;> (first | omega | (simp; done) | (simp; omega))))) (fun hHeld => ?_)
  refine' tk 0 ?_; (try simp only [Act.put, List.setIfInBounds_toArray, List.set_cons_zero, List.set_cons_succ])
  refine' tk 1 ?_; (try simp only [Act.put, List.setIfInBounds_toArray, List.set_cons_zero, List.set_cons_succ])
  refine' tk 2 ?_; (try simp only [Act.put, List.setIfInBounds_toArray, List.set_cons_zero, List.set_cons_succ])
  refine' tk 3 ?_; (try simp only [Act.put, List.setIfInBounds_toArray, List.set_cons_zero, List.set_cons_succ])
  refine' tk 4 ?_; (try simp only [Act.put, List.setIfInBounds_toArray, List.set_cons_zero, List.set_cons_succ])
  refine' tk 5 ?_; (try simp only [Act.put, List.setIfInBounds_toArray, List.set_cons_zero, List.set_cons_succ])
  refine stp 6 (fun K hK => ?_); go_simp
  (with_reducible refine (cW.out _ ?_).mono ?_)
  · (repeat' (with_reducible first | exact Below.refl _ _ | refine Ext.drewN ?_ _ | refine Below.drew ?_ | refine Below.setCell ?_ ?_ _ | refine Below.alloc ?_ ?_ _)) <;> (first | omega | (simp; done) | (simp; omega))
  rintro e w1 ⟨rfl, hb1⟩
  have HB1 : Hid (Ext (w.alloc (.cells #[.bool lf, .slice kA kn kc, .slice vA vn vc, .slice cA cn cc] 186)) w1) := Ext.trans (by (repeat' (with_reducible first | exact Below.refl _ _ | refine Ext.drewN ?_ _ | refine Below.drew ?_ | refine Below.setCell ?_ ?_ _ | refine Below.alloc ?_ ?_ _)) <;> (first | omega | (simp; done) | (simp; omega))) hb1
  clear hb1
  (try dsimp only)
  (try go_simp)
  refine hK.out _ _ (HKS.out _ (Only.of HB1.out)) (fun hHeld => ?_)
  clear hK K
  (try simp only [Act.put, List.setIfInBounds_toArray, List.set_cons_zero, List.set_cons_succ])
  refine stp 7 (fun K hK => ?_); go_simp
  (with_reducible refine (cS.out _ (Ext.trans (Ext.alloc _ _) HB1.out)).mono ?_)
  rintro e w2 ⟨rfl, F2, hp2, hk2⟩
  have HP2 := Lib.hid hp2
  have HB2 : Hid (Only (fun i => F i ∧ i < w.heap.size) (w.alloc (.cells #[.bool lf, .slice kA kn kc, .slice vA vn vc, .slice cA cn cc] 186)) w2) := (Only.of HB1.out).trans' hk2.only
  have HK2 : Hid (Keeps F F2 w w2) := Keeps.widen (Keeps.trans (Keeps.of (Ext.trans (Ext.alloc _ _) HB1.out)) hk2) (fun i q => q.1)
  clear hp2 hk2
  (try dsimp only)
  (try go_simp)
  refine hK.out _ _ (HKS.out _ HB2.out) (fun hHeld => ?_)
  clear hK K
  (try simp only [Act.put, List.setIfInBounds_toArray, List.set_cons_zero, List.set_cons_succ])
  refine' tk 8 ?_; (try simp only [Act.put, List.setIfInBounds_toArray, List.set_cons_zero, List.set_cons_succ])
  refine wpAnyH_done (by kernel_rfl) ?_ _
  go_wp2_with fail
  go_ret
  exact ⟨rfl, F2, HP2.out, HK2.out⟩
theorem lay_any {t p i : Nat} {F G : Nat → Prop} {S : StoreD} (a : Nat) (n : NodeD) {kv vv cv : Value} (w : World) (ht : TreeRow w t p i) (hnt : ¬ F t) (h : PagerAt w p F S) (hg : GivenS S a) (hn : NodeOk n) (hs : sizeN n ≤ 256) (hv : NodeAs w G n kv vv cv) :
    Calls Tryz.prog 108 #[.pointer (some ⟨t, 0, none⟩), .int .i64 a, .agg #[.bool n.leaf, kv, vv, cv]] w fun e w' => e = .returned (.int .i64 0) ∧ ∃ F', PagerAt w' p F' (layP S a n) ∧ Keeps F F' w w' := lay_rd a n w ht hnt h hg hn hs hv.rd
/-- which kid a key lies below -/
def downN (ks : List ByteArray) (k : ByteArray) : Nat := posB ks k + if hasB ks k = true then 1 else 0
set_option maxRecDepth 100000 in
set_option maxHeartbeats 2000000 in
theorem down_any {n : NodeD} {G : Nat → Prop} {kv vv cv : Value} (k : ByteArray) (w : World) (hv : NodeAs w G n kv vv cv) (hr : RiseB n.keys) (hn : n.keys.length ≤ 1000000) :
    Calls Tryz.prog 126 #[.agg #[.bool n.leaf, kv, vv, cv], .string k] w fun e w' => e = .returned (.int .i64 (downN n.keys k)) ∧ Ext w w' := by
  obtain ⟨kA, kc, rfl⟩ := OwnL.form hv.keys
  obtain ⟨vA, vc, rfl⟩ := OwnL.form hv.vals
  obtain ⟨cA, cc, rfl⟩ := OwnL.form hv.kids
  have cB : Hid (∀ W, Ext w W → Calls Tryz.prog 127 #[.slice kA n.keys.length kc, .string k] W fun e w' => e = .returned (.tuple #[.int .i64 (posB n.keys k), .bool (hasB n.keys k)]) ∧ W = w') := fun W hW => search_any k W (hv.keys.ext hW) hr (by omega)
  have hp := posB_le n.keys k
  have HD : Hid (downN n.keys k = posB n.keys k + if hasB n.keys k = true then 1 else 0) := rfl
  generalize posB n.keys k = pp at *
  generalize hasB n.keys k = hb at *
  obtain ⟨kn, hkn⟩ : ∃ kn, n.keys.length = kn := ⟨_, rfl⟩
  rw [hkn] at cB hp hn ⊢
  clear hv hr hkn
  cases hb
  · go_enter Tryz.func126, Tryz.ntmps126
    go_wp2_with (go_at_call 127; (with_reducible refine (cB.out _ (Ext.alloc _ _)).mono ?_); clear cB; rintro e w1 ⟨rfl, rfl⟩)
    go_ret
    exact ⟨by rw [HD.out]; simp, Ext.alloc _ _⟩
  · go_enter Tryz.func126, Tryz.ntmps126
    go_wp2_with (go_at_call 127; (with_reducible refine (cB.out _ (Ext.alloc _ _)).mono ?_); clear cB; rintro e w1 ⟨rfl, rfl⟩)
    go_ret
    exact ⟨by rw [HD.out]; simp, Ext.alloc _ _⟩
set_option maxRecDepth 100000 in
set_option maxHeartbeats 2000000 in
theorem troot_any {t p i : Nat} {F : Nat → Prop} {S : StoreD} (w : World) (ht : TreeRow w t p i) (hnt : ¬ F t) (h : PagerAt w p F S) (hi : i < 16) :
    Calls Tryz.prog 100 #[.pointer (some ⟨t, 0, none⟩)] w fun e w' => e = .returned (.tuple #[.int .i64 (rootS S i), .int .i64 0]) ∧ ∃ F', PagerAt w' p F' S ∧ Keeps F F' w w' := by
  have c0 : w.cell? ⟨t, 0, none⟩ = some (.pointer (some ⟨p, 0, none⟩)) := ht.cell 0
  have c1 : w.cell? ⟨t, 1, none⟩ = some (.int .i64 i) := ht.cell 1
  have cR : Hid (∀ W, Ext w W → Calls Tryz.prog 98 #[.pointer (some ⟨p, 0, none⟩), .int .i64 i] W fun e w' => e = .returned (.tuple #[.int .i64 (rootS S i), .int .i64 0]) ∧ ∃ F', PagerAt w' p F' S ∧ Keeps F F' W w') := fun W hW => root_any i W (h.ext hW) hi
  have HKS : Hid (∀ W, Only F w W → W.cell? ⟨t, 0, none⟩ = some (.pointer (some ⟨p, 0, none⟩)) ∧ W.cell? ⟨t, 1, none⟩ = some (.int .i64 i)) := fun W hW => ⟨(hW.row ht hnt).cell 0, (hW.row ht hnt).cell 1⟩
  clear ht h
  go_enter Tryz.func100, Tryz.ntmps100
  go_upto_region 3 with fail
  refine wp_region_held_drew (S := fun W => W.cell? ⟨t, 0, none⟩ = some (.pointer (some ⟨p, 0, none⟩)) ∧ W.cell? ⟨t, 1, none⟩ = some (.int .i64 i)) (by kernel_rfl) (HKS.out _ (Only.of (by (repeat' (with_reducible first | exact Below.refl _ _ | refine Ext.drewN ?_ _ | refine Below.drew ?_ | refine Below.setCell ?_ ?_ _ | refine Below.alloc ?_ ?_ _)) <;> (first | omega | (simp; done) | (simp; omega))))) (fun hHeld => ?_)
  refine' tk 0 ?_; (try simp only [Act.put, List.setIfInBounds_toArray, List.set_cons_zero, List.set_cons_succ])
  refine' tk 1 ?_; (try simp only [Act.put, List.setIfInBounds_toArray, List.set_cons_zero, List.set_cons_succ])
  refine' tk 2 ?_; (try simp only [Act.put, List.setIfInBounds_toArray, List.set_cons_zero, List.set_cons_succ])
  refine' tk 3 ?_; (try simp only [Act.put, List.setIfInBounds_toArray, List.set_cons_zero, List.set_cons_succ])
  refine' tk 4 ?_; (try simp only [Act.put, List.setIfInBounds_toArray, List.set_cons_zero, List.set_cons_succ])
  refine' tk 5 ?_; (try simp only [Act.put, List.setIfInBounds_toArray, List.set_cons_zero, List.set_cons_succ])
  refine' tk 6 ?_; (try simp only [Act.put, List.setIfInBounds_toArray, List.set_cons_zero, List.set_cons_succ])
  refine' tk 7 ?_; (try simp only [Act.put, List.setIfInBounds_toArray, List.set_cons_zero, List.set_cons_succ])
  refine stp 8 (fun K hK => ?_); go_simp
  (with_reducible refine (cR.out _ ?_).mono ?_)
  · (repeat' (with_reducible first | exact Below.refl _ _ | refine Ext.drewN ?_ _ | refine Below.drew ?_ | refine Below.setCell ?_ ?_ _ | refine Below.alloc ?_ ?_ _)) <;> (first | omega | (simp; done) | (simp; omega))
  rintro e w1 ⟨rfl, F1, hp1, hk1⟩
  have HB : Hid (Only F w w1) := (Only.of (by (repeat' (with_reducible first | exact Below.refl _ _ | refine Ext.drewN ?_ _ | refine Below.drew ?_ | refine Below.setCell ?_ ?_ _ | refine Below.alloc ?_ ?_ _)) <;> (first | omega | (simp; done) | (simp; omega)))).trans' hk1.only
  have HP1 := Lib.hid hp1
  have HK1 : Hid (Keeps F F1 w w1) := Keeps.trans (Keeps.of (by (repeat' (with_reducible first | exact Below.refl _ _ | refine Ext.drewN ?_ _ | refine Below.drew ?_ | refine Below.setCell ?_ ?_ _ | refine Below.alloc ?_ ?_ _)) <;> (first | omega | (simp; done) | (simp; omega)))) hk1
  clear hp1 hk1
  (try dsimp only)
  (try go_simp)
  refine hK.out _ _ (HKS.out _ HB.out) (fun hHeld => ?_)
  clear hK K
  (try simp only [Act.put, List.setIfInBounds_toArray, List.set_cons_zero, List.set_cons_succ])
  refine' tk 9 ?_; (try simp only [Act.put, List.setIfInBounds_toArray, List.set_cons_zero, List.set_cons_succ])
  refine' tk 10 ?_; (try simp only [Act.put, List.setIfInBounds_toArray, List.set_cons_zero, List.set_cons_succ])
  refine' tk 11 ?_; (try simp only [Act.put, List.setIfInBounds_toArray, List.set_cons_zero, List.set_cons_succ])
  refine' tk 12 ?_; (try simp only [Act.put, List.setIfInBounds_toArray, List.set_cons_zero, List.set_cons_succ])
  refine wpAnyH_done (by kernel_rfl) ?_ _
  go_wp2_with fail
  go_ret2
  exact ⟨rfl, F1, HP1.out, HK1.out⟩
end Go.Proofs.YtojoefcfimmipaaGreat
