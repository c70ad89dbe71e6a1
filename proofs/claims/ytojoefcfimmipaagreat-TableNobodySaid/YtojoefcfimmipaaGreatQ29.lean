/- Get in any tree. Conditions: pages that bear a tree. -/
/- A new disk, made ready, opened: its store (plain law). Conditions: its sizes. -/
/- key.Of. Conditions: numbers that an int holds. -/
/- key.Split at a key. Conditions: numbers that an int holds. -/
/- btree.Open, memo.Open, whether there is a memo. Conditions: a pager. -/
/- table.Open, whether there is a table. Conditions: a pager. -/
/- table.where: the key of an operation, by a way. Conditions: numbers that an int holds. -/
import Derived.Test.YtojoefcfimmipaaGreatQ28
import Derived.Test.YtojoefcfimmipaaGreatQ26
import Derived.Test.YtojoefcfimmipaaGreatQ18
namespace Go.Proofs.YtojoefcfimmipaaGreat
set_option linter.unusedSimpArgs false
set_option linter.unusedVariables false
open Go.RowKit
def getV : Option ByteArray → Value
  | some v => .tuple #[.string v, .int .i64 0]
  | none => .tuple #[.string ⟨#[]⟩, .int .i64 6]
theorem getKV_none {l : List KV} {k : ByteArray} (h : ∀ x ∈ l, x.1 ≠ k) : getKV l k = none := by
  unfold getKV
  rw [List.find?_eq_none.2 (fun x hx => by rw [eqB_false (h x hx)]; decide)]
  rfl
theorem getKV_some {l : List KV} {k v : ByteArray} (hr : RiseK l) (h : (k, v) ∈ l) : getKV l k = some v := by
  obtain ⟨i, hi, he⟩ := List.mem_iff_getElem.1 h
  have hp := List.pairwise_iff_getElem.1 hr
  unfold getKV
  have : l.find? (fun x => eqB x.1 k) = some (k, v) := by
    rw [List.find?_eq_some_iff_getElem]
    refine ⟨(eqB_iff k k).2 rfl, i, hi, he, fun j hj => ?_⟩
    have h1 := hp j i (by omega) hi hj
    rw [he] at h1
    rw [eqB_false (ne_of_lt h1)]; rfl
  rw [this]; rfl
theorem getN_leaf (t : LeafT) (h : okT 0 t) (k : ByteArray) : getN (nodeT 0 t) k = getV (getKV (listT 0 t) k) := by
  have hl : (LeafT.vals t).length = (LeafT.keys t).length := h.2.1
  unfold getN
  cases hh : hasB (nodeT 0 t).keys k with
  | true =>
    obtain ⟨hp, he⟩ := posB_has (l := LeafT.keys t) h.1 hh
    have hv : posB (LeafT.keys t) k < (LeafT.vals t).length := by omega
    rw [if_pos rfl]
    have hm : (k, (LeafT.vals t)[posB (LeafT.keys t) k]) ∈ listT 0 t := by
      show _ ∈ (LeafT.keys t).zip (LeafT.vals t)
      have hz : posB (LeafT.keys t) k < ((LeafT.keys t).zip (LeafT.vals t)).length := by rw [List.length_zip]; omega
      have := List.getElem_mem hz
      rw [List.getElem_zip, he] at this
      exact this
    rw [getKV_some (listT_rise 0 t h) hm]
    show Value.tuple #[.string ((LeafT.vals t)[posB (LeafT.keys t) k]?.getD ⟨#[]⟩), .int .i64 0] = _
    rw [List.getElem?_eq_getElem hv]
    rfl
  | false =>
    rw [if_neg (by decide), getKV_none (fun x hx e => ?_)]
    · rfl
    · have h1 := listT_all 0 t x hx
      rw [e] at h1
      have h2 := (hasB_iff (LeafT.keys t) k).2 h1
      have hh' : hasB (LeafT.keys t) k = false := hh
      rw [h2] at hh'; cases hh'
theorem path_on {S : StoreD} (k : ByteArray) : ∀ (d : Nat) (t : TT d), onT S d t → okT d t → ∃ n, PathS S k d (atT d t) n ∧ getN n k = getV (getKV (listT d t) k)
  | 0, t, h, hok => ⟨nodeT 0 t, ⟨h, rfl, hok.1⟩, getN_leaf t hok k⟩
  | d + 1, t, h, hok => by
    have hj : downN (InT.keys t) k < (InT.kids t).length := by have := downN_le (k := k) hok.1; have := hok.2.1; omega
    obtain ⟨n, h1, h2⟩ := path_on k d _ (h.2 _ (List.getElem_mem hj)) (hok.2.2.2.1 _ (List.getElem_mem hj))
    refine ⟨n, ⟨nodeT (d + 1) t, h.1, rfl, hok.1, ?_⟩, ?_⟩
    · have e : ((nodeT (d + 1) t).kids[downN (nodeT (d + 1) t).keys k]?.getD 0) = (atT d (InT.kids t)[downN (InT.keys t) k] : Int) := by
        show (((InT.kids t).map fun c => (atT d c : Int))[downN (InT.keys t) k]?).getD 0 = _
        rw [List.getElem?_map, List.getElem?_eq_getElem hj]; rfl
      rw [e, Int.toNat_natCast]
      exact h1
    · obtain ⟨a1, a2⟩ := around (t := t) hok k
      rw [h2]
      congr 1
      show _ = getKV ((InT.kids t).flatMap (listT d)) k
      rw [flat_cut (listT d) (InT.kids t) hj, getKV_mid a1 a2]
theorem tget_any {tr p i : Nat} {F : Nat → Prop} {S : StoreD} (T : TrD) (k : ByteArray) (w : World) (ht : TreeRow w tr p i) (hnt : ¬ F tr) (h : PagerAt w p F S) (hi : i < 16) (hT : TrS S i T) (hd : T.fine) :
    Calls Tryz.prog 70 #[.pointer (some ⟨tr, 0, none⟩), .string k] w fun e w' => e = .returned (getV (getKV T.list k)) ∧ ∃ F', PagerAt w' p F' S ∧ Keeps F F' w w' := by
  cases T with
  | no => exact get_none k w ht hnt h hi hT
  | yes d t =>
    obtain ⟨hr, hon, hok, hnd⟩ := hT
    obtain ⟨n, h1, h2⟩ := path_on k d t hon hok
    have hd' : d < 31 := hd
    have := get_any (atT d t) d k n w ht hnt h hi hr (by have := (onT_given d t hon _ (pagesT_at d t)).1; omega) h1 (by omega)
    rw [h2] at this
    exact this
end Go.Proofs.YtojoefcfimmipaaGreat
namespace Go.Proofs.YtojoefcfimmipaaGreat
set_option linter.unusedSimpArgs false
set_option linter.unusedVariables false
open Go.RowKit
def pgN (n room : Nat) : Nat := min (n - 2 - room) 1024
def freshH (n room : Nat) : HeadD := ⟨2, 0, room, pgN n room⟩
def freshS (n room : Nat) : StoreD := ⟨fmtD n room (pgN n room), freshH n room, noneS, false⟩
theorem padB_head (h : HeadD) : padB (headB h) = bts (headL h ++ notL (headL h) ++ List.replicate 216 0) := by
  rw [← padB_bts (headB h) 216 (by rw [headB_size]) (by rw [headB_size]; omega)]
  unfold headB
  rw [ByteArray.ext_iff, ByteArray.data_append]
  simp [bts]
theorem fmt_block0 (n room pages : Nat) (hn : 2 ≤ n) : blockD (fmtD n room pages) 0 = padB (headB ⟨2, 0, room, pages⟩) := by
  unfold blockD fmtD lastW
  simp [List.getElem?_set, show 0 < n from by omega]
theorem fmt_block1 (n room pages : Nat) (hn : 2 ≤ n) : blockD (fmtD n room pages) 1 = zeroB := by
  unfold blockD fmtD lastW
  simp [List.getElem?_set, show 1 < n from by omega]
theorem fmt_len (n room pages : Nat) : (fmtD n room pages).blocks.length = n := by simp [fmtD]
theorem readH_no : readH zeroB = (zeroH, false) := by
  have h := readH_zero
  unfold readH at h ⊢
  split at h
  · simp at h
  · rename_i hc
    rw [if_neg hc]
    rfl
theorem fresh_ok {n room : Nat} (hr1 : 1 ≤ room) (hr2 : room + 3 ≤ n) (hn : n ≤ 2048) : HeadOk (freshH n room) := ⟨by simp [freshH], by simp [freshH], by dsimp only [freshH, pgN]; omega, by dsimp only [freshH, pgN]; omega⟩
theorem fresh_read0 {n room : Nat} (hr1 : 1 ≤ room) (hr2 : room + 3 ≤ n) (hn : n ≤ 2048) : readH (blockD (fmtD n room (pgN n room)) 0) = (freshH n room, true) := by
  rw [fmt_block0 _ _ _ (by omega), padB_head]
  exact readH_head (freshH n room) (fresh_ok hr1 hr2 hn) _
theorem fresh_head {n room : Nat} (hr1 : 1 ≤ room) (hr2 : room + 3 ≤ n) (hn : n ≤ 2048) (i : Nat) (hi : i < 2) : IsHead (fmtD n room (pgN n room)).blocks.length (blockD (fmtD n room (pgN n room)) i) := by
  rw [fmt_len]
  rcases (show i = 0 ∨ i = 1 from by omega) with rfl | rfl
  · exact .inr ⟨_, fresh_read0 hr1 hr2 hn, ⟨fresh_ok hr1 hr2 hn, hr1, by dsimp only [freshH, pgN]; omega, by dsimp only [freshH, pgN]; omega, Nat.zero_le _, by dsimp only [freshH, pgN]; omega⟩⟩
  · exact .inl (by rw [fmt_block1 _ _ _ (by omega)]; exact readH_no)
theorem fresh_newest {n room : Nat} (hr1 : 1 ≤ room) (hr2 : room + 3 ≤ n) (hn : n ≤ 2048) : newestH (fmtD n room (pgN n room)) = (freshH n room, true) := by
  have h1 : readH (blockD (fmtD n room (pgN n room)) 1) = (zeroH, false) := by rw [fmt_block1 _ _ _ (by omega)]; exact readH_no
  have h0 := fresh_read0 hr1 hr2 hn
  unfold newestH bestH bestH bestH
  rw [h1, h0]
  rw [if_neg (by simp), if_pos ⟨rfl, by simp [zeroH, freshH], by simp [freshH]⟩]
/-- the store of which all trees are empty -/
def readyS0 (n room : Nat) : StoreD := fmtP (freshS n room)
theorem ready_live (n room : Nat) : Live (freshS n room) := ⟨rfl, rfl⟩
theorem ready_no (n room i : Nat) : TrS (readyS0 n room) i .no := root_fmt _ i
theorem ready_fm {n room : Nat} (hf : FullV (readyS0 n room)) : Fm (readyS0 n room) := ⟨hf, by unfold readyS0; rw [used_fmt]; rfl, by unfold readyS0; rw [used_fmt]; rfl, Nat.min_le_right _ _⟩
theorem taken_fmt (S : StoreD) : ∀ n, takenS (fmtP S) n = min n 2
  | 0 => rfl
  | n + 1 => by
    rw [takenS_succ, taken_fmt S n, used_fmt]
    by_cases h : n < 2
    · rw [if_pos (decide_eq_true h)]; omega
    · rw [if_neg (by simp; omega)]; omega
theorem ready_room (n room : Nat) : roomS (readyS0 n room) = pgN n room - 2 := by
  unfold roomS readyS0
  rw [taken_fmt]
  show pgN n room - min (pgN n room) 2 = _
  omega
end Go.Proofs.YtojoefcfimmipaaGreat
namespace Go.Proofs.YtojoefcfimmipaaGreat
set_option linter.unusedSimpArgs false
set_option linter.unusedVariables false
open Go.RowKit
def keyL (l : List Int) : List UInt8 := l.flatMap ordL
theorem keyL_len (l : List Int) : (keyL l).length = 8 * l.length := by
  induction l with
  | nil => rfl
  | cons a r ih => rw [keyL, List.flatMap_cons, List.length_append, ← keyL, ih, ordL_len, List.length_cons]; omega
def OfR (l : List Int) : Value := if 4 < l.length then .tuple #[.string ⟨#[]⟩, .int .i64 22] else .tuple #[.string (bts (keyL l)), .int .i64 0]
set_option maxRecDepth 100000 in
set_option maxHeartbeats 4000000 in
theorem of_any {A : Option Addr} {n c : Nat} (l : List Int) (w : World) (h : Sl w 1 (fun x cs => cs = encN x) (.slice A n c) l) (hl : ∀ x ∈ l, -9223372036854775808 ≤ x ∧ x ≤ 9223372036854775807) (hn : n ≤ 1000000000000000000) :
    Calls Tryz.prog 58 #[.slice A n c] w fun e w' => e = .returned (OfR l) ∧ Ext w w' := by
  obtain ⟨hnl, hc1, hc2, hx⟩ := h.at
  have HR : Hid (OfR l = if 4 < l.length then .tuple #[.string ⟨#[]⟩, .int .i64 22] else .tuple #[.string (bts (keyL l)), .int .i64 0]) := rfl
  have HNL := Lib.hid hnl
  have HX := Lib.hid hx
  have HL := Lib.hid hl
  have hw8 : IntKind.i64.wrap (8 * (n : Int)) = 8 * (n : Int) := by rw [IntKind.wrap_i64]; omega
  clear h hnl hx hl
  by_cases h4 : 4 < n
  · have T1 : decide ((32 : Int) < 8 * (n : Int)) = true := decide_eq_true (by omega)
    go_enter Tryz.func58, Tryz.ntmps58
    go_wp2_with fail
    go_ret2
    rw [HR.out, if_pos (by have := HNL.out; omega)]
    exact ⟨rfl, Ext.refl w⟩
  · have T1 : decide ((32 : Int) < 8 * (n : Int)) = false := decide_eq_false (by omega)
    go_enter Tryz.func58, Tryz.ntmps58
    go_wp2_with fail
    go_loopw [4, 13] (fun s x wr => ∃ (k : Nat) (s9 : ByteArray), k ≤ n ∧ x = .int .i64 k ∧ s = .string s9 ∧ s9.size ≤ 1000 ∧ Hid (s9 = bts (keyL (l.take k))) ∧ Ext w wr) (fun _ x _ => n - (intOf x).toNat)
    case atStart => exact ⟨0, ⟨#[]⟩, by omega, rfl, rfl, by decide, rfl, Ext.refl w⟩
    case round =>
      obtain ⟨k, s9, hk, rfl, rfl, hsz, hs9, hxr⟩ := hrel
      have HXR := Lib.hid hxr
      clear hxr
      by_cases hkn : k < n
      · have q1 : decide ((k : Int) < n) = true := decide_eq_true (by omega)
        have q2 : (k : Int) < n := by omega
        obtain ⟨b, off, rfl, hb, hcell⟩ := HX.out (by have := HNL.out; omega)
        obtain ⟨cs, rfl, _, hcs⟩ := hcell k (by have := HNL.out; omega)
        obtain ⟨x, hx⟩ : ∃ x, l[k]? = some x := ⟨_, List.getElem?_eq_getElem (by have := HNL.out; omega)⟩
        have hxe : l[k]'(by have := HNL.out; omega) = x := by
          rw [List.getElem?_eq_getElem (by have := HNL.out; omega)] at hx; injection hx
        rw [hxe] at hcs
        have z0 : wr.cell? ⟨b, off + k, none⟩ = some (.int .i64 x) := (HXR.out.cell (p := ⟨b, off + k, none⟩) hb).trans (by have := hcs 0 _ rfl; simpa using this)
        have hxl := HL.out x (List.mem_of_getElem? hx)
        have cO := ordered_any x wr hxl.1 hxl.2
        have hw1 : IntKind.i64.wrap ((k : Int) + 1) = (k : Int) + 1 := by rw [IntKind.wrap_i64]; omega
        have HS1 : Hid (s9 ++ bts (ordL x) = bts (keyL (l.take (k + 1)))) := by
          unfold Hid
          rw [hs9.out, bts_app, List.take_add_one, hx, keyL, keyL, List.flatMap_append]
          simp
        have hbz : (bts (ordL x)).size = 8 := by rw [bts_size, ordL_len]
        have HSZ : Hid ((s9 ++ bts (ordL x)).size ≤ 1000) := by
          rw [HS1.out, bts_size, keyL_len, List.length_take]
          show 8 * (min (k + 1) l.length) ≤ 1000
          omega
        generalize bts (ordL x) = bx at *
        have hsum : ¬ 9223372036854775807 < s9.size + bx.size := by omega
        clear hcell hcs hx hxe hxl
        go_wp2_with (go_at_call 120; (with_reducible refine cO.mono ?_); clear cO; rintro e w2 ⟨rfl, hb2⟩; have HB2 := Lib.hid hb2; clear hb2)
        go_roundw
        case rel => exact ⟨k + 1, s9 ++ bx, by omega, by go_num, rfl, HSZ.out, HS1, Ext.trans HXR.out HB2.out⟩
        case measure => simp only [intOf]; omega
      · obtain rfl : k = n := by omega
        go_wp2_with fail
        go_ret2
        refine ⟨?_, HXR.out⟩
        rw [HR.out, if_neg (by have := HNL.out; omega), hs9.out, HNL.out, List.take_length]
        rfl
end Go.Proofs.YtojoefcfimmipaaGreat
namespace Go.Proofs.YtojoefcfimmipaaGreat
set_option linter.unusedSimpArgs false
set_option linter.unusedVariables false
open Go.RowKit
set_option maxRecDepth 100000 in
set_option maxHeartbeats 4000000 in
theorem split_any (l : List Int) (w : World) (hl : ∀ x ∈ l, -9223372036854775808 ≤ x ∧ x ≤ 9223372036854775807) (hn : l.length ≤ 4) :
    Calls Tryz.prog 68 #[.string (bts (keyL l))] w fun e w' => ∃ v, e = .returned (.tuple #[v, .int .i64 0]) ∧ OwnL w' w.heap.size 3 1 encN v l ∧ Ext w w' := by
  have HL := Lib.hid hl
  obtain ⟨s, hs⟩ : ∃ s, bts (keyL l) = s := ⟨_, rfl⟩
  have hsz : s.size = 8 * l.length := by rw [← hs, bts_size, keyL_len]
  have T1 : (s.size : Int) % 8 = 0 := by omega
  have T1b : ((s.size : Int) % 8 != 0) = false := by simp; omega
  have T2 : decide ((32 : Int) < (s.size : Int)) = false := decide_eq_false (by omega)
  have HS := Lib.hid hs
  have HN := Lib.hid hn
  rw [hs]
  clear hl hs hsz hn
  go_enter Tryz.func68, Tryz.ntmps68
  go_wp2_with fail
  clear T1 T1b
  go_loopw [0, 4] (fun x v wr => ∃ (k : Nat) (s9 : ByteArray), k ≤ l.length ∧ x = .string s9 ∧ Hid (s9.size = 8 * (l.length - k)) ∧ Hid (s9 = bts (keyL (l.drop k))) ∧ OwnL wr w.heap.size 3 1 encN v (l.take k) ∧ Ext w wr) (fun x _ _ => match x with | .string s => s.size | _ => 0)
  case atStart => exact ⟨0, s, by omega, rfl, Lib.hid (by rw [← HS.out, bts_size, keyL_len]; rfl), HS.out.symm, OwnL.nil _ _ _ _ _, Ext.refl w⟩
  case round =>
    obtain ⟨k, s9, hk, rfl, hsz, hs9, ho, hxr⟩ := hrel
    obtain ⟨T, hT⟩ : ∃ T, l.take k = T := ⟨_, rfl⟩
    have hTl : T.length = k := by rw [← hT, List.length_take]; omega
    rw [hT] at ho
    obtain ⟨A, c, rfl⟩ := ho.form
    rw [hTl] at ho ⊢
    have HO := Lib.hid ho
    have HT := Lib.hid hT
    have HTL := Lib.hid hTl
    have HXR := Lib.hid hxr
    have hz := hxr.size
    clear hT hTl
    clear ho hxr
    by_cases hkn : k < l.length
    · have hne : ¬ s9.toList = [] := str_ne (by have := hsz.out; omega)
      have hke : s9.toList.isEmpty = false := by cases h9 : s9.toList with | nil => exact absurd h9 hne | cons _ _ => rfl
      obtain ⟨x, hx⟩ : ∃ x, l[k]? = some x := ⟨_, List.getElem?_eq_getElem hkn⟩
      have hxl := HL.out x (List.mem_of_getElem? hx)
      have hdr : keyL (l.drop k) = ordL x ++ keyL (l.drop (k + 1)) := by
        obtain ⟨h1, h2⟩ := List.getElem?_eq_some_iff.1 hx
        rw [List.drop_eq_getElem_cons h1, h2, keyL, List.flatMap_cons]; rfl
      have e1 : s9.extract 0 8 = bts (ordL x) := by
        rw [hs9.out, hdr]
        exact bts_extract [] (ordL x) _ 0 8 rfl (by rw [ordL_len])
      have e2 : s9.extract 8 s9.size = bts (keyL (l.drop (k + 1))) := by
        rw [hs9.out, hdr]
        exact bts_extract_end (ordL x) _ 8 _ (ordL_len x) (by rw [bts_size, List.length_append, ordL_len])
      have cU := unordered_any (bts (ordL x)) (by rw [bts_size, ordL_len]) wr
      rw [show (bts (ordL x)).data.toList = ordL x by simp [bts], unord_ord x hxl.1 hxl.2] at cU
      have HTK : Hid (l.take (k + 1) = l.take k ++ [x]) := by unfold Hid; rw [List.take_add_one, hx]; rfl
      have HE2 := Lib.hid (show s9.extract 8 s9.size = bts (keyL (l.drop (k + 1))) from e2)
      obtain ⟨s8, hs8⟩ : ∃ s8, s9.extract 8 s9.size = s8 := ⟨_, rfl⟩
      have HS8 : Hid (s8 = bts (keyL (l.drop (k + 1)))) := hs8 ▸ e2
      have HZ8 : Hid (s8.size = 8 * (l.length - (k + 1))) := by unfold Hid; rw [HS8.out, bts_size, keyL_len, List.length_drop]
      rw [hs8] at e2
      have h8 : 8 ≤ s9.size := by have := hsz.out; omega
      have h8i : (8 : Int) ≤ s9.size := by omega
      generalize bts (ordL x) = bx at *
      have HTL1 : Hid ((T ++ [x]).length = k + 1) := by unfold Hid; rw [List.length_append, HTL.out]; rfl
      have HLT : Hid (T.length ≤ 4) := by have := HN.out; have := HTL.out; unfold Hid; omega
      clear hx hdr e2 hxl
      go_wp2_with (first
        | (go_at_call 125; (with_reducible refine cU.mono ?_); clear cU; rintro e w2 ⟨rfl, rfl⟩)
        | (at_builtin; refine wpList_push2 elInt encN_len encN_one rfl (.tmp 26) (.tmp 28) rfl (.slice A k c) T rfl (HO.out.ext (by (repeat' (with_reducible first | exact Below.refl _ _ | refine Ext.drewN ?_ _ | refine Below.drew ?_ | refine Below.setCell ?_ ?_ _ | refine Below.alloc ?_ ?_ _)) <;> (first | omega | (simp; done) | (simp; omega)))) (by simp; omega) _ 1 x rfl (Row1.made' (by simp) _ (encN x)) (by have := HLT.out; omega) (by decide) ?_; intro A' c' w2 hown2 hgr hwh; rw [HTL1.out] at hown2 ⊢; have HO2 := Lib.hid hown2; have HG2 := Lib.hid (OwnL.grown (HO.out.ext (by (repeat' (with_reducible first | exact Below.refl _ _ | refine Ext.drewN ?_ _ | refine Below.drew ?_ | refine Below.setCell ?_ ?_ _ | refine Below.alloc ?_ ?_ _)) <;> (first | omega | (simp; done) | (simp; omega)))) (Ext.trans HXR.out (by (repeat' (with_reducible first | exact Below.refl _ _ | refine Ext.drewN ?_ _ | refine Below.drew ?_ | refine Below.setCell ?_ ?_ _ | refine Below.alloc ?_ ?_ _)) <;> (first | omega | (simp; done) | (simp; omega)))) hgr (Nat.le_refl _)); clear hown2 hgr hwh))
      go_roundw
      case rel => exact ⟨k + 1, s8, by omega, rfl, HZ8, HS8, by rw [HTK.out, HT.out]; exact HO2.out, HG2.out⟩
      case measure => show s8.size < s9.size; have := HZ8.out; have := hsz.out; omega
    · obtain rfl : k = l.length := by omega
      have hs0 : s9 = ⟨#[]⟩ := by apply bytes_ext; rw [hs9.out, List.drop_length]; rfl
      subst hs0
      go_wp2_with fail
      go_ret2
      exact ⟨_, rfl, by have h9 := HO.out; rw [← HT.out, List.take_length] at h9; exact h9, HXR.out⟩
end Go.Proofs.YtojoefcfimmipaaGreat
namespace Go.Proofs.YtojoefcfimmipaaGreat
set_option linter.unusedSimpArgs false
set_option linter.unusedVariables false
open Go.RowKit
set_option maxRecDepth 100000 in
set_option maxHeartbeats 2000000 in
theorem topen_any {p i : Nat} {F : Nat → Prop} {S : StoreD} (w : World) (h : PagerAt w p F S) (hi : i < 16) :
    Calls Tryz.prog 44 #[.pointer (some ⟨p, 0, none⟩), .int .i64 i] w fun e w' => ∃ t F', e = .returned (.tuple #[.pointer (some ⟨t, 0, none⟩), .int .i64 0]) ∧ TreeRow w' t p i ∧ PagerAt w' p F' S ∧ Keeps F F' w w' ∧ ¬ F' t ∧ w.heap.size ≤ t := by
  have cR := root_any i w h hi
  clear h hi
  go_enter Tryz.func44, Tryz.ntmps44
  go_wp2_with (go_at_call 98; (with_reducible refine cR.mono ?_); clear cR; rintro e w1 ⟨rfl, F1, hp1, hk1⟩; have HP1 := Lib.hid hp1.shrink; have HK1 := Lib.hid (Keeps.shrink (P := fun i => i < w1.heap.size) hk1); clear hp1 hk1)
  go_ret2
  exact ⟨w1.heap.size, _, rfl, Row1.made w1 _ _, HP1.out.ext (Ext.alloc _ _), HK1.out.ext (Ext.alloc _ _), fun q => absurd q.2 (Nat.lt_irrefl _), HK1.out.only.size⟩
end Go.Proofs.YtojoefcfimmipaaGreat
namespace Go.Proofs.YtojoefcfimmipaaGreat
set_option linter.unusedSimpArgs false
set_option linter.unusedVariables false
open Go.RowKit
abbrev tp (t : Nat) : Value := .pointer (some ⟨t, 0, none⟩)
def tblC (ts : Nat → Nat) (k : Nat) : List Value := (List.range 5).map fun j => if j < k then tp (ts j) else .pointer none
theorem tblC_at (ts : Nat → Nat) (k j : Nat) (hj : j < 5) : (tblC ts k)[j]? = some (if j < k then tp (ts j) else .pointer none) := by
  unfold tblC
  rw [List.getElem?_map, List.getElem?_range hj]
  rfl
theorem tblC_set (ts : Nat → Nat) (k t : Nat) (hk : k < 5) : (tblC ts k).set k (tp t) = tblC (fun j => if j = k then t else ts j) (k + 1) := by
  apply List.ext_getElem?
  intro j
  by_cases hj : j < 5
  · rw [tblC_at _ _ _ hj, List.getElem?_set, tblC_at _ _ _ hj]
    have hl : (tblC ts k).length = 5 := by simp [tblC]
    by_cases e : k = j
    · subst e
      rw [if_pos rfl, if_pos (by rw [hl]; exact hk), if_pos (by omega), if_pos rfl]
    · rw [if_neg e]
      by_cases h : j < k
      · rw [if_pos h, if_pos (by omega), if_neg (by omega)]
      · rw [if_neg h, if_neg (by omega)]
  · rw [List.getElem?_eq_none (by simp [tblC]; omega), List.getElem?_eq_none (by simp [tblC]; omega)]
abbrev TblRow (w : World) (tb : Nat) (ts : Nat → Nat) : Prop := Row1 w tb 58 (tblC ts 5)
/-- a table of five trees -/
structure TblAt (w : World) (tb p : Nat) (ts : Nat → Nat) (F : Nat → Prop) : Prop where
  row : TblRow w tb ts
  tree : ∀ j, j < 5 → TreeRow w (ts j) p j
  out : ¬ F tb
  outs : ∀ j, j < 5 → ¬ F (ts j)
structure OpnR (w : World) (p : Nat) (F : Nat → Prop) (S : StoreD) (k : Nat) (wr : World) (ts : Nat → Nat) (F1 : Nat → Prop) : Prop where
  row : Row1 wr w.heap.size 58 (tblC ts k)
  pag : PagerAt wr p F1 S
  keep : Keeps F F1 w wr
  out : ¬ F1 w.heap.size
  tree : ∀ j, j < k → TreeRow wr (ts j) p j ∧ ¬ F1 (ts j) ∧ w.heap.size < ts j
set_option maxRecDepth 100000 in
set_option maxHeartbeats 2000000 in
theorem tblOpen_any {p : Nat} {F : Nat → Prop} {S : StoreD} (w : World) (h : PagerAt w p F S) :
    Calls Tryz.prog 31 #[.pointer (some ⟨p, 0, none⟩)] w fun e w' => ∃ tb ts F', e = .returned (.tuple #[.pointer (some ⟨tb, 0, none⟩), .int .i64 0]) ∧ TblAt w' tb p ts F' ∧ PagerAt w' p F' S ∧ Keeps F F' w w' ∧ w.heap.size ≤ tb := by
  have HP := Lib.hid h.shrink
  clear h
  go_enter Tryz.func31, Tryz.ntmps31
  go_wp2_with fail
  go_loopw [10] (fun i wr => ∃ k ts F1, k ≤ 5 ∧ i = .int .i64 (k : Nat) ∧ OpnR w p F S k wr ts F1) (fun i _ => 5 - (intOf i).toNat)
  case atStart => exact ⟨0, fun _ => 0, _, by omega, rfl, ⟨Row1.made' rfl _ (tblC (fun _ => 0) 0), HP.out.ext (by (repeat' (with_reducible first | exact Below.refl _ _ | refine Ext.drewN ?_ _ | refine Below.drew ?_ | refine Below.setCell ?_ ?_ _ | refine Below.alloc ?_ ?_ _)) <;> (first | omega | (simp; done) | (simp; omega))), (Keeps.of (by (repeat' (with_reducible first | exact Below.refl _ _ | refine Ext.drewN ?_ _ | refine Below.drew ?_ | refine Below.setCell ?_ ?_ _ | refine Below.alloc ?_ ?_ _)) <;> (first | omega | (simp; done) | (simp; omega)))).shrink, fun q => absurd q.2 (Nat.lt_irrefl _), fun j hj => absurd hj (by omega)⟩⟩
  case round =>
    obtain ⟨k, ts, F1, hk, rfl, hr⟩ := hrel
    have HR := Lib.hid hr
    clear hr
    by_cases hkl : k < 5
    · have q1 : decide ((k : Int) < 5) = true := decide_eq_true (by omega)
      have cO := topen_any (i := k) wr HR.out.pag (by omega)
      go_upto_region 8 with (go_at_call 44; (with_reducible refine cO.mono ?_); clear cO; rintro e w1 ⟨t, F2, rfl, ht1, hp1, hk1, hn1, hs1⟩)
      have hR1 := hk1.only.row HR.out.row HR.out.out
      have c0 : w1.cell? ⟨w.heap.size, k, none⟩ = some (.pointer none) := by rw [hR1.cell k, tblC_at _ _ _ hkl, if_neg (by omega)]
      have f0 : w1.frozen? ⟨w.heap.size, k, none⟩ = false := hR1.soft k
      have hsz := hk1.only.size
      have hgl := HR.out.row.lt
      have HREL : Hid (∀ W, W = w1.setCell ⟨w.heap.size, k, none⟩ (tp t) → OpnR w p F S (k + 1) W (fun j => if j = k then t else ts j) (fun i => F2 i ∧ i < w1.heap.size)) := by
        rintro W rfl
        have hout : ¬ F2 w.heap.size := hk1.out hgl HR.out.out
        refine ⟨?_, hp1.shrink.only (Only.setCell (F := fun i => i = w.heap.size) (p := ⟨w.heap.size, k, none⟩) Only.refl (.inl rfl) _) (fun i q e => hout (e ▸ q.1)), ⟨((HR.out.keep.trans hk1).only.setCell (p := ⟨w.heap.size, k, none⟩) (.inr (Nat.le_refl _)) _), (Keeps.shrink (HR.out.keep.trans hk1)).new⟩, fun q => hout q.1, fun j hj => ?_⟩
        · rw [← tblC_set _ _ _ hkl]; exact hR1.set k _
        · by_cases e : j = k
          · subst e
            rw [if_pos rfl]
            exact ⟨ht1.setFar (fun e => absurd hs1 (by rw [e]; exact Nat.not_le.2 hgl)) _, fun q => hn1 q.1, by omega⟩
          · rw [if_neg e]
            have h1 := HR.out.tree j (by omega)
            have h2 := hk1.only.row h1.1 h1.2.1
            exact ⟨h2.setFar (fun e => absurd h1.2.2 (by rw [e]; exact Nat.lt_irrefl _)) _, fun q => hk1.out h1.1.lt h1.2.1 q.1, h1.2.2⟩
      clear ht1 hp1 hk1 hn1
      go_wp2_with fail
      go_roundw
      case rel => exact ⟨k + 1, _, _, by omega, by go_num, HREL.out _ rfl⟩
      case measure => simp [intOf]; omega
    · obtain rfl : k = 5 := by omega
      go_wp2_with fail
      go_ret2
      have h1 := HR.out
      exact ⟨_, ts, F1, rfl, ⟨h1.row, fun j hj => (h1.tree j hj).1, h1.out, fun j hj => (h1.tree j hj).2.1⟩, h1.pag, h1.keep, Nat.le_refl _⟩
set_option maxRecDepth 100000 in
set_option maxHeartbeats 2000000 in
theorem tblMade_any {tb : Nat} {ts : Nat → Nat} (w : World) (h : TblRow w tb ts) : Calls Tryz.prog 69 #[.pointer (some ⟨tb, 0, none⟩)] w fun e w' => e = .returned (.bool true) ∧ w = w' := by
  have c0 : w.cell? ⟨tb, 0, none⟩ = some (tp (ts 0)) := h.cell 0
  clear h
  go_enter Tryz.func69, Tryz.ntmps69
  go_wp2_with fail
  go_ret
  exact ⟨rfl, rfl⟩
/-- no table: nil, or one without trees -/
def NoTbl (w : World) (v : Value) : Prop := v = .pointer none ∨ ∃ tb, v = .pointer (some ⟨tb, 0, none⟩) ∧ Row1 w tb 58 (tblC (fun _ => 0) 0)
set_option maxRecDepth 100000 in
set_option maxHeartbeats 2000000 in
theorem tblMade_no {v : Value} (w : World) (h : NoTbl w v) : Calls Tryz.prog 69 #[v] w fun e w' => e = .returned (.bool false) ∧ w = w' := by
  rcases h with rfl | ⟨tb, rfl, h⟩
  · go_enter Tryz.func69, Tryz.ntmps69
    go_wp2_with fail
    go_ret
    exact ⟨rfl, rfl⟩
  · have c0 : w.cell? ⟨tb, 0, none⟩ = some (.pointer none) := h.cell 0
    clear h
    go_enter Tryz.func69, Tryz.ntmps69
    go_wp2_with fail
    go_ret
    exact ⟨rfl, rfl⟩
end Go.Proofs.YtojoefcfimmipaaGreat
namespace Go.Proofs.YtojoefcfimmipaaGreat
set_option linter.unusedSimpArgs false
set_option linter.unusedVariables false
open Go.RowKit
def endI (o : OpD) : Int := if o.done = true then o.ret else 1099511627777
def wayL (i : Nat) (o : OpD) : List Int := match i with
  | 0 => [o.id]
  | 1 => [o.object, o.invoke, o.id]
  | 2 => [o.object, endI o, o.id]
  | 3 => [o.proc, o.invoke, o.id]
  | _ => [o.method, o.id]
def wayK (i : Nat) (o : OpD) : ByteArray := bts (keyL (wayL i o))
def In64 (x : Int) : Prop := -9223372036854775808 ≤ x ∧ x ≤ 9223372036854775807
theorem wayL_len (i : Nat) (o : OpD) : 1 ≤ (wayL i o).length ∧ (wayL i o).length ≤ 3 := by unfold wayL; split <;> simp
theorem wayK_ok (i : Nat) (o : OpD) : KeyOk (wayK i o) := by
  unfold KeyOk wayK
  rw [bts_size, keyL_len]
  have := wayL_len i o
  omega
theorem keyOf_made (l : List Int) (W : World) (h4 : l.length ≤ 4) (hl : ∀ x ∈ l, In64 x) :
    Calls Tryz.prog 58 #[.slice (some ⟨W.heap.size, 0, none⟩) l.length l.length] (W.alloc (.cells (l.map (fun x => Value.int .i64 x)).toArray 3)) fun e w' => e = .returned (.tuple #[.string (bts (keyL l)), .int .i64 0]) ∧ Ext W w' := by
  have hs : Sl (W.alloc (.cells (l.map (fun x => Value.int .i64 x)).toArray 3)) 1 (fun x cs => cs = encN x) (.slice (some ⟨W.heap.size, 0, none⟩) l.length l.length) l := by
    refine Sl.laid (Row1.made W 3 _) rfl (Nat.le_refl _) (by unfold maxLen; omega) (fun i x hi => ⟨_, rfl, rfl, fun j u hu => ?_⟩)
    cases j with
    | zero =>
      have hu : some (Value.int .i64 x) = some u := hu
      rw [Nat.mul_one, Nat.add_zero, List.getElem?_map, hi]
      exact hu
    | succ j => simp [encN] at hu
  refine (of_any l _ hs hl (by omega)).mono ?_
  rintro e w' ⟨rfl, hx⟩
  refine ⟨?_, (Ext.alloc _ _).trans hx⟩
  unfold OfR
  rw [if_neg (by omega)]
set_option maxRecDepth 100000 in
set_option maxHeartbeats 2000000 in
theorem end_any (o : OpD) (w : World) : Calls Tryz.prog 128 #[o.val] w fun e w' => e = .returned (.int .i64 (endI o)) ∧ Ext w w' := by
  obtain ⟨h0, h1, h2, h3, h4, h5, h6, h7, h8, h9, h10⟩ := At11.row (Row1.made w 53 o.cells)
  have HE : Hid (endI o = if o.done = true then o.ret else 1099511627777) := rfl
  go_enter Tryz.func128, Tryz.ntmps128
  cases hd : o.done with
  | true =>
    rw [hd] at h7
    go_wp2_with fail
    go_ret
    exact ⟨ret_int (by rw [HE.out, if_pos hd]), by (repeat' (with_reducible first | exact Below.refl _ _ | refine Ext.drewN ?_ _ | refine Below.drew ?_ | refine Below.setCell ?_ ?_ _ | refine Below.alloc ?_ ?_ _)) <;> (first | omega | (simp; done) | (simp; omega))⟩
  | false =>
    rw [hd] at h7
    go_wp2_with fail
    go_ret
    exact ⟨ret_int (by rw [HE.out, if_neg (by rw [hd]; simp)]), by (repeat' (with_reducible first | exact Below.refl _ _ | refine Ext.drewN ?_ _ | refine Below.drew ?_ | refine Below.setCell ?_ ?_ _ | refine Below.alloc ?_ ?_ _)) <;> (first | omega | (simp; done) | (simp; omega))⟩
set_option maxRecDepth 100000 in
set_option maxHeartbeats 4000000 in
theorem where_any (i : Nat) (o : OpD) (w : World) (hi : i < 5) (hl : ∀ x ∈ wayL i o, In64 x) :
    Calls Tryz.prog 71 #[.int .i64 i, o.val] w fun e w' => e = .returned (.string (wayK i o)) ∧ Ext w w' := by
  have HBX : Hid (∀ W : World, Ext (w.alloc (.cells #[.int .i64 o.id, .int .i64 o.proc, .int .i64 o.object, .int .i64 o.kind, .int .i64 o.method, .int .i64 o.arg, .int .i64 o.second, .bool o.done, .int .i64 o.result, .int .i64 o.invoke, .int .i64 o.ret] 53)) W → At11 W w.heap.size o) := fun W h => (At11.row (Row1.made w 53 o.cells)).ext h (by simp)
  obtain ⟨h0, h1, h2, h3, h4, h5, h6, h7, h8, h9, h10⟩ := HBX.out _ (Ext.refl _)
  rcases (show i = 0 ∨ i = 1 ∨ i = 2 ∨ i = 3 ∨ i = 4 from by omega) with rfl | rfl | rfl | rfl | rfl
  · have cO : Hid (∀ (W : World) (n : Nat), W.heap.size = n → Calls Tryz.prog 58 #[.slice (some ⟨n, 0, none⟩) 1 1] (W.alloc (.cells #[.int .i64 o.id] 3)) fun e w' => e = .returned (.tuple #[.string (wayK 0 o), .int .i64 0]) ∧ Ext W w') := fun W n hn => by subst hn; exact keyOf_made [o.id] W (by simp) hl
    generalize hk : wayK 0 o = k at cO
    clear hl
    go_enter Tryz.func71, Tryz.ntmps71
    go_wp2_with (go_at_call 58; (with_reducible refine (cO.out _ _ ?_).mono ?_); (· simp); clear cO; rintro e w1 ⟨rfl, hb1⟩; have HB1 := Lib.hid hb1; clear hb1)
    go_ret
    subst hk
    exact ⟨rfl, (Ext.alloc _ _).trans HB1.out⟩
  · have cO : Hid (∀ (W : World) (n : Nat), W.heap.size = n → Calls Tryz.prog 58 #[.slice (some ⟨n, 0, none⟩) 3 3] (W.alloc (.cells #[.int .i64 o.object, .int .i64 o.invoke, .int .i64 o.id] 3)) fun e w' => e = .returned (.tuple #[.string (wayK 1 o), .int .i64 0]) ∧ Ext W w') := fun W n hn => by subst hn; exact keyOf_made [o.object, o.invoke, o.id] W (by simp) hl
    generalize hk : wayK 1 o = k at cO
    clear hl
    go_enter Tryz.func71, Tryz.ntmps71
    go_wp2_with (go_at_call 58; (with_reducible refine (cO.out _ _ ?_).mono ?_); (· simp); clear cO; rintro e w1 ⟨rfl, hb1⟩; have HB1 := Lib.hid hb1; clear hb1)
    go_ret
    subst hk
    exact ⟨rfl, (Ext.alloc _ _).trans HB1.out⟩
  · have cO : Hid (∀ (W : World) (n : Nat), W.heap.size = n → Calls Tryz.prog 58 #[.slice (some ⟨n, 0, none⟩) 3 3] (W.alloc (.cells #[.int .i64 o.object, .int .i64 (endI o), .int .i64 o.id] 3)) fun e w' => e = .returned (.tuple #[.string (wayK 2 o), .int .i64 0]) ∧ Ext W w') := fun W n hn => by subst hn; exact keyOf_made [o.object, endI o, o.id] W (by simp) hl
    have cE : Hid (∀ W, Calls Tryz.prog 128 #[.agg #[.int .i64 o.id, .int .i64 o.proc, .int .i64 o.object, .int .i64 o.kind, .int .i64 o.method, .int .i64 o.arg, .int .i64 o.second, .bool o.done, .int .i64 o.result, .int .i64 o.invoke, .int .i64 o.ret]] W fun e w' => e = .returned (.int .i64 (endI o)) ∧ Ext W w') := fun W => end_any o W
    generalize hk : wayK 2 o = k at cO
    generalize endI o = en at *
    clear hl
    go_enter Tryz.func71, Tryz.ntmps71
    go_upto_region 8 with fail
    generalize hW0 : w.alloc _ = W0 at *
    have HX0 : Hid (Ext w W0) := by unfold Hid; rw [← hW0]; exact Ext.alloc _ _
    clear h0 h1 h2 h3 h4 h5 h6 h7 h8 h9 h10 hW0
    refine wp_region_held_drew (S := fun W => (W.cell? ⟨w.heap.size, 0, none⟩ = some (.int .i64 o.id) ∧ W.cell? ⟨w.heap.size, 1, none⟩ = some (.int .i64 o.proc) ∧ W.cell? ⟨w.heap.size, 2, none⟩ = some (.int .i64 o.object) ∧ W.cell? ⟨w.heap.size, 3, none⟩ = some (.int .i64 o.kind) ∧ W.cell? ⟨w.heap.size, 4, none⟩ = some (.int .i64 o.method) ∧ W.cell? ⟨w.heap.size, 5, none⟩ = some (.int .i64 o.arg) ∧ W.cell? ⟨w.heap.size, 6, none⟩ = some (.int .i64 o.second) ∧ W.cell? ⟨w.heap.size, 7, none⟩ = some (.bool o.done) ∧ W.cell? ⟨w.heap.size, 8, none⟩ = some (.int .i64 o.result) ∧ W.cell? ⟨w.heap.size, 9, none⟩ = some (.int .i64 o.invoke) ∧ W.cell? ⟨w.heap.size, 10, none⟩ = some (.int .i64 o.ret))) (by kernel_rfl) (HBX.out _ (by (repeat' (with_reducible first | exact Below.refl _ _ | refine Ext.drewN ?_ _ | refine Below.drew ?_ | refine Below.setCell ?_ ?_ _ | refine Below.alloc ?_ ?_ _)) <;> (first | omega | (simp; done) | (simp; omega)))) (fun hHeld => ?_)
    refine' tk 0 ?_; (try simp only [Act.put, List.setIfInBounds_toArray, List.set_cons_zero, List.set_cons_succ])
    refine' tk 1 ?_; (try simp only [Act.put, List.setIfInBounds_toArray, List.set_cons_zero, List.set_cons_succ])
    refine' tk 2 ?_; (try simp only [Act.put, List.setIfInBounds_toArray, List.set_cons_zero, List.set_cons_succ])
    refine' tk 4 ?_; (try simp only [Act.put, List.setIfInBounds_toArray, List.set_cons_zero, List.set_cons_succ])
    refine' tk 5 ?_; (try simp only [Act.put, List.setIfInBounds_toArray, List.set_cons_zero, List.set_cons_succ])
    refine stp 3 (fun K hK => ?_); go_simp
    (with_reducible refine (cE.out _).mono ?_)
    rintro e w1 ⟨rfl, hb1⟩
    have HB1 : Hid (Ext W0 w1) := Ext.trans (by (repeat' (with_reducible first | exact Below.refl _ _ | refine Ext.drewN ?_ _ | refine Below.drew ?_ | refine Below.setCell ?_ ?_ _ | refine Below.alloc ?_ ?_ _)) <;> (first | omega | (simp; done) | (simp; omega))) hb1
    have hz1 := HB1.out.size
    clear hb1
    (try dsimp only)
    (try go_simp)
    refine hK.out _ _ (HBX.out _ (by (repeat' (with_reducible first | exact HB1.out | exact Below.refl _ _ | refine Ext.drewN ?_ _ | refine Below.drew ?_ | refine Below.setCell ?_ ?_ _ | refine Below.alloc ?_ ?_ _)) <;> (first | omega | (simp; done) | (simp; omega)))) (fun hHeld => ?_)
    clear hK K
    (try simp only [Act.put, List.setIfInBounds_toArray, List.set_cons_zero, List.set_cons_succ])
    refine stp 6 (fun K hK => ?_); go_simp
    refine hK.out _ _ (HBX.out _ (by (repeat' (with_reducible first | exact HB1.out | exact Below.refl _ _ | refine Ext.drewN ?_ _ | refine Below.drew ?_ | refine Below.setCell ?_ ?_ _ | refine Below.alloc ?_ ?_ _)) <;> (first | omega | (simp; done) | (simp; omega)))) (fun hHeld => ?_)
    clear hK K
    (try simp only [Act.put, List.setIfInBounds_toArray, List.set_cons_zero, List.set_cons_succ])
    refine stp 7 (fun K hK => ?_); go_simp
    (with_reducible refine (cO.out _ _ ?_).mono ?_)
    · simp
    rintro e w2 ⟨rfl, hb2⟩
    have HB2 : Hid (Ext W0 w2) := Ext.trans (by (repeat' (with_reducible first | exact HB1.out | exact Below.refl _ _ | refine Ext.drewN ?_ _ | refine Below.drew ?_ | refine Below.setCell ?_ ?_ _ | refine Below.alloc ?_ ?_ _)) <;> (first | omega | (simp; done) | (simp; omega))) hb2
    have hz2 := HB2.out.size
    clear hb2
    (try dsimp only)
    (try go_simp)
    refine hK.out _ _ (HBX.out _ (by (repeat' (with_reducible first | exact HB2.out | exact Below.refl _ _ | refine Ext.drewN ?_ _ | refine Below.drew ?_ | refine Below.setCell ?_ ?_ _ | refine Below.alloc ?_ ?_ _)) <;> (first | omega | (simp; done) | (simp; omega)))) (fun hHeld => ?_)
    clear hK K
    (try simp only [Act.put, List.setIfInBounds_toArray, List.set_cons_zero, List.set_cons_succ])
    refine' tk 8 ?_; (try simp only [Act.put, List.setIfInBounds_toArray, List.set_cons_zero, List.set_cons_succ])
    refine' tk 9 ?_; (try simp only [Act.put, List.setIfInBounds_toArray, List.set_cons_zero, List.set_cons_succ])
    refine' tk 10 ?_; (try simp only [Act.put, List.setIfInBounds_toArray, List.set_cons_zero, List.set_cons_succ])
    refine' tk 11 ?_; (try simp only [Act.put, List.setIfInBounds_toArray, List.set_cons_zero, List.set_cons_succ])
    refine wpAnyH_done (by kernel_rfl) ?_ _
    go_wp2_with fail
    go_ret
    subst hk
    exact ⟨rfl, HX0.out.trans HB2.out⟩
  · have cO : Hid (∀ (W : World) (n : Nat), W.heap.size = n → Calls Tryz.prog 58 #[.slice (some ⟨n, 0, none⟩) 3 3] (W.alloc (.cells #[.int .i64 o.proc, .int .i64 o.invoke, .int .i64 o.id] 3)) fun e w' => e = .returned (.tuple #[.string (wayK 3 o), .int .i64 0]) ∧ Ext W w') := fun W n hn => by subst hn; exact keyOf_made [o.proc, o.invoke, o.id] W (by simp) hl
    generalize hk : wayK 3 o = k at cO
    clear hl
    go_enter Tryz.func71, Tryz.ntmps71
    go_wp2_with (go_at_call 58; (with_reducible refine (cO.out _ _ ?_).mono ?_); (· simp); clear cO; rintro e w1 ⟨rfl, hb1⟩; have HB1 := Lib.hid hb1; clear hb1)
    go_ret
    subst hk
    exact ⟨rfl, (Ext.alloc _ _).trans HB1.out⟩
  · have cO : Hid (∀ (W : World) (n : Nat), W.heap.size = n → Calls Tryz.prog 58 #[.slice (some ⟨n, 0, none⟩) 2 2] (W.alloc (.cells #[.int .i64 o.method, .int .i64 o.id] 3)) fun e w' => e = .returned (.tuple #[.string (wayK 4 o), .int .i64 0]) ∧ Ext W w') := fun W n hn => by subst hn; exact keyOf_made [o.method, o.id] W (by simp) hl
    generalize hk : wayK 4 o = k at cO
    clear hl
    go_enter Tryz.func71, Tryz.ntmps71
    go_wp2_with (go_at_call 58; (with_reducible refine (cO.out _ _ ?_).mono ?_); (· simp); clear cO; rintro e w1 ⟨rfl, hb1⟩; have HB1 := Lib.hid hb1; clear hb1)
    go_ret
    subst hk
    exact ⟨rfl, (Ext.alloc _ _).trans HB1.out⟩
end Go.Proofs.YtojoefcfimmipaaGreat
