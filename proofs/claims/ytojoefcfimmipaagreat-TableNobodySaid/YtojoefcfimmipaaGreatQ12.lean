/- A pager as data, and in memory; its cache. Conditions: a pager in memory. -/
/- A pager's read and write. Conditions: a pager in memory, a page that there is. -/
/- A pager's used, check, Get, Set, Root. Conditions: a pager in memory. -/
/- A pager's Alloc, Free. Conditions: a pager in memory; a page that is not given out, or one that is. -/
import Derived.Test.YtojoefcfimmipaaGreatQ09
import Derived.Test.YtojoefcfimmipaaGreatQ11
import Derived.Test.YtojoefcfimmipaaGreatQ06
namespace Go.Proofs.YtojoefcfimmipaaGreat
set_option linter.unusedSimpArgs false
set_option linter.unusedVariables false
open Go.RowKit
theorem cons_erase {α : Type} {l : List α} {i : Nat} (hi : i < l.length) : (l[i] :: l.eraseIdx i).Perm l := by
  rw [List.eraseIdx_eq_take_drop_succ]
  have h : l = l.take i ++ l[i] :: l.drop (i + 1) := by rw [List.getElem_cons_drop, List.take_append_drop]
  conv => rhs; rw [h]
  exact List.perm_middle.symm
theorem idxI_cases (l : List (Int × ByteArray)) (k : Int) : (idxI l k = -1 ∧ ∀ x ∈ l, x.1 ≠ k) ∨ ∃ (i : Nat) (h : i < l.length), idxI l k = i ∧ l[i].1 = k := by
  unfold idxI
  cases h : l.findIdx? (fun x => x.1 == k) with
  | none =>
    left
    refine ⟨rfl, fun x hx e => ?_⟩
    rw [List.findIdx?_eq_none_iff] at h
    have := h x hx
    simp [e] at this
  | some i =>
    right
    obtain ⟨hi, h1, _⟩ := List.findIdx?_eq_some_iff_getElem.1 h
    exact ⟨i, hi, rfl, by simpa using h1⟩
/-- no key twice; all as it is seen -/
def CGood (S : StoreD) (l : List (Int × ByteArray)) : Prop := (l.map (·.1)).Nodup ∧ ∀ x ∈ l, 0 ≤ x.1 ∧ x.1 < S.head.pages ∧ x.2 = viewS S x.1.toNat
theorem CGood.nil (S : StoreD) : CGood S [] := ⟨by simp, fun x hx => by cases hx⟩
theorem CGood.perm {S : StoreD} {l l' : List (Int × ByteArray)} (h : CGood S l) (hp : l'.Perm l) : CGood S l' := ⟨(hp.map _).nodup_iff.2 h.1, fun x hx => h.2 x (hp.mem_iff.1 hx)⟩
theorem CGood.front {S : StoreD} {l : List (Int × ByteArray)} (h : CGood S l) {i : Nat} (hi : i < l.length) : CGood S (frontL l i l[i]) := h.perm (cons_erase hi)
theorem CGood.erase {S : StoreD} {l : List (Int × ByteArray)} (h : CGood S l) (i : Nat) : CGood S (l.eraseIdx i) :=
  ⟨h.1.sublist ((List.eraseIdx_sublist l i).map _), fun x hx => h.2 x ((List.eraseIdx_sublist l i).subset hx)⟩
theorem CGood.cons {S : StoreD} {l : List (Int × ByteArray)} (h : CGood S l) {k : Nat} (hk : ∀ x ∈ l, x.1 ≠ k) (hp : k < S.head.pages) : CGood S (((k : Int), viewS S k) :: l) := by
  refine ⟨?_, fun x hx => ?_⟩
  · rw [List.map_cons, List.nodup_cons]
    refine ⟨fun hm => ?_, h.1⟩
    obtain ⟨x, hx, e⟩ := List.mem_map.1 hm
    exact hk x hx e
  · rcases List.mem_cons.1 hx with rfl | hx
    · exact ⟨by simp, by simpa using hp, by simp⟩
    · exact h.2 x hx
/-- what has not the key that is written stays as it is seen -/
theorem CGood.put {S : StoreD} {l : List (Int × ByteArray)} (h : CGood S l) {n : Nat} {s : ByteArray} (hk : ∀ x ∈ l, x.1 ≠ n) : CGood (putP S n s) l :=
  ⟨h.1, fun x hx => by
    obtain ⟨h1, h2, h3⟩ := h.2 x hx
    refine ⟨h1, h2, ?_⟩
    rw [view_put, if_neg (by have := hk x hx; omega)]
    exact h3⟩
theorem CGood.erased {S : StoreD} {l : List (Int × ByteArray)} (h : CGood S l) {i : Nat} (hi : i < l.length) {k : Int} (hk : l[i].1 = k) : ∀ x ∈ l.eraseIdx i, x.1 ≠ k := by
  have hp : (l[i] :: l.eraseIdx i).Perm l := cons_erase hi
  have hn := (hp.map (·.1)).nodup_iff.2 h.1
  rw [List.map_cons, List.nodup_cons] at hn
  intro x hx e
  exact hn.1 (List.mem_map.2 ⟨x, hx, by rw [e, hk]⟩)
/-- a pager in memory: at a block, with a store and a cache, each in blocks of its own -/
structure PagerAs (w : World) (p : Nat) (F : Nat → Prop) (S : StoreD) (s c : Nat) (Fs Fc : Nat → Prop) (l : List (Int × ByteArray)) : Prop where
  row : Row1 w p 195 [.pointer (some ⟨s, 0, none⟩), .pointer (some ⟨c, 0, none⟩)]
  store : StoreAt w s Fs S
  cache : CacheAt w c Fc l
  good : CGood S l
  live : Live S
  pages : 2 < S.head.pages
  sep : ∀ i, Fs i → ¬ Fc i
  ps : ¬ Fs p
  pc : ¬ Fc p
  fp : F p
  fs : ∀ i, Fs i → F i
  fc : ∀ i, Fc i → F i
  ls : ∀ i, Fs i → i < w.heap.size
  lc : ∀ i, Fc i → i < w.heap.size
def PagerAt (w : World) (p : Nat) (F : Nat → Prop) (S : StoreD) : Prop := ∃ s c Fs Fc l, PagerAs w p F S s c Fs Fc l
section
variable {w w' : World} {p : Nat} {F F' G : Nat → Prop} {S S' : StoreD} {s c : Nat} {Fs Fc Fs' Fc' : Nat → Prop} {l l' : List (Int × ByteArray)}
theorem PagerAs.only (h : PagerAs w p F S s c Fs Fc l) (hb : Only G w w') (hG : ∀ i, F i → ¬ G i) : PagerAs w' p F S s c Fs Fc l :=
  ⟨hb.row h.row (hG p h.fp), h.store.only hb (fun i q => hG i (h.fs i q)), h.cache.only hb (fun i q => hG i (h.fc i q)), h.good, h.live, h.pages, h.sep, h.ps, h.pc, h.fp, h.fs, h.fc, fun i q => Nat.lt_of_lt_of_le (h.ls i q) hb.size, fun i q => Nat.lt_of_lt_of_le (h.lc i q) hb.size⟩
theorem PagerAs.ext (h : PagerAs w p F S s c Fs Fc l) (hb : Ext w w') : PagerAs w' p F S s c Fs Fc l := h.only (G := fun _ => False) (Only.of hb) (fun _ _ q => q)
theorem PagerAs.mono (h : PagerAs w p F S s c Fs Fc l) (hF : ∀ i, F i → F' i) : PagerAs w p F' S s c Fs Fc l := { h with fp := hF _ h.fp, fs := fun i q => hF i (h.fs i q), fc := fun i q => hF i (h.fc i q) }
theorem PagerAt.only (h : PagerAt w p F S) (hb : Only G w w') (hG : ∀ i, F i → ¬ G i) : PagerAt w' p F S := let ⟨_, _, _, _, _, h⟩ := h; ⟨_, _, _, _, _, h.only hb hG⟩
theorem PagerAt.ext (h : PagerAt w p F S) (hb : Ext w w') : PagerAt w' p F S := let ⟨_, _, _, _, _, h⟩ := h; ⟨_, _, _, _, _, h.ext hb⟩
theorem PagerAt.mono (h : PagerAt w p F S) (hF : ∀ i, F i → F' i) : PagerAt w p F' S := let ⟨_, _, _, _, _, h⟩ := h; ⟨_, _, _, _, _, h.mono hF⟩
theorem PagerAt.shrink (h : PagerAt w p F S) : PagerAt w p (fun i => F i ∧ i < w.heap.size) S :=
  let ⟨_, _, _, _, _, h⟩ := h; ⟨_, _, _, _, _, { h with fp := ⟨h.fp, h.row.lt⟩, fs := fun i q => ⟨h.fs i q, h.ls i q⟩, fc := fun i q => ⟨h.fc i q, h.lc i q⟩ }⟩
theorem PagerAt.live (h : PagerAt w p F S) : Live S := let ⟨_, _, _, _, _, h⟩ := h; h.live
theorem PagerAt.pages (h : PagerAt w p F S) : 2 < S.head.pages := let ⟨_, _, _, _, _, h⟩ := h; h.pages
theorem PagerAt.most (h : PagerAt w p F S) : S.head.pages ≤ 1024 := let ⟨_, _, _, _, _, h⟩ := h; h.store.wf.fits.most
theorem PagerAt.fp (h : PagerAt w p F S) : F p := let ⟨_, _, _, _, _, h⟩ := h; h.fp
theorem PagerAt.lt (h : PagerAt w p F S) : p < w.heap.size := let ⟨_, _, _, _, _, h⟩ := h; h.row.lt
theorem PagerAt.size (h : PagerAt w p F S) (n : Nat) : (viewS S n).size = 256 := let ⟨_, _, _, _, _, h⟩ := h; viewS_size h.store n
/-- behind the store's turn -/
theorem PagerAs.stored (h : PagerAs w p F S s c Fs Fc l) (hs : StoreAt w' s Fs S') (hb : Only Fs w w') (hg : CGood S' l) (hl : Live S') (hp : 2 < S'.head.pages) : PagerAs w' p F S' s c Fs Fc l :=
  ⟨hb.row h.row h.ps, hs, h.cache.only hb (fun i q q' => h.sep i q' q), hg, hl, hp, h.sep, h.ps, h.pc, h.fp, h.fs, h.fc, fun i q => Nat.lt_of_lt_of_le (h.ls i q) hb.size, fun i q => Nat.lt_of_lt_of_le (h.lc i q) hb.size⟩
/-- behind the cache's turn -/
theorem PagerAs.cached (h : PagerAs w p F S s c Fs Fc l) (hc : CacheAt w' c Fc' l') (hb : Keeps Fc Fc' w w') (hg : CGood S l') :
    ∃ Fd, PagerAs w' p (fun i => F i ∨ Fd i) S s c Fs Fd l' ∧ (∀ i, Fd i → F i ∨ w.heap.size ≤ i) ∧ Keeps F (fun i => F i ∨ Fd i) w w' := by
  obtain ⟨lv, q1, q2, q3⟩ := hc
  have hn : ∀ i, Fc' i → Fc i ∨ w.heap.size ≤ i := hb.new
  refine ⟨fun i => Fc' i ∧ i < w'.heap.size, ⟨hb.only.row h.row h.pc, h.store.only hb.only h.sep, ⟨lv, q1, ⟨q2, q1.row.lt⟩, fun b e => ⟨q3 b e, (q1.own.lt b e).2⟩⟩, hg, h.live, h.pages, fun i q q' => ?_, h.ps, fun q => ?_, .inl h.fp, fun i q => .inl (h.fs i q), fun i q => .inr q, fun i q => Nat.lt_of_lt_of_le (h.ls i q) hb.only.size, fun i q => q.2⟩, fun i q => ?_, ⟨hb.only.mono (fun i q => .inl (h.fc i q)), fun i q => ?_⟩⟩
  · rcases hn i q'.1 with r | r
    · exact h.sep i q r
    · have := h.ls i q; omega
  · rcases hn p q.1 with r | r
    · exact h.pc r
    · have := h.row.lt; omega
  · rcases hn i q.1 with r | r
    · exact .inl (h.fc i r)
    · exact .inr r
  · rcases q with q | q
    · exact .inl q
    · rcases hn i q.1 with r | r
      · exact .inl (h.fc i r)
      · exact .inr r
end
end Go.Proofs.YtojoefcfimmipaaGreat
namespace Go.Proofs.YtojoefcfimmipaaGreat
set_option linter.unusedSimpArgs false
set_option linter.unusedVariables false
open Go.RowKit
theorem PagerAs.at {w : World} {p : Nat} {F : Nat → Prop} {S : StoreD} {s c : Nat} {Fs Fc : Nat → Prop} {l : List (Int × ByteArray)} (h : PagerAs w p F S s c Fs Fc l) : PagerAt w p F S := ⟨s, c, Fs, Fc, l, h⟩
theorem cachePut_any {c : Nat} {F : Nat → Prop} {S : StoreD} {l : List (Int × ByteArray)} (n : Nat) (w : World) (h : CacheAt w c F l) (hg : CGood S l) (hk : idxI l n = -1) (hn : ∀ x ∈ l, x.1 ≠ n) (hp : n < S.head.pages) :
    Calls Tryz.prog 198 #[.pointer (some ⟨c, 0, none⟩), .int .i64 n, .string (viewS S n)] w fun e w' => (∃ g o, e = .returned (.tuple #[.int .i64 g, .bool o, .int .i64 0])) ∧ ∃ F' l', CacheAt w' c F' l' ∧ CGood S l' ∧ Keeps F F' w w' := by
  have hl : l.length ≤ 64 := by obtain ⟨lv, h1, _⟩ := h; exact h1.len
  by_cases h64 : l.length < 64
  · refine (put_room n (viewS S n) w h hk h64).mono ?_
    rintro e w' ⟨h1, F', h2, h3⟩
    exact ⟨h1, F', _, h2, hg.cons hn hp, h3⟩
  · refine (put_full n (viewS S n) w h hk (by omega)).mono ?_
    rintro e w' ⟨h1, F', h2, h3⟩
    exact ⟨h1, F', _, h2, (hg.erase 63).cons (fun x hx => hn x ((List.eraseIdx_sublist l 63).subset hx)) hp, h3⟩
set_option maxRecDepth 100000 in
set_option maxHeartbeats 4000000 in
theorem pread_any {p : Nat} {F : Nat → Prop} {S : StoreD} (n : Nat) (w : World) (h : PagerAt w p F S) (hn : n < S.head.pages) :
    Calls Tryz.prog 154 #[.pointer (some ⟨p, 0, none⟩), .int .i64 n] w fun e w' => e = .returned (.tuple #[.string (viewS S n), .int .i64 0]) ∧ ∃ F', PagerAt w' p F' S ∧ Keeps F F' w w' := by
  obtain ⟨s, c, Fs, Fc, l, h⟩ := h
  have c0 : w.cell? ⟨p, 0, none⟩ = some (.pointer (some ⟨s, 0, none⟩)) := h.row.cell 0
  have c1 : w.cell? ⟨p, 1, none⟩ = some (.pointer (some ⟨c, 0, none⟩)) := h.row.cell 1
  have HH := Lib.hid h
  rcases idxI_cases l n with ⟨hi, hno⟩ | ⟨i, hil, hi, hk⟩
  · have cG := get_miss n w h.cache hi
    have cR : Hid (∀ W, Ext w W → Calls Tryz.prog 142 #[.pointer (some ⟨s, 0, none⟩), .int .i64 n] W fun e w' => e = .returned (.tuple #[.string (viewS S n), .int .i64 0]) ∧ Ext W w') := fun W hW => storeRead_any n W (h.store.ext hW) h.live hn
    have cP : Hid (∀ W, Ext w W → Calls Tryz.prog 198 #[.pointer (some ⟨c, 0, none⟩), .int .i64 n, .string (viewS S n)] W fun e w' => (∃ g o, e = .returned (.tuple #[.int .i64 g, .bool o, .int .i64 0])) ∧ ∃ F' l', CacheAt w' c F' l' ∧ CGood S l' ∧ Keeps Fc F' W w') := fun W hW => cachePut_any n W (h.cache.ext hW) h.good hi hno hn
    have HK : Hid (∀ W, Ext w W → W.cell? ⟨p, 0, none⟩ = some (.pointer (some ⟨s, 0, none⟩)) ∧ W.cell? ⟨p, 1, none⟩ = some (.pointer (some ⟨c, 0, none⟩))) := fun W hW => ⟨(h.ext hW).row.cell 0, (h.ext hW).row.cell 1⟩
    generalize viewS S n = vw at cR cP ⊢
    clear h hno hi
    go_enter Tryz.func154, Tryz.ntmps154
    go_wp2_with (first
      | (go_at_call 197; refine cG.mono ?_; clear cG; rintro e w1 ⟨rfl, hb1⟩; have HB1 := Lib.hid hb1; obtain ⟨d0, d1⟩ := HK.out w1 hb1; clear hb1)
      | (go_at_call 142; refine (cR.out _ HB1.out).mono ?_; rintro e w2 ⟨rfl, hb2⟩; have HB2 := Lib.hid (Ext.trans HB1.out hb2); obtain ⟨e0, e1⟩ := HK.out w2 HB2.out; clear hb2)
      | (go_at_call 198; refine (cP.out _ HB2.out).mono ?_; rintro e w3 ⟨⟨gg, oo, rfl⟩, F3, l3, hc3, hg3, hk3⟩; have HC3 := Lib.hid hc3; have HG3 := Lib.hid hg3; have HK3 := Lib.hid hk3; clear hc3 hg3 hk3))
    go_ret2
    obtain ⟨Fd, q1, q2, q3⟩ := (HH.out.ext HB2.out).cached HC3.out HK3.out HG3.out
    exact ⟨rfl, _, q1.at, Keeps.trans (Keeps.of HB2.out) q3⟩
  · have cG := get_hit n i w h.cache hi hil
    have hv : l[i].2 = viewS S n := by
      have := (h.good.2 l[i] (List.getElem_mem hil)).2.2
      rw [hk] at this
      simpa using this
    rw [hv] at cG
    generalize viewS S n = vw at cG ⊢
    clear h hv hi hk
    go_enter Tryz.func154, Tryz.ntmps154
    go_wp2_with (go_at_call 197; refine cG.mono ?_; clear cG; rintro e w1 ⟨rfl, hc1, hb1⟩; have HC1 := Lib.hid hc1; have HB1 := Lib.hid hb1; clear hc1 hb1)
    go_ret2
    obtain ⟨Fd, q1, q2, q3⟩ := HH.out.cached HC1.out ⟨HB1.out, fun _ q => .inl q⟩ (HH.out.good.front hil)
    exact ⟨rfl, _, q1.at, q3⟩
set_option maxRecDepth 100000 in
set_option maxHeartbeats 4000000 in
theorem pwrite_any {p : Nat} {F : Nat → Prop} {S : StoreD} (n : Nat) (d : ByteArray) (w : World) (h : PagerAt w p F S) (hn : n < S.head.pages) (hd : d.size ≤ 256) :
    Calls Tryz.prog 147 #[.pointer (some ⟨p, 0, none⟩), .int .i64 n, .string d] w fun e w' => e = .returned (.int .i64 0) ∧ ∃ F', PagerAt w' p F' (putP S n d) ∧ Keeps F F' w w' := by
  obtain ⟨s, c, Fs, Fc, l, h⟩ := h
  have c0 : w.cell? ⟨p, 0, none⟩ = some (.pointer (some ⟨s, 0, none⟩)) := h.row.cell 0
  have c1 : w.cell? ⟨p, 1, none⟩ = some (.pointer (some ⟨c, 0, none⟩)) := h.row.cell 1
  have HH := Lib.hid h
  have cW : Hid (∀ W, StoreAt W s Fs S → Calls Tryz.prog 187 #[.pointer (some ⟨s, 0, none⟩), .int .i64 n, .string d] W fun e w' => e = .returned (.int .i64 0) ∧ StoreAt w' s Fs (putP S n d) ∧ Only Fs W w') := fun W hW => storeWrite_any n d W hW h.live hn hd
  rcases idxI_cases l n with ⟨hi, hno⟩ | ⟨i, hil, hi, hk⟩
  · have cD := drop_miss n w h.cache hi
    have HNO := Lib.hid hno
    clear h hno hi
    go_enter Tryz.func147, Tryz.ntmps147
    go_wp2_with (first
      | (go_at_call 186; refine cD.mono ?_; clear cD; rintro e w1 ⟨rfl, hb1⟩; have HB1 := Lib.hid hb1; have H1 := Lib.hid (HH.out.ext hb1); have d0 : w1.cell? ⟨p, 0, none⟩ = some (.pointer (some ⟨s, 0, none⟩)) := H1.out.row.cell 0; clear hb1)
      | (go_at_call 187; refine (cW.out _ H1.out.store).mono ?_; rintro e w2 ⟨rfl, hs2, hb2⟩; have HS2 := Lib.hid hs2; have HB2 := Lib.hid hb2; clear hs2 hb2))
    go_ret
    exact ⟨rfl, F, (H1.out.stored HS2.out HB2.out (H1.out.good.put HNO.out) (live_put H1.out.live n d) H1.out.pages).at, ⟨(Only.of HB1.out).trans HB2.out (fun i q => .inl (H1.out.fs i q)), fun i q => .inl q⟩⟩
  · have cD := drop_hit n i w h.cache hi hil
    have HE := Lib.hid (h.good.erased hil hk)
    have HGE := Lib.hid (h.good.erase i)
    clear h hi hk
    go_enter Tryz.func147, Tryz.ntmps147
    go_wp2_with (first
      | (go_at_call 186; refine cD.mono ?_; clear cD; rintro e w1 ⟨rfl, F1, hc1, hb1⟩; obtain ⟨Fd, q1, q2, q3⟩ := HH.out.cached hc1 hb1 HGE.out; have HB1 := Lib.hid q3; have H1 := Lib.hid q1; have d0 : w1.cell? ⟨p, 0, none⟩ = some (.pointer (some ⟨s, 0, none⟩)) := H1.out.row.cell 0; clear hb1 hc1 q1 q2 q3)
      | (go_at_call 187; refine (cW.out _ H1.out.store).mono ?_; rintro e w2 ⟨rfl, hs2, hb2⟩; have HS2 := Lib.hid hs2; have HB2 := Lib.hid hb2; clear hs2 hb2))
    go_ret
    exact ⟨rfl, _, (H1.out.stored HS2.out HB2.out (H1.out.good.put HE.out) (live_put H1.out.live n d) H1.out.pages).at, Keeps.trans HB1.out ⟨HB2.out.mono (fun i q => .inl (H1.out.fs i q)), fun i q => .inl q⟩⟩
end Go.Proofs.YtojoefcfimmipaaGreat
namespace Go.Proofs.YtojoefcfimmipaaGreat
set_option linter.unusedSimpArgs false
set_option linter.unusedVariables false
open Go.RowKit
theorem PagerAt.open {w : World} {p : Nat} {F : Nat → Prop} {S : StoreD} (h : PagerAt w p F S) : ∃ s Fs, w.cell? ⟨p, 0, none⟩ = some (.pointer (some ⟨s, 0, none⟩)) ∧ StoreAt w s Fs S := by
  obtain ⟨s, c, Fs, Fc, l, h⟩ := h
  exact ⟨s, Fs, h.row.cell 0, h.store⟩
/-- is a page given out? -/
def usedS (S : StoreD) (n : Nat) : Bool := hasL (viewS S 0).data.toList n
def rootS (S : StoreD) (i : Nat) : Nat := partN (viewS S 1) (4 * i) (4 * i + 4)
def GivenS (S : StoreD) (n : Nat) : Prop := 2 ≤ n ∧ n < S.head.pages ∧ usedS S n = true
instance (S : StoreD) (n : Nat) : Decidable (GivenS S n) := by unfold GivenS; exact inferInstance
set_option maxRecDepth 100000 in
set_option maxHeartbeats 1000000 in
theorem pmade_any {p : Nat} {F : Nat → Prop} {S : StoreD} (w : World) (h : PagerAt w p F S) : Calls Tryz.prog 144 #[.pointer (some ⟨p, 0, none⟩)] w fun e w' => e = .returned (.bool true) ∧ w = w' := by
  obtain ⟨s, Fs, c0, _⟩ := h.open
  clear h
  go_enter Tryz.func144, Tryz.ntmps144
  go_wp2_with fail
  go_ret
  exact ⟨rfl, rfl⟩
set_option maxRecDepth 100000 in
set_option maxHeartbeats 1000000 in
theorem used_any {p : Nat} {F : Nat → Prop} {S : StoreD} (w : World) (h : PagerAt w p F S) :
    Calls Tryz.prog 111 #[.pointer (some ⟨p, 0, none⟩)] w fun e w' => e = .returned (.tuple #[.string (viewS S 0), .int .i64 0]) ∧ ∃ F', PagerAt w' p F' S ∧ Keeps F F' w w' := by
  have cM := pmade_any w h
  have cR := pread_any 0 w h (by have := h.pages; omega)
  clear h
  go_enter Tryz.func111, Tryz.ntmps111
  go_wp2_with (first | (go_at_call 144; refine cM.mono ?_; clear cM; rintro e w1 ⟨rfl, rfl⟩) | (go_at_call 154; refine cR.mono ?_; clear cR; rintro e w2 ⟨rfl, F2, h2, k2⟩))
  go_ret2
  exact ⟨rfl, F2, h2, k2⟩
set_option maxRecDepth 100000 in
set_option maxHeartbeats 2000000 in
theorem check_ok {p : Nat} {F : Nat → Prop} {S : StoreD} (n : Nat) (w : World) (h : PagerAt w p F S) (hn : GivenS S n) :
    Calls Tryz.prog 160 #[.pointer (some ⟨p, 0, none⟩), .int .i64 n] w fun e w' => e = .returned (.int .i64 0) ∧ ∃ F', PagerAt w' p F' S ∧ Keeps F F' w w' := by
  have cU := used_any w h
  obtain ⟨h1, h2, h3⟩ := hn
  have hm := h.most
  have q1 : decide ((n : Int) < 2) = false := decide_eq_false (by omega)
  have q2 : decide ((S.head.pages : Int) ≤ n) = false := decide_eq_false (by omega)
  have q2' : decide (S.head.pages ≤ n) = false := decide_eq_false (by omega)
  have cH : Hid (∀ W, Calls Tryz.prog 114 #[.string (viewS S 0), .int .i64 n] W fun e w' => e = .returned (.bool true) ∧ W = w') := fun W => by
    have := has_any (viewS S 0) n W (by omega) (by rw [h.size]; omega)
    rw [show hasL (viewS S 0).data.toList n = true from h3] at this
    exact this
  obtain ⟨N, hN⟩ : ∃ N, S.head.pages = N := ⟨_, rfl⟩
  have cL : Hid (∀ W s Fs, StoreAt W s Fs S → Calls Tryz.prog 112 #[.pointer (some ⟨s, 0, none⟩)] W fun e w' => e = .returned (.int .i64 N) ∧ W = w') := fun W s Fs hs => by rw [← hN]; exact storeLen_any W hs
  rw [hN] at q2 q2'
  clear h hN h3
  go_enter Tryz.func160, Tryz.ntmps160
  go_wp2_with (first
    | (go_at_call 111; refine cU.mono ?_; clear cU; rintro e w1 ⟨rfl, F1, hp1, k1⟩; obtain ⟨s1, Fs1, d1, hs1⟩ := hp1.open; have HP := Lib.hid hp1; have HK := Lib.hid k1; have cL1 := cL.out _ _ _ hs1; clear hp1 k1 hs1)
    | (go_at_call 112; refine cL1.mono ?_; clear cL1; rintro e w2 ⟨rfl, rfl⟩)
    | (go_at_call 114; refine (cH.out _).mono ?_; rintro e w3 ⟨rfl, rfl⟩))
  go_ret
  exact ⟨rfl, F1, HP.out, HK.out⟩
set_option maxRecDepth 100000 in
set_option maxHeartbeats 1000000 in
theorem pget_any {p : Nat} {F : Nat → Prop} {S : StoreD} (n : Nat) (w : World) (h : PagerAt w p F S) (hn : GivenS S n) :
    Calls Tryz.prog 158 #[.pointer (some ⟨p, 0, none⟩), .int .i64 n] w fun e w' => e = .returned (.tuple #[.string (viewS S n), .int .i64 0]) ∧ ∃ F', PagerAt w' p F' S ∧ Keeps F F' w w' := by
  have cC := check_ok n w h hn
  have cR : Hid (∀ W F1, PagerAt W p F1 S → Calls Tryz.prog 154 #[.pointer (some ⟨p, 0, none⟩), .int .i64 n] W fun e w' => e = .returned (.tuple #[.string (viewS S n), .int .i64 0]) ∧ ∃ F', PagerAt w' p F' S ∧ Keeps F1 F' W w') := fun W F1 hW => pread_any n W hW hn.2.1
  clear h hn
  go_enter Tryz.func158, Tryz.ntmps158
  go_wp2_with (first | (go_at_call 160; refine cC.mono ?_; clear cC; rintro e w1 ⟨rfl, F1, h1, k1⟩) | (go_at_call 154; refine (cR.out _ _ h1).mono ?_; rintro e w2 ⟨rfl, F2, h2, k2⟩))
  go_ret2
  exact ⟨rfl, F2, h2, k1.trans k2⟩
set_option maxRecDepth 100000 in
set_option maxHeartbeats 1000000 in
theorem pset_any {p : Nat} {F : Nat → Prop} {S : StoreD} (n : Nat) (d : ByteArray) (w : World) (h : PagerAt w p F S) (hn : GivenS S n) (hd : d.size ≤ 256) :
    Calls Tryz.prog 163 #[.pointer (some ⟨p, 0, none⟩), .int .i64 n, .string d] w fun e w' => e = .returned (.int .i64 0) ∧ ∃ F', PagerAt w' p F' (putP S n d) ∧ Keeps F F' w w' := by
  have cC := check_ok n w h hn
  have cR : Hid (∀ W F1, PagerAt W p F1 S → Calls Tryz.prog 147 #[.pointer (some ⟨p, 0, none⟩), .int .i64 n, .string d] W fun e w' => e = .returned (.int .i64 0) ∧ ∃ F', PagerAt w' p F' (putP S n d) ∧ Keeps F1 F' W w') := fun W F1 hW => pwrite_any n d W hW hn.2.1 hd
  clear h hn
  go_enter Tryz.func163, Tryz.ntmps163
  go_wp2_with (first | (go_at_call 160; refine cC.mono ?_; clear cC; rintro e w1 ⟨rfl, F1, h1, k1⟩) | (go_at_call 147; refine (cR.out _ _ h1).mono ?_; rintro e w2 ⟨rfl, F2, h2, k2⟩))
  go_ret
  exact ⟨rfl, F2, h2, k1.trans k2⟩
set_option maxRecDepth 100000 in
set_option maxHeartbeats 2000000 in
theorem root_any {p : Nat} {F : Nat → Prop} {S : StoreD} (i : Nat) (w : World) (h : PagerAt w p F S) (hi : i < 16) :
    Calls Tryz.prog 98 #[.pointer (some ⟨p, 0, none⟩), .int .i64 i] w fun e w' => e = .returned (.tuple #[.int .i64 (rootS S i), .int .i64 0]) ∧ ∃ F', PagerAt w' p F' S ∧ Keeps F F' w w' := by
  have cM := pmade_any w h
  have cR := pread_any 1 w h (by have := h.pages; omega)
  have hsz := h.size 1
  have HR : Hid (rootS S i = partN (viewS S 1) (4 * i) (4 * i + 4)) := rfl
  generalize viewS S 1 = v at cR hsz HR
  have cU : Hid (∀ W, Calls Tryz.prog 155 #[.string (v.extract (4 * i) (4 * i + 4))] W fun e w' => e = .returned (.int .u64 (rootS S i)) ∧ W = w') := fun W => by rw [HR.out]; exact unfixed_any (v.extract (4 * i) (4 * i + 4)) (by rw [ByteArray.size_extract]; omega) W
  have hlt : rootS S i < 4294967296 := by rw [HR.out]; exact partN_lt v (4 * i) (by omega)
  generalize rootS S i = r at cU hlt ⊢
  have q1 : decide ((i : Int) < 0) = false := decide_eq_false (by omega)
  have q2 : decide ((16 : Int) ≤ i) = false := decide_eq_false (by omega)
  have hs1 : (v.size : Int) = 256 := by omega
  clear h HR
  go_enter Tryz.func98, Tryz.ntmps98
  go_wp2_with (first | (go_at_call 144; refine cM.mono ?_; clear cM; rintro e w1 ⟨rfl, rfl⟩) | (go_at_call 154; refine cR.mono ?_; clear cR; rintro e w2 ⟨rfl, F2, h2, k2⟩) | (go_at_call 155; refine (cU.out _).mono ?_; rintro e w3 ⟨rfl, rfl⟩))
  go_ret2
  exact ⟨rfl, F2, h2, k2⟩
end Go.Proofs.YtojoefcfimmipaaGreat
namespace Go.Proofs.YtojoefcfimmipaaGreat
set_option linter.unusedSimpArgs false
set_option linter.unusedVariables false
open Go.RowKit
theorem padB_full (s : ByteArray) (h : s.size = 256) : padB s = s := by
  unfold padB
  rw [h]
  have : zeroB.extract 256 256 = ByteArray.empty := by rw [ByteArray.ext_iff, ByteArray.data_extract]; simp [zeroB]
  rw [this, ByteArray.append_empty]
/-- a page given out, or taken back -/
def useP (S : StoreD) (n : Nat) (b : Bool) : StoreD := putP S 0 (bts (withL (viewS S 0).data.toList n b))
def allocP (S : StoreD) (n : Nat) : StoreD := putP (useP S n true) n ⟨#[]⟩
def FullV (S : StoreD) : Prop := ∀ n, (viewS S n).size = 256
theorem PagerAt.full {w : World} {p : Nat} {F : Nat → Prop} {S : StoreD} (h : PagerAt w p F S) : FullV S := fun n => h.size n
theorem FullV.len {S : StoreD} (h : FullV S) (n : Nat) : (viewS S n).data.toList.length = 256 := by rw [Array.length_toList]; exact h n
theorem useP_size {S : StoreD} (h : FullV S) (n : Nat) (b : Bool) : (bts (withL (viewS S 0).data.toList n b)).size = 256 := by rw [bts_size, withL_len, h.len]
theorem view_use {S : StoreD} (h : FullV S) (n : Nat) (b : Bool) (i : Nat) (hi : i ≠ 0) : viewS (useP S n b) i = viewS S i := by unfold useP; rw [view_put, if_neg hi]
theorem view_use0 {S : StoreD} (h : FullV S) (n : Nat) (b : Bool) : viewS (useP S n b) 0 = bts (withL (viewS S 0).data.toList n b) := by
  unfold useP
  rw [view_put, if_pos rfl, padB_full _ (useP_size h n b)]
theorem used_use {S : StoreD} (h : FullV S) {n : Nat} (hn : n < 2048) (b : Bool) (i : Nat) : usedS (useP S n b) i = if i = n then b else usedS S i := by
  unfold usedS
  rw [view_use0 h, bts_data, has_with _ _ _ _ (by rw [h.len]; omega)]
theorem used_put {S : StoreD} {n : Nat} (hn : n ≠ 0) (s : ByteArray) (i : Nat) : usedS (putP S n s) i = usedS S i := by unfold usedS; rw [view_put, if_neg (by omega)]
theorem root_put {S : StoreD} {n : Nat} (hn : n ≠ 1) (s : ByteArray) (i : Nat) : rootS (putP S n s) i = rootS S i := by unfold rootS; rw [view_put, if_neg (by omega)]
theorem root_use {S : StoreD} (n : Nat) (b : Bool) (i : Nat) : rootS (useP S n b) i = rootS S i := root_put (by omega) _ _
theorem head_use (S : StoreD) (n : Nat) (b : Bool) : (useP S n b).head = S.head := rfl
theorem used_alloc {S : StoreD} (h : FullV S) {n : Nat} (h0 : n ≠ 0) (hn : n < 2048) (i : Nat) : usedS (allocP S n) i = if i = n then true else usedS S i := by
  unfold allocP
  rw [used_put h0, used_use h hn]
theorem root_alloc {S : StoreD} {n : Nat} (h0 : n ≠ 1) (i : Nat) : rootS (allocP S n) i = rootS S i := by unfold allocP; rw [root_put h0, root_use]
theorem view_alloc {S : StoreD} (h : FullV S) (n i : Nat) (hi : i ≠ 0) : viewS (allocP S n) i = if i = n then zeroB else viewS S i := by
  unfold allocP
  rw [view_put]
  split
  · exact padB_empty
  · exact view_use h n true i hi
/-- the least page that isn't given out -/
def lowS (S : StoreD) : Option Nat := lowL (viewS S 0).data.toList 2 S.head.pages
theorem lowS_some {S : StoreD} {n : Nat} (h : lowS S = some n) : 2 ≤ n ∧ n < S.head.pages ∧ usedS S n = false := by
  unfold lowS lowL at h
  have h1 := List.find?_some h
  have h2 := List.mem_of_find?_eq_some h
  simp only [Bool.and_eq_true, decide_eq_true_eq, Bool.not_eq_true', List.mem_range] at h1 h2
  exact ⟨h1.1, h2, h1.2⟩
theorem lowS_none {S : StoreD} (h : lowS S = none) (n : Nat) (h1 : 2 ≤ n) (h2 : n < S.head.pages) : usedS S n = true := by
  unfold lowS lowL at h
  rw [List.find?_eq_none] at h
  have := h n (by simpa using h2)
  simp only [Bool.and_eq_true, decide_eq_true_eq, Bool.not_eq_true', not_and, Bool.not_eq_false] at this
  exact this h1
set_option maxRecDepth 100000 in
set_option maxHeartbeats 4000000 in
theorem palloc_any {p : Nat} {F : Nat → Prop} {S : StoreD} (n : Nat) (w : World) (h : PagerAt w p F S) (hn : lowS S = some n) :
    Calls Tryz.prog 107 #[.pointer (some ⟨p, 0, none⟩)] w fun e w' => e = .returned (.tuple #[.int .i64 n, .int .i64 0]) ∧ ∃ F', PagerAt w' p F' (allocP S n) ∧ Keeps F F' w w' := by
  have cU := used_any w h
  have hm := h.most
  have hlow := lowS_some hn
  obtain ⟨v, hv⟩ : ∃ v, viewS S 0 = v := ⟨_, rfl⟩
  have hsz : v.size = 256 := by rw [← hv]; exact h.size 0
  rw [hv] at cU
  obtain ⟨N, hN⟩ : ∃ N, S.head.pages = N := ⟨_, rfl⟩
  have cL : Hid (∀ W s Fs, StoreAt W s Fs S → Calls Tryz.prog 112 #[.pointer (some ⟨s, 0, none⟩)] W fun e w' => e = .returned (.int .i64 N) ∧ W = w') := fun W s Fs hs => by rw [← hN]; exact storeLen_any W hs
  have cO : Hid (∀ W, Calls Tryz.prog 162 #[.string v, .int .i64 2, .int .i64 N] W fun e w' => e = .returned (.tuple #[.int .i64 n, .bool true]) ∧ W = w') := fun W => by
    have h1 := lowest_any v 2 N W (by omega) (by omega) (by omega)
    have h2 : lowL v.data.toList 2 N = some n := by rw [← hv, ← hN]; exact hn
    rw [h2] at h1
    exact h1
  obtain ⟨v2, hv2⟩ : ∃ v2, bts (withL v.data.toList n true) = v2 := ⟨_, rfl⟩
  have cW : Hid (∀ W, Calls Tryz.prog 146 #[.string v, .int .i64 n, .bool true] W fun e w' => e = .returned (.tuple #[.string v2, .bool true]) ∧ Ext W w') := fun W => by
    have h1 := with_any v n true W (by omega) (by omega) (by omega)
    rw [hv2] at h1
    exact h1
  have hs2 : v2.size = 256 := by rw [← hv2, ← hv]; exact useP_size h.full n true
  have HS2 : Hid (useP S n true = putP S 0 v2) := by unfold Hid useP; rw [hv, hv2]
  have cP0 : Hid (∀ W F1, PagerAt W p F1 S → Calls Tryz.prog 147 #[.pointer (some ⟨p, 0, none⟩), .int .i64 0, .string v2] W fun e w' => e = .returned (.int .i64 0) ∧ ∃ F', PagerAt w' p F' (useP S n true) ∧ Keeps F1 F' W w') := fun W F1 hW => by rw [HS2.out]; exact pwrite_any 0 v2 W hW (by have := hW.pages; omega) (by omega)
  have cP1 : Hid (∀ W F1, PagerAt W p F1 (useP S n true) → Calls Tryz.prog 147 #[.pointer (some ⟨p, 0, none⟩), .int .i64 n, .string ⟨#[]⟩] W fun e w' => e = .returned (.int .i64 0) ∧ ∃ F', PagerAt w' p F' (allocP S n) ∧ Keeps F1 F' W w') := fun W F1 hW => pwrite_any n ⟨#[]⟩ W hW (by have := hlow.2.1; simpa [head_use] using this) (by simp [ByteArray.size])
  clear h hv hN hv2 hn hlow HS2
  go_enter Tryz.func107, Tryz.ntmps107
  go_wp2_with (first
    | (go_at_call 111; refine cU.mono ?_; clear cU; rintro e w1 ⟨rfl, F1, hp1, k1⟩; obtain ⟨s1, Fs1, d1, hs1⟩ := hp1.open; have HP := Lib.hid hp1; have HK := Lib.hid k1; have cL1 := cL.out _ _ _ hs1; clear hp1 k1 hs1)
    | (go_at_call 112; refine cL1.mono ?_; clear cL1; rintro e w2 ⟨rfl, rfl⟩)
    | (go_at_call 162; refine (cO.out _).mono ?_; rintro e w3 ⟨rfl, rfl⟩)
    | (go_at_call 146; refine (cW.out _).mono ?_; rintro e w4 ⟨rfl, hb4⟩; have HP4 := Lib.hid (HP.out.ext hb4); have HK4 := Lib.hid (HK.out.ext hb4); clear hb4)
    | (go_at_call 147; (with_reducible refine (cP0.out _ _ HP4.out).mono ?_); clear cP0; rintro e w5 ⟨rfl, F5, hp5, k5⟩; have HP5 := Lib.hid hp5; have HK5 := Lib.hid (HK4.out.trans k5); clear hp5 k5)
    | (go_at_call 147; (with_reducible refine (cP1.out _ _ HP5.out).mono ?_); clear cP1; rintro e w6 ⟨rfl, F6, hp6, k6⟩; have HP6 := Lib.hid hp6; have HK6 := Lib.hid (HK5.out.trans k6); clear hp6 k6))
  go_ret2
  exact ⟨rfl, F6, HP6.out, HK6.out⟩
end Go.Proofs.YtojoefcfimmipaaGreat
