/- Put into an empty tree. Conditions: a pager that has a page. -/
/- Put into a tree whose root is not cut; Get. Conditions: a path of pages that bear nodes. -/
/- Get. Conditions: a path of pages that bear nodes. -/
import Derived.Test.YtojoefcfimmipaaGreatQ22
namespace Go.Proofs.YtojoefcfimmipaaGreat
set_option linter.unusedSimpArgs false
set_option linter.unusedVariables false
open Go.RowKit
def leaf1 (k v : ByteArray) : NodeD := ⟨true, [k], [v], []⟩
theorem leaf1_as (w : World) (k v : ByteArray) : NodeAs ((w.alloc (.cells #[.string k] 9)).alloc (.cells #[.string v] 9)) (fun i => w.heap.size ≤ i) (leaf1 k v) (.slice (some ⟨w.heap.size, 0, none⟩) 1 1) (.slice (some ⟨w.heap.size + 1, 0, none⟩) 1 1) (.slice none 0 0) := by
  have h1 : Row1 ((w.alloc (.cells #[.string k] 9)).alloc (.cells #[.string v] 9)) w.heap.size 9 (([k].flatMap encS) ++ []) := Row1.alloc (Row1.made w _ [.string k]) _
  have h2 : Row1 ((w.alloc (.cells #[.string k] 9)).alloc (.cells #[.string v] 9)) (w.heap.size + 1) 9 (([v].flatMap encS) ++ []) := Row1.made' (by simp) _ [.string v]
  refine ⟨OwnL.ofRow (k := 1) h1 (Nat.zero_le _) (Nat.le_refl 1) (by decide) rfl encS_len, OwnL.ofRow (k := 1) h2 (Nat.zero_le _) (Nat.le_refl 1) (by decide) rfl encS_len, OwnL.nil _ _ _ _ _, fun b q q' => ?_, fun b q => ?_, fun b q => ?_, fun b q => ?_⟩
  · have e1 : w.heap.size = b := Option.some.inj q
    have e2 : w.heap.size + 1 = b := Option.some.inj q'
    omega
  · have e1 : w.heap.size = b := Option.some.inj q
    omega
  · have e2 : w.heap.size + 1 = b := Option.some.inj q
    omega
  · cases q
theorem str_ne {k : ByteArray} (h : 0 < k.size) : ¬ k.toList = [] := fun e => by
  have h1 : eqB k ⟨#[]⟩ = true := by unfold eqB; rw [e, ByteArray.toList_eq]; rfl
  rw [(eqB_iff _ _).1 h1] at h
  exact absurd h (by decide)
set_option maxRecDepth 100000 in
set_option maxHeartbeats 4000000 in
theorem put_none {t p i : Nat} {F : Nat → Prop} {S : StoreD} (a : Nat) (k v : ByteArray) (w : World) (ht : TreeRow w t p i) (hnt : ¬ F t) (h : PagerAt w p F S) (hi : i < 16) (hroot : rootS S i = 0) (ha : lowS S = some a) (hk0 : 0 < k.size) (hk : k.size ≤ 32) (hv : v.size ≤ 80) :
    Calls Tryz.prog 49 #[.pointer (some ⟨t, 0, none⟩), .string k, .string v] w fun e w' => e = .returned (.int .i64 0) ∧ ∃ F', PagerAt w' p F' (setRootP (layP (allocP S a) a (leaf1 k v)) i a) ∧ Keeps F F' w w' := by
  have cR := troot_any w ht hnt h hi
  rw [hroot] at cR
  have hkk : ¬ k.toList = [] := str_ne hk0
  have hke : k.toList.isEmpty = false := by cases h9 : k.toList with | nil => exact absurd h9 hkk | cons _ _ => rfl
  have hkd : decide ((32 : Int) < (k.size : Int)) = false := decide_eq_false (by omega)
  have hvd : decide ((80 : Int) < (v.size : Int)) = false := decide_eq_false (by omega)
  have hkd' : decide ((32 : Nat) < k.size) = false := decide_eq_false (by omega)
  have hvd' : decide ((80 : Nat) < v.size) = false := decide_eq_false (by omega)
  have HA := Lib.hid ha
  have HT := Lib.hid ht
  have HNT := Lib.hid hnt
  have HTL := Lib.hid ht.lt
  have HK := Lib.hid hk
  have HV := Lib.hid hv
  have HI := Lib.hid hi
  have hlo := lowS_some ha
  have hmo := h.most
  have hfu := h.full
  have hg1 : GivenS (allocP S a) a := ⟨hlo.1, hlo.2.1, by rw [used_alloc hfu (by omega) (by omega), if_pos rfl]⟩
  have hnk : NodeOk (leaf1 k v) := ⟨fun x hx => by simp [leaf1] at hx; subst hx; omega, fun x hx => by simp [leaf1] at hx; subst hx; omega, fun c hc => by simp [leaf1] at hc, by simp [leaf1], fun _ => ⟨rfl, rfl⟩, fun q => by cases q⟩
  have hsz : sizeN (leaf1 k v) ≤ 256 := by simp [sizeN, leaf1, kSize]; omega
  have HGV : Hid (GivenS (layP (allocP S a) a (leaf1 k v)) a) := ⟨hlo.1, hlo.2.1, by rw [layP, used_put (by omega)]; exact hg1.2.2⟩
  have HLAY : Hid (∀ W F2, TreeRow W t p i → ¬ F2 t → PagerAt W p F2 (allocP S a) → Calls Tryz.prog 108 #[.pointer (some ⟨t, 0, none⟩), .int .i64 a, .agg #[.bool true, .slice (some ⟨W.heap.size, 0, none⟩) 1 1, .slice (some ⟨W.heap.size + 1, 0, none⟩) 1 1, .slice none 0 0]] ((W.alloc (.cells #[.string k] 9)).alloc (.cells #[.string v] 9)) fun e w' => e = .returned (.int .i64 0) ∧ ∃ F', PagerAt w' p F' (layP (allocP S a) a (leaf1 k v)) ∧ Keeps F2 F' ((W.alloc (.cells #[.string k] 9)).alloc (.cells #[.string v] 9)) w') := fun W F2 q1 q2 q3 =>
    lay_any a (leaf1 k v) _ (Row1.alloc (Row1.alloc q1 _) _) q2 (q3.ext (Ext.trans (Ext.alloc _ _) (Ext.alloc _ _))) hg1 hnk hsz (leaf1_as W k v)
  clear ht hnt h hroot ha hk0 hk hv hi hlo hmo hfu hg1 hnk hsz
  go_enter Tryz.func49, Tryz.ntmps49
  go_upto_region 15 with (first
    | (go_at_call 100; (with_reducible refine cR.mono ?_); clear cR; rintro e w1 ⟨rfl, F1, hp1, hk1⟩
       have hr1 : TreeRow w1 t p i := hk1.only.row HT.out HNT.out
       have c0 : w1.cell? ⟨t, 0, none⟩ = some (.pointer (some ⟨p, 0, none⟩)) := hr1.cell 0
       have cA := palloc_any a w1 hp1 HA.out
       have HR1 := Lib.hid hr1; have HN1 : Hid (¬ F1 t) := hk1.out HTL.out HNT.out; have HK1 := Lib.hid hk1
       clear hp1 hk1 hr1)
    | (go_at_call 107; (with_reducible refine cA.mono ?_); clear cA; rintro e w2 ⟨rfl, F2, hp2, hk2⟩
       have hr2 : TreeRow w2 t p i := hk2.only.row HR1.out HN1.out
       have hn2 : ¬ F2 t := hk2.out HR1.out.lt HN1.out
       have HR2 := Lib.hid hr2; have HN2 := Lib.hid hn2; have HP2 := Lib.hid hp2; have HK2 : Hid (Keeps F F2 w w2) := Keeps.trans HK1.out hk2
       clear hp2 hk2 hr2 hn2)
    | (go_at_call 108; (with_reducible refine (HLAY.out w2 F2 HR2.out HN2.out HP2.out).mono ?_); clear HLAY; rintro e w3 ⟨rfl, F3, hp3, hk3⟩
       have hx : Ext w2 ((w2.alloc (.cells #[.string k] 9)).alloc (.cells #[.string v] 9)) := Ext.trans (Ext.alloc _ _) (Ext.alloc _ _)
       have hk23 : Keeps F2 F3 w2 w3 := Keeps.trans (Keeps.of hx) hk3
       have hr3 : TreeRow w3 t p i := hk23.only.row HR2.out HN2.out
       have HR3 := Lib.hid hr3; have HN3 : Hid (¬ F3 t) := hk23.out HR2.out.lt HN2.out
       have HP3 := Lib.hid hp3; have HK3 : Hid (Keeps F F3 w w3) := Keeps.trans HK2.out hk23
       clear hx hk23 hr3 hp3 hk3))
  have HC : Hid (∀ W, Ext w3 W → W.cell? ⟨t, 0, none⟩ = some (.pointer (some ⟨p, 0, none⟩)) ∧ W.cell? ⟨t, 1, none⟩ = some (.int .i64 i)) := fun W hW => ⟨(HR3.out.ext hW HR3.out.lt).cell 0, (HR3.out.ext hW HR3.out.lt).cell 1⟩
  have cT : Hid (∀ W, Ext w3 W → Calls Tryz.prog 105 #[.pointer (some ⟨p, 0, none⟩), .int .i64 i, .int .i64 a] W fun e w' => e = .returned (.int .i64 0) ∧ ∃ F', PagerAt w' p F' (setRootP (layP (allocP S a) a (leaf1 k v)) i a) ∧ Keeps F3 F' W w') := fun W hW => setRoot_any i a W (HP3.out.ext hW) HI.out (.inr HGV.out)
  refine wp_region_held_drew (S := fun W => W.cell? ⟨t, 0, none⟩ = some (.pointer (some ⟨p, 0, none⟩)) ∧ W.cell? ⟨t, 1, none⟩ = some (.int .i64 i)) (by kernel_rfl) (HC.out _ (by (repeat' (with_reducible first | exact Below.refl _ _ | refine Ext.drewN ?_ _ | refine Below.drew ?_ | refine Below.setCell ?_ ?_ _ | refine Below.alloc ?_ ?_ _)) <;> (first | omega | (simp; done) | (simp; omega)))) (fun hHeld => ?_)
  refine' tk 0 ?_; (try simp only [Act.put, List.setIfInBounds_toArray, List.set_cons_zero, List.set_cons_succ])
  refine' tk 1 ?_; (try simp only [Act.put, List.setIfInBounds_toArray, List.set_cons_zero, List.set_cons_succ])
  refine' tk 2 ?_; (try simp only [Act.put, List.setIfInBounds_toArray, List.set_cons_zero, List.set_cons_succ])
  refine' tk 3 ?_; (try simp only [Act.put, List.setIfInBounds_toArray, List.set_cons_zero, List.set_cons_succ])
  refine' tk 4 ?_; (try simp only [Act.put, List.setIfInBounds_toArray, List.set_cons_zero, List.set_cons_succ])
  refine' tk 5 ?_; (try simp only [Act.put, List.setIfInBounds_toArray, List.set_cons_zero, List.set_cons_succ])
  refine' tk 6 ?_; (try simp only [Act.put, List.setIfInBounds_toArray, List.set_cons_zero, List.set_cons_succ])
  refine' tk 7 ?_; (try simp only [Act.put, List.setIfInBounds_toArray, List.set_cons_zero, List.set_cons_succ])
  refine' tk 8 ?_; (try simp only [Act.put, List.setIfInBounds_toArray, List.set_cons_zero, List.set_cons_succ])
  refine stp 9 (fun K hK => ?_); go_simp
  (with_reducible refine (cT.out _ ?_).mono ?_)
  · (repeat' (with_reducible first | exact Below.refl _ _ | refine Ext.drewN ?_ _ | refine Below.drew ?_ | refine Below.setCell ?_ ?_ _ | refine Below.alloc ?_ ?_ _)) <;> (first | omega | (simp; done) | (simp; omega))
  rintro e w4 ⟨rfl, F4, hp4, hk4⟩
  have hk34 : Keeps F3 F4 w3 w4 := Keeps.trans (Keeps.of (by (repeat' (with_reducible first | exact Below.refl _ _ | refine Ext.drewN ?_ _ | refine Below.drew ?_ | refine Below.setCell ?_ ?_ _ | refine Below.alloc ?_ ?_ _)) <;> (first | omega | (simp; done) | (simp; omega)))) hk4
  have hr4 : TreeRow w4 t p i := hk34.only.row HR3.out HN3.out
  have HC9 : Hid (w4.cell? ⟨t, 0, none⟩ = some (.pointer (some ⟨p, 0, none⟩)) ∧ w4.cell? ⟨t, 1, none⟩ = some (.int .i64 i)) := ⟨hr4.cell 0, hr4.cell 1⟩
  have HP4 := Lib.hid hp4
  have HK4 : Hid (Keeps F F4 w w4) := Keeps.trans HK3.out hk34
  clear hp4 hk4 hk34 hr4
  (try dsimp only)
  (try go_simp)
  refine hK.out _ _ (HC9.out) (fun hHeld => ?_)
  clear hK K
  (try simp only [Act.put, List.setIfInBounds_toArray, List.set_cons_zero, List.set_cons_succ])
  refine' tk 10 ?_; (try simp only [Act.put, List.setIfInBounds_toArray, List.set_cons_zero, List.set_cons_succ])
  refine wpAnyH_done (by kernel_rfl) ?_ _
  go_wp2_with fail
  go_ret
  exact ⟨rfl, F4, HP4.out, HK4.out⟩
end Go.Proofs.YtojoefcfimmipaaGreat
namespace Go.Proofs.YtojoefcfimmipaaGreat
set_option linter.unusedSimpArgs false
set_option linter.unusedVariables false
open Go.RowKit
/-- the path to the leaf where a key lies -/
def PathS (S : StoreD) (k : ByteArray) : Nat → Nat → NodeD → Prop
  | 0, a, n => PageN S a n ∧ n.leaf = true ∧ RiseB n.keys
  | d + 1, a, n => ∃ m, PageN S a m ∧ m.leaf = false ∧ RiseB m.keys ∧ PathS S k d (m.kids[downN m.keys k]?.getD 0).toNat n
end Go.Proofs.YtojoefcfimmipaaGreat
namespace Go.Proofs.YtojoefcfimmipaaGreat
set_option linter.unusedSimpArgs false
set_option linter.unusedVariables false
open Go.RowKit
def getN (n : NodeD) (k : ByteArray) : Value := if hasB n.keys k = true then .tuple #[.string (n.vals[posB n.keys k]?.getD ⟨#[]⟩), .int .i64 0] else .tuple #[.string ⟨#[]⟩, .int .i64 6]
theorem own_at {w : World} {v : Value} {base : Nat} {l : List Int} (h : OwnL w base 3 1 encN v l) (j : Nat) (hl : j < l.length) : ∃ g c, v = .slice (some ⟨g, 0, none⟩) l.length c ∧ g < w.heap.size ∧ w.cell? ⟨g, j, none⟩ = some (.int .i64 (l[j]?.getD 0)) := by
  obtain ⟨A, c, rfl, _, _, hx⟩ := ownN_open h
  obtain ⟨b, rfl, _, hb, _, hc⟩ := hx (by omega)
  have := hc j hl
  exact ⟨b, c, rfl, hb, by rw [List.getElem?_eq_getElem hl]; exact this⟩
theorem own_atS {w : World} {v : Value} {base : Nat} {l : List ByteArray} (h : OwnL w base 9 1 encS v l) (j : Nat) (hl : j < l.length) : ∃ g c, v = .slice (some ⟨g, 0, none⟩) l.length c ∧ g < w.heap.size ∧ w.cell? ⟨g, j, none⟩ = some (.string (l[j]?.getD ⟨#[]⟩)) := by
  obtain ⟨A, c, rfl, _, _, hx⟩ := ownS_open h
  obtain ⟨b, rfl, _, hb, _, hc⟩ := hx (by omega)
  have := hc j hl
  exact ⟨b, c, rfl, hb, by rw [List.getElem?_eq_getElem hl]; exact this⟩
theorem posB_has {l : List ByteArray} {k : ByteArray} (hri : RiseB l) (hh : hasB l k = true) : ∃ h : posB l k < l.length, l[posB l k] = k := by
  obtain ⟨j, hj, hje⟩ := List.mem_iff_getElem.1 ((hasB_iff _ _).1 hh)
  have e : posB l k = j := posB_at (l := l) (k := k) (p := j) (by omega) (fun q hq hlt => by rw [← hje]; exact riseB_lt hri hj hlt) (fun q hq hle => by
    rw [← hje]
    rcases Nat.eq_or_lt_of_le hle with e | e
    · subst e; exact ltB_irrefl _
    · exact ltB_asymm (riseB_lt hri hq e))
  subst e
  exact ⟨hj, hje⟩
theorem downN_le {l : List ByteArray} {k : ByteArray} (hri : RiseB l) : downN l k ≤ l.length := by
  unfold downN
  split
  · rename_i h
    have := (posB_has hri h).1
    omega
  · exact posB_le l k
set_option maxRecDepth 100000 in
set_option maxHeartbeats 2000000 in
theorem get_none {t p i : Nat} {F : Nat → Prop} {S : StoreD} (k : ByteArray) (w : World) (ht : TreeRow w t p i) (hnt : ¬ F t) (h : PagerAt w p F S) (hi : i < 16) (hroot : rootS S i = 0) :
    Calls Tryz.prog 70 #[.pointer (some ⟨t, 0, none⟩), .string k] w fun e w' => e = .returned (.tuple #[.string ⟨#[]⟩, .int .i64 6]) ∧ ∃ F', PagerAt w' p F' S ∧ Keeps F F' w w' := by
  have cR := troot_any w ht hnt h hi
  rw [hroot] at cR
  clear ht hnt h hroot
  go_enter Tryz.func70, Tryz.ntmps70
  go_wp2_with (go_at_call 100; (with_reducible refine cR.mono ?_); clear cR; rintro e w1 ⟨rfl, F1, hp1, hk1⟩; have HP1 := Lib.hid hp1; have HK1 := Lib.hid hk1; clear hp1 hk1)
  go_ret2
  exact ⟨rfl, F1, HP1.out, HK1.out⟩
set_option maxRecDepth 100000 in
set_option maxHeartbeats 4000000 in
theorem get_any {t p i : Nat} {F : Nat → Prop} {S : StoreD} (a d : Nat) (k : ByteArray) (n : NodeD) (w : World) (ht : TreeRow w t p i) (hnt : ¬ F t) (h : PagerAt w p F S) (hi : i < 16) (hroot : rootS S i = a) (ha : 0 < a) (hpath : PathS S k d a n) (hd : d < 1024) :
    Calls Tryz.prog 70 #[.pointer (some ⟨t, 0, none⟩), .string k] w fun e w' => e = .returned (getN n k) ∧ ∃ F', PagerAt w' p F' S ∧ Keeps F F' w w' := by
  have cR := troot_any w ht hnt h hi
  rw [hroot] at cR
  have ha0 : decide ((a : Int) = 0) = false := decide_eq_false (by omega)
  have ha1 : ((a : Int) == 0) = false := by simp; omega
  have HPA := Lib.hid hpath
  have HT := Lib.hid ht
  have HNT := Lib.hid hnt
  have HTL := Lib.hid ht.lt
  have HGN : Hid (getN n k = if hasB n.keys k = true then .tuple #[.string (n.vals[posB n.keys k]?.getD ⟨#[]⟩), .int .i64 0] else .tuple #[.string ⟨#[]⟩, .int .i64 6]) := rfl
  clear ht hnt h hroot hpath hi
  go_enter Tryz.func70, Tryz.ntmps70
  go_wp2_with (go_at_call 100; (with_reducible refine cR.mono ?_); clear cR; rintro e w1 ⟨rfl, F1, hp1, hk1⟩; have HP1 := Lib.hid hp1; have HK1 := Lib.hid hk1; clear hp1 hk1)
  go_loopw [6, 26] (fun x z wr => ∃ (c j b : Nat), c + j = d ∧ x = .int .i64 b ∧ z = .int .i64 c ∧ Hid (PathS S k j b n) ∧ ∃ Fr, Hid (PagerAt wr p Fr S) ∧ Hid (Keeps F Fr w wr)) (fun _ z _ => d - (intOf z).toNat)
  case atStart => exact ⟨0, d, a, by omega, rfl, rfl, HPA, F1, HP1, HK1⟩
  case round =>
    obtain ⟨c, j, b, hc, rfl, rfl, hsp, Fr, hpr, hkr⟩ := hrel
    have q1 : decide ((c : Int) < 1024) = true := decide_eq_true (by omega)
    have hnr : ¬ Fr t := hkr.out.out HTL.out HNT.out
    have htr : TreeRow wr t p i := hkr.out.only.row HT.out HNT.out
    cases j with
    | zero =>
      obtain ⟨hn, hl, hri⟩ := hsp.out
      have cL := load2_any b n wr htr hpr.out hn
      have HLE : Hid (n.keys.length ≤ 255) := hn.ok.many
      have HVL : Hid (n.vals.length = n.keys.length) := (hn.ok.leafs hl).1
      have HPL := Lib.hid (posB_le n.keys k)
      have HRI := Lib.hid hri
      have HKR := hkr
      rw [hl] at cL
      have HPH : Hid (hasB n.keys k = true → posB n.keys k < n.keys.length) := fun hh => (posB_has hri hh).1
      clear hn hl hnr htr hpr hkr hsp hri
      obtain ⟨bh, hbh⟩ : ∃ bh, hasB n.keys k = bh := ⟨_, rfl⟩
      obtain ⟨pos, hpo⟩ : ∃ pos, posB n.keys k = pos := ⟨_, rfl⟩
      have HBH := Lib.hid hbh
      have HPO := Lib.hid hpo
      cases bh
      · go_wp2_with (first
          | (go_at_call 104; (with_reducible refine cL.mono ?_); clear cL; rintro e w2 ⟨kA, kn, kc, vA, vn, vc, cA, cn, cc, B, F2, rfl, hn1, hp1, hk1, hB, hF1, hBW⟩
             have cS := search_any k (w2.alloc (.cells #[.bool true, .slice kA kn kc, .slice vA vn vc, .slice cA cn cc] 186)) (hn1.keys.alloc _) HRI.out (by have := HLE.out; omega)
             rw [HBH.out, HPO.out] at cS
             have HP2 : Hid (PagerAt (w2.alloc (.cells #[.bool true, .slice kA kn kc, .slice vA vn vc, .slice cA cn cc] 186)) p F2 S) := hp1.ext (Ext.alloc _ _)
             have HK2 : Hid (Keeps F F2 w (w2.alloc (.cells #[.bool true, .slice kA kn kc, .slice vA vn vc, .slice cA cn cc] 186))) := Keeps.ext (Keeps.trans HKR.out hk1) (Ext.alloc _ _)
             clear hn1 hp1 hk1 hB hF1 hBW)
          | (go_at_call 127; (with_reducible refine cS.mono ?_); clear cS; rintro e w3 ⟨rfl, rfl⟩))
        go_ret2
        refine ⟨?_, F2, HP2.out, HK2.out⟩
        rw [HGN.out, if_neg (by rw [HBH.out]; decide)]
        rfl
      · have hpk : pos < n.vals.length := by rw [HVL.out, ← HPO.out]; exact HPH.out HBH.out
        have HPK := Lib.hid hpk
        clear hpk
        go_wp2_with (first
          | (go_at_call 104; (with_reducible refine cL.mono ?_); clear cL; rintro e w2 ⟨kA, kn, kc, vA, vn, vc, cA, cn, cc, B, F2, rfl, hn1, hp1, hk1, hB, hF1, hBW⟩
             obtain ⟨g, c9, hcv, hg, hgc⟩ := own_atS hn1.vals pos HPK.out
             injection hcv with e1 e2 e3
             subst e1
             have q3 : (pos : Int) < vn := by have := HPK.out; omega
             have q4 : pos < vn := by have := HPK.out; omega
             obtain ⟨x, hx⟩ : ∃ x, n.vals[pos]?.getD ⟨#[]⟩ = x := ⟨_, rfl⟩
             rw [hx] at hgc
             have HX := Lib.hid hx
             have d0 : (w2.alloc (.cells #[.bool true, .slice kA kn kc, .slice (some ⟨g, 0, none⟩) vn vc, .slice cA cn cc] 186)).cell? ⟨g, pos, none⟩ = some (.string x) := ((Ext.alloc w2 _).cell (p := ⟨g, pos, none⟩) hg).trans hgc
             have cS := search_any k (w2.alloc (.cells #[.bool true, .slice kA kn kc, .slice (some ⟨g, 0, none⟩) vn vc, .slice cA cn cc] 186)) (hn1.keys.alloc _) HRI.out (by have := HLE.out; omega)
             rw [HBH.out, HPO.out] at cS
             have HP2 : Hid (PagerAt (w2.alloc (.cells #[.bool true, .slice kA kn kc, .slice (some ⟨g, 0, none⟩) vn vc, .slice cA cn cc] 186)) p F2 S) := hp1.ext (Ext.alloc _ _)
             have HK2 : Hid (Keeps F F2 w (w2.alloc (.cells #[.bool true, .slice kA kn kc, .slice (some ⟨g, 0, none⟩) vn vc, .slice cA cn cc] 186))) := Keeps.ext (Keeps.trans HKR.out hk1) (Ext.alloc _ _)
             clear hn1 hp1 hk1 hB hF1 hBW hx hgc e2 e3)
          | (go_at_call 127; (with_reducible refine cS.mono ?_); clear cS; rintro e w3 ⟨rfl, rfl⟩))
        go_ret2
        refine ⟨?_, F2, HP2.out, HK2.out⟩
        rw [HGN.out, if_pos HBH.out, HPO.out, HX.out]
        rfl
    | succ j =>
      obtain ⟨m, hm, hl, hri, hsn⟩ := hsp.out
      have cL := load2_any b m wr htr hpr.out hm
      have hkl := (hm.ok.inner hl).2
      have hdn : downN m.keys k < m.kids.length := by have := downN_le (k := k) hri; omega
      have hc0 : (0 : Int) ≤ m.kids[downN m.keys k]?.getD 0 := by rw [List.getElem?_eq_getElem hdn]; exact (hm.ok.kids _ (List.getElem_mem _)).1
      have HLE : Hid (m.keys.length ≤ 255) := hm.ok.many
      have HRI := Lib.hid hri
      have HKR := hkr
      have HSN := Lib.hid hsn
      have HDN := Lib.hid hdn
      have HLF := Lib.hid hl
      have HC : Hid ((((m.kids[downN m.keys k]?.getD 0).toNat : Nat) : Int) = m.kids[downN m.keys k]?.getD 0) := Int.toNat_of_nonneg hc0
      rw [hl] at cL
      clear hm hl hnr htr hpr hkr hsp hsn hkl hri hdn hc0
      obtain ⟨q, hq⟩ : ∃ q, downN m.keys k = q := ⟨_, rfl⟩
      have HQ := Lib.hid hq
      rw [hq] at HSN HDN HC
      obtain ⟨x, hx⟩ : ∃ x, (m.kids[q]?.getD 0).toNat = x := ⟨_, rfl⟩
      rw [hx] at HSN HC
      clear hq hx
      go_upto_region 12 with (first
        | (go_at_call 104; (with_reducible refine cL.mono ?_); clear cL; rintro e w2 ⟨kA, kn, kc, vA, vn, vc, cA, cn, cc, B, F2, rfl, hn1, hp1, hk1, hB, hF1, hBW⟩
           have HN1 := Lib.hid hn1; have HP1 := Lib.hid hp1; have HK1 := Lib.hid hk1; have HBW := Lib.hid hBW
           clear hn1 hp1 hk1 hB hF1 hBW))
      obtain ⟨g, c9, hcv, hg, hgc⟩ := own_at HN1.out.kids q HDN.out
      injection hcv with e1 e2 e3
      subst e1
      rw [← HC.out] at hgc
      have q4 : q < cn := by have := HDN.out; omega
      have q5 : (q : Int) < cn := by omega
      have HGC := Lib.hid hgc
      have HG := Lib.hid hg
      clear hgc hg e2 e3
      generalize hw3 : w2.alloc _ = w3
      have hx3 : Ext w2 w3 := hw3 ▸ Ext.alloc _ _
      have hr3 : Row1 w3 w2.heap.size 186 [.bool false, .slice kA kn kc, .slice vA vn vc, .slice (some ⟨g, 0, none⟩) cn cc] := hw3 ▸ Row1.made _ _ _
      have HX3 := Lib.hid hx3
      have cD : Hid (∀ W, Ext w3 W → Calls Tryz.prog 126 #[.agg #[.bool false, .slice kA kn kc, .slice vA vn vc, .slice (some ⟨g, 0, none⟩) cn cc], .string k] W fun e w' => e = .returned (.int .i64 q) ∧ Ext W w') := fun W hW => by
        have h9 := down_any k W (HN1.out.ext (Ext.trans HX3.out hW)) HRI.out (by have := HLE.out; omega)
        rw [HLF.out, HQ.out] at h9
        exact h9
      have HKS : Hid (∀ W, Ext w3 W → W.cell? ⟨w2.heap.size, 0, none⟩ = some (.bool false) ∧ W.cell? ⟨w2.heap.size, 1, none⟩ = some (.slice kA kn kc) ∧ W.cell? ⟨w2.heap.size, 2, none⟩ = some (.slice vA vn vc) ∧ W.cell? ⟨w2.heap.size, 3, none⟩ = some (.slice (some ⟨g, 0, none⟩) cn cc) ∧ W.cell? ⟨g, q, none⟩ = some (.int .i64 x)) := fun W hW => by
        have h9 := hr3.ext hW hr3.lt
        exact ⟨h9.cell 0, h9.cell 1, h9.cell 2, h9.cell 3, ((Ext.trans HX3.out hW).cell (p := ⟨g, q, none⟩) HG.out).trans HGC.out⟩
      clear hx3 hr3 hw3
      refine wp_region_held_drew (S := fun W => W.cell? ⟨w2.heap.size, 0, none⟩ = some (.bool false) ∧ W.cell? ⟨w2.heap.size, 1, none⟩ = some (.slice kA kn kc) ∧ W.cell? ⟨w2.heap.size, 2, none⟩ = some (.slice vA vn vc) ∧ W.cell? ⟨w2.heap.size, 3, none⟩ = some (.slice (some ⟨g, 0, none⟩) cn cc) ∧ W.cell? ⟨g, q, none⟩ = some (.int .i64 x)) (by kernel_rfl) (HKS.out _ (by (repeat' (with_reducible first | exact Below.refl _ _ | refine Ext.drewN ?_ _ | refine Below.drew ?_ | refine Below.setCell ?_ ?_ _ | refine Below.alloc ?_ ?_ _)) <;> (first | omega | (simp; done) | (simp; omega)))) (fun hHeld => ?_)
      refine' tk 0 ?_; (try simp only [Act.put, List.setIfInBounds_toArray, List.set_cons_zero, List.set_cons_succ])
      refine' tk 1 ?_; (try simp only [Act.put, List.setIfInBounds_toArray, List.set_cons_zero, List.set_cons_succ])
      refine' tk 2 ?_; (try simp only [Act.put, List.setIfInBounds_toArray, List.set_cons_zero, List.set_cons_succ])
      refine' tk 3 ?_; (try simp only [Act.put, List.setIfInBounds_toArray, List.set_cons_zero, List.set_cons_succ])
      refine stp 4 (fun K hK => ?_); go_simp
      (with_reducible refine (cD.out _ ?_).mono ?_)
      · (repeat' (with_reducible first | exact Below.refl _ _ | refine Ext.drewN ?_ _ | refine Below.drew ?_ | refine Below.setCell ?_ ?_ _ | refine Below.alloc ?_ ?_ _)) <;> (first | omega | (simp; done) | (simp; omega))
      rintro e w4 ⟨rfl, hb4⟩
      have HB4 : Hid (Ext w3 w4) := Ext.trans (by (repeat' (with_reducible first | exact Below.refl _ _ | refine Ext.drewN ?_ _ | refine Below.drew ?_ | refine Below.setCell ?_ ?_ _ | refine Below.alloc ?_ ?_ _)) <;> (first | omega | (simp; done) | (simp; omega))) hb4
      clear hb4
      (try dsimp only)
      (try go_simp)
      refine hK.out _ _ (HKS.out _ HB4.out) (fun hHeld => ?_)
      clear hK K
      (try simp only [Act.put, List.setIfInBounds_toArray, List.set_cons_zero, List.set_cons_succ])
      refine' tk 5 ?_; (try simp only [Act.put, List.setIfInBounds_toArray, List.set_cons_zero, List.set_cons_succ])
      refine' tk 6 ?_; (try simp only [Act.put, List.setIfInBounds_toArray, List.set_cons_zero, List.set_cons_succ])
      refine' tk 7 ?_; (try simp only [Act.put, List.setIfInBounds_toArray, List.set_cons_zero, List.set_cons_succ])
      refine wpAnyH_done (by kernel_rfl) ?_ _
      go_wp2_with fail
      go_roundw
      case rel => exact ⟨c + 1, j, x, by omega, by go_num, by go_num, HSN, F2, HP1.out.ext (Ext.trans HX3.out HB4.out), (Keeps.trans HKR.out HK1.out).ext (Ext.trans HX3.out HB4.out)⟩
      case measure => simp [intOf]; omega
end Go.Proofs.YtojoefcfimmipaaGreat
