/- From, All: what is handed back; a tree that is asked whether it is empty. Conditions: a tree of one leaf, or none. -/
/- Delete in a tree of one leaf that keeps a record. Conditions: a page that bears a leaf that has it. -/
/- Trees as data; lists under keys; how a store's pages turn. No conditions. -/
/- How a store's pages turn; trees as data. No conditions. -/
/- A node that is too great is cut: plain. No conditions. -/
import Derived.RangeFuncBound
import Derived.RangeFuncLeaves
import Derived.Shelf.Abstract
import Derived.Shelf.RegionOpen
import Derived.OwnWalkIn
import Derived.TacticsInMore
import Derived.LoopNIn
import Derived.LoopIn
import Derived.Test.YtojoefcfimmipaaGreatQ25
import Derived.Test.YtojoefcfimmipaaGreatQ13
namespace Go.Proofs.YtojoefcfimmipaaGreat
set_option linter.unusedSimpArgs false
set_option linter.unusedVariables false
open Go.RowKit Go.Shelf
attribute [local go_sem] Oper.semAt_some
def FromR (t : Nat) (key : ByteArray) (w : World) (e : Ending) (w' : World) : Prop :=
  ∃ tb kb, e = .returned (.func (.func 121) #[] #[.pointer (some ⟨tb, 0, none⟩), .pointer (some ⟨kb, 0, none⟩)]) ∧ Ext w w' ∧ w.heap.size ≤ tb ∧ w.heap.size ≤ kb ∧ Row1 w' tb 36 [.pointer (some ⟨t, 0, none⟩)] ∧ Row1 w' kb 9 [.string key]
set_option maxRecDepth 100000 in
set_option maxHeartbeats 2000000 in
theorem from_any (t : Nat) (key : ByteArray) (w : World) : Calls Tryz.prog 59 #[.pointer (some ⟨t, 0, none⟩), .string key] w (FromR t key w) := by
  have HR : Hid (FromR t key w (.returned (.func (.func 121) #[] #[.pointer (some ⟨w.heap.size, 0, none⟩), .pointer (some ⟨w.heap.size + 1, 0, none⟩)])) ((w.alloc (.cells #[.pointer (some ⟨t, 0, none⟩)] 36)).alloc (.cells #[.string key] 9))) :=
    ⟨w.heap.size, w.heap.size + 1, rfl, Ext.trans (Ext.alloc _ _) (Ext.alloc _ _), Nat.le_refl _, by omega, Row1.alloc (Row1.made w _ [.pointer (some ⟨t, 0, none⟩)]) _, Row1.made' (by simp) _ [.string key]⟩
  go_enter Tryz.func59, Tryz.ntmps59
  go_wp2_with fail
  go_ret
  exact HR.out
end Go.Proofs.YtojoefcfimmipaaGreat
namespace Go.Proofs.YtojoefcfimmipaaGreat
set_option linter.unusedSimpArgs false
set_option linter.unusedVariables false
open Go.RowKit
theorem pageN_lay {S : StoreD} {a : Nat} {n : NodeD} (hg : GivenS S a) (hn : NodeOk n) (hs : sizeN n ≤ 256) : PageN (layP S a n) a n :=
  ⟨⟨hg.1, hg.2.1, by rw [layP, used_put (by have := hg.1; omega)]; exact hg.2.2⟩, hn, by rw [nodeL_len n hn]; exact hs, by rw [layP, view_put, if_pos rfl]⟩
end Go.Proofs.YtojoefcfimmipaaGreat
namespace Go.Proofs.YtojoefcfimmipaaGreat
set_option linter.unusedSimpArgs false
set_option linter.unusedVariables false
open Go.RowKit
/-! texts in their order -/
theorem lt_of_lt_le {a b c : ByteArray} (h : ltB a b = true) (k : ltB c b = false) : ltB a c = true := by
  cases e : ltB b c with
  | true => exact ltB_trans h e
  | false => rw [← ltB_tri e k]; exact h
theorem lt_of_le_lt {a b c : ByteArray} (h : ltB b a = false) (k : ltB b c = true) : ltB a c = true := by
  cases e : ltB a b with
  | true => exact ltB_trans e k
  | false => rw [ltB_tri e h]; exact k
theorem le_of_lt {a b : ByteArray} (h : ltB a b = true) : ltB b a = false := ltB_asymm h
theorem eqB_false {a b : ByteArray} (h : a ≠ b) : eqB a b = false := by
  cases e : eqB a b with
  | false => rfl
  | true => exact absurd ((eqB_iff a b).1 e) h
theorem ne_of_lt {a b : ByteArray} (h : ltB a b = true) : a ≠ b := fun e => by subst e; rw [ltB_irrefl] at h; cases h
/-! lists of records under rising keys -/
abbrev RiseK (l : List KV) : Prop := l.Pairwise (fun a b => ltB a.1 b.1 = true)
def insKV (l : List KV) (k v : ByteArray) : List KV := l.filter (fun x => ltB x.1 k) ++ (k, v) :: l.filter (fun x => ltB k x.1)
def fromKV (l : List KV) (k : ByteArray) : List KV := l.filter (fun x => !ltB x.1 k)
def getKV (l : List KV) (k : ByteArray) : Option ByteArray := (l.find? (fun x => eqB x.1 k)).map (·.2)
theorem filter_all {α : Type} {p : α → Bool} {l : List α} (h : ∀ x ∈ l, p x = true) : l.filter p = l := List.filter_eq_self.2 h
theorem filter_no {α : Type} {p : α → Bool} {l : List α} (h : ∀ x ∈ l, p x = false) : l.filter p = [] := List.filter_eq_nil_iff.2 (fun x hx e => by rw [h x hx] at e; cases e)
theorem insKV_mid {A B C : List KV} {k v : ByteArray} (hA : ∀ x ∈ A, ltB x.1 k = true) (hC : ∀ x ∈ C, ltB k x.1 = true) : insKV (A ++ B ++ C) k v = A ++ insKV B k v ++ C := by
  unfold insKV
  rw [List.filter_append, List.filter_append, List.filter_append, List.filter_append, filter_all hA, filter_no (l := C) (fun x hx => le_of_lt (hC x hx)), filter_no (l := A) (fun x hx => le_of_lt (hA x hx)), filter_all hC]
  simp
theorem getKV_mid {A B C : List KV} {k : ByteArray} (hA : ∀ x ∈ A, ltB x.1 k = true) (hC : ∀ x ∈ C, ltB k x.1 = true) : getKV (A ++ B ++ C) k = getKV B k := by
  unfold getKV
  rw [List.find?_append, List.find?_append, List.find?_eq_none.2 (fun x hx => by rw [eqB_false (ne_of_lt (hA x hx))]; decide : ∀ x ∈ A, ¬ eqB x.1 k = true), List.find?_eq_none.2 (fun x hx => by rw [eqB_false (ne_of_lt (hC x hx)).symm]; decide : ∀ x ∈ C, ¬ eqB x.1 k = true)]
  simp
/-- what lies below is what lies ahead -/
theorem filter_lt {l : List KV} (h : RiseK l) (k : ByteArray) : l.filter (fun x => ltB x.1 k) = l.take (l.countP (fun x => ltB x.1 k)) := by
  induction l with
  | nil => rfl
  | cons a r ih =>
    obtain ⟨h1, h2⟩ := List.pairwise_cons.1 h
    cases e : ltB a.1 k with
    | true => rw [List.filter_cons, List.countP_cons, if_pos e, if_pos e, List.take_succ_cons, ih h2]
    | false =>
      have hn : ∀ x ∈ r, ltB x.1 k = false := fun x hx => by
        cases q : ltB x.1 k with
        | false => rfl
        | true => rw [ltB_trans (h1 x hx) q] at e; cases e
      rw [filter_no (fun x hx => ?_), List.countP_eq_zero.2 (fun x hx => ?_)]
      · rfl
      · rcases List.mem_cons.1 hx with rfl | hx
        · rw [e]; decide
        · rw [hn x hx]; decide
      · rcases List.mem_cons.1 hx with rfl | hx
        · exact e
        · exact hn x hx
theorem filter_ge {l : List KV} (h : RiseK l) (k : ByteArray) : l.filter (fun x => !ltB x.1 k) = l.drop (l.countP (fun x => ltB x.1 k)) := by
  induction l with
  | nil => rfl
  | cons a r ih =>
    obtain ⟨h1, h2⟩ := List.pairwise_cons.1 h
    cases e : ltB a.1 k with
    | true => rw [List.filter_cons, List.countP_cons, if_pos e, if_neg (by rw [e]; decide), List.drop_succ_cons, ih h2]
    | false =>
      have hn : ∀ x ∈ r, ltB x.1 k = false := fun x hx => by
        cases q : ltB x.1 k with
        | false => rfl
        | true => rw [ltB_trans (h1 x hx) q] at e; cases e
      rw [filter_all (fun x hx => ?_), List.countP_eq_zero.2 (fun x hx => ?_)]
      · rfl
      · rcases List.mem_cons.1 hx with rfl | hx
        · rw [e]; decide
        · rw [hn x hx]; decide
      · rcases List.mem_cons.1 hx with rfl | hx
        · rw [e]; rfl
        · rw [hn x hx]; rfl
theorem countP_zip {ks vs : List ByteArray} (hl : vs.length = ks.length) (k : ByteArray) : (ks.zip vs).countP (fun x => ltB x.1 k) = posB ks k := by
  unfold posB
  conv => rhs; rw [← List.map_fst_zip (l₁ := ks) (l₂ := vs) (by omega)]
  rw [List.countP_map]
  rfl
theorem rise_zip {ks vs : List ByteArray} (hl : vs.length = ks.length) (h : RiseB ks) : RiseK (ks.zip vs) := by
  have h1 : ((ks.zip vs).map (·.1)).Pairwise (fun a b => ltB a b = true) := by rw [List.map_fst_zip (by omega)]; exact h
  exact (List.pairwise_map.1 h1)
theorem zip_lt {ks vs : List ByteArray} (hl : vs.length = ks.length) (h : RiseB ks) (k : ByteArray) : (ks.zip vs).filter (fun x => ltB x.1 k) = (ks.zip vs).take (posB ks k) := by
  rw [filter_lt (rise_zip hl h), countP_zip hl]
theorem zip_ge {ks vs : List ByteArray} (hl : vs.length = ks.length) (h : RiseB ks) (k : ByteArray) : (ks.zip vs).filter (fun x => !ltB x.1 k) = (ks.zip vs).drop (posB ks k) := by
  rw [filter_ge (rise_zip hl h), countP_zip hl]
/-- what lies above -/
theorem zip_gt {ks vs : List ByteArray} (hl : vs.length = ks.length) (h : RiseB ks) (k : ByteArray) : (ks.zip vs).filter (fun x => ltB k x.1) = (ks.zip vs).drop (posB ks k + if hasB ks k = true then 1 else 0) := by
  have hs : (ks.zip vs).filter (fun x => ltB k x.1) = ((ks.zip vs).filter (fun x => !ltB x.1 k)).filter (fun x => ltB k x.1) := by
    rw [List.filter_filter]
    congr 1
    funext x
    cases e : ltB k x.1 with
    | false => rfl
    | true => rw [le_of_lt e]; rfl
  rw [hs, zip_ge hl h, ← List.drop_drop]
  have hr := rise_zip hl h
  have hp := posB_le ks k
  cases hh : hasB ks k with
  | true =>
    obtain ⟨hlt, he⟩ := posB_has h hh
    have hz : posB ks k < (ks.zip vs).length := by rw [List.length_zip]; omega
    rw [List.drop_eq_getElem_cons hz, List.filter_cons, if_neg (by rw [List.getElem_zip, he, ltB_irrefl]; decide), if_pos rfl]
    rw [show ∀ (a : KV) l, (a :: l).drop 1 = l from fun _ _ => rfl]
    refine filter_all (fun x hx => ?_)
    obtain ⟨j, hj, rfl⟩ := List.mem_iff_getElem.1 hx
    rw [List.getElem_drop]
    have h9 := List.pairwise_iff_getElem.1 hr (posB ks k) (posB ks k + 1 + j) hz (by rw [List.length_drop] at hj; omega) (by omega)
    rw [List.getElem_zip (i := posB ks k)] at h9
    simp only [he] at h9
    exact h9
  | false =>
    rw [if_neg (by decide), List.drop_zero, filter_all]
    intro x hx
    rw [← zip_ge hl h] at hx
    obtain ⟨h1, h2⟩ := List.mem_filter.1 hx
    have h3 : ltB x.1 k = false := by simpa using h2
    cases e : ltB k x.1 with
    | true => rfl
    | false =>
      have h4 : k ∈ ks := by rw [← ltB_tri h3 e]; exact (List.of_mem_zip h1).1
      rw [(hasB_iff ks k).2 h4] at hh
      cases hh
theorem take_zipB (ks vs : List ByteArray) (i : Nat) : (ks.zip vs).take i = (ks.take i).zip (vs.take i) := by unfold List.zip; exact List.take_zipWith
theorem drop_zipB (ks vs : List ByteArray) (i : Nat) : (ks.zip vs).drop i = (ks.drop i).zip (vs.drop i) := by unfold List.zip; exact List.drop_zipWith
/-- a record comes into a leaf -/
theorem insKV_zip {ks vs : List ByteArray} (hl : vs.length = ks.length) (h : RiseB ks) (k v : ByteArray) : (putN ⟨true, ks, vs, []⟩ k v).keys.zip (putN ⟨true, ks, vs, []⟩ k v).vals = insKV (ks.zip vs) k v := by
  unfold insKV
  rw [zip_lt hl h, zip_gt hl h]
  have hp := posB_le ks k
  cases hh : hasB ks k with
  | true =>
    obtain ⟨hlt, he⟩ := posB_has h hh
    unfold putN
    rw [if_pos hh, if_pos rfl]
    show ks.zip (vs.set (posB ks k) v) = _
    apply List.ext_getElem
    · simp only [List.length_zip, List.length_append, List.length_take, List.length_cons, List.length_drop, List.length_set]; omega
    · intro i h1 h2
      simp only [List.getElem_zip, List.getElem_set, List.getElem_append, List.getElem_cons, List.getElem_take, List.getElem_drop, List.length_take, List.length_zip]
      rw [List.length_zip, List.length_set] at h1
      by_cases e1 : i < posB ks k
      · rw [dif_pos (by omega), if_neg (by omega)]
      · rw [dif_neg (by omega)]
        by_cases e2 : i = posB ks k
        · subst e2
          rw [if_pos rfl, dif_pos (by omega), he]
        · rw [if_neg (by omega), dif_neg (by omega)]
          congr 1 <;> (congr 1; omega)
  | false =>
    unfold putN
    rw [if_neg (by rw [hh]; decide), if_neg (by decide)]
    show (insL ks (posB ks k) k).zip (insL vs (posB ks k) v) = _
    unfold insL
    rw [List.zip_append (by rw [List.length_take, List.length_take]; omega), List.zip_cons_cons, take_zipB, drop_zipB, Nat.add_zero]
end Go.Proofs.YtojoefcfimmipaaGreat
namespace Go.Proofs.YtojoefcfimmipaaGreat
set_option linter.unusedSimpArgs false
set_option linter.unusedVariables false
open Go.RowKit
/-! a step of a store: pages of 'P' are written, 'F' are given out, 'G' are taken back -/
structure Stp (P : Nat → Prop) (F G : List Nat) (S S' : StoreD) : Prop where
  same : S' = { S with dirty := S'.dirty }
  full : FullV S'
  root : ∀ i, rootS S' i = rootS S i
  view : ∀ b, 2 ≤ b → ¬ P b → b ∉ F → viewS S' b = viewS S b
  used : ∀ b, usedS S' b = true ↔ (usedS S b = true ∨ b ∈ F) ∧ b ∉ G
  dirt : ∀ b : Nat, 2 ≤ b → S'.dirty (b : Int) ≠ none → S.dirty (b : Int) ≠ none ∨ P b ∨ b ∈ F
section
variable {P P' Q : Nat → Prop} {F F' G G' : List Nat} {S S' S'' : StoreD}
theorem Stp.head (h : Stp P F G S S') : S'.head = S.head := by rw [h.same]
theorem Stp.refl (h : FullV S) : Stp P [] [] S S := ⟨rfl, h, fun _ => rfl, fun _ _ _ _ => rfl, fun b => by simp, fun b _ h => .inl h⟩
theorem Stp.mono (h : Stp P F G S S') (hP : ∀ b, P b → P' b) : Stp P' F G S S' := ⟨h.same, h.full, h.root, fun b h1 h2 h3 => h.view b h1 (fun q => h2 (hP b q)) h3, h.used, fun b h1 h2 => (h.dirt b h1 h2).imp_right (Or.imp_left (hP b))⟩
/-- two steps; what the second one gives out was not taken back by the first one -/
theorem Stp.trans (h : Stp P F G S S') (k : Stp P' F' G' S' S'') (hG : ∀ b, b ∈ F' → b ∉ G) (hP : ∀ b, P' b → P b ∨ b ∈ F ∨ Q b) : Stp (fun b => P b ∨ Q b) (F ++ F') (G ++ G') S S'' := by
  refine ⟨by rw [k.same, h.same], k.full, fun i => (k.root i).trans (h.root i), fun b h1 h2 h3 => ?_, fun b => ?_, fun b h1 h2 => ?_⟩
  · rw [List.mem_append, not_or] at h3
    refine (k.view b h1 (fun q => ?_) h3.2).trans (h.view b h1 (fun q => h2 (.inl q)) h3.1)
    rcases hP b q with q | q | q
    · exact h2 (.inl q)
    · exact h3.1 q
    · exact h2 (.inr q)
  · rw [k.used, h.used, List.mem_append, List.mem_append]
    have := hG b
    constructor
    · rintro ⟨⟨q1, q2⟩ | q1, q3⟩
      · exact ⟨q1.imp_right Or.inl, fun q => q.elim q2 q3⟩
      · exact ⟨.inr (.inr q1), fun q => q.elim (this q1) q3⟩
    · rintro ⟨q1, q2⟩
      rw [not_or] at q2
      rcases q1 with q1 | q1 | q1
      · exact ⟨.inl ⟨.inl q1, q2.1⟩, q2.2⟩
      · exact ⟨.inl ⟨.inr q1, q2.1⟩, q2.2⟩
      · exact ⟨.inr q1, q2.2⟩
  · rw [List.mem_append]
    rcases k.dirt b h1 h2 with q | q | q
    · rcases h.dirt b h1 q with r | r | r
      · exact .inl r
      · exact .inr (.inl (.inl r))
      · exact .inr (.inr (.inl r))
    · rcases hP b q with q | q | q
      · exact .inr (.inl (.inl q))
      · exact .inr (.inr (.inl q))
      · exact .inr (.inl (.inr q))
    · exact .inr (.inr (.inr q))
theorem Stp.given (h : Stp P F G S S') {b : Nat} (hb : GivenS S b) (hG : b ∉ G) : GivenS S' b := ⟨hb.1, by rw [h.head]; exact hb.2.1, (h.used b).2 ⟨.inl hb.2.2, hG⟩⟩
theorem Stp.givenF (h : Stp P F G S S') {b : Nat} (h2 : 2 ≤ b) (hp : b < S.head.pages) (hF : b ∈ F) (hG : b ∉ G) : GivenS S' b := ⟨h2, by rw [h.head]; exact hp, (h.used b).2 ⟨.inr hF, hG⟩⟩
theorem PageN.stp {a : Nat} {n : NodeD} (hp : PageN S a n) (h : Stp P F G S S') (h1 : ¬ P a) (h2 : a ∉ F) (h3 : a ∉ G) : PageN S' a n :=
  ⟨h.given hp.given h3, hp.ok, hp.fits, by rw [h.view a hp.given.1 h1 h2]; exact hp.view⟩
end
theorem full_put {S : StoreD} (h : FullV S) (n : Nat) {s : ByteArray} (hs : s.size ≤ 256) : FullV (putP S n s) := fun i => by
  rw [view_put]
  split
  · exact padB_size s hs
  · exact h i
theorem stp_lay {S : StoreD} {a : Nat} {n : NodeD} (h : FullV S) (ha : 2 ≤ a) (hn : NodeOk n) (hs : sizeN n ≤ 256) : Stp (fun b => b = a) [] [] S (layP S a n) := by
  have hz : (bts (nodeL n)).size ≤ 256 := by rw [bts_size, nodeL_len n hn]; exact hs
  refine ⟨rfl, full_put h a hz, fun i => root_put (by omega) _ _, fun b h1 h2 _ => ?_, fun b => ?_, fun b h1 h2 => ?_⟩
  · unfold layP; rw [view_put, if_neg h2]
  · unfold layP; rw [used_put (by omega)]; simp
  · by_cases e : b = a
    · exact .inr (.inl e)
    · left
      intro q
      apply h2
      show updI S.dirty a _ b = none
      unfold updI
      rw [if_neg (by omega)]
      exact q
theorem stp_use {S : StoreD} (h : FullV S) {n : Nat} (hn : n < 2048) (b : Bool) : (useP S n b) = { S with dirty := (useP S n b).dirty } ∧ FullV (useP S n b) ∧ ∀ i, 1 ≤ i → (useP S n b).dirty i = S.dirty i := by
  refine ⟨rfl, full_put h 0 (by rw [useP_size h]; decide), fun i hi => ?_⟩
  show updI S.dirty 0 _ i = _
  unfold updI
  rw [if_neg (by omega)]
theorem stp_alloc {S : StoreD} (h : FullV S) {n : Nat} (h0 : 2 ≤ n) (hn : n < 2048) : Stp (fun _ => False) [n] [] S (allocP S n) := by
  obtain ⟨h1, h2, h3⟩ := stp_use h hn true
  refine ⟨rfl, full_put h2 n (by decide), fun i => root_alloc (by omega) i, fun b q1 _ q3 => ?_, fun b => ?_, fun b q1 q2 => ?_⟩
  · rw [view_alloc h n b (by omega), if_neg (fun e => q3 (by simp [e]))]
  · rw [used_alloc h (by omega) hn]
    by_cases e : b = n
    · simp [e]
    · simp [e]
  · by_cases e : b = n
    · exact .inr (.inr (by simp [e]))
    · left
      rw [← h3 b (by omega)]
      intro q
      apply q2
      show updI (useP S n true).dirty n _ b = none
      unfold updI
      rw [if_neg (by omega)]
      exact q
/-- how many pages are left -/
theorem taken_used {F : List Nat} {S S' : StoreD} (hu : ∀ b, usedS S' b = true ↔ (usedS S b = true ∨ b ∈ F) ∧ b ∉ ([] : List Nat)) (n : Nat) (hF : F.Nodup) (hf : ∀ b ∈ F, usedS S b = false ∧ b < n) : takenS S' n = takenS S n + F.length := by
  unfold takenS
  rw [← List.length_append]
  apply List.Perm.length_eq
  rw [List.perm_ext_iff_of_nodup]
  · intro b
    rw [List.mem_filter, List.mem_append, List.mem_filter, hu, List.mem_range]
    constructor
    · rintro ⟨h1, h2 | h2, _⟩
      · exact .inl ⟨h1, h2⟩
      · exact .inr h2
    · rintro (⟨h1, h2⟩ | h2)
      · exact ⟨h1, .inl h2, by simp⟩
      · exact ⟨(hf b h2).2, .inr h2, by simp⟩
  · exact List.nodup_range.filter _
  · rw [List.nodup_append]
    refine ⟨List.nodup_range.filter _, hF, fun a ha b hb e => ?_⟩
    subst e
    rw [List.mem_filter] at ha
    rw [(hf a hb).1] at ha
    exact absurd ha.2 (by decide)
theorem room_used {F : List Nat} {S S' : StoreD} (hu : ∀ b, usedS S' b = true ↔ (usedS S b = true ∨ b ∈ F) ∧ b ∉ ([] : List Nat)) (hh : S'.head = S.head) (hF : F.Nodup) (hf : ∀ b ∈ F, usedS S b = false ∧ b < S.head.pages) : roomS S' + F.length = roomS S := by
  have h1 := taken_used hu S.head.pages hF hf
  have h2 := takenS_le S' S.head.pages
  unfold roomS
  rw [hh, h1]
  rw [h1] at h2
  omega
theorem room_put {P : Nat → Prop} {F : List Nat} {S S' : StoreD} (h : Stp P F [] S S') (hF : F.Nodup) (hf : ∀ b ∈ F, usedS S b = false ∧ b < S.head.pages) : roomS S' + F.length = roomS S := room_used h.used h.head hF hf
/-- pages 0 and 1 are never given out -/
structure Fm (S : StoreD) : Prop where
  full : FullV S
  u0 : usedS S 0 = true
  u1 : usedS S 1 = true
  most : S.head.pages ≤ 1024
theorem Fm.stp {P : Nat → Prop} {F G : List Nat} {S S' : StoreD} (h : Fm S) (k : Stp P F G S S') (hG : ∀ b ∈ G, 2 ≤ b) : Fm S' :=
  ⟨k.full, (k.used 0).2 ⟨.inl h.u0, fun q => by have := hG _ q; omega⟩, (k.used 1).2 ⟨.inl h.u1, fun q => by have := hG _ q; omega⟩, by rw [k.head]; exact h.most⟩
theorem low_room {S : StoreD} (h : Fm S) (hr : 0 < roomS S) : ∃ a, lowS S = some a := by
  cases e : lowS S with
  | some a => exact ⟨a, rfl⟩
  | none =>
    have h1 : ∀ b, b < S.head.pages → usedS S b = true := fun b hb => by
      by_cases e0 : b = 0
      · subst e0; exact h.u0
      · by_cases e1 : b = 1
        · subst e1; exact h.u1
        · exact lowS_none e b (by omega) hb
    have h2 : takenS S S.head.pages = S.head.pages := by
      unfold takenS
      rw [List.filter_eq_self.2 (fun b hb => h1 b (List.mem_range.1 hb)), List.length_range]
    unfold roomS at hr
    omega
/-! trees -/
structure LeafT where
  at_ : Nat
  keys : List ByteArray
  vals : List ByteArray
structure InT (α : Type) where
  at_ : Nat
  keys : List ByteArray
  kids : List α
def TT : Nat → Type
  | 0 => LeafT
  | d + 1 => InT (TT d)
def atT : (d : Nat) → TT d → Nat
  | 0, t => LeafT.at_ t
  | _ + 1, t => InT.at_ t
def nodeT : (d : Nat) → TT d → NodeD
  | 0, t => ⟨true, LeafT.keys t, LeafT.vals t, []⟩
  | d + 1, t => ⟨false, InT.keys t, [], (InT.kids t).map fun c => (atT d c : Int)⟩
def onT (S : StoreD) : (d : Nat) → TT d → Prop
  | 0, t => PageN S (LeafT.at_ t) (nodeT 0 t)
  | d + 1, t => PageN S (InT.at_ t) (nodeT (d + 1) t) ∧ ∀ c ∈ InT.kids t, onT S d c
def pagesT : (d : Nat) → TT d → List Nat
  | 0, t => [LeafT.at_ t]
  | d + 1, t => InT.at_ t :: (InT.kids t).flatMap (pagesT d)
def listT : (d : Nat) → TT d → List KV
  | 0, t => (LeafT.keys t).zip (LeafT.vals t)
  | d + 1, t => (InT.kids t).flatMap (listT d)
/-- all keys, those between too -/
def allT : (d : Nat) → TT d → List ByteArray
  | 0, t => LeafT.keys t
  | d + 1, t => InT.keys t ++ (InT.kids t).flatMap (allT d)
/-- the keys between -/
def sepT : (d : Nat) → TT d → List ByteArray
  | 0, _ => []
  | d + 1, t => InT.keys t ++ (InT.kids t).flatMap (sepT d)
def KeyOk (k : ByteArray) : Prop := 0 < k.size ∧ k.size ≤ 32
/-- kids lie between the keys -/
def SepT {α : Type} (f : α → List ByteArray) (ks : List ByteArray) (ts : List α) : Prop :=
  ∀ j (hj : j < ts.length), ∀ x ∈ f ts[j], (∀ i (hi : i < ks.length), i < j → ltB x ks[i] = false) ∧ (∀ i (hi : i < ks.length), j ≤ i → ltB x ks[i] = true)
/-- those between, further down, are above -/
def StrT {α : Type} (f : α → List ByteArray) (ks : List ByteArray) (ts : List α) : Prop :=
  ∀ (j : Nat) (c : α), ts[j]? = some c → ∀ x ∈ f c, ∀ (i : Nat) (s : ByteArray), ks[i]? = some s → i < j → ltB s x = true
def okT : (d : Nat) → TT d → Prop
  | 0, t => RiseB (LeafT.keys t) ∧ (LeafT.vals t).length = (LeafT.keys t).length ∧ (∀ k ∈ LeafT.keys t, KeyOk k) ∧ ∀ v ∈ LeafT.vals t, v.size ≤ 80
  | d + 1, t => RiseB (InT.keys t) ∧ (InT.kids t).length = (InT.keys t).length + 1 ∧ (∀ k ∈ InT.keys t, KeyOk k) ∧ (∀ c ∈ InT.kids t, okT d c) ∧ SepT (allT d) (InT.keys t) (InT.kids t) ∧ StrT (sepT d) (InT.keys t) (InT.kids t)
theorem pagesT_at : ∀ (d : Nat) (t : TT d), atT d t ∈ pagesT d t
  | 0, _ => by simp [atT, pagesT]
  | _ + 1, _ => by simp [atT, pagesT]
theorem onT_page {S : StoreD} : ∀ (d : Nat) (t : TT d), onT S d t → PageN S (atT d t) (nodeT d t)
  | 0, _, h => h
  | _ + 1, _, h => h.1
theorem onT_given {S : StoreD} : ∀ (d : Nat) (t : TT d), onT S d t → ∀ b ∈ pagesT d t, GivenS S b
  | 0, t, h, b, hb => by
    simp only [pagesT, List.mem_singleton] at hb
    subst hb
    exact PageN.given h
  | d + 1, t, h, b, hb => by
    simp only [pagesT, List.mem_cons, List.mem_flatMap] at hb
    rcases hb with rfl | ⟨c, hc, hb⟩
    · exact PageN.given h.1
    · exact onT_given d c (h.2 c hc) b hb
theorem onT_stp {P : Nat → Prop} {F G : List Nat} {S S' : StoreD} (h : Stp P F G S S') : ∀ (d : Nat) (t : TT d), onT S d t → (∀ b ∈ pagesT d t, ¬ P b ∧ b ∉ F ∧ b ∉ G) → onT S' d t
  | 0, t, ho, hb => by
    have := hb (LeafT.at_ t) (by simp [pagesT])
    exact PageN.stp ho h this.1 this.2.1 this.2.2
  | d + 1, t, ho, hb => by
    have := hb (InT.at_ t) (by simp [pagesT])
    refine ⟨PageN.stp ho.1 h this.1 this.2.1 this.2.2, fun c hc => onT_stp h d c (ho.2 c hc) (fun b q => hb b ?_)⟩
    simp only [pagesT, List.mem_cons, List.mem_flatMap]
    exact .inr ⟨c, hc, q⟩
theorem allT_key : ∀ (d : Nat) (t : TT d), okT d t → ∀ k ∈ allT d t, KeyOk k
  | 0, _, h, k, hk => h.2.2.1 k hk
  | d + 1, t, h, k, hk => by
    simp only [allT, List.mem_append, List.mem_flatMap] at hk
    rcases hk with hk | ⟨c, hc, hk⟩
    · exact h.2.2.1 k hk
    · exact allT_key d c (h.2.2.2.1 c hc) k hk
theorem listT_all : ∀ (d : Nat) (t : TT d), ∀ x ∈ listT d t, x.1 ∈ allT d t
  | 0, t, x, hx => (List.of_mem_zip (show (x.1, x.2) ∈ (LeafT.keys t).zip (LeafT.vals t) from hx)).1
  | d + 1, t, x, hx => by
    simp only [listT, List.mem_flatMap] at hx
    obtain ⟨c, hc, hx⟩ := hx
    simp only [allT, List.mem_append, List.mem_flatMap]
    exact .inr ⟨c, hc, listT_all d c x hx⟩
theorem listT_val : ∀ (d : Nat) (t : TT d), okT d t → ∀ x ∈ listT d t, x.2.size ≤ 80
  | 0, t, h, x, hx => h.2.2.2 _ (List.of_mem_zip (show (x.1, x.2) ∈ (LeafT.keys t).zip (LeafT.vals t) from hx)).2
  | d + 1, t, h, x, hx => by
    simp only [listT, List.mem_flatMap] at hx
    obtain ⟨c, hc, hx⟩ := hx
    exact listT_val d c (h.2.2.2.1 c hc) x hx
/-- what lies in a kid further on is above -/
theorem sep_lt {α : Type} {f : α → List ByteArray} {ks : List ByteArray} {ts : List α} (h : SepT f ks ts) (hl : ts.length = ks.length + 1) {i j : Nat} (hj : j < ts.length) (hij : i < j) {x y : ByteArray} (hx : x ∈ f (ts[i]'(by omega))) (hy : y ∈ f ts[j]) : ltB x y = true :=
  lt_of_lt_le ((h i (by omega) x hx).2 i (by omega) (Nat.le_refl _)) ((h j hj y hy).1 i (by omega) hij)
theorem listT_rise : ∀ (d : Nat) (t : TT d), okT d t → RiseK (listT d t)
  | 0, t, h => rise_zip h.2.1 h.1
  | d + 1, t, h => by
    unfold RiseK
    simp only [listT]
    rw [List.pairwise_flatMap]
    refine ⟨fun c hc => listT_rise d c (h.2.2.2.1 c hc), List.pairwise_iff_getElem.2 (fun i j hi hj hij x hx y hy => ?_)⟩
    exact sep_lt h.2.2.2.2.1 h.2.1 hj hij (listT_all d _ x hx) (listT_all d _ y hy)
/-- the kid in which a key lies -/
theorem downN_lo {ks : List ByteArray} (h : RiseB ks) (k : ByteArray) {i : Nat} (hi : i < ks.length) (hlt : i < downN ks k) : ltB k ks[i] = false := by
  unfold downN at hlt
  cases hh : hasB ks k with
  | true =>
    rw [hh, if_pos rfl] at hlt
    obtain ⟨hp, he⟩ := posB_has h hh
    rcases Nat.lt_or_ge i (posB ks k) with q | q
    · rw [← he]; exact le_of_lt (riseB_lt h hp q)
    · obtain rfl : i = posB ks k := by omega
      rw [he]; exact ltB_irrefl k
  | false =>
    rw [hh, if_neg (by decide)] at hlt
    have h1 := zip_lt (vs := ks) rfl h k
    have h2 : (ks.zip ks)[i]'(by rw [List.length_zip]; omega) ∈ (ks.zip ks).take (posB ks k) := List.mem_take_iff_getElem.2 ⟨i, by rw [List.length_zip]; omega, rfl⟩
    rw [← h1, List.mem_filter, List.getElem_zip] at h2
    exact le_of_lt h2.2
theorem downN_hi {ks : List ByteArray} (h : RiseB ks) (k : ByteArray) {i : Nat} (hi : i < ks.length) (hge : downN ks k ≤ i) : ltB k ks[i] = true := by
  unfold downN at hge
  have h1 := zip_gt (vs := ks) rfl h k
  have h2 : (ks.zip ks)[i]'(by rw [List.length_zip]; omega) ∈ (ks.zip ks).drop (posB ks k + if hasB ks k = true then 1 else 0) := by
    rw [List.mem_drop_iff_getElem]
    exact ⟨i - (posB ks k + if hasB ks k = true then 1 else 0), by rw [List.length_zip]; omega, by congr 1; omega⟩
  rw [← h1, List.mem_filter, List.getElem_zip] at h2
  exact h2.2
/-- the list of a node around a kid -/
theorem flat_cut {α β : Type} (f : α → List β) (ts : List α) {j : Nat} (hj : j < ts.length) : ts.flatMap f = (ts.take j).flatMap f ++ f ts[j] ++ (ts.drop (j + 1)).flatMap f := by
  conv => lhs; rw [← List.take_append_drop j ts, List.drop_eq_getElem_cons hj]
  rw [List.flatMap_append, List.flatMap_cons, List.append_assoc]
theorem flat_set' {α β : Type} (f : α → List β) (ts : List α) {j : Nat} (hj : j < ts.length) (c : α) : (ts.set j c).flatMap f = (ts.take j).flatMap f ++ f c ++ (ts.drop (j + 1)).flatMap f := by
  rw [List.set_eq_take_append_cons_drop, if_pos hj, List.flatMap_append, List.flatMap_cons, List.append_assoc]
theorem around {d : Nat} {t : TT (d + 1)} (h : okT (d + 1) t) (k : ByteArray) : (∀ x ∈ ((InT.kids t).take (downN (InT.keys t) k)).flatMap (listT d), ltB x.1 k = true) ∧ (∀ x ∈ ((InT.kids t).drop (downN (InT.keys t) k + 1)).flatMap (listT d), ltB k x.1 = true) := by
  obtain ⟨h1, h2, _, _, h5, _⟩ := h
  have hd := downN_le (k := k) h1
  constructor
  · intro x hx
    obtain ⟨c, hc, hx⟩ := List.mem_flatMap.1 hx
    obtain ⟨i, hi, rfl⟩ := List.mem_take_iff_getElem.1 hc
    have hi' : i < downN (InT.keys t) k := by omega
    have hik : i < (InT.keys t).length := by omega
    exact lt_of_lt_le ((h5 i (by omega) _ (listT_all d _ x hx)).2 i hik (Nat.le_refl _)) (downN_lo h1 k hik hi')
  · intro x hx
    obtain ⟨c, hc, hx⟩ := List.mem_flatMap.1 hx
    obtain ⟨i, hi, rfl⟩ := List.mem_drop_iff_getElem.1 hc
    have hx := (show x ∈ listT d ((InT.kids t)[downN (InT.keys t) k + 1 + i]'(by omega)) by simpa [Nat.add_comm, Nat.add_left_comm] using hx)
    have hik : downN (InT.keys t) k + i < (InT.keys t).length := by omega
    have e1 := (h5 (downN (InT.keys t) k + 1 + i) (by omega) _ (listT_all d _ x hx)).1 (downN (InT.keys t) k + i) hik (by omega)
    exact lt_of_lt_le (downN_hi h1 k hik (by omega)) e1
end Go.Proofs.YtojoefcfimmipaaGreat
namespace Go.Proofs.YtojoefcfimmipaaGreat
set_option linter.unusedSimpArgs false
set_option linter.unusedVariables false
open Go.RowKit
theorem len_kSize (l : List ByteArray) : l.length ≤ kSize l := by
  induction l with
  | nil => simp
  | cons a r ih => simp only [kSize, List.map_cons, List.sum_cons, List.length_cons] at *; omega
theorem kSize_app (l r : List ByteArray) : kSize (l ++ r) = kSize l + kSize r := by unfold kSize; rw [List.map_append, List.sum_append]
theorem kSize_cut (l : List ByteArray) (m : Nat) : kSize (l.take m) + kSize (l.drop m) = kSize l := by rw [← kSize_app, List.take_append_drop]
theorem kSize_most {l : List ByteArray} {q : Nat} (h : ∀ k ∈ l, k.size ≤ q) : kSize l ≤ (1 + q) * l.length := by
  induction l with
  | nil => simp [kSize]
  | cons a r ih =>
    have h1 := ih (fun k hk => h k (by simp [hk]))
    have h2 := h a (by simp)
    have h3 : (1 + q) * (r.length + 1) = (1 + q) * r.length + (1 + q) := Nat.mul_succ _ _
    simp only [kSize, List.map_cons, List.sum_cons, List.length_cons] at *
    omega
theorem kSize_next {l : List ByteArray} {m : Nat} (h : m < l.length) : kSize (l.take (m + 1)) = kSize (l.take m) + (1 + l[m].size) := by
  rw [List.take_add_one, List.getElem?_eq_getElem h, kSize_app]
  simp [kSize]
theorem kSize_one {l : List ByteArray} {m : Nat} (h : m < l.length) : kSize (l.drop m) = (1 + l[m].size) + kSize (l.drop (m + 1)) := by
  rw [List.drop_eq_getElem_cons h]
  simp only [kSize, List.map_cons, List.sum_cons]
/-- the two halves of a node, cut at a place -/
def fst2 (n : NodeD) (m : Nat) : NodeD := if n.leaf = true then ⟨true, n.keys.take m, n.vals.take m, []⟩ else ⟨false, n.keys.take m, [], n.kids.take (m + 1)⟩
def snd2 (n : NodeD) (m : Nat) : NodeD := if n.leaf = true then ⟨true, n.keys.drop m, n.vals.drop m, []⟩ else ⟨false, n.keys.drop (m + 1), [], n.kids.drop (m + 1)⟩
def edgeN (n : NodeD) : Nat := if n.leaf = true then 1 else 2
/-- where half cuts -/
structure HalfAt (n : NodeD) (m : Nat) : Prop where
  one : 1 ≤ m
  lt : m + edgeN n ≤ n.keys.length
  lo : ∀ j, 1 ≤ j → j < m → sizeN (fst2 n j) ≤ 128
  hi : m + edgeN n < n.keys.length → 128 < sizeN (fst2 n m)
/-- a node that took one more than fits -/
structure NodeFit (n : NodeD) : Prop where
  ok : NodeOk n
  keys : ∀ k ∈ n.keys, k.size ≤ 32
  vals : ∀ v ∈ n.vals, v.size ≤ 80
  most : sizeN n ≤ if n.leaf = true then 370 else 291
theorem fst2_leaf {n : NodeD} (h : n.leaf = true) (m : Nat) : fst2 n m = ⟨true, n.keys.take m, n.vals.take m, []⟩ := if_pos h
theorem fst2_inner {n : NodeD} (h : n.leaf = false) (m : Nat) : fst2 n m = ⟨false, n.keys.take m, [], n.kids.take (m + 1)⟩ := if_neg (by rw [h]; decide)
theorem snd2_leaf {n : NodeD} (h : n.leaf = true) (m : Nat) : snd2 n m = ⟨true, n.keys.drop m, n.vals.drop m, []⟩ := if_pos h
theorem snd2_inner {n : NodeD} (h : n.leaf = false) (m : Nat) : snd2 n m = ⟨false, n.keys.drop (m + 1), [], n.kids.drop (m + 1)⟩ := if_neg (by rw [h]; decide)
theorem fst2_next {n : NodeD} (hn : NodeFit n) {m : Nat} (hm : m < n.keys.length) : sizeN (fst2 n (m + 1)) ≤ sizeN (fst2 n m) + 114 ∧ (n.leaf = false → sizeN (fst2 n (m + 1)) ≤ sizeN (fst2 n m) + 35) ∧ sizeN (fst2 n m) ≤ sizeN (fst2 n (m + 1)) := by
  have hk := hn.keys _ (List.getElem_mem hm)
  cases hl : n.leaf with
  | true =>
    have hv := (hn.ok.leafs hl).1
    have hv1 := hn.vals _ (List.getElem_mem (show m < n.vals.length by omega))
    rw [fst2_leaf hl, fst2_leaf hl]
    have h1 := kSize_next hm
    have h2 := kSize_next (show m < n.vals.length by omega)
    unfold sizeN
    simp only [List.length_nil]
    refine ⟨?_, (fun q => by cases q), ?_⟩ <;> omega
  | false =>
    have hv := (hn.ok.inner hl).2
    rw [fst2_inner hl, fst2_inner hl]
    have h1 := kSize_next hm
    have h3 : (n.kids.take (m + 1)).length = m + 1 := by rw [List.length_take]; omega
    have h4 : (n.kids.take (m + 1 + 1)).length = m + 2 := by rw [List.length_take]; omega
    have h5 : kSize [] = 0 := rfl
    unfold sizeN
    simp only [h3, h4, h1, h5]
    refine ⟨?_, fun _ => ?_, ?_⟩ <;> omega
theorem fst2_zero {n : NodeD} (hn : NodeFit n) : sizeN (fst2 n 0) ≤ 4 := by
  cases hl : n.leaf with
  | true => rw [fst2_leaf hl]; show 2 + 2 * 0 + kSize (n.keys.take 0) + kSize (n.vals.take 0) ≤ 4; simp [kSize]
  | false =>
    rw [fst2_inner hl]
    have h3 : (n.kids.take (0 + 1)).length ≤ 1 := by rw [List.length_take]; omega
    unfold sizeN
    simp only [List.take_zero]
    have h5 : kSize [] = 0 := rfl
    omega
theorem half_sizes {n : NodeD} (hn : NodeFit n) {m : Nat} (h : HalfAt n m) : sizeN (fst2 n m) ≤ 256 ∧ sizeN (snd2 n m) ≤ 256 := by
  have h1 := h.one
  have hlt := h.lt
  have he : 1 ≤ edgeN n := by unfold edgeN; split <;> omega
  have hf : sizeN (fst2 n m) ≤ 242 := by
    have hs := fst2_next hn (m := m - 1) (by omega)
    rw [show m - 1 + 1 = m by omega] at hs
    by_cases e : m = 1
    · subst e
      have := fst2_zero hn
      simp only [Nat.sub_self] at hs
      omega
    · have := h.lo (m - 1) (by omega) (by omega)
      omega
  refine ⟨by omega, ?_⟩
  have hmost := hn.most
  cases hl : n.leaf with
  | true =>
    rw [if_pos hl] at hmost
    have hv := (hn.ok.leafs hl).1
    have he1 : edgeN n = 1 := if_pos hl
    have hc := (hn.ok.leafs hl).2
    have s1 : sizeN (fst2 n m) = 2 + kSize (n.keys.take m) + kSize (n.vals.take m) := by rw [fst2_leaf hl]; rfl
    have s2 : sizeN (snd2 n m) = 2 + kSize (n.keys.drop m) + kSize (n.vals.drop m) := by rw [snd2_leaf hl]; rfl
    have s0 : sizeN n = 2 + kSize n.keys + kSize n.vals := by unfold sizeN; rw [hc]; rfl
    have k1 := kSize_cut n.keys m
    have k2 := kSize_cut n.vals m
    by_cases e : m + edgeN n < n.keys.length
    · have := h.hi e
      omega
    · have e1 := kSize_one (l := n.keys) (m := m) (by omega)
      have e2 := kSize_one (l := n.vals) (m := m) (by omega)
      rw [List.drop_eq_nil_of_le (by omega : n.keys.length ≤ m + 1)] at e1
      rw [List.drop_eq_nil_of_le (by omega : n.vals.length ≤ m + 1)] at e2
      have h5 : kSize [] = 0 := rfl
      have a1 := hn.keys _ (List.getElem_mem (show m < n.keys.length by omega))
      have a2 := hn.vals _ (List.getElem_mem (show m < n.vals.length by omega))
      omega
  | false =>
    rw [if_neg (by rw [hl]; decide)] at hmost
    have hv := (hn.ok.inner hl).2
    have he1 : edgeN n = 2 := if_neg (by rw [hl]; decide)
    have hc := (hn.ok.inner hl).1
    have l1 : (n.kids.take (m + 1)).length = m + 1 := by rw [List.length_take]; omega
    have l2 : (n.kids.drop (m + 1)).length = n.keys.length - m := by rw [List.length_drop]; omega
    have h5 : kSize [] = 0 := rfl
    have s1 : sizeN (fst2 n m) = 2 + 2 * (m + 1) + kSize (n.keys.take m) := by rw [fst2_inner hl]; unfold sizeN; simp only [l1, h5]; omega
    have s2 : sizeN (snd2 n m) = 2 + 2 * (n.keys.length - m) + kSize (n.keys.drop (m + 1)) := by rw [snd2_inner hl]; unfold sizeN; simp only [l2, h5]; omega
    have s0 : sizeN n = 2 + 2 * n.kids.length + kSize n.keys := by unfold sizeN; rw [hc, h5]; rfl
    have k1 := kSize_cut n.keys m
    have e1 := kSize_one (l := n.keys) (m := m) (by omega)
    by_cases e : m + edgeN n < n.keys.length
    · have := h.hi e
      omega
    · have e2 := kSize_one (l := n.keys) (m := m + 1) (by omega)
      rw [List.drop_eq_nil_of_le (by omega : n.keys.length ≤ m + 1 + 1)] at e2
      have a1 := hn.keys _ (List.getElem_mem (show m + 1 < n.keys.length by omega))
      omega
theorem nodeOk_fst {n : NodeD} (h : NodeOk n) {m : Nat} (hm : m + edgeN n ≤ n.keys.length) : NodeOk (fst2 n m) := by
  have hmany := h.many
  cases hl : n.leaf with
  | true =>
    have he1 : edgeN n = 1 := if_pos hl
    rw [fst2_leaf hl]
    refine ⟨fun k hk => h.keys k (List.mem_of_mem_take hk), fun k hk => h.vals k (List.mem_of_mem_take hk), fun c hc => by simp at hc, ?_, fun _ => ⟨?_, rfl⟩, fun q => by cases q⟩
    · show (n.keys.take m).length ≤ 255; rw [List.length_take]; omega
    · show (n.vals.take m).length = (n.keys.take m).length
      rw [List.length_take, List.length_take, (h.leafs hl).1]
  | false =>
    have he1 : edgeN n = 2 := if_neg (by rw [hl]; decide)
    rw [fst2_inner hl]
    have hv := (h.inner hl).2
    refine ⟨fun k hk => h.keys k (List.mem_of_mem_take hk), fun k hk => by simp at hk, fun c hc => h.kids c (List.mem_of_mem_take hc), ?_, fun q => (by cases q), fun _ => ⟨rfl, ?_⟩⟩
    · show (n.keys.take m).length ≤ 255; rw [List.length_take]; omega
    · show (n.kids.take (m + 1)).length = (n.keys.take m).length + 1
      rw [List.length_take, List.length_take]; omega
theorem nodeOk_snd {n : NodeD} (h : NodeOk n) {m : Nat} (hm : m + edgeN n ≤ n.keys.length) : NodeOk (snd2 n m) := by
  have hmany := h.many
  cases hl : n.leaf with
  | true =>
    have he1 : edgeN n = 1 := if_pos hl
    rw [snd2_leaf hl]
    refine ⟨fun k hk => h.keys k (List.mem_of_mem_drop hk), fun k hk => h.vals k (List.mem_of_mem_drop hk), fun c hc => by simp at hc, ?_, fun _ => ⟨?_, rfl⟩, fun q => by cases q⟩
    · show (n.keys.drop m).length ≤ 255; rw [List.length_drop]; omega
    · show (n.vals.drop m).length = (n.keys.drop m).length
      rw [List.length_drop, List.length_drop, (h.leafs hl).1]
  | false =>
    have he1 : edgeN n = 2 := if_neg (by rw [hl]; decide)
    rw [snd2_inner hl]
    have hv := (h.inner hl).2
    refine ⟨fun k hk => h.keys k (List.mem_of_mem_drop hk), fun k hk => by simp at hk, fun c hc => h.kids c (List.mem_of_mem_drop hc), ?_, fun q => (by cases q), fun _ => ⟨rfl, ?_⟩⟩
    · show (n.keys.drop (m + 1)).length ≤ 255; rw [List.length_drop]; omega
    · show (n.kids.drop (m + 1)).length = (n.keys.drop (m + 1)).length + 1
      rw [List.length_drop, List.length_drop]; omega
/-- a node is laid down, in two if it is too great: where it is cut, and the second page -/
def CutD (S : StoreD) (a : Nat) (n : NodeD) : Option (Nat × Nat) → StoreD → Prop
  | none, S' => sizeN n ≤ 256 ∧ S' = layP S a n
  | some x, S' => 256 < sizeN n ∧ HalfAt n x.1 ∧ lowS S = some x.2 ∧ S' = layP (layP (allocP S x.2) a (fst2 n x.1)) x.2 (snd2 n x.1)
theorem cut_none {S S' : StoreD} {a : Nat} {n : NodeD} (h : CutD S a n none S') (hf : Fm S) (hg : GivenS S a) (hn : NodeOk n) : Stp (fun b => b = a) [] [] S S' ∧ PageN S' a n := by
  obtain ⟨h1, rfl⟩ := h
  exact ⟨stp_lay hf.full hg.1 hn h1, pageN_lay hg hn h1⟩
theorem cut_some {S S' : StoreD} {a m r : Nat} {n : NodeD} (h : CutD S a n (some (m, r)) S') (hf : Fm S) (hg : GivenS S a) (hn : NodeFit n) :
    Stp (fun b => b = a) [r] [] S S' ∧ PageN S' a (fst2 n m) ∧ PageN S' r (snd2 n m) ∧ usedS S r = false ∧ 2 ≤ r ∧ r < S.head.pages ∧ r ≠ a := by
  obtain ⟨_, hh, hr, rfl⟩ := h
  obtain ⟨r1, r2, r3⟩ := lowS_some hr
  have hm := hf.most
  have hra : r ≠ a := fun e => by subst e; rw [hg.2.2] at r3; cases r3
  obtain ⟨s1, s2⟩ := half_sizes hn hh
  have k1 := nodeOk_fst hn.ok hh.lt
  have k2 := nodeOk_snd hn.ok hh.lt
  have t1 := stp_alloc hf.full r1 (by omega : r < 2048)
  have g1 : GivenS (allocP S r) a := t1.given hg (by simp)
  have g1r : GivenS (allocP S r) r := t1.givenF r1 r2 (by simp) (by simp)
  have t2 := stp_lay t1.full hg.1 k1 s1
  have p2 := pageN_lay g1 k1 s1
  have g2r : GivenS (layP (allocP S r) a (fst2 n m)) r := t2.given g1r (by simp)
  have t3 := stp_lay t2.full r1 k2 s2
  have p3 := pageN_lay g2r k2 s2
  have t12 := t1.trans (Q := fun b => b = a) t2 (fun b q => by cases q) (fun b q => .inr (.inr q))
  have t123 := t12.trans (Q := fun _ => False) t3 (fun b q => by cases q) (fun b q => .inr (.inl (by subst q; simp)))
  refine ⟨?_, p2.stp t3 (fun q => hra q.symm) (by simp) (by simp), p3, r3, r1, r2, hra⟩
  have := t123.mono (P' := fun b => b = a) (fun b q => by
    rcases q with (q | q) | q
    · exact q.elim
    · exact q
    · exact q.elim)
  simpa using this
end Go.Proofs.YtojoefcfimmipaaGreat
