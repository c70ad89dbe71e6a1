/- A tree takes a record: plain. No conditions. -/
/- A tree takes a record, at any depth: plain. No conditions. -/
import Derived.Test.YtojoefcfimmipaaGreatQ26
namespace Go.Proofs.YtojoefcfimmipaaGreat
set_option linter.unusedSimpArgs false
set_option linter.unusedVariables false
open Go.RowKit
theorem sep_iff {α : Type} {f : α → List ByteArray} {ks : List ByteArray} {ts : List α} : SepT f ks ts ↔ ∀ (j : Nat) (c : α), ts[j]? = some c → ∀ x ∈ f c, ∀ (i : Nat) (s : ByteArray), ks[i]? = some s → (i < j → ltB x s = false) ∧ (j ≤ i → ltB x s = true) := by
  constructor
  · intro h j c hc x hx i s hs
    obtain ⟨hj, rfl⟩ := List.getElem?_eq_some_iff.1 hc
    obtain ⟨hi, rfl⟩ := List.getElem?_eq_some_iff.1 hs
    exact ⟨fun q => (h j hj x hx).1 i hi q, fun q => (h j hj x hx).2 i hi q⟩
  · intro h j hj x hx
    exact ⟨fun i hi q => (h j _ (List.getElem?_eq_getElem hj) x hx i _ (List.getElem?_eq_getElem hi)).1 q, fun i hi q => (h j _ (List.getElem?_eq_getElem hj) x hx i _ (List.getElem?_eq_getElem hi)).2 q⟩
theorem insL_get {α : Type} (l : List α) (p : Nat) (hp : p ≤ l.length) (x : α) (i : Nat) : (insL l p x)[i]? = if i < p then l[i]? else if i = p then some x else l[i - 1]? := by
  unfold insL
  rw [List.getElem?_append, List.length_take, Nat.min_eq_left hp]
  split
  · rw [List.getElem?_take, if_pos (by assumption)]
  · split
    · rename_i h1 h2; subst h2; rw [Nat.sub_self]; rfl
    · rename_i h1 h2
      obtain ⟨q, hq⟩ : ∃ q, i - p = q + 1 := ⟨i - p - 1, by omega⟩
      rw [hq, List.getElem?_cons_succ, List.getElem?_drop]
      congr 1; omega
theorem kids2_get {α : Type} (ts : List α) {j : Nat} (hj : j < ts.length) (c r : α) (i : Nat) : (insL (ts.set j c) (j + 1) r)[i]? = if i < j then ts[i]? else if i = j then some c else if i = j + 1 then some r else ts[i - 1]? := by
  rw [insL_get _ _ (by rw [List.length_set]; omega), List.getElem?_set, List.getElem?_set]
  by_cases h1 : i < j
  · rw [if_pos (by omega), if_neg (by omega), if_pos h1]
  · by_cases h2 : i = j
    · subst h2; rw [if_pos (by omega), if_pos rfl, if_neg h1, if_pos rfl, if_pos hj]
    · by_cases h3 : i = j + 1
      · subst h3; rw [if_neg (by omega), if_pos rfl, if_neg h1, if_neg h2, if_pos rfl]
      · rw [if_neg (by omega), if_neg h3, if_neg (by omega), if_neg h1, if_neg h2, if_neg h3]
theorem insL_flat' {α β : Type} (f : α → List β) (l : List α) (i : Nat) (x : α) : (insL l i x).flatMap f = (l.take i).flatMap f ++ f x ++ (l.drop i).flatMap f := by
  unfold insL
  rw [List.flatMap_append, List.flatMap_cons, List.append_assoc]
theorem kids2_flat {α β : Type} (f : α → List β) (ts : List α) {j : Nat} (hj : j < ts.length) (c r : α) : (insL (ts.set j c) (j + 1) r).flatMap f = (ts.take j).flatMap f ++ (f c ++ f r) ++ (ts.drop (j + 1)).flatMap f := by
  rw [insL_flat', List.set_eq_take_append_cons_drop, if_pos hj]
  have h1 : (ts.take j ++ c :: ts.drop (j + 1)).take (j + 1) = ts.take j ++ [c] := by
    rw [List.take_append, List.length_take, Nat.min_eq_left (by omega), List.take_of_length_le (by rw [List.length_take]; omega), show j + 1 - j = 1 by omega]; rfl
  have h2 : (ts.take j ++ c :: ts.drop (j + 1)).drop (j + 1) = ts.drop (j + 1) := by
    rw [List.drop_append, List.length_take, Nat.min_eq_left (by omega), List.drop_eq_nil_of_le (by rw [List.length_take]; omega), show j + 1 - j = 1 by omega]; rfl
  rw [h1, h2, List.flatMap_append]
  simp
theorem mem_insL {α : Type} {l : List α} {p : Nat} {x y : α} (h : y ∈ insL l p x) : y = x ∨ y ∈ l := by
  unfold insL at h
  rw [List.mem_append, List.mem_cons] at h
  rcases h with h | h | h
  · exact .inr (List.mem_of_mem_take h)
  · exact .inl h
  · exact .inr (List.mem_of_mem_drop h)
theorem riseK_ins {l : List KV} (h : RiseK l) (k v : ByteArray) : RiseK (insKV l k v) := by
  unfold RiseK insKV
  rw [List.pairwise_append, List.pairwise_cons]
  refine ⟨h.filter _, ⟨fun x hx => (List.mem_filter.1 hx).2, h.filter _⟩, fun x hx y hy => ?_⟩
  have h1 := (List.mem_filter.1 hx).2
  rcases List.mem_cons.1 hy with rfl | hy
  · exact h1
  · exact ltB_trans h1 (List.mem_filter.1 hy).2
/-! a leaf with what comes in -/
def putL0 (t : LeafT) (k v : ByteArray) : LeafT := ⟨t.at_, (putN (nodeT 0 t) k v).keys, (putN (nodeT 0 t) k v).vals⟩
theorem putL0_node (t : LeafT) (k v : ByteArray) : nodeT 0 (putL0 t k v) = putN (nodeT 0 t) k v := by
  unfold putL0 putN
  show NodeD.mk true _ _ [] = _
  cases hasB (nodeT 0 t).keys k <;> rfl
theorem putN_mem {n : NodeD} {k v : ByteArray} : (∀ x ∈ (putN n k v).keys, x = k ∨ x ∈ n.keys) ∧ (∀ x ∈ (putN n k v).vals, x = v ∨ x ∈ n.vals) := by
  unfold putN
  split
  · exact ⟨fun x hx => .inr hx, fun x hx => (List.mem_or_eq_of_mem_set hx).symm⟩
  · exact ⟨fun x hx => mem_insL hx, fun x hx => mem_insL hx⟩
theorem putN_lens {n : NodeD} (k v : ByteArray) (h : n.vals.length = n.keys.length) : (putN n k v).vals.length = (putN n k v).keys.length ∧ (putN n k v).keys.length ≤ n.keys.length + 1 := by
  unfold putN
  split
  · exact ⟨by simpa using h, by simp⟩
  · exact ⟨by simp only [insL_len, h], by simp only [insL_len]; omega⟩
theorem kSize_ins (l : List ByteArray) (i : Nat) (x : ByteArray) : kSize (insL l i x) = kSize l + (1 + x.size) := by
  unfold insL
  have := kSize_cut l i
  have h1 : ∀ r, kSize (x :: r) = 1 + x.size + kSize r := fun r => by simp [kSize]
  rw [kSize_app, h1]
  omega
theorem kSize_set (l : List ByteArray) (i : Nat) (x : ByteArray) : kSize (l.set i x) ≤ kSize l + (1 + x.size) := by
  by_cases hi : i < l.length
  · rw [List.set_eq_take_append_cons_drop, if_pos hi]
    have h1 := kSize_cut l i
    have h2 := kSize_one hi
    have h3 : ∀ r, kSize (x :: r) = 1 + x.size + kSize r := fun r => by simp [kSize]
    rw [kSize_app, h3]
    omega
  · rw [List.set_eq_of_length_le (by omega)]; omega
theorem putN_size (n : NodeD) (k v : ByteArray) : sizeN (putN n k v) ≤ sizeN n + (1 + k.size) + (1 + v.size) := by
  unfold putN
  split
  · have := kSize_set n.vals (posB n.keys k) v
    show 2 + 2 * n.kids.length + kSize n.keys + kSize (n.vals.set _ v) ≤ 2 + 2 * n.kids.length + kSize n.keys + kSize n.vals + _ + _
    omega
  · have h1 := kSize_ins n.keys (posB n.keys k) k
    have h2 := kSize_ins n.vals (posB n.keys k) v
    show 2 + 2 * n.kids.length + kSize (insL n.keys _ k) + kSize (insL n.vals _ v) ≤ 2 + 2 * n.kids.length + kSize n.keys + kSize n.vals + _ + _
    omega
theorem PageN.small {S : StoreD} {a : Nat} {n : NodeD} (h : PageN S a n) : sizeN n ≤ 256 := by rw [← nodeL_len n h.ok]; exact h.fits
theorem sizeN_keys (n : NodeD) : 2 + n.keys.length ≤ sizeN n := by have := len_kSize n.keys; unfold sizeN; omega
theorem putL0_list {t : LeafT} (h : okT 0 t) (k v : ByteArray) : listT 0 (putL0 t k v) = insKV (listT 0 t) k v := insKV_zip h.2.1 h.1 k v
theorem putL0_ok {t : LeafT} (h : okT 0 t) {k v : ByteArray} (hk : KeyOk k) (hv : v.size ≤ 80) : okT 0 (putL0 t k v) := by
  have hl := (putN_lens (n := nodeT 0 t) k v h.2.1).1
  refine ⟨?_, hl, fun x hx => ?_, fun x hx => ?_⟩
  · have h1 : RiseK (listT 0 (putL0 t k v)) := by rw [putL0_list h]; exact riseK_ins (listT_rise 0 t h) k v
    have h2 : ((listT 0 (putL0 t k v)).map (·.1)).Pairwise (fun a b => ltB a b = true) := List.pairwise_map.2 h1
    have h3 : (listT 0 (putL0 t k v)).map (·.1) = LeafT.keys (putL0 t k v) := List.map_fst_zip (by show (putL0 t k v).keys.length ≤ (putL0 t k v).vals.length; exact Nat.le_of_eq hl.symm)
    rw [h3] at h2
    exact h2
  · rcases putN_mem.1 x hx with rfl | hx
    · exact hk
    · exact h.2.2.1 x hx
  · rcases putN_mem.2 x hx with rfl | hx
    · exact hv
    · exact h.2.2.2 x hx
theorem putL0_fit {S : StoreD} {t : LeafT} (ho : onT S 0 t) (h : okT 0 t) {k v : ByteArray} (hk : KeyOk k) (hv : v.size ≤ 80) : NodeFit (nodeT 0 (putL0 t k v)) := by
  have hok := putL0_ok h hk hv
  have h1 := PageN.small ho
  have h2 := putN_size (nodeT 0 t) k v
  have h3 := sizeN_keys (nodeT 0 t)
  have h4 := (putN_lens (n := nodeT 0 t) k v h.2.1).2
  have hk2 := hk.2
  refine ⟨⟨fun x hx => ?_, fun x hx => ?_, fun c hc => by simp [nodeT] at hc, ?_, fun _ => ⟨hok.2.1, rfl⟩, fun q => by cases q⟩, fun x hx => (hok.2.2.1 x hx).2, fun x hx => hok.2.2.2 x hx, ?_⟩
  · have := (hok.2.2.1 x hx).2; omega
  · have := hok.2.2.2 x hx; omega
  · show (putN (nodeT 0 t) k v).keys.length ≤ 255; omega
  · rw [putL0_node]
    have h5 : (if (putN (nodeT 0 t) k v).leaf = true then 370 else 291) = 370 := by rw [← putL0_node]; rfl
    rw [h5]; omega
/-! a node that is laid down -/
def pagesO (d : Nat) (o : Option (ByteArray × TT d)) : List Nat := match o with | none => [] | some x => pagesT d x.2
def listO (d : Nat) (o : Option (ByteArray × TT d)) : List KV := match o with | none => [] | some x => listT d x.2
structure RightL (d : Nat) (S' : StoreD) (A B : ByteArray → Prop) (t' : TT d) (mid : ByteArray) (r : TT d) : Prop where
  on : onT S' d r
  ok : okT d r
  key : A mid
  below : ∀ x ∈ allT d t', ltB x mid = true
  above : ∀ x ∈ allT d r, ltB x mid = false
  all : ∀ x ∈ allT d r, A x
  some : ∃ x, x ∈ allT d t'
  sep : ∀ x ∈ sepT d r, B x
  sabove : ∀ x ∈ sepT d r, ltB mid x = true
structure StepL (d : Nat) (q : Nat) (S : StoreD) (P : Nat → Prop) (A B : ByteArray → Prop) (ps : List Nat) (a : Nat) (l : List KV) (S' : StoreD) (t' : TT d) (o : Option (ByteArray × TT d)) (F : List Nat) : Prop where
  stp : Stp P F [] S S'
  nd : F.Nodup
  fresh : ∀ b ∈ F, usedS S b = false ∧ 2 ≤ b ∧ b < S.head.pages
  len : F.length ≤ q
  at_ : atT d t' = a
  on : onT S' d t'
  ok : okT d t'
  pages : (pagesT d t' ++ pagesO d o).Perm (ps ++ F)
  list : listT d t' ++ listO d o = l
  all : ∀ x ∈ allT d t', A x
  sep : ∀ x ∈ sepT d t', B x
  right : ∀ mid r, o = some (mid, r) → RightL d S' A B t' mid r
def CutT0 (S : StoreD) (L : TT 0) (S' : StoreD) (t' : TT 0) (o : Option (ByteArray × TT 0)) : Prop :=
  ∃ x, CutD S (LeafT.at_ L) (nodeT 0 L) x S' ∧ match x with
    | none => t' = L ∧ o = none
    | some (m, r) => ∃ mid, (LeafT.keys L)[m]? = some mid ∧ t' = LeafT.mk (LeafT.at_ L) ((LeafT.keys L).take m) ((LeafT.vals L).take m) ∧ o = some (mid, LeafT.mk r ((LeafT.keys L).drop m) ((LeafT.vals L).drop m))
def CutT1 (d : Nat) (S : StoreD) (L : TT (d + 1)) (S' : StoreD) (t' : TT (d + 1)) (o : Option (ByteArray × TT (d + 1))) : Prop :=
  ∃ x, CutD S (InT.at_ L) (nodeT (d + 1) L) x S' ∧ match x with
    | none => t' = L ∧ o = none
    | some (m, r) => ∃ mid, (InT.keys L)[m]? = some mid ∧ t' = InT.mk (InT.at_ L) ((InT.keys L).take m) ((InT.kids L).take (m + 1)) ∧ o = some (mid, InT.mk r ((InT.keys L).drop (m + 1)) ((InT.kids L).drop (m + 1)))
theorem cutT0_law {S S' : StoreD} {L : TT 0} {t' : TT 0} {o : Option (ByteArray × TT 0)} (h : CutT0 S L S' t' o) (hf : Fm S) (hg : GivenS S (LeafT.at_ L)) (hok : okT 0 L) (hn : NodeFit (nodeT 0 L)) :
    ∃ F, StepL 0 1 S (fun b => b = LeafT.at_ L) (fun x => x ∈ allT 0 L) (fun x => x ∈ sepT 0 L) (pagesT 0 L) (LeafT.at_ L) (listT 0 L) S' t' o F := by
  obtain ⟨x, hc, hx⟩ := h
  cases x with
  | none =>
    obtain ⟨rfl, rfl⟩ := hx
    obtain ⟨h1, h2⟩ := cut_none hc hf hg hn.ok
    exact ⟨[], h1, List.nodup_nil, (fun b q => by cases q), by simp, rfl, h2, hok, by simp [pagesO], by simp [listO], fun x hx => hx, fun x hx => hx, (fun mid r q => by cases q)⟩
  | some x =>
    obtain ⟨m, r⟩ := x
    obtain ⟨mid, hmid, rfl, rfl⟩ := hx
    obtain ⟨h1, h2, h3, h4, h5, h6, h7⟩ := cut_some hc hf hg hn
    have hh := hc.2.1
    obtain ⟨hm, rfl⟩ := List.getElem?_eq_some_iff.1 hmid
    obtain ⟨k1, k2, k3, k4⟩ := hok
    have hone := hh.one
    refine ⟨[r], h1, by simp, fun b q => ?_, by simp, rfl, h2, ?_, ?_, ?_, fun x hx => List.mem_of_mem_take hx, (fun x hx => by cases hx), fun mid r' q => ?_⟩
    · simp only [List.mem_singleton] at q; subst q; exact ⟨h4, h5, h6⟩
    · exact ⟨k1.sublist (List.take_sublist _ _), by show (List.take m _).length = (List.take m _).length; rw [List.length_take, List.length_take, k2], fun x hx => k3 x (List.mem_of_mem_take hx), fun x hx => k4 x (List.mem_of_mem_take hx)⟩
    · show ([LeafT.at_ L] ++ [r]).Perm ([LeafT.at_ L] ++ [r])
      exact List.Perm.refl _
    · show ((LeafT.keys L).take m).zip ((LeafT.vals L).take m) ++ ((LeafT.keys L).drop m).zip ((LeafT.vals L).drop m) = (LeafT.keys L).zip (LeafT.vals L)
      rw [← take_zipB, ← drop_zipB, List.take_append_drop]
    · injection q with q
      injection q with q1 q2
      subst q1 q2
      refine ⟨h3, ⟨k1.sublist (List.drop_sublist _ _), by show (List.drop m _).length = (List.drop m _).length; rw [List.length_drop, List.length_drop, k2], fun x hx => k3 x (List.mem_of_mem_drop hx), fun x hx => k4 x (List.mem_of_mem_drop hx)⟩, List.getElem_mem hm, fun x hx => ?_, fun x hx => ?_, fun x hx => List.mem_of_mem_drop hx, ?_, (fun x hx => by cases hx), (fun x hx => by cases hx)⟩
      · obtain ⟨i, hi, rfl⟩ := List.mem_take_iff_getElem.1 hx
        exact riseB_lt k1 hm (by omega)
      · obtain ⟨i, hi, rfl⟩ := List.mem_drop_iff_getElem.1 hx
        rcases Nat.eq_zero_or_pos i with e | e
        · subst e; exact ltB_irrefl _
        · exact le_of_lt (riseB_lt k1 (by omega) (by omega))
      · exact ⟨(LeafT.keys L)[0], List.mem_take_iff_getElem.2 ⟨0, by omega, rfl⟩⟩
theorem cutT1_law {d : Nat} {S S' : StoreD} {L : TT (d + 1)} {t' : TT (d + 1)} {o : Option (ByteArray × TT (d + 1))} (h : CutT1 d S L S' t' o) (hf : Fm S) (hg : GivenS S (InT.at_ L)) (hok : okT (d + 1) L) (hn : NodeFit (nodeT (d + 1) L))
    (hon : ∀ c ∈ InT.kids L, onT S d c) (hnd : ∀ c ∈ InT.kids L, InT.at_ L ∉ pagesT d c) :
    ∃ F, StepL (d + 1) 1 S (fun b => b = InT.at_ L) (fun x => x ∈ allT (d + 1) L) (fun x => x ∈ sepT (d + 1) L) (pagesT (d + 1) L) (InT.at_ L) (listT (d + 1) L) S' t' o F := by
  obtain ⟨x, hc, hx⟩ := h
  have hkid : ∀ {P : Nat → Prop} {F : List Nat} {S' : StoreD}, Stp P F [] S S' → (∀ b, P b → b = InT.at_ L) → (∀ b ∈ F, usedS S b = false) → ∀ c ∈ InT.kids L, onT S' d c := fun hs hP hF c hc => onT_stp hs d c (hon c hc) (fun b q => ⟨(fun r => by rw [hP b r] at q; exact hnd c hc q), (fun r => by have := (onT_given d c (hon c hc) b q).2.2; rw [hF b r] at this; cases this), by simp⟩)
  cases x with
  | none =>
    obtain ⟨rfl, rfl⟩ := hx
    obtain ⟨h1, h2⟩ := cut_none hc hf hg hn.ok
    exact ⟨[], h1, List.nodup_nil, (fun b q => by cases q), by simp, rfl, ⟨h2, hkid h1 (fun _ q => q) (by simp)⟩, hok, by simp [pagesO], by simp [listO], fun x hx => hx, fun x hx => hx, (fun mid r q => by cases q)⟩
  | some x =>
    obtain ⟨m, r⟩ := x
    obtain ⟨mid, hmid, rfl, rfl⟩ := hx
    obtain ⟨h1, h2, h3, h4, h5, h6, h7⟩ := cut_some hc hf hg hn
    have hh := hc.2.1
    obtain ⟨hm, rfl⟩ := List.getElem?_eq_some_iff.1 hmid
    obtain ⟨k1, k2, k3, k4, k5, k6⟩ := hok
    have hone := hh.one
    have hkd := hkid h1 (fun _ q => q) (fun b q => by simp only [List.mem_singleton] at q; subst q; exact h4)
    have hs := sep_iff.1 k5
    have e1 : (InT.kids L).take (m + 1) ++ (InT.kids L).drop (m + 1) = InT.kids L := List.take_append_drop _ _
    refine ⟨[r], h1, by simp, fun b q => ?_, by simp, rfl, ⟨?_, fun c hc => hkd c (List.mem_of_mem_take hc)⟩, ?_, ?_, ?_, fun x hx => ?_, fun x hx => ?_, fun mid r' q => ?_⟩
    · simp only [List.mem_singleton] at q; subst q; exact ⟨h4, h5, h6⟩
    · have e : nodeT (d + 1) (InT.mk (InT.at_ L) ((InT.keys L).take m) ((InT.kids L).take (m + 1))) = fst2 (nodeT (d + 1) L) m := by
        rw [fst2_inner rfl]
        show NodeD.mk false _ [] (((InT.kids L).take (m + 1)).map _) = NodeD.mk false _ [] (((InT.kids L).map _).take (m + 1))
        rw [List.map_take]; rfl
      rw [e]; exact h2
    · refine ⟨k1.sublist (List.take_sublist _ _), ?_, fun x hx => k3 x (List.mem_of_mem_take hx), fun c hc => k4 c (List.mem_of_mem_take hc), sep_iff.2 (fun j c hc x hx i s hs' => ?_), fun j c hc x hx i s hs' hij => ?_⟩
      · show ((InT.kids L).take (m + 1)).length = ((InT.keys L).take m).length + 1
        rw [List.length_take, List.length_take]; omega
      · have hc' : (InT.kids L)[j]? = some c := by
          have : ((InT.kids L).take (m + 1))[j]? = some c := hc
          rw [List.getElem?_take] at this; split at this
          · exact this
          · cases this
        have hs2 : (InT.keys L)[i]? = some s := by
          have : ((InT.keys L).take m)[i]? = some s := hs'
          rw [List.getElem?_take] at this; split at this
          · exact this
          · cases this
        exact hs j c hc' x hx i s hs2
      · have hc' : (InT.kids L)[j]? = some c := by
          have : ((InT.kids L).take (m + 1))[j]? = some c := hc
          rw [List.getElem?_take] at this; split at this
          · exact this
          · cases this
        have hs2 : (InT.keys L)[i]? = some s := by
          have : ((InT.keys L).take m)[i]? = some s := hs'
          rw [List.getElem?_take] at this; split at this
          · exact this
          · cases this
        exact k6 j c hc' x hx i s hs2 hij
    · show ((InT.at_ L :: ((InT.kids L).take (m + 1)).flatMap (pagesT d)) ++ (r :: ((InT.kids L).drop (m + 1)).flatMap (pagesT d))).Perm ((InT.at_ L :: (InT.kids L).flatMap (pagesT d)) ++ [r])
      conv => rhs; rw [← e1, List.flatMap_append]
      rw [List.cons_append, List.cons_append, List.perm_cons]
      refine List.perm_middle.trans ?_
      exact (List.perm_append_singleton r _).symm
    · show ((InT.kids L).take (m + 1)).flatMap (listT d) ++ ((InT.kids L).drop (m + 1)).flatMap (listT d) = (InT.kids L).flatMap (listT d)
      rw [← List.flatMap_append, e1]
    · have hx' : x ∈ (InT.keys L).take m ++ ((InT.kids L).take (m + 1)).flatMap (allT d) := hx
      show x ∈ InT.keys L ++ (InT.kids L).flatMap (allT d)
      rw [List.mem_append, List.mem_flatMap] at hx' ⊢
      rcases hx' with q | ⟨c, q1, q2⟩
      · exact .inl (List.mem_of_mem_take q)
      · exact .inr ⟨c, List.mem_of_mem_take q1, q2⟩
    · have hx' : x ∈ (InT.keys L).take m ++ ((InT.kids L).take (m + 1)).flatMap (sepT d) := hx
      show x ∈ InT.keys L ++ (InT.kids L).flatMap (sepT d)
      rw [List.mem_append, List.mem_flatMap] at hx' ⊢
      rcases hx' with q | ⟨c, q1, q2⟩
      · exact .inl (List.mem_of_mem_take q)
      · exact .inr ⟨c, List.mem_of_mem_take q1, q2⟩
    · injection q with q
      injection q with q1 q2
      subst q1 q2
      refine ⟨⟨?_, fun c hc => hkd c (List.mem_of_mem_drop hc)⟩, ?_, ?_, fun x hx => ?_, fun x hx => ?_, fun x hx => ?_, ?_, fun x hx => ?_, fun x hx => ?_⟩
      · have e : nodeT (d + 1) (InT.mk r ((InT.keys L).drop (m + 1)) ((InT.kids L).drop (m + 1))) = snd2 (nodeT (d + 1) L) m := by
          rw [snd2_inner rfl]
          show NodeD.mk false _ [] (((InT.kids L).drop (m + 1)).map _) = NodeD.mk false _ [] (((InT.kids L).map _).drop (m + 1))
          rw [List.map_drop]; rfl
        rw [e]; exact h3
      · refine ⟨k1.sublist (List.drop_sublist _ _), ?_, fun x hx => k3 x (List.mem_of_mem_drop hx), fun c hc => k4 c (List.mem_of_mem_drop hc), sep_iff.2 (fun j c hc x hx i s hs' => ?_), fun j c hc x hx i s hs' hij => ?_⟩
        · show ((InT.kids L).drop (m + 1)).length = ((InT.keys L).drop (m + 1)).length + 1
          rw [List.length_drop, List.length_drop]; omega
        · have hc' : (InT.kids L)[m + 1 + j]? = some c := by
            have : ((InT.kids L).drop (m + 1))[j]? = some c := hc
            rwa [List.getElem?_drop] at this
          have hs2 : (InT.keys L)[m + 1 + i]? = some s := by
            have : ((InT.keys L).drop (m + 1))[i]? = some s := hs'
            rwa [List.getElem?_drop] at this
          have := hs _ c hc' x hx _ s hs2
          exact ⟨fun q => this.1 (by omega), fun q => this.2 (by omega)⟩
        · have hc' : (InT.kids L)[m + 1 + j]? = some c := by
            have : ((InT.kids L).drop (m + 1))[j]? = some c := hc
            rwa [List.getElem?_drop] at this
          have hs2 : (InT.keys L)[m + 1 + i]? = some s := by
            have : ((InT.keys L).drop (m + 1))[i]? = some s := hs'
            rwa [List.getElem?_drop] at this
          exact k6 _ c hc' x hx _ s hs2 (by omega)
      · show _ ∈ InT.keys L ++ _
        exact List.mem_append_left _ (List.getElem_mem hm)
      · have hx' : x ∈ (InT.keys L).take m ++ ((InT.kids L).take (m + 1)).flatMap (allT d) := hx
        rw [List.mem_append, List.mem_flatMap] at hx'
        rcases hx' with q | ⟨c, q1, q2⟩
        · obtain ⟨i, hi, rfl⟩ := List.mem_take_iff_getElem.1 q
          exact riseB_lt k1 hm (by omega)
        · obtain ⟨i, hi, rfl⟩ := List.mem_take_iff_getElem.1 q1
          exact (hs i _ (List.getElem?_eq_getElem (by omega)) x q2 m _ (List.getElem?_eq_getElem hm)).2 (by omega)
      · have hx' : x ∈ (InT.keys L).drop (m + 1) ++ ((InT.kids L).drop (m + 1)).flatMap (allT d) := hx
        rw [List.mem_append, List.mem_flatMap] at hx'
        rcases hx' with q | ⟨c, q1, q2⟩
        · obtain ⟨i, hi, rfl⟩ := List.mem_drop_iff_getElem.1 q
          exact le_of_lt (riseB_lt k1 (by omega) (by omega))
        · obtain ⟨i, hi, rfl⟩ := List.mem_drop_iff_getElem.1 q1
          exact (hs (m + 1 + i) _ (List.getElem?_eq_getElem (by omega)) x q2 m _ (List.getElem?_eq_getElem hm)).1 (by omega)
      · have hx' : x ∈ (InT.keys L).drop (m + 1) ++ ((InT.kids L).drop (m + 1)).flatMap (allT d) := hx
        show x ∈ InT.keys L ++ (InT.kids L).flatMap (allT d)
        rw [List.mem_append, List.mem_flatMap] at hx' ⊢
        rcases hx' with q | ⟨c, q1, q2⟩
        · exact .inl (List.mem_of_mem_drop q)
        · exact .inr ⟨c, List.mem_of_mem_drop q1, q2⟩
      · refine ⟨(InT.keys L)[0], ?_⟩
        show _ ∈ (InT.keys L).take m ++ _
        exact List.mem_append_left _ (List.mem_take_iff_getElem.2 ⟨0, by omega, rfl⟩)
      · have hx' : x ∈ (InT.keys L).drop (m + 1) ++ ((InT.kids L).drop (m + 1)).flatMap (sepT d) := hx
        show x ∈ InT.keys L ++ (InT.kids L).flatMap (sepT d)
        rw [List.mem_append, List.mem_flatMap] at hx' ⊢
        rcases hx' with q | ⟨c, q1, q2⟩
        · exact .inl (List.mem_of_mem_drop q)
        · exact .inr ⟨c, List.mem_of_mem_drop q1, q2⟩
      · have hx' : x ∈ (InT.keys L).drop (m + 1) ++ ((InT.kids L).drop (m + 1)).flatMap (sepT d) := hx
        rw [List.mem_append, List.mem_flatMap] at hx'
        rcases hx' with q | ⟨c, q1, q2⟩
        · obtain ⟨i, hi, rfl⟩ := List.mem_drop_iff_getElem.1 q
          exact riseB_lt k1 (by omega) (by omega)
        · obtain ⟨i, hi, rfl⟩ := List.mem_drop_iff_getElem.1 q1
          exact k6 (m + 1 + i) _ (List.getElem?_eq_getElem (by omega)) x q2 m _ (List.getElem?_eq_getElem hm) (by omega)
end Go.Proofs.YtojoefcfimmipaaGreat
namespace Go.Proofs.YtojoefcfimmipaaGreat
set_option linter.unusedSimpArgs false
set_option linter.unusedVariables false
open Go.RowKit
def UpR (d : Nat) (S1 : StoreD) (t : TT (d + 1)) (j : Nat) (c' : TT d) (o1 : Option (ByteArray × TT d)) (S' : StoreD) (t' : TT (d + 1)) (o : Option (ByteArray × TT (d + 1))) : Prop := match o1 with
  | none => S' = S1 ∧ t' = InT.mk (InT.at_ t) (InT.keys t) ((InT.kids t).set j c') ∧ o = none
  | some x => CutT1 d S1 (InT.mk (InT.at_ t) (insL (InT.keys t) j x.1) (insL ((InT.kids t).set j c') (j + 1) x.2)) S' t' o
/-- what put makes of a tree -/
def PutR : (d : Nat) → StoreD → TT d → ByteArray → ByteArray → StoreD → TT d → Option (ByteArray × TT d) → Prop
  | 0, S, t, k, v, S', t', o => CutT0 S (putL0 t k v) S' t' o
  | d + 1, S, t, k, v, S', t', o => ∃ c, (InT.kids t)[downN (InT.keys t) k]? = some c ∧ ∃ S1 c' o1, PutR d S c k v S1 c' o1 ∧ UpR d S1 t (downN (InT.keys t) k) c' o1 S' t' o
/-- the keys' bounds of the kid in which a key lies -/
def Within (ks : List ByteArray) (j : Nat) (x : ByteArray) : Prop := ∀ (i : Nat) (s : ByteArray), ks[i]? = some s → (i < j → ltB x s = false) ∧ (j ≤ i → ltB x s = true)
theorem within_key {ks : List ByteArray} (h : RiseB ks) (k : ByteArray) : Within ks (downN ks k) k := fun i s hs => by
  obtain ⟨hi, rfl⟩ := List.getElem?_eq_some_iff.1 hs
  exact ⟨fun q => downN_lo h k hi q, fun q => downN_hi h k hi q⟩
theorem sep_set {d : Nat} {ks : List ByteArray} {ts : List (TT d)} {j : Nat} {c' : TT d} (h : SepT (allT d) ks ts) (hc : ∀ x ∈ allT d c', Within ks j x) : SepT (allT d) ks (ts.set j c') := by
  rw [sep_iff] at h ⊢
  intro i c hi x hx
  rw [List.getElem?_set] at hi
  split at hi
  · rename_i e
    subst e
    split at hi
    · injection hi with hi; subst hi; exact hc x hx
    · cases hi
  · exact h i c hi x hx
theorem rise_ins {ks : List ByteArray} {j : Nat} {mid : ByteArray} (h : RiseB ks) (hj : j ≤ ks.length) (hlo : ∀ i s, ks[i]? = some s → i < j → ltB s mid = true) (hhi : ∀ i s, ks[i]? = some s → j ≤ i → ltB mid s = true) : RiseB (insL ks j mid) := by
  unfold RiseB insL
  rw [List.pairwise_append, List.pairwise_cons]
  have h1 : ∀ x ∈ ks.take j, ltB x mid = true := fun x hx => by
    obtain ⟨i, hi, rfl⟩ := List.mem_take_iff_getElem.1 hx
    exact hlo i _ (List.getElem?_eq_getElem (by omega)) (by omega)
  have h2 : ∀ x ∈ ks.drop j, ltB mid x = true := fun x hx => by
    obtain ⟨i, hi, rfl⟩ := List.mem_drop_iff_getElem.1 hx
    exact hhi (j + i) _ (List.getElem?_eq_getElem (by omega)) (by omega)
  refine ⟨h.sublist (List.take_sublist _ _), ⟨h2, h.sublist (List.drop_sublist _ _)⟩, fun x hx y hy => ?_⟩
  rcases List.mem_cons.1 hy with rfl | hy
  · exact h1 x hx
  · exact ltB_trans (h1 x hx) (h2 y hy)
theorem sep_two {d : Nat} {ks : List ByteArray} {ts : List (TT d)} {j : Nat} {c' r : TT d} {mid : ByteArray} (h : SepT (allT d) ks ts) (hl : ts.length = ks.length + 1) (hr : RiseB ks) (hj : j ≤ ks.length) (hc : ∀ x ∈ allT d c', Within ks j x) (hd : ∀ x ∈ allT d r, Within ks j x)
    (hlo : ∀ i s, ks[i]? = some s → i < j → ltB s mid = true) (hhi : ∀ i s, ks[i]? = some s → j ≤ i → ltB mid s = true) (hb : ∀ x ∈ allT d c', ltB x mid = true) (ha : ∀ x ∈ allT d r, ltB x mid = false) : SepT (allT d) (insL ks j mid) (insL (ts.set j c') (j + 1) r) := by
  have h' := sep_iff.1 h
  rw [sep_iff]
  intro i c hi x hx p s hs
  rw [kids2_get ts (by omega)] at hi
  rw [insL_get _ _ hj] at hs
  have hks : ∀ (q : Nat) (u : ByteArray), ks[q]? = some u → q < ks.length := fun q u hq => (List.getElem?_eq_some_iff.1 hq).1
  by_cases e1 : i < j
  · rw [if_pos e1] at hi
    have hw := h' i c hi x hx
    by_cases f1 : p < j
    · rw [if_pos f1] at hs; exact hw p s hs
    · rw [if_neg f1] at hs
      have hx1 : ltB x mid = true := by
        obtain ⟨u, hu⟩ : ∃ u, ks[i]? = some u := ⟨_, List.getElem?_eq_getElem (by omega : i < ks.length)⟩
        exact ltB_trans ((hw i u hu).2 (Nat.le_refl _)) (hlo i u hu e1)
      by_cases f2 : p = j
      · rw [if_pos f2] at hs
        injection hs with hs
        subst hs
        exact ⟨fun q => by omega, fun _ => hx1⟩
      · rw [if_neg f2] at hs
        have := hw (p - 1) s hs
        exact ⟨fun q => by omega, fun q => this.2 (by omega)⟩
  · rw [if_neg e1] at hi
    by_cases e2 : i = j
    · rw [if_pos e2] at hi
      injection hi with hi
      subst hi
      have hw := hc x hx
      by_cases f1 : p < j
      · rw [if_pos f1] at hs
        have := hw p s hs
        exact ⟨fun q => this.1 f1, fun q => by omega⟩
      · rw [if_neg f1] at hs
        by_cases f2 : p = j
        · rw [if_pos f2] at hs
          injection hs with hs
          subst hs
          exact ⟨fun q => by omega, fun _ => hb x hx⟩
        · rw [if_neg f2] at hs
          have := hw (p - 1) s hs
          exact ⟨fun q => by omega, fun q => this.2 (by omega)⟩
    · rw [if_neg e2] at hi
      by_cases e3 : i = j + 1
      · rw [if_pos e3] at hi
        injection hi with hi
        subst hi
        have hw := hd x hx
        by_cases f1 : p < j
        · rw [if_pos f1] at hs
          have := hw p s hs
          exact ⟨fun q => this.1 f1, fun q => by omega⟩
        · rw [if_neg f1] at hs
          by_cases f2 : p = j
          · rw [if_pos f2] at hs
            injection hs with hs
            subst hs
            exact ⟨fun _ => ha x hx, fun q => by omega⟩
          · rw [if_neg f2] at hs
            have := hw (p - 1) s hs
            exact ⟨fun q => by omega, fun q => this.2 (by omega)⟩
      · rw [if_neg e3] at hi
        have hw := h' (i - 1) c hi x hx
        have hil : i - 1 < ts.length := (List.getElem?_eq_some_iff.1 hi).1
        by_cases f1 : p < j
        · rw [if_pos f1] at hs
          have := hw p s hs
          exact ⟨fun q => this.1 (by omega), fun q => by omega⟩
        · rw [if_neg f1] at hs
          by_cases f2 : p = j
          · rw [if_pos f2] at hs
            injection hs with hs
            subst hs
            refine ⟨fun _ => ?_, fun q => by omega⟩
            obtain ⟨u, hu⟩ : ∃ u, ks[j]? = some u := ⟨_, List.getElem?_eq_getElem (by omega : j < ks.length)⟩
            have g1 := (hw j u hu).1 (by omega)
            exact le_of_lt (lt_of_lt_le (hhi j u hu (Nat.le_refl _)) g1)
          · rw [if_neg f2] at hs
            have := hw (p - 1) s hs
            exact ⟨fun q => this.1 (by omega), fun q => this.2 (by omega)⟩
/-- a key between, or one above something that was there -/
def BsT (d : Nat) (t : TT d) (k x : ByteArray) : Prop := x ∈ sepT d t ∨ ∃ z, (z = k ∨ z ∈ allT d t) ∧ ltB z x = true
theorem bs_above {d : Nat} {ks : List ByteArray} {ts : List (TT d)} {j : Nat} {c : TT d} {k x : ByteArray} (h : StrT (sepT d) ks ts) (hc : ts[j]? = some c) (hw : ∀ x, (x = k ∨ x ∈ allT d c) → Within ks j x) (hx : BsT d c k x) : ∀ (i : Nat) (s : ByteArray), ks[i]? = some s → i < j → ltB s x = true := fun i s hs hi => by
  rcases hx with q | ⟨z, q, hz⟩
  · exact h j c hc x q i s hs hi
  · exact lt_of_le_lt ((hw z q i s hs).1 hi) hz
theorem str_set {d : Nat} {ks : List ByteArray} {ts : List (TT d)} {j : Nat} {c' : TT d} (h : StrT (sepT d) ks ts) (hc : ∀ x ∈ sepT d c', ∀ (i : Nat) (s : ByteArray), ks[i]? = some s → i < j → ltB s x = true) : StrT (sepT d) ks (ts.set j c') := by
  intro i c hi x hx
  rw [List.getElem?_set] at hi
  split at hi
  · rename_i e
    subst e
    split at hi
    · injection hi with hi; subst hi; exact hc x hx
    · cases hi
  · exact h i c hi x hx
theorem str_two {d : Nat} {ks : List ByteArray} {ts : List (TT d)} {j : Nat} {c' r : TT d} {mid : ByteArray} (h : StrT (sepT d) ks ts) (hl : ts.length = ks.length + 1) (hj : j ≤ ks.length) (hc : ∀ x ∈ sepT d c', ∀ (i : Nat) (s : ByteArray), ks[i]? = some s → i < j → ltB s x = true) (hd : ∀ x ∈ sepT d r, ∀ (i : Nat) (s : ByteArray), ks[i]? = some s → i < j → ltB s x = true)
    (hhi : ∀ i s, ks[i]? = some s → j ≤ i → ltB mid s = true) (ha : ∀ x ∈ sepT d r, ltB mid x = true) : StrT (sepT d) (insL ks j mid) (insL (ts.set j c') (j + 1) r) := by
  intro i c hi x hx p s hs hpi
  rw [kids2_get ts (by omega)] at hi
  rw [insL_get _ _ hj] at hs
  by_cases e1 : i < j
  · rw [if_pos e1] at hi
    rw [if_pos (by omega)] at hs
    exact h i c hi x hx p s hs hpi
  · rw [if_neg e1] at hi
    by_cases e2 : i = j
    · rw [if_pos e2] at hi
      injection hi with hi
      subst hi
      rw [if_pos (by omega)] at hs
      exact hc x hx p s hs (by omega)
    · rw [if_neg e2] at hi
      by_cases e3 : i = j + 1
      · rw [if_pos e3] at hi
        injection hi with hi
        subst hi
        by_cases f1 : p < j
        · rw [if_pos f1] at hs
          exact hd x hx p s hs f1
        · rw [if_neg f1, if_pos (by omega)] at hs
          injection hs with hs
          subst hs
          exact ha x hx
      · rw [if_neg e3] at hi
        have hil : i - 1 < ts.length := (List.getElem?_eq_some_iff.1 hi).1
        by_cases f1 : p < j
        · rw [if_pos f1] at hs
          exact h (i - 1) c hi x hx p s hs (by omega)
        · rw [if_neg f1] at hs
          by_cases f2 : p = j
          · rw [if_pos f2] at hs
            injection hs with hs
            subst hs
            obtain ⟨u, hu⟩ : ∃ u, ks[j]? = some u := ⟨_, List.getElem?_eq_getElem (by omega : j < ks.length)⟩
            exact ltB_trans (hhi j u hu (Nat.le_refl _)) (h (i - 1) c hi x hx j u hu (by omega))
          · rw [if_neg f2] at hs
            exact h (i - 1) c hi x hx (p - 1) s hs (by omega)
theorem map_set_at {d : Nat} {ts : List (TT d)} {j : Nat} {c c' : TT d} (hj : ts[j]? = some c) (ha : atT d c' = atT d c) : (ts.set j c').map (fun c => (atT d c : Int)) = ts.map (fun c => (atT d c : Int)) := by
  obtain ⟨h, rfl⟩ := List.getElem?_eq_some_iff.1 hj
  rw [List.map_set, ha]
  apply List.ext_getElem
  · simp
  · intro i h1 h2
    rw [List.getElem_set]
    split
    · rename_i e; subst e; simp
    · rfl
theorem mem_set_or {α : Type} {l : List α} {i : Nat} {x y : α} (h : y ∈ l.set i x) : y = x ∨ y ∈ l := (List.mem_or_eq_of_mem_set h).symm
/-- where a kid's pages lie among those of a node -/
theorem pages_cut {d : Nat} {t : TT (d + 1)} {j : Nat} {c : TT d} (hc : (InT.kids t)[j]? = some c) : pagesT (d + 1) t = InT.at_ t :: (((InT.kids t).take j).flatMap (pagesT d) ++ pagesT d c ++ ((InT.kids t).drop (j + 1)).flatMap (pagesT d)) := by
  obtain ⟨h, rfl⟩ := List.getElem?_eq_some_iff.1 hc
  show InT.at_ t :: _ = _
  rw [flat_cut (pagesT d) (InT.kids t) h]
theorem nodup_kids {d : Nat} {t : TT (d + 1)} (h : (pagesT (d + 1) t).Nodup) : (∀ c ∈ InT.kids t, InT.at_ t ∉ pagesT d c ∧ (pagesT d c).Nodup) ∧ ∀ (i j : Nat) (c e : TT d), (InT.kids t)[i]? = some c → (InT.kids t)[j]? = some e → i ≠ j → ∀ b ∈ pagesT d c, b ∉ pagesT d e := by
  have h' : (InT.at_ t :: (InT.kids t).flatMap (pagesT d)).Nodup := h
  rw [List.nodup_cons] at h'
  obtain ⟨h1, h2⟩ := h'
  rw [List.mem_flatMap] at h1
  unfold List.Nodup at h2
  rw [List.pairwise_flatMap] at h2
  refine ⟨fun c hc => ⟨fun q => h1 ⟨c, hc, q⟩, h2.1 c hc⟩, fun i j c e hc he hij b hb hb' => ?_⟩
  obtain ⟨hi, rfl⟩ := List.getElem?_eq_some_iff.1 hc
  obtain ⟨hj, rfl⟩ := List.getElem?_eq_some_iff.1 he
  have hp := List.pairwise_iff_getElem.1 h2.2
  rcases Nat.lt_or_gt_of_ne hij with q | q
  · exact hp i j hi hj q b hb b hb' rfl
  · exact hp j i hj hi q b hb' b hb rfl
theorem kids_int {S : StoreD} {d : Nat} {ts : List (TT d)} (h : ∀ c ∈ ts, onT S d c) (hm : S.head.pages ≤ 1024) : ∀ c ∈ ts.map (fun c => (atT d c : Int)), 0 ≤ c ∧ c < 65536 := by
  intro c hc
  obtain ⟨x, hx, rfl⟩ := List.mem_map.1 hc
  have := (onT_given d x (h x hx) _ (pagesT_at d x)).2.1
  exact ⟨by omega, by omega⟩
abbrev PutL (d : Nat) (S : StoreD) (t : TT d) (k v : ByteArray) (S' : StoreD) (t' : TT d) (o : Option (ByteArray × TT d)) (F : List Nat) : Prop :=
  StepL d (d + 1) S (fun b => b ∈ pagesT d t) (fun x => x = k ∨ x ∈ allT d t) (BsT d t k) (pagesT d t) (atT d t) (insKV (listT d t) k v) S' t' o F
theorem bs_up {d : Nat} {t : TT (d + 1)} {c : TT d} (hc : c ∈ InT.kids t) {k x : ByteArray} (h : BsT d c k x) : BsT (d + 1) t k x := by
  rcases h with q | ⟨z, q, hz⟩
  · exact .inl (List.mem_append_right _ (List.mem_flatMap.2 ⟨c, hc, q⟩))
  · exact .inr ⟨z, q.imp_right (fun q => List.mem_append_right _ (List.mem_flatMap.2 ⟨c, hc, q⟩)), hz⟩
theorem keyOk_of {d : Nat} {t : TT d} (h : okT d t) {k : ByteArray} (hk : KeyOk k) : ∀ x, x = k ∨ x ∈ allT d t → KeyOk x := fun x q => q.elim (fun e => e ▸ hk) (fun q => allT_key d t h x q)
/-- behind a kid that took a record and was not cut -/
theorem up_none {d : Nat} {S S1 : StoreD} {t : TT (d + 1)} {k v : ByteArray} {c c' : TT d} {F1 : List Nat} (hf : Fm S) (hon : onT S (d + 1) t) (hok : okT (d + 1) t) (hk : KeyOk k) (hnd : (pagesT (d + 1) t).Nodup) (hc : (InT.kids t)[downN (InT.keys t) k]? = some c) (h : PutL d S c k v S1 c' none F1) :
    PutL (d + 1) S t k v S1 (InT.mk (InT.at_ t) (InT.keys t) ((InT.kids t).set (downN (InT.keys t) k) c')) none F1 := by
  obtain ⟨hj, hce⟩ := List.getElem?_eq_some_iff.1 hc
  have hcm : c ∈ InT.kids t := hce ▸ List.getElem_mem hj
  obtain ⟨n1, n2⟩ := nodup_kids hnd
  obtain ⟨k1, k2, k3, k4, k5, k6⟩ := hok
  have hw : ∀ x ∈ allT d c', Within (InT.keys t) (downN (InT.keys t) k) x := fun x hx => by
    rcases h.all x hx with rfl | q
    · exact within_key k1 _
    · exact sep_iff.1 k5 _ _ hc x q
  have hwc : ∀ x, (x = k ∨ x ∈ allT d c) → Within (InT.keys t) (downN (InT.keys t) k) x := fun x q => by
    rcases q with rfl | q
    · exact within_key k1 _
    · exact sep_iff.1 k5 _ _ hc x q
  have hpg : ∀ b ∈ pagesT d c, b ∈ pagesT (d + 1) t := fun b hb => by
    show b ∈ InT.at_ t :: _
    exact List.mem_cons_of_mem _ (List.mem_flatMap.2 ⟨c, hcm, hb⟩)
  have hunF : ∀ b, usedS S b = true → b ∉ F1 := fun b hb q => by rw [(h.fresh b q).1] at hb; cases hb
  refine ⟨h.stp.mono hpg, h.nd, h.fresh, Nat.le_succ_of_le h.len, rfl, ⟨?_, fun e he => ?_⟩, ⟨k1, by show ((InT.kids t).set _ _).length = _; rw [List.length_set]; exact k2, k3, fun e he => ?_, sep_set k5 hw, str_set k6 (fun x hx => bs_above k6 hc hwc (h.sep x hx))⟩, ?_, ?_, fun x hx => ?_, fun x hx => ?_, (fun mid r q => by cases q)⟩
  · have e1 : nodeT (d + 1) (InT.mk (InT.at_ t) (InT.keys t) ((InT.kids t).set (downN (InT.keys t) k) c')) = nodeT (d + 1) t := by
      show NodeD.mk false _ [] _ = NodeD.mk false _ [] _
      rw [map_set_at hc h.at_]
    rw [e1]
    exact hon.1.stp h.stp (n1 c hcm).1 (hunF _ hon.1.given.2.2) (by simp)
  · rcases mem_set_or he with rfl | he
    · exact h.on
    · obtain ⟨i, hi, rfl⟩ := List.mem_iff_getElem.1 he
      by_cases e1 : i = downN (InT.keys t) k
      · subst e1
        obtain ⟨q, hq, he'⟩ := List.mem_iff_getElem.1 ‹_ ∈ (InT.kids t).set _ _›
        rw [List.getElem_set] at he'
        by_cases e2 : downN (InT.keys t) k = q
        · rw [if_pos e2] at he'
          rw [← he']
          exact h.on
        · rw [if_neg e2] at he'
          rw [← he']
          have hq2 : q < (InT.kids t).length := by rw [List.length_set] at hq; exact hq
          refine onT_stp h.stp d _ (hon.2 _ (List.getElem_mem hq2)) (fun b q' => ⟨n2 _ _ _ _ (List.getElem?_eq_getElem hq2) hc (fun e => e2 e.symm) b q', hunF b (onT_given d _ (hon.2 _ (List.getElem_mem hq2)) b q').2.2, by simp⟩)
      · refine onT_stp h.stp d _ (hon.2 _ he) (fun b q' => ⟨n2 _ _ _ _ (List.getElem?_eq_getElem hi) hc e1 b q', hunF b (onT_given d _ (hon.2 _ he) b q').2.2, by simp⟩)
  · rcases mem_set_or he with rfl | he
    · exact h.ok
    · exact k4 e he
  · show ((InT.at_ t :: ((InT.kids t).set _ c').flatMap (pagesT d)) ++ []).Perm (pagesT (d + 1) t ++ F1)
    rw [pages_cut hc, List.append_nil, flat_set' (pagesT d) _ hj, List.cons_append, List.perm_cons]
    have hp : (pagesT d c').Perm (pagesT d c ++ F1) := by have := h.pages; rwa [pagesO, List.append_nil] at this
    generalize ((InT.kids t).take (downN (InT.keys t) k)).flatMap (pagesT d) = A at *
    generalize ((InT.kids t).drop (downN (InT.keys t) k + 1)).flatMap (pagesT d) = C at *
    have p1 : (A ++ pagesT d c' ++ C).Perm (A ++ (pagesT d c ++ F1) ++ C) := (hp.append_left A).append_right C
    refine p1.trans ?_
    rw [List.append_assoc, List.append_assoc, List.append_assoc, List.append_assoc]
    exact (List.perm_append_comm.append_left _).append_left _
  · have hl : listT d c' = insKV (listT d c) k v := by have := h.list; rwa [listO, List.append_nil] at this
    obtain ⟨a1, a2⟩ := around (t := t) ⟨k1, k2, k3, k4, k5, k6⟩ k
    show ((InT.kids t).set _ c').flatMap (listT d) ++ [] = insKV ((InT.kids t).flatMap (listT d)) k v
    rw [List.append_nil, flat_set' (listT d) _ hj, flat_cut (listT d) (InT.kids t) hj, insKV_mid a1 a2, hce, hl]
  · have hx' : x ∈ InT.keys t ++ ((InT.kids t).set _ c').flatMap (allT d) := hx
    show x = k ∨ x ∈ InT.keys t ++ (InT.kids t).flatMap (allT d)
    rw [List.mem_append, List.mem_flatMap] at hx' ⊢
    rcases hx' with q | ⟨e, q1, q2⟩
    · exact .inr (.inl q)
    · rcases mem_set_or q1 with rfl | q1
      · rcases h.all x q2 with q | q
        · exact .inl q
        · exact .inr (.inr ⟨c, hcm, q⟩)
      · exact .inr (.inr ⟨e, q1, q2⟩)
  · have hx' : x ∈ InT.keys t ++ ((InT.kids t).set _ c').flatMap (sepT d) := hx
    rw [List.mem_append, List.mem_flatMap] at hx'
    rcases hx' with q | ⟨e, q1, q2⟩
    · exact .inl (List.mem_append_left _ q)
    · rcases mem_set_or q1 with rfl | q1
      · exact bs_up hcm (h.sep x q2)
      · exact .inl (List.mem_append_right _ (List.mem_flatMap.2 ⟨e, q1, q2⟩))
end Go.Proofs.YtojoefcfimmipaaGreat
