/- A tree takes a record, at any depth: the law. No conditions. -/
/- A tree loses a record, at any depth: plain. No conditions. -/
/- A tree loses a record, at any depth: take as a whole; a tree's list and what is asked of it. No conditions. -/
/- A tree of a root: what Put makes of it; plain. No conditions. -/
import Derived.Test.YtojoefcfimmipaaGreatQ27
namespace Go.Proofs.YtojoefcfimmipaaGreat
set_option linter.unusedSimpArgs false
set_option linter.unusedVariables false
open Go.RowKit
theorem inner_size {d : Nat} (t : TT (d + 1)) : sizeN (nodeT (d + 1) t) = 2 + 2 * (InT.kids t).length + kSize (InT.keys t) := by
  unfold sizeN
  show 2 + 2 * ((InT.kids t).map _).length + kSize (InT.keys t) + kSize [] = _
  rw [List.length_map]
  rfl
/-- the node behind a kid that was cut -/
theorem two_ready {d : Nat} {S S1 : StoreD} {t : TT (d + 1)} {k v : ByteArray} {c c' r : TT d} {mid : ByteArray} {F1 : List Nat} (hf : Fm S) (hon : onT S (d + 1) t) (hok : okT (d + 1) t) (hk : KeyOk k) (hnd : (pagesT (d + 1) t).Nodup) (hc : (InT.kids t)[downN (InT.keys t) k]? = some c) (h : PutL d S c k v S1 c' (some (mid, r)) F1) :
    ∃ L : TT (d + 1), L = InT.mk (InT.at_ t) (insL (InT.keys t) (downN (InT.keys t) k) mid) (insL ((InT.kids t).set (downN (InT.keys t) k) c') (downN (InT.keys t) k + 1) r) ∧ GivenS S1 (InT.at_ L) ∧ okT (d + 1) L ∧ NodeFit (nodeT (d + 1) L) ∧ (∀ e ∈ InT.kids L, onT S1 d e) ∧ (∀ e ∈ InT.kids L, InT.at_ L ∉ pagesT d e) ∧
      (pagesT (d + 1) L).Perm (pagesT (d + 1) t ++ F1) ∧ listT (d + 1) L = insKV (listT (d + 1) t) k v ∧ (∀ x ∈ allT (d + 1) L, x = k ∨ x ∈ allT (d + 1) t) ∧ ∀ x ∈ sepT (d + 1) L, BsT (d + 1) t k x := by
  obtain ⟨hj, hce⟩ := List.getElem?_eq_some_iff.1 hc
  have hcm : c ∈ InT.kids t := hce ▸ List.getElem_mem hj
  obtain ⟨n1, n2⟩ := nodup_kids hnd
  have hok' := hok
  obtain ⟨k1, k2, k3, k4, k5, k6⟩ := hok
  have hjk := downN_le (k := k) k1
  have hR := h.right mid r rfl
  have hwc : ∀ x, (x = k ∨ x ∈ allT d c) → Within (InT.keys t) (downN (InT.keys t) k) x := fun x q => by
    rcases q with rfl | q
    · exact within_key k1 _
    · exact sep_iff.1 k5 _ _ hc x q
  have hunF : ∀ b, usedS S b = true → b ∉ F1 := fun b hb q => by rw [(h.fresh b q).1] at hb; cases hb
  obtain ⟨z, hz⟩ := hR.some
  have hlo : ∀ i s, (InT.keys t)[i]? = some s → i < downN (InT.keys t) k → ltB s mid = true := fun i s hs hi => lt_of_le_lt ((hwc z (h.all z hz) i s hs).1 hi) (hR.below z hz)
  have hhi : ∀ i s, (InT.keys t)[i]? = some s → downN (InT.keys t) k ≤ i → ltB mid s = true := fun i s hs hi => (hwc mid hR.key i s hs).2 hi
  have hmk : KeyOk mid := keyOk_of (k4 c hcm) hk mid hR.key
  have hold : ∀ (i : Nat) (e : TT d), (InT.kids t)[i]? = some e → i ≠ downN (InT.keys t) k → onT S1 d e ∧ e ∈ InT.kids t := fun i e he hne => by
    have hem : e ∈ InT.kids t := List.mem_of_getElem? he
    refine ⟨onT_stp h.stp d e (hon.2 e hem) (fun b q' => ⟨n2 _ _ _ _ he hc hne b q', hunF b (onT_given d e (hon.2 e hem) b q').2.2, by simp⟩), hem⟩
  have hkids : ∀ e, e ∈ insL ((InT.kids t).set (downN (InT.keys t) k) c') (downN (InT.keys t) k + 1) r → e = c' ∨ e = r ∨ ∃ i, (InT.kids t)[i]? = some e ∧ i ≠ downN (InT.keys t) k := fun e he => by
    obtain ⟨i, hi⟩ := List.mem_iff_getElem?.1 he
    rw [kids2_get _ hj] at hi
    by_cases e1 : i < downN (InT.keys t) k
    · rw [if_pos e1] at hi; exact .inr (.inr ⟨i, hi, by omega⟩)
    · rw [if_neg e1] at hi
      by_cases e2 : i = downN (InT.keys t) k
      · rw [if_pos e2] at hi; injection hi with hi; exact .inl hi.symm
      · rw [if_neg e2] at hi
        by_cases e3 : i = downN (InT.keys t) k + 1
        · rw [if_pos e3] at hi; injection hi with hi; exact .inr (.inl hi.symm)
        · rw [if_neg e3] at hi; exact .inr (.inr ⟨i - 1, hi, by omega⟩)
  have hpp : (pagesT d c' ++ pagesT d r).Perm (pagesT d c ++ F1) := h.pages
  have hmem : ∀ b, b ∈ pagesT d c' ∨ b ∈ pagesT d r → b ∈ pagesT d c ∨ b ∈ F1 := fun b q => List.mem_append.1 (hpp.mem_iff.1 (List.mem_append.2 q))
  have honK : ∀ e ∈ insL ((InT.kids t).set (downN (InT.keys t) k) c') (downN (InT.keys t) k + 1) r, onT S1 d e := fun e he => by
    rcases hkids e he with rfl | rfl | ⟨i, hi, hne⟩
    · exact h.on
    · exact hR.on
    · exact (hold i e hi hne).1
  have hokL : okT (d + 1) (InT.mk (InT.at_ t) (insL (InT.keys t) (downN (InT.keys t) k) mid) (insL ((InT.kids t).set (downN (InT.keys t) k) c') (downN (InT.keys t) k + 1) r)) := by
    refine ⟨rise_ins k1 hjk hlo hhi, ?_, fun x hx => ?_, fun e he => ?_, sep_two k5 k2 k1 hjk (fun x hx => hwc x (h.all x hx)) (fun x hx => hwc x (hR.all x hx)) hlo hhi hR.below hR.above, str_two k6 k2 hjk (fun x hx => bs_above k6 hc hwc (h.sep x hx)) (fun x hx => bs_above k6 hc hwc (hR.sep x hx)) hhi hR.sabove⟩
    · show (insL ((InT.kids t).set _ c') _ r).length = (insL (InT.keys t) _ mid).length + 1
      rw [insL_len, insL_len, List.length_set, k2]
    · rcases mem_insL hx with rfl | hx
      · exact hmk
      · exact k3 x hx
    · rcases hkids e he with rfl | rfl | ⟨i, hi, hne⟩
      · exact h.ok
      · exact hR.ok
      · exact k4 e (List.mem_of_getElem? hi)
  have hat : GivenS S1 (InT.at_ t) := h.stp.given hon.1.given (by simp)
  have hsz := hon.1.small
  refine ⟨_, rfl, hat, hokL, ⟨⟨fun x hx => ?_, fun x hx => by simp [nodeT] at hx, ?_, ?_, (fun q => by cases q), fun _ => ⟨rfl, ?_⟩⟩, fun x hx => (hokL.2.2.1 x hx).2, fun x hx => by simp [nodeT] at hx, ?_⟩, honK, fun e he => ?_, ?_, ?_, fun x hx => ?_, fun x hx => ?_⟩
  · have := (hokL.2.2.1 x hx).2; omega
  · exact kids_int honK (by rw [h.stp.head]; exact hf.most)
  · have h9 := sizeN_keys (nodeT (d + 1) t)
    have h8 : (nodeT (d + 1) t).keys.length = (InT.keys t).length := rfl
    show (insL (InT.keys t) _ mid).length ≤ 255
    rw [insL_len]; omega
  · show ((insL ((InT.kids t).set _ c') _ r).map _).length = (insL (InT.keys t) _ mid).length + 1
    rw [List.length_map, insL_len, insL_len, List.length_set, k2]
  · rw [inner_size] at hsz
    refine Nat.le_trans (Nat.le_of_eq (inner_size (d := d) (InT.mk (InT.at_ t) (insL (InT.keys t) (downN (InT.keys t) k) mid) (insL ((InT.kids t).set (downN (InT.keys t) k) c') (downN (InT.keys t) k + 1) r)))) ?_
    show 2 + 2 * (insL ((InT.kids t).set _ c') _ r).length + kSize (insL (InT.keys t) _ mid) ≤ 291
    rw [insL_len, kSize_ins, List.length_set]
    have := hmk.2
    omega
  · rcases hkids e he with rfl | rfl | ⟨i, hi, hne⟩
    · intro q
      rcases hmem _ (.inl q) with r | r
      · exact (n1 c hcm).1 r
      · exact hunF _ hon.1.given.2.2 r
    · intro q
      rcases hmem _ (.inr q) with r | r
      · exact (n1 c hcm).1 r
      · exact hunF _ hon.1.given.2.2 r
    · exact (n1 e (List.mem_of_getElem? hi)).1
  · show (InT.at_ t :: (insL ((InT.kids t).set _ c') _ r).flatMap (pagesT d)).Perm (pagesT (d + 1) t ++ F1)
    rw [pages_cut hc, kids2_flat (pagesT d) _ hj, List.cons_append, List.perm_cons]
    generalize ((InT.kids t).take (downN (InT.keys t) k)).flatMap (pagesT d) = A at *
    generalize ((InT.kids t).drop (downN (InT.keys t) k + 1)).flatMap (pagesT d) = C at *
    refine ((hpp.append_left A).append_right C).trans ?_
    rw [List.append_assoc, List.append_assoc, List.append_assoc, List.append_assoc]
    exact (List.perm_append_comm.append_left _).append_left _
  · have hl : listT d c' ++ listT d r = insKV (listT d c) k v := h.list
    obtain ⟨a1, a2⟩ := around (t := t) hok' k
    show (insL ((InT.kids t).set _ c') _ r).flatMap (listT d) = insKV ((InT.kids t).flatMap (listT d)) k v
    rw [kids2_flat (listT d) _ hj, flat_cut (listT d) (InT.kids t) hj, insKV_mid a1 a2, hce, hl]
  · have hx' : x ∈ insL (InT.keys t) _ mid ++ (insL ((InT.kids t).set _ c') _ r).flatMap (allT d) := hx
    show x = k ∨ x ∈ InT.keys t ++ (InT.kids t).flatMap (allT d)
    have hin : ∀ y, y = k ∨ y ∈ allT d c → y = k ∨ y ∈ InT.keys t ++ (InT.kids t).flatMap (allT d) := fun y q => by
      rcases q with q | q
      · exact .inl q
      · exact .inr (List.mem_append_right _ (List.mem_flatMap.2 ⟨c, hcm, q⟩))
    rw [List.mem_append, List.mem_flatMap] at hx'
    rcases hx' with q | ⟨e, q1, q2⟩
    · rcases mem_insL q with rfl | q
      · exact hin _ hR.key
      · exact .inr (List.mem_append_left _ q)
    · rcases hkids e q1 with rfl | rfl | ⟨i, hi, hne⟩
      · exact hin _ (h.all x q2)
      · exact hin _ (hR.all x q2)
      · exact .inr (List.mem_append_right _ (List.mem_flatMap.2 ⟨e, List.mem_of_getElem? hi, q2⟩))
  · have hx' : x ∈ insL (InT.keys t) _ mid ++ (insL ((InT.kids t).set _ c') _ r).flatMap (sepT d) := hx
    rw [List.mem_append, List.mem_flatMap] at hx'
    rcases hx' with q | ⟨e, q1, q2⟩
    · rcases mem_insL q with rfl | q
      · refine .inr ⟨z, (h.all z hz).imp_right (fun q => List.mem_append_right _ (List.mem_flatMap.2 ⟨c, hcm, q⟩)), hR.below z hz⟩
      · exact .inl (List.mem_append_left _ q)
    · rcases hkids e q1 with rfl | rfl | ⟨i, hi, hne⟩
      · exact bs_up hcm (h.sep x q2)
      · exact bs_up hcm (hR.sep x q2)
      · exact .inl (List.mem_append_right _ (List.mem_flatMap.2 ⟨e, List.mem_of_getElem? hi, q2⟩))
theorem up_some {d : Nat} {S S1 S' : StoreD} {t t' : TT (d + 1)} {k v : ByteArray} {c c' r : TT d} {mid : ByteArray} {o : Option (ByteArray × TT (d + 1))} {F1 : List Nat} (hf : Fm S) (hon : onT S (d + 1) t) (hok : okT (d + 1) t) (hk : KeyOk k) (hnd : (pagesT (d + 1) t).Nodup) (hc : (InT.kids t)[downN (InT.keys t) k]? = some c) (h : PutL d S c k v S1 c' (some (mid, r)) F1)
    (hcut : CutT1 d S1 (InT.mk (InT.at_ t) (insL (InT.keys t) (downN (InT.keys t) k) mid) (insL ((InT.kids t).set (downN (InT.keys t) k) c') (downN (InT.keys t) k + 1) r)) S' t' o) :
    ∃ F, PutL (d + 1) S t k v S' t' o F := by
  obtain ⟨L, hL, g1, g2, g3, g4, g5, g6, g7, g8, g9⟩ := two_ready hf hon hok hk hnd hc h
  rw [← hL] at hcut
  have hLa : InT.at_ L = InT.at_ t := by rw [hL]
  have hf1 := hf.stp h.stp (fun b q => by cases q)
  obtain ⟨F2, q⟩ := cutT1_law hcut hf1 g1 g2 g3 g4 g5
  obtain ⟨hj, hce⟩ := List.getElem?_eq_some_iff.1 hc
  have hcm : c ∈ InT.kids t := hce ▸ List.getElem_mem hj
  have hpg : ∀ b ∈ pagesT d c, b ∈ pagesT (d + 1) t := fun b hb => by
    show b ∈ InT.at_ t :: _
    exact List.mem_cons_of_mem _ (List.mem_flatMap.2 ⟨c, hcm, hb⟩)
  have hfr : ∀ b ∈ F2, usedS S b = false ∧ b ∉ F1 := fun b hb => by
    have h1 := (q.fresh b hb).1
    have h2 := h.stp.used b
    constructor
    · cases e : usedS S b with
      | false => rfl
      | true => rw [h2.2 ⟨.inl e, by simp⟩] at h1; cases h1
    · intro e
      rw [h2.2 ⟨.inr e, by simp⟩] at h1; cases h1
  have hst := h.stp.trans (Q := fun b => b = InT.at_ L) q.stp (fun b _ => by simp) (fun b r => .inr (.inr r))
  refine ⟨F1 ++ F2, ⟨?_, ?_, fun b hb => ?_, ?_, q.at_.trans hLa, q.on, q.ok, ?_, ?_, fun x hx => g8 x (q.all x hx), fun x hx => g9 x (q.sep x hx), fun m r' e => ?_⟩⟩
  · refine hst.mono (fun b r => ?_)
    rcases r with r | r
    · exact hpg b r
    · rw [r, hLa]; show _ ∈ InT.at_ t :: _; exact List.mem_cons_self
  · rw [List.nodup_append]
    exact ⟨h.nd, q.nd, fun a ha b hb e => by subst e; exact (hfr a hb).2 ha⟩
  · rcases List.mem_append.1 hb with hb | hb
    · exact h.fresh b hb
    · have := q.fresh b hb
      rw [h.stp.head] at this
      exact ⟨(hfr b hb).1, this.2⟩
  · rw [List.length_append]; have := h.len; have := q.len; omega
  · refine q.pages.trans ?_
    rw [← List.append_assoc]
    exact g6.append_right F2
  · rw [q.list, g7]
  · have := q.right m r' e
    exact ⟨this.on, this.ok, g8 _ this.key, this.below, this.above, fun x hx => g8 x (this.all x hx), this.some, fun x hx => g9 x (this.sep x hx), this.sabove⟩
theorem putR_law : ∀ (d : Nat) {S S' : StoreD} {t t' : TT d} {k v : ByteArray} {o : Option (ByteArray × TT d)}, PutR d S t k v S' t' o → Fm S → onT S d t → okT d t → KeyOk k → v.size ≤ 80 → (pagesT d t).Nodup → ∃ F, PutL d S t k v S' t' o F
  | 0, S, S', t, t', k, v, o, h, hf, hon, hok, hk, hv, hnd => by
    obtain ⟨F, q⟩ := cutT0_law h hf (PageN.given hon) (putL0_ok hok hk hv) (putL0_fit hon hok hk hv)
    have hall : ∀ x, x ∈ allT 0 (putL0 t k v) → x = k ∨ x ∈ allT 0 t := fun x hx => putN_mem.1 x hx
    refine ⟨F, ⟨q.stp.mono (fun b r => by rw [r]; show _ ∈ [_]; exact List.mem_cons_self), q.nd, q.fresh, q.len, q.at_, q.on, q.ok, q.pages, q.list.trans (putL0_list hok k v), fun x hx => hall x (q.all x hx), (fun x hx => by cases t'; cases hx), fun m r e => ?_⟩⟩
    have := q.right m r e
    exact ⟨this.on, this.ok, hall _ this.key, this.below, this.above, fun x hx => hall x (this.all x hx), this.some, (fun x hx => by cases hx), this.sabove⟩
  | d + 1, S, S', t, t', k, v, o, h, hf, hon, hok, hk, hv, hnd => by
    obtain ⟨c, hc, S1, c', o1, h1, h2⟩ := h
    have hcm : c ∈ InT.kids t := List.mem_of_getElem? hc
    obtain ⟨F1, q⟩ := putR_law d h1 hf (hon.2 c hcm) (hok.2.2.2.1 c hcm) hk hv ((nodup_kids hnd).1 c hcm).2
    cases o1 with
    | none =>
      obtain ⟨rfl, rfl, rfl⟩ := h2
      exact ⟨F1, up_none hf hon hok hk hnd hc q⟩
    | some x =>
      obtain ⟨mid, r⟩ := x
      exact up_some hf hon hok hk hnd hc q h2
end Go.Proofs.YtojoefcfimmipaaGreat
namespace Go.Proofs.YtojoefcfimmipaaGreat
set_option linter.unusedSimpArgs false
set_option linter.unusedVariables false
open Go.RowKit
structure LessL (d : Nat) (S : StoreD) (t : TT d) (l : List KV) (S' : StoreD) (t' : TT d) (G : List Nat) : Prop where
  stp : Stp (fun b => b ∈ pagesT d t) [] G S S'
  at_ : atT d t' = atT d t
  on : onT S' d t'
  ok : okT d t'
  pages : (pagesT d t' ++ G).Perm (pagesT d t)
  list : listT d t' = l
  all : ∀ x ∈ allT d t', x ∈ allT d t
  sep : ∀ x ∈ sepT d t', x ∈ sepT d t
theorem LessL.nd {d : Nat} {S S' : StoreD} {t t' : TT d} {l : List KV} {G : List Nat} (h : LessL d S t l S' t' G) (hn : (pagesT d t).Nodup) : (pagesT d t').Nodup ∧ G.Nodup ∧ (∀ b ∈ G, b ∈ pagesT d t ∧ b ∉ pagesT d t') ∧ ∀ b ∈ pagesT d t', b ∈ pagesT d t := by
  have h1 := h.pages.nodup_iff.2 hn
  rw [List.nodup_append] at h1
  exact ⟨h1.1, h1.2.1, fun b hb => ⟨h.pages.mem_iff.1 (List.mem_append_right _ hb), fun q => h1.2.2 b q b hb rfl⟩, fun b hb => h.pages.mem_iff.1 (List.mem_append_left _ hb)⟩
end Go.Proofs.YtojoefcfimmipaaGreat
namespace Go.Proofs.YtojoefcfimmipaaGreat
set_option linter.unusedSimpArgs false
set_option linter.unusedVariables false
open Go.RowKit
theorem LessL.same {d : Nat} {S : StoreD} {t : TT d} (hf : Fm S) (hon : onT S d t) (hok : okT d t) : LessL d S t (listT d t) S t [] :=
  ⟨Stp.refl hf.full, rfl, hon, hok, by simp, rfl, fun _ h => h, fun _ h => h⟩
theorem LessL.fm {d : Nat} {S S' : StoreD} {t t' : TT d} {l : List KV} {G : List Nat} (h : LessL d S t l S' t' G) (hf : Fm S) (hon : onT S d t) : Fm S' :=
  hf.stp h.stp (fun b hb => (onT_given d t hon b (h.pages.mem_iff.1 (List.mem_append_right _ hb))).1)
theorem LessL.trans {d : Nat} {S S' S'' : StoreD} {t t' t'' : TT d} {l l' : List KV} {G G' : List Nat} (h : LessL d S t l S' t' G) (k : LessL d S' t' l' S'' t'' G') (hn : (pagesT d t).Nodup) : LessL d S t l' S'' t'' (G ++ G') := by
  obtain ⟨n1, n2, n3, n4⟩ := h.nd hn
  refine ⟨?_, k.at_.trans h.at_, k.on, k.ok, ?_, k.list, fun x hx => h.all x (k.all x hx), fun x hx => h.sep x (k.sep x hx)⟩
  · have := h.stp.trans (Q := fun _ => False) k.stp (fun b q => by cases q) (fun b q => .inl (n4 b q))
    exact (by simpa using this.mono (P' := fun b => b ∈ pagesT d t) (fun b q => q.elim id False.elim))
  · rw [← List.append_assoc]
    refine (List.Perm.append_right G' List.perm_append_comm).trans ?_ |>.trans h.pages
    rw [List.append_assoc]
    exact (k.pages.append_left G).trans List.perm_append_comm
end Go.Proofs.YtojoefcfimmipaaGreat
namespace Go.Proofs.YtojoefcfimmipaaGreat
set_option linter.unusedSimpArgs false
set_option linter.unusedVariables false
open Go.RowKit
/-- what a tree hangs on -/
structure Frm (P : Nat → Prop) (F G : List Nat) (S S' : StoreD) : Prop where
  head : S'.head = S.head
  view : ∀ b, 2 ≤ b → ¬ P b → b ∉ F → viewS S' b = viewS S b
  used : ∀ b, usedS S' b = true ↔ (usedS S b = true ∨ b ∈ F) ∧ b ∉ G
theorem Stp.frm {P : Nat → Prop} {F G : List Nat} {S S' : StoreD} (h : Stp P F G S S') : Frm P F G S S' := ⟨h.head, h.view, h.used⟩
section
variable {P : Nat → Prop} {F G : List Nat} {S S' : StoreD}
theorem PageN.frm {a : Nat} {n : NodeD} (hp : PageN S a n) (h : Frm P F G S S') (h1 : ¬ P a) (h2 : a ∉ F) (h3 : a ∉ G) : PageN S' a n :=
  ⟨⟨hp.given.1, by rw [h.head]; exact hp.given.2.1, (h.used a).2 ⟨.inl hp.given.2.2, h3⟩⟩, hp.ok, hp.fits, by rw [h.view a hp.given.1 h1 h2]; exact hp.view⟩
theorem onT_frm (h : Frm P F G S S') : ∀ (d : Nat) (t : TT d), onT S d t → (∀ b ∈ pagesT d t, ¬ P b ∧ b ∉ F ∧ b ∉ G) → onT S' d t
  | 0, t, ho, hb => by
    have := hb (LeafT.at_ t) (by simp [pagesT])
    exact PageN.frm ho h this.1 this.2.1 this.2.2
  | d + 1, t, ho, hb => by
    have := hb (InT.at_ t) (by simp [pagesT])
    refine ⟨PageN.frm ho.1 h this.1 this.2.1 this.2.2, fun c hc => onT_frm h d c (ho.2 c hc) (fun b q => hb b ?_)⟩
    simp only [pagesT, List.mem_cons, List.mem_flatMap]
    exact .inr ⟨c, hc, q⟩
end
/-- a step that may turn the root of one tree, too -/
structure Big (i : Nat) (P : Nat → Prop) (F G : List Nat) (S S' : StoreD) : Prop where
  same : S' = { S with dirty := S'.dirty }
  full : FullV S'
  root : ∀ j, j < 16 → j ≠ i → rootS S' j = rootS S j
  view : ∀ b, 2 ≤ b → ¬ P b → b ∉ F → viewS S' b = viewS S b
  used : ∀ b, usedS S' b = true ↔ (usedS S b = true ∨ b ∈ F) ∧ b ∉ G
  dirt : ∀ b : Nat, 2 ≤ b → S'.dirty (b : Int) ≠ none → S.dirty (b : Int) ≠ none ∨ P b ∨ b ∈ F
section
variable {i : Nat} {P P' : Nat → Prop} {F G : List Nat} {S S' : StoreD}
theorem Big.head (h : Big i P F G S S') : S'.head = S.head := by rw [h.same]
theorem Big.frm (h : Big i P F G S S') : Frm P F G S S' := ⟨h.head, h.view, h.used⟩
theorem Stp.big (h : Stp P F G S S') (i : Nat) : Big i P F G S S' := ⟨h.same, h.full, fun j _ _ => h.root j, h.view, h.used, h.dirt⟩
theorem Big.mono (h : Big i P F G S S') (hP : ∀ b, P b → P' b) : Big i P' F G S S' := ⟨h.same, h.full, h.root, fun b h1 h2 h3 => h.view b h1 (fun q => h2 (hP b q)) h3, h.used, fun b h1 h2 => (h.dirt b h1 h2).imp_right (Or.imp_left (hP b))⟩
theorem Fm.big (h : Fm S) (k : Big i P F G S S') (hG : ∀ b ∈ G, 2 ≤ b) : Fm S' :=
  ⟨k.full, (k.used 0).2 ⟨.inl h.u0, fun q => by have := hG _ q; omega⟩, (k.used 1).2 ⟨.inl h.u1, fun q => by have := hG _ q; omega⟩, by rw [k.head]; exact h.most⟩
theorem Stp.setRoot (h : Stp P F G S S') (hi : i < 16) {n : Nat} (hn : n < 4294967296) : Big i P F G S (setRootP S' i n) ∧ rootS (setRootP S' i n) i = n := by
  have hv : (rootB (viewS S' 1) i n).size = 256 := rootB_size (h.full 1) hi n
  refine ⟨⟨by rw [h.same]; rfl, full_put h.full 1 (by rw [hv]; decide), fun j hj hne => ?_, fun b h1 h2 h3 => ?_, fun b => ?_, fun b h1 h2 => ?_⟩, ?_⟩
  · rw [root_set h.full hi hj hn, if_neg hne, h.root]
  · rw [view_set _ _ _ _ (by omega)]; exact h.view b h1 h2 h3
  · rw [used_set]; exact h.used b
  · refine h.dirt b h1 (fun q => h2 ?_)
    show updI S'.dirty 1 _ b = none
    unfold updI
    rw [if_neg (by omega)]
    exact q
  · rw [root_set h.full hi hi hn, if_pos rfl]
end
theorem Big.trans {i : Nat} {P P' Q : Nat → Prop} {F F' G G' : List Nat} {S S' S'' : StoreD} (h : Big i P F G S S') (k : Big i P' F' G' S' S'') (hG : ∀ b, b ∈ F' → b ∉ G) (hP : ∀ b, P' b → P b ∨ b ∈ F ∨ Q b) : Big i (fun b => P b ∨ Q b) (F ++ F') (G ++ G') S S'' := by
  refine ⟨by rw [k.same, h.same], k.full, fun j hj hne => (k.root j hj hne).trans (h.root j hj hne), fun b h1 h2 h3 => ?_, fun b => ?_, fun b h1 h2 => ?_⟩
  · rw [List.mem_append, not_or] at h3
    refine (k.view b h1 (fun q => ?_) h3.2).trans (h.view b h1 (fun q => h2 (.inl q)) h3.1)
    rcases hP b q with q | q | q
    · exact h2 (.inl q)
    · exact h3.1 q
    · exact h2 (.inr q)
  · rw [k.used, h.used, List.mem_append, List.mem_append]
    have := hG b
    constructor
    · rintro ⟨⟨q1, q2⟩ | q1, q3⟩
      · exact ⟨q1.imp_right Or.inl, fun q => q.elim q2 q3⟩
      · exact ⟨.inr (.inr q1), fun q => q.elim (this q1) q3⟩
    · rintro ⟨q1, q2⟩
      rw [not_or] at q2
      rcases q1 with q1 | q1 | q1
      · exact ⟨.inl ⟨.inl q1, q2.1⟩, q2.2⟩
      · exact ⟨.inl ⟨.inr q1, q2.1⟩, q2.2⟩
      · exact ⟨.inr q1, q2.2⟩
  · rw [List.mem_append]
    rcases k.dirt b h1 h2 with q | q | q
    · rcases h.dirt b h1 q with r | r | r
      · exact .inl r
      · exact .inr (.inl (.inl r))
      · exact .inr (.inr (.inl r))
    · rcases hP b q with q | q | q
      · exact .inr (.inl (.inl q))
      · exact .inr (.inr (.inl q))
      · exact .inr (.inl (.inr q))
    · exact .inr (.inr (.inr q))
/-- a tree, or none -/
inductive TrD where
  | no
  | yes (d : Nat) (t : TT d)
def TrD.list : TrD → List KV
  | .no => []
  | .yes d t => listT d t
def TrD.pages : TrD → List Nat
  | .no => []
  | .yes d t => pagesT d t
/-- how many pages Put may want -/
def TrD.need : TrD → Nat
  | .no => 1
  | .yes d _ => d + 2
def TrD.fine : TrD → Prop
  | .no => True
  | .yes d _ => d < 31
def TrS (S : StoreD) (i : Nat) : TrD → Prop
  | .no => rootS S i = 0
  | .yes d t => rootS S i = atT d t ∧ onT S d t ∧ okT d t ∧ (pagesT d t).Nodup
theorem TrS.given {S : StoreD} {i : Nat} : ∀ {T : TrD}, TrS S i T → ∀ b ∈ T.pages, GivenS S b
  | .no, _, b, hb => by cases hb
  | .yes d t, h, b, hb => onT_given d t h.2.1 b hb
theorem TrS.nd {S : StoreD} {i : Nat} : ∀ {T : TrD}, TrS S i T → T.pages.Nodup
  | .no, _ => List.nodup_nil
  | .yes _ _, h => h.2.2.2
theorem TrS.rise {S : StoreD} {i : Nat} : ∀ {T : TrD}, TrS S i T → RiseK T.list
  | .no, _ => List.Pairwise.nil
  | .yes d t, h => listT_rise d t h.2.2.1
theorem TrS.keys {S : StoreD} {i : Nat} : ∀ {T : TrD}, TrS S i T → ∀ x ∈ T.list, KeyOk x.1 ∧ x.2.size ≤ 80
  | .no, _, x, hx => by cases hx
  | .yes d t, h, x, hx => ⟨allT_key d t h.2.2.1 _ (listT_all d t x hx), listT_val d t h.2.2.1 x hx⟩
/-- another tree stays as it is -/
theorem TrS.other {i j : Nat} {P : Nat → Prop} {F G : List Nat} {S S' : StoreD} (hb : Big i P F G S S') (hj : j < 16) (hne : j ≠ i) : ∀ {T : TrD}, TrS S j T → (∀ b ∈ T.pages, ¬ P b ∧ b ∉ F ∧ b ∉ G) → TrS S' j T
  | .no, h, _ => by show rootS S' j = 0; rw [hb.root j hj hne]; exact h
  | .yes d t, h, hp => ⟨by rw [hb.root j hj hne]; exact h.1, onT_frm hb.frm d t h.2.1 hp, h.2.2⟩
/-- what Put makes of a tree -/
def PutTR (S : StoreD) (i : Nat) (k v : ByteArray) (S' : StoreD) (T' : TrD) : TrD → Prop
  | .no => ∃ a, lowS S = some a ∧ S' = setRootP (layP (allocP S a) a (leaf1 k v)) i a ∧ T' = .yes 0 (LeafT.mk a [k] [v])
  | .yes d t => ∃ S1 t' o, PutR d S t k v S1 t' o ∧ match o with
    | none => S' = S1 ∧ T' = .yes d t'
    | some x => ∃ top, lowS S1 = some top ∧ S' = setRootP (layP (allocP S1 top) top ⟨false, [x.1], [], [(atT d t' : Int), (atT d x.2 : Int)]⟩) i top ∧ T' = .yes (d + 1) (InT.mk top [x.1] [t', x.2])
structure PutTL (S : StoreD) (i : Nat) (T : TrD) (k v : ByteArray) (S' : StoreD) (T' : TrD) (F : List Nat) : Prop where
  big : Big i (fun b => b ∈ T.pages) F [] S S'
  nd : F.Nodup
  fresh : ∀ b ∈ F, usedS S b = false ∧ 2 ≤ b ∧ b < S.head.pages
  len : F.length ≤ T.need
  tr : TrS S' i T'
  pages : T'.pages.Perm (T.pages ++ F)
  list : T'.list = insKV T.list k v
theorem putTR_law {S S' : StoreD} {i : Nat} {k v : ByteArray} {T T' : TrD} (hi : i < 16) (h : PutTR S i k v S' T' T) (hf : Fm S) (ht : TrS S i T) (hk : KeyOk k) (hv : v.size ≤ 80) : ∃ F, PutTL S i T k v S' T' F := by
  have hm := hf.most
  cases T with
  | no =>
    obtain ⟨a, ha, rfl, rfl⟩ := h
    obtain ⟨r1, r2, r3⟩ := lowS_some ha
    have hk2 := hk.2
    have hnk : NodeOk (leaf1 k v) := ⟨fun x hx => by simp [leaf1] at hx; subst hx; omega, fun x hx => by simp [leaf1] at hx; subst hx; omega, fun c hc => by simp [leaf1] at hc, by simp [leaf1], fun _ => ⟨rfl, rfl⟩, fun q => by cases q⟩
    have hsz : sizeN (leaf1 k v) ≤ 256 := by simp [sizeN, leaf1, kSize]; omega
    have t1 := stp_alloc hf.full r1 (by omega : a < 2048)
    have g1 : GivenS (allocP S a) a := t1.givenF r1 r2 (by simp) (by simp)
    have t2 := stp_lay t1.full r1 hnk hsz
    have p2 := pageN_lay g1 hnk hsz
    have t12 := t1.trans (Q := fun _ => False) t2 (fun b q => by cases q) (fun b q => .inr (.inl (by subst q; simp)))
    obtain ⟨t3, hr3⟩ := Stp.setRoot (i := i) (n := a) t12 hi (by omega)
    have hp : PageN (setRootP (layP (allocP S a) a (leaf1 k v)) i a) a (leaf1 k v) :=
      ⟨⟨r1, r2, by rw [used_set]; exact p2.given.2.2⟩, p2.ok, p2.fits, by rw [view_set _ _ _ _ (by omega)]; exact p2.view⟩
    refine ⟨[a], ⟨?_, by simp, fun b q => ?_, by simp [TrD.need], ⟨hr3, hp, ⟨List.pairwise_singleton _ _, rfl, fun x hx => ?_, fun x hx => ?_⟩, by simp [pagesT]⟩, List.Perm.refl _, ?_⟩⟩
    · have := t3.mono (P' := fun b => b ∈ TrD.pages .no) (fun b q => (q.elim id id).elim)
      simpa using this
    · simp only [List.mem_singleton] at q; subst q; exact ⟨r3, r1, r2⟩
    · simp only [List.mem_singleton] at hx; subst hx; exact hk
    · simp only [List.mem_singleton] at hx; subst hx; exact hv
    · rfl
  | yes d t =>
    obtain ⟨hr, hon, hok, hnd⟩ := ht
    obtain ⟨S1, t', o, h1, h2⟩ := h
    obtain ⟨F, q⟩ := putR_law d h1 hf hon hok hk hv hnd
    have hun : ∀ b, usedS S b = true → b ∉ F := fun b hb r => by rw [(q.fresh b r).1] at hb; cases hb
    have hnd' : (pagesT d t' ++ pagesO d o).Nodup := by
      refine q.pages.nodup_iff.2 ?_
      rw [List.nodup_append]
      exact ⟨hnd, q.nd, fun a ha b hb e => by subst e; exact hun a (onT_given d t hon a ha).2.2 hb⟩
    cases o with
    | none =>
      obtain ⟨rfl, rfl⟩ := h2
      have e1 : pagesO d none = [] := rfl
      have e2 : listO d none = [] := rfl
      refine ⟨F, ⟨q.stp.big i, q.nd, q.fresh, Nat.le_succ_of_le q.len, ⟨by rw [q.stp.root, q.at_]; exact hr, q.on, q.ok, by rw [e1, List.append_nil] at hnd'; exact hnd'⟩, ?_, ?_⟩⟩
      · have := q.pages; rwa [e1, List.append_nil] at this
      · have := q.list; rwa [e2, List.append_nil] at this
    | some x =>
      obtain ⟨mid, r⟩ := x
      obtain ⟨top, htop, rfl, rfl⟩ := h2
      have hR := q.right mid r rfl
      have hf1 := hf.stp q.stp (fun b q => by cases q)
      obtain ⟨r1, r2, r3⟩ := lowS_some htop
      have hm1 := hf1.most
      have hmk : KeyOk mid := keyOk_of hok hk mid hR.key
      have hmk2 := hmk.2
      have ga := onT_given d t' q.on _ (pagesT_at d t')
      have gr := onT_given d r hR.on _ (pagesT_at d r)
      have hnk : NodeOk ⟨false, [mid], [], [(atT d t' : Int), (atT d r : Int)]⟩ := by
        refine ⟨fun x hx => ?_, fun x hx => by simp at hx, fun c hc => ?_, by simp, (fun q => by cases q), fun _ => ⟨rfl, rfl⟩⟩
        · simp only [List.mem_singleton] at hx; subst hx; omega
        · have := ga.2.1
          have := gr.2.1
          simp only [List.mem_cons, List.not_mem_nil, or_false] at hc
          rcases hc with rfl | rfl <;> exact ⟨by omega, by omega⟩
      have hsz : sizeN ⟨false, [mid], [], [(atT d t' : Int), (atT d r : Int)]⟩ ≤ 256 := by simp [sizeN, kSize]; omega
      have t1 := stp_alloc hf1.full r1 (by omega : top < 2048)
      have g1 : GivenS (allocP S1 top) top := t1.givenF r1 r2 (by simp) (by simp)
      have t2 := stp_lay t1.full r1 hnk hsz
      have p2 := pageN_lay g1 hnk hsz
      have t12 := t1.trans (Q := fun _ => False) t2 (fun b q => by cases q) (fun b q => .inr (.inl (by subst q; simp)))
      obtain ⟨t3, hr3⟩ := Stp.setRoot (i := i) (n := top) t12 hi (by omega)
      have tA := (q.stp.big i).trans (Q := fun _ => False) t3 (fun b _ => by simp) (fun b r => .inr (.inr ((r.elim id id))))
      have hkid : ∀ c, onT S1 d c → onT (setRootP (layP (allocP S1 top) top ⟨false, [mid], [], [(atT d t' : Int), (atT d r : Int)]⟩) i top) d c := fun c hc =>
        onT_frm t3.frm d c hc (fun b hb => by
          have hu := (onT_given d c hc b hb).2.2
          refine ⟨fun r => (r.elim id id).elim, ?_, by simp⟩
          simp only [List.append_nil, List.mem_singleton]
          intro e; subst e; rw [r3] at hu; cases hu)
      have hp : PageN (setRootP (layP (allocP S1 top) top ⟨false, [mid], [], [(atT d t' : Int), (atT d r : Int)]⟩) i top) top ⟨false, [mid], [], [(atT d t' : Int), (atT d r : Int)]⟩ :=
        ⟨⟨r1, r2, by rw [used_set]; exact p2.given.2.2⟩, p2.ok, p2.fits, by rw [view_set _ _ _ _ (by omega)]; exact p2.view⟩
      have htf : usedS S top = false ∧ top ∉ F := by
        have := q.stp.used top
        constructor
        · cases e : usedS S top with
          | false => rfl
          | true => rw [this.2 ⟨.inl e, by simp⟩] at r3; cases r3
        · intro e; rw [this.2 ⟨.inr e, by simp⟩] at r3; cases r3
      have hflat : (([t', r] : List (TT d)).flatMap (pagesT d)) = pagesT d t' ++ pagesT d r := by simp
      have hpo : pagesO d (some (mid, r)) = pagesT d r := rfl
      rw [hpo] at hnd'
      refine ⟨F ++ [top], ⟨?_, ?_, fun b hb => ?_, ?_, ⟨hr3, ⟨hp, fun c hc => ?_⟩, ⟨List.pairwise_singleton _ _, rfl, fun x hx => ?_, fun c hc => ?_, sep_iff.2 (fun j c hc x hx i' s hs => ?_), fun j c hc x hx i' s hs hij => ?_⟩, ?_⟩, ?_, ?_⟩⟩
      · have := tA.mono (P' := fun b => b ∈ TrD.pages (.yes d t)) (fun b r => r.elim id False.elim)
        simpa using this
      · rw [List.nodup_append]
        exact ⟨q.nd, by simp, fun a ha b hb e => by simp only [List.mem_singleton] at hb; subst hb; subst e; exact htf.2 ha⟩
      · rcases List.mem_append.1 hb with hb | hb
        · exact q.fresh b hb
        · simp only [List.mem_singleton] at hb; subst hb
          rw [q.stp.head] at r2
          exact ⟨htf.1, r1, r2⟩
      · rw [List.length_append]; have := q.len; simp only [List.length_singleton, TrD.need]; omega
      · simp only [List.mem_cons, List.not_mem_nil, or_false] at hc
        rcases hc with rfl | rfl
        · exact hkid _ q.on
        · exact hkid _ hR.on
      · simp only [List.mem_singleton] at hx; subst hx; exact hmk
      · simp only [List.mem_cons, List.not_mem_nil, or_false] at hc
        rcases hc with rfl | rfl
        · exact q.ok
        · exact hR.ok
      · match i', hs with
        | 0, hs =>
          injection hs with hs
          subst hs
          match j, hc with
          | 0, hc => injection hc with hc; subst hc; exact ⟨fun q => by omega, fun _ => hR.below x hx⟩
          | 1, hc => injection hc with hc; subst hc; exact ⟨fun _ => hR.above x hx, fun q => by omega⟩
      · match i', hs with
        | 0, hs =>
          injection hs with hs
          subst hs
          match j, hc with
          | 0, hc => omega
          | 1, hc => injection hc with hc; subst hc; exact hR.sabove x hx
      · show (top :: ([t', r] : List (TT d)).flatMap (pagesT d)).Nodup
        rw [hflat, List.nodup_cons]
        refine ⟨fun hb => ?_, hnd'⟩
        have hu : usedS S1 top = true := by
          rcases List.mem_append.1 hb with hb | hb
          · exact (onT_given d t' q.on _ hb).2.2
          · exact (onT_given d r hR.on _ hb).2.2
        rw [r3] at hu; cases hu
      · show (top :: ([t', r] : List (TT d)).flatMap (pagesT d)).Perm (pagesT d t ++ (F ++ [top]))
        rw [hflat, ← List.append_assoc]
        exact (List.Perm.cons top q.pages).trans (List.perm_append_singleton _ _).symm
      · show ([t', r] : List (TT d)).flatMap (listT d) = insKV (listT d t) k v
        rw [← q.list]
        simp [listO]
end Go.Proofs.YtojoefcfimmipaaGreat
