/- The order of keys is that of the numbers that they are made of. Conditions: numbers that an int holds. -/
/- A table's data: five trees of one list of operations (plain law). No program. -/
/- The beginning of layer 13's statements: a disk, a pager, and a table. Conditions: none. -/
/- table.Get. Conditions: a table's trees. -/
/- table.Delete where there is nothing; table.Put. Conditions: a table's trees, room. -/
import Derived.Test.YtojoefcfimmipaaGreatQ26
import Derived.Test.YtojoefcfimmipaaGreatQ29
import Derived.OwnWalk
namespace Go.Proofs.YtojoefcfimmipaaGreat
set_option linter.unusedSimpArgs false
set_option linter.unusedVariables false
open Go.RowKit
theorem beN_ord {n : Int} (h : IsInt n) : (beN (ordL n) : Int) = n + 9223372036854775808 := by
  have := unord_ord n h.1 h.2
  unfold unordI at this
  omega
theorem ordL_inj {a b : Int} (ha : IsInt a) (hb : IsInt b) (h : ordL a = ordL b) : a = b := by
  have h1 := beN_ord ha
  have h2 := beN_ord hb
  rw [h] at h1
  omega
theorem keyL_cons (x : Int) (l : List Int) : keyL (x :: l) = ordL x ++ keyL l := by unfold keyL; rw [List.flatMap_cons]
/-- a key of numbers -/
def keyB (l : List Int) : ByteArray := bts (keyL l)
theorem keyL_inj : ∀ (a b : List Int), (∀ x ∈ a, IsInt x) → (∀ x ∈ b, IsInt x) → keyL a = keyL b → a = b
  | [], [], _, _, _ => rfl
  | [], y :: b, _, _, h => by
    have := congrArg List.length h
    rw [keyL_len, keyL_len] at this
    simp at this
  | x :: a, [], _, _, h => by
    have := congrArg List.length h
    rw [keyL_len, keyL_len] at this
    simp at this
  | x :: a, y :: b, ha, hb, h => by
    rw [keyL_cons, keyL_cons] at h
    obtain ⟨h1, h2⟩ := List.append_inj h (by rw [ordL_len, ordL_len])
    rw [ordL_inj (ha x (by simp)) (hb y (by simp)) h1, keyL_inj a b (fun z hz => ha z (by simp [hz])) (fun z hz => hb z (by simp [hz])) h2]
theorem keyB_inj {a b : List Int} (ha : ∀ x ∈ a, IsInt x) (hb : ∀ x ∈ b, IsInt x) (h : keyB a = keyB b) : a = b := by
  have h1 : (keyB a).data.toList = (keyB b).data.toList := by rw [h]
  unfold keyB at h1
  rw [bts_data, bts_data] at h1
  exact keyL_inj a b ha hb h1
end Go.Proofs.YtojoefcfimmipaaGreat
namespace Go.Proofs.YtojoefcfimmipaaGreat
set_option linter.unusedSimpArgs false
set_option linter.unusedVariables false
open Go.RowKit
def recW (i : Nat) (o : OpD) : ByteArray := if i = 0 then bts (opL o) else ⟨#[]⟩
theorem OpIn.way {o : OpD} (h : OpIn o) (i : Nat) : ∀ x ∈ wayL i o, In64 x := by
  have h1 := h.nums
  have h2 := h.id
  have h3 : endI o ≤ 1099511627777 ∧ 0 ≤ endI o := by
    unfold endI
    split
    · rename_i hd; have := h.yes hd; have := h.invoke; omega
    · omega
  have hm : ∀ x ∈ opV o, In64 x := fun x hx => by have := h1 x hx; unfold In64; omega
  unfold wayL
  intro x hx
  split at hx <;> simp only [List.mem_cons, List.not_mem_nil, or_false] at hx
  · subst hx; exact hm _ (by simp [opV])
  · rcases hx with rfl | rfl | rfl <;> exact hm _ (by simp [opV])
  · rcases hx with rfl | rfl | rfl
    · exact hm _ (by simp [opV])
    · unfold In64; omega
    · exact hm _ (by simp [opV])
  · rcases hx with rfl | rfl | rfl <;> exact hm _ (by simp [opV])
  · rcases hx with rfl | rfl <;> exact hm _ (by simp [opV])
theorem wayL_last (i : Nat) (o : OpD) : (wayL i o).getLast? = some o.id := by unfold wayL; split <;> rfl
theorem wayK_inj {i : Nat} {a b : OpD} (ha : ∀ x ∈ wayL i a, In64 x) (hb : ∀ x ∈ wayL i b, In64 x) (h : wayK i a = wayK i b) : a.id = b.id := by
  have := keyB_inj ha hb h
  have h1 := wayL_last i a
  rw [this, wayL_last i b] at h1
  injection h1 with h1
  exact h1.symm
theorem recW_size (i : Nat) {o : OpD} (h : OpIn o) : (recW i o).size ≤ 80 := by
  unfold recW
  split
  · rw [bts_size]; have := opL_len h; omega
  · simp [ByteArray.size]
theorem insKV_mem {l : List KV} (h : RiseK l) (k v : ByteArray) (x : KV) : x ∈ insKV l k v ↔ x = (k, v) ∨ (x ∈ l ∧ x.1 ≠ k) := by
  unfold insKV
  rw [List.mem_append, List.mem_cons, List.mem_filter, List.mem_filter]
  constructor
  · rintro (⟨h1, h2⟩ | h1 | ⟨h1, h2⟩)
    · exact .inr ⟨h1, ne_of_lt h2⟩
    · exact .inl h1
    · exact .inr ⟨h1, fun e => ne_of_lt h2 e.symm⟩
  · rintro (h1 | ⟨h1, h2⟩)
    · exact .inr (.inl h1)
    · cases hlt : ltB x.1 k with
      | true => exact .inl ⟨h1, rfl⟩
      | false =>
        cases hgt : ltB k x.1 with
        | true => exact .inr (.inr ⟨h1, rfl⟩)
        | false => exact absurd (ltB_tri hlt hgt) h2
def updF {α : Type} (f : Nat → α) (i : Nat) (v : α) : Nat → α := fun j => if j = i then v else f j
theorem updF_same {α : Type} (f : Nat → α) (i : Nat) (v : α) : updF f i v i = v := by unfold updF; rw [if_pos rfl]
theorem updF_other {α : Type} (f : Nat → α) {i j : Nat} (v : α) (h : j ≠ i) : updF f i v j = f j := by unfold updF; rw [if_neg h]
def depT : TrD → Nat
  | .no => 0
  | .yes d _ => d + 1
theorem need_dep (T : TrD) : T.need = depT T + 1 := by cases T <;> rfl
theorem fine_dep {T : TrD} (h : depT T ≤ 31) : T.fine := by cases T with
  | no => trivial
  | yes d t => have : d + 1 ≤ 31 := h; show d < 31; omega
theorem putTR_dep {S S' : StoreD} {i : Nat} {k v : ByteArray} {T T' : TrD} (h : PutTR S i k v S' T' T) : depT T' ≤ depT T + 1 := by
  cases T with
  | no => obtain ⟨a, _, _, rfl⟩ := h; exact Nat.le_refl _
  | yes d t =>
    obtain ⟨S1, t', o, _, hm⟩ := h
    cases o with
    | none => obtain ⟨_, rfl⟩ := hm; exact Nat.le_succ _
    | some x => obtain ⟨top, _, _, rfl⟩ := hm; exact Nat.le_refl _
/-- five trees, each of which has the operations of a list -/
structure Tab (S : StoreD) (Ts : Nat → TrD) (L : Nat → List OpD) : Prop where
  fm : Fm S
  tr : ∀ i, i < 5 → TrS S i (Ts i)
  disj : ∀ i j, i < 5 → j < 5 → i ≠ j → ∀ b ∈ (Ts i).pages, b ∉ (Ts j).pages
  ok : ∀ i, i < 5 → ∀ o ∈ L i, opChk o = 0
  ids : ∀ i, i < 5 → (L i).Pairwise (fun a b => a.id ≠ b.id)
  mem : ∀ i, i < 5 → ∀ x : KV, x ∈ (Ts i).list ↔ ∃ o ∈ L i, x = (wayK i o, recW i o)
theorem Tab.put {S S' : StoreD} {Ts : Nat → TrD} {L : Nat → List OpD} {i : Nat} {o : OpD} {T' : TrD} {F : List Nat} (h : Tab S Ts L) (hi : i < 5) (ho : opChk o = 0) (hn : ∀ x ∈ L i, x.id ≠ o.id) (hp : PutTL S i (Ts i) (wayK i o) (recW i o) S' T' F) : Tab S' (updF Ts i T') (updF L i (o :: L i)) := by
  have hfr : ∀ j, j < 5 → ∀ b ∈ (Ts j).pages, b ∉ F := fun j hj b hb q => by
    have h1 := ((h.tr j hj).given b hb).2.2
    rw [(hp.fresh b q).1] at h1; cases h1
  refine ⟨h.fm.big hp.big (fun b q => by cases q), fun j hj => ?_, fun j k hj hk hne b hb => ?_, fun j hj x hx => ?_, fun j hj => ?_, fun j hj x => ?_⟩
  · by_cases e : j = i
    · subst e; rw [updF_same]; exact hp.tr
    · rw [updF_other _ _ e]
      exact TrS.other hp.big (by omega) e (h.tr j hj) (fun b hb => ⟨fun q => h.disj j i hj hi e b hb q, hfr j hj b hb, by simp⟩)
  · by_cases e : j = i
    · subst e
      rw [updF_same] at hb
      rw [updF_other _ _ (Ne.symm hne)]
      rcases List.mem_append.1 (hp.pages.mem_iff.1 hb) with q | q
      · exact h.disj j k hj hk hne b q
      · exact fun r => hfr k hk b r q
    · rw [updF_other _ _ e] at hb
      by_cases e2 : k = i
      · subst e2
        rw [updF_same]
        intro q
        rcases List.mem_append.1 (hp.pages.mem_iff.1 q) with q | q
        · exact h.disj j k hj hk hne b hb q
        · exact hfr j hj b hb q
      · rw [updF_other _ _ e2]; exact h.disj j k hj hk hne b hb
  · by_cases e : j = i
    · subst e
      rw [updF_same] at hx
      rcases List.mem_cons.1 hx with rfl | hx
      · exact ho
      · exact h.ok j hj x hx
    · rw [updF_other _ _ e] at hx; exact h.ok j hj x hx
  · by_cases e : j = i
    · subst e
      rw [updF_same]
      exact List.pairwise_cons.2 ⟨fun x hx => (hn x hx).symm, h.ids j hj⟩
    · rw [updF_other _ _ e]; exact h.ids j hj
  · by_cases e : j = i
    · subst e
      rw [updF_same, updF_same, hp.list, insKV_mem (h.tr j hj).rise]
      constructor
      · rintro (rfl | ⟨h1, h2⟩)
        · exact ⟨o, List.mem_cons_self, rfl⟩
        · obtain ⟨y, hy, rfl⟩ := (h.mem j hj x).1 h1
          exact ⟨y, List.mem_cons_of_mem _ hy, rfl⟩
      · rintro ⟨y, hy, rfl⟩
        rcases List.mem_cons.1 hy with rfl | hy
        · exact .inl rfl
        · refine .inr ⟨(h.mem j hj _).2 ⟨y, hy, rfl⟩, fun q => hn y hy ?_⟩
          exact wayK_inj (OpIn.way (OpIn.of (h.ok j hj y hy)) j) (OpIn.way (OpIn.of ho) j) q
    · rw [updF_other _ _ e, updF_other _ _ e]; exact h.mem j hj x
theorem Tab.congr {S : StoreD} {Ts Ts' : Nat → TrD} {L L' : Nat → List OpD} (h : Tab S Ts L) (h1 : ∀ i, i < 5 → Ts' i = Ts i) (h2 : ∀ i, i < 5 → L' i = L i) : Tab S Ts' L' :=
  ⟨h.fm, fun i hi => by rw [h1 i hi]; exact h.tr i hi, fun i j hi hj hn => by rw [h1 i hi, h1 j hj]; exact h.disj i j hi hj hn, fun i hi => by rw [h2 i hi]; exact h.ok i hi, fun i hi => by rw [h2 i hi]; exact h.ids i hi, fun i hi => by rw [h1 i hi, h2 i hi]; exact h.mem i hi⟩
/-- the pages that Put may want for the first k trees -/
def needs (Ts : Nat → TrD) : Nat → Nat
  | 0 => 0
  | k + 1 => needs Ts k + (Ts k).need
theorem Tab.putR {S S' : StoreD} {Ts : Nat → TrD} {L : Nat → List OpD} {i : Nat} {o : OpD} {T' : TrD} (h : Tab S Ts L) (hi : i < 5) (ho : opChk o = 0) (hn : ∀ x ∈ L i, x.id ≠ o.id) (hp : PutTR S i (wayK i o) (recW i o) S' T' (Ts i)) :
    Tab S' (updF Ts i T') (updF L i (o :: L i)) ∧ roomS S ≤ roomS S' + (Ts i).need := by
  obtain ⟨F, hl⟩ := putTR_law (by omega) hp h.fm (h.tr i hi) (wayK_ok i o) (recW_size i (OpIn.of ho))
  refine ⟨h.put hi ho hn hl, ?_⟩
  have := room_used hl.big.used hl.big.head hl.nd (fun b hb => ⟨(hl.fresh b hb).1, (hl.fresh b hb).2.2⟩)
  have := hl.len
  omega
def opId (id : Int) : OpD := ⟨id, 0, 0, 0, 0, 0, 0, false, 0, 0, 0⟩
theorem Tab.get {S : StoreD} {Ts : Nat → TrD} {L : Nat → List OpD} (h : Tab S Ts L) {id : Int} (hid : In64 id) : getKV (Ts 0).list (wayK 0 (opId id)) = (getL (L 0) id).map (fun o => bts (opL o)) := by
  have hin : ∀ x ∈ wayL 0 (opId id), In64 x := fun x hx => by
    have : x = id := by simpa [wayL, opId] using hx
    rw [this]; exact hid
  cases hg : getL (L 0) id with
  | none =>
    refine getKV_none (fun x hx e => ?_)
    obtain ⟨y, hy, rfl⟩ := (h.mem 0 (by omega) x).1 hx
    have h1 : y.id = id := wayK_inj (OpIn.way (OpIn.of (h.ok 0 (by omega) y hy)) 0) hin e
    unfold getL at hg
    rw [List.find?_eq_none] at hg
    have := hg y hy
    simp [h1] at this
  | some o =>
    unfold getL at hg
    have h1 : o.id = id := by have := List.find?_some hg; simpa using this
    have h2 := List.mem_of_find?_eq_some hg
    refine getKV_some (h.tr 0 (by omega)).rise ((h.mem 0 (by omega) _).2 ⟨o, h2, ?_⟩)
    have e1 : wayK 0 (opId id) = wayK 0 o := by unfold wayK wayL; rw [h1]; rfl
    rw [e1]
    rfl
end Go.Proofs.YtojoefcfimmipaaGreat
namespace Go.Proofs.YtojoefcfimmipaaGreat
set_option linter.unusedSimpArgs false
set_option linter.unusedVariables false
open Go.RowKit
/-- what a statement begins with: a disk of its own, a pager, whose trees are all empty -/
structure Begun (w : World) (p : Nat) (F : Nat → Prop) (n room : Nat) (w' : World) : Prop where
  pag : PagerAt w' p F (readyS0 n room)
  ext : Ext w w'
  new : ∀ i, F i → w.heap.size ≤ i
theorem Keeps.fresh {F F' : Nat → Prop} {w w1 w2 : World} (h : Keeps F F' w1 w2) (hx : Ext w w1) (hF : ∀ i, F i → w.heap.size ≤ i) : Ext w w2 ∧ ∀ i, F' i → w.heap.size ≤ i := by
  refine ⟨((Only.of (F := fun _ => False) hx).trans h.only (fun i q => .inr (hF i q))).toExt (fun _ q => q.elim), fun i q => ?_⟩
  rcases h.new i q with r | r
  · exact hF i r
  · have := hx.size; omega
set_option maxRecDepth 100000 in
set_option maxHeartbeats 4000000 in
theorem begun13_any (w : World) :
    Calls Tryz.prog 36 #[] w fun e w' => ∃ d p tb ts F, e = .returned (.tuple #[.pointer (some ⟨d, 0, none⟩), .pointer (some ⟨p, 0, none⟩), .pointer (some ⟨tb, 0, none⟩)]) ∧ TblAt w' tb p ts F ∧ Begun w p F 1800 860 w' ∧ w.heap.size ≤ tb := by
  have cN : Calls Tryz.prog 80 #[.int .i64 1800] w _ := diskNew_any 1800 w (by omega) (by omega)
  have cF : Hid (∀ W (g : Nat) (F1 : Nat → Prop), DiskAt W g F1 (newD 1800) → Calls Tryz.prog 81 #[.pointer (some ⟨g, 0, none⟩), .int .i64 860] W fun e w' => e = .returned (.int .i64 0) ∧ ∃ F', DiskAt w' g F' (fmtD 1800 860 (pgN 1800 860)) ∧ Keeps F1 F' W w') := fun W g F1 hW => format_new 1800 860 (pgN 1800 860) W hW (by omega) (by omega) (by omega) rfl
  have cO : Hid (∀ W (g : Nat) (F2 : Nat → Prop), DiskAt W g F2 (fmtD 1800 860 (pgN 1800 860)) → Calls Tryz.prog 82 #[.pointer (some ⟨g, 0, none⟩)] W fun e w' => ∃ s F', e = .returned (.tuple #[.pointer (some ⟨s, 0, none⟩), .int .i64 0]) ∧ StoreAt w' s F' (freshS 1800 860) ∧ Keeps F2 F' W w' ∧ W.heap.size ≤ s) := fun W g F2 hW => storeOpen0 (freshH 1800 860) W hW rfl (by rw [fmt_len]; omega) (fresh_head (by omega) (by omega) (by omega)) (fresh_newest (by omega) (by omega) (by omega)) rfl
  have cP : Hid (∀ W (s : Nat) (F2 : Nat → Prop), StoreAt W s F2 (freshS 1800 860) → Calls Tryz.prog 83 #[.pointer (some ⟨s, 0, none⟩)] W fun e w' => ∃ p F', e = .returned (.tuple #[.pointer (some ⟨p, 0, none⟩), .int .i64 0]) ∧ PagerAt w' p F' (freshS 1800 860) ∧ Keeps F2 F' W w' ∧ W.heap.size ≤ p) := fun W s F2 hW => pagerNew_any W hW (ready_live 1800 860) (by decide)
  have cG : Hid (∀ W (p : Nat) (F2 : Nat → Prop), PagerAt W p F2 (freshS 1800 860) → Calls Tryz.prog 84 #[.pointer (some ⟨p, 0, none⟩)] W fun e w' => e = .returned (.int .i64 0) ∧ ∃ F', PagerAt w' p F' (readyS0 1800 860) ∧ Keeps F2 F' W w') := fun W p F2 hW => pformat_any W hW
  go_enter Tryz.func36, Tryz.ntmps36
  go_wp2_with (first | (go_at_call 80; (with_reducible refine cN.mono ?_); clear cN; rintro e w1 ⟨g, F1, rfl, hd1, hx1, hn1⟩; have HX1 := Lib.hid hx1; have HN1 := Lib.hid hn1; have HD1 := Lib.hid hd1; clear hx1 hn1 hd1) | (go_at_call 81; (with_reducible refine (cF.out _ _ _ HD1.out).mono ?_); clear cF; rintro e w2 ⟨rfl, F2, hd2, hk2⟩; have HK2 := Lib.hid hk2; have HD2 := Lib.hid hd2; clear hk2 hd2) | (go_at_call 82; (with_reducible refine (cO.out _ _ _ HD2.out).mono ?_); clear cO; rintro e w3 ⟨s, F3, rfl, hs3, hk3, hz3⟩; have HK3 := Lib.hid hk3; have HS3 := Lib.hid hs3; clear hk3 hs3 hz3) | (go_at_call 83; (with_reducible refine (cP.out _ _ _ HS3.out).mono ?_); clear cP; rintro e w4 ⟨p, F4, rfl, hp4, hk4, hz4⟩; have HK4 := Lib.hid hk4; have HP4 := Lib.hid hp4; clear hk4 hp4 hz4) | (go_at_call 84; (with_reducible refine (cG.out _ _ _ HP4.out).mono ?_); clear cG; rintro e w5 ⟨rfl, F5, hp5, hk5⟩; have HK5 := Lib.hid hk5; have HP5 := Lib.hid hp5; clear hk5 hp5; have cT := tblOpen_any w5 HP5.out) | (go_at_call 31; (with_reducible refine cT.mono ?_); clear cT; rintro e w6 ⟨tb, ts, F6, rfl, ht6, hp6, hk6, hz6⟩))
  go_ret3
  have h1 := ((((HK2.out.trans HK3.out).trans HK4.out).trans HK5.out).trans hk6).fresh HX1.out HN1.out
  have h2 := Nat.le_trans (Nat.le_trans (Nat.le_trans (Nat.le_trans HX1.out.size HK2.out.only.size) HK3.out.only.size) (Nat.le_trans HK4.out.only.size HK5.out.only.size)) hz6
  exact ⟨g, p, tb, ts, F6, rfl, ht6, ⟨hp6, h1.1, h1.2⟩, h2⟩
end Go.Proofs.YtojoefcfimmipaaGreat
namespace Go.Proofs.YtojoefcfimmipaaGreat
set_option linter.unusedSimpArgs false
set_option linter.unusedVariables false
open Go.RowKit
def getR : Option OpD → Value
  | some o => .tuple #[o.val, .int .i64 0]
  | none => .tuple #[opZero.val, .int .i64 6]
theorem TblAt.keep {w w' : World} {tb p : Nat} {ts : Nat → Nat} {F F' : Nat → Prop} (h : TblAt w tb p ts F) (hk : Keeps F F' w w') : TblAt w' tb p ts F' :=
  ⟨hk.only.row h.row h.out, fun j hj => hk.only.row (h.tree j hj) (h.outs j hj), hk.out h.row.lt h.out, fun j hj => hk.out (h.tree j hj).lt (h.outs j hj)⟩
theorem TblAt.ext {w w' : World} {tb p : Nat} {ts : Nat → Nat} {F : Nat → Prop} (h : TblAt w tb p ts F) (hk : Ext w w') : TblAt w' tb p ts F := h.keep (Keeps.of hk)
theorem only_set11 (w : World) (B : Nat) (v0 v1 v2 v3 v4 v5 v6 v7 v8 v9 v10 : Value) : Only (fun i => i = B) w (((((((((((w.setCell ⟨B, 0, none⟩ v0).setCell ⟨B, 1, none⟩ v1).setCell ⟨B, 2, none⟩ v2).setCell ⟨B, 3, none⟩ v3).setCell ⟨B, 4, none⟩ v4).setCell ⟨B, 5, none⟩ v5).setCell ⟨B, 6, none⟩ v6).setCell ⟨B, 7, none⟩ v7).setCell ⟨B, 8, none⟩ v8).setCell ⟨B, 9, none⟩ v9).setCell ⟨B, 10, none⟩ v10) := (((((((((((Only.refl.setCell (F := fun i => i = B) (p := ⟨B, 0, none⟩) (.inl rfl) v0).setCell (F := fun i => i = B) (p := ⟨B, 1, none⟩) (.inl rfl) v1).setCell (F := fun i => i = B) (p := ⟨B, 2, none⟩) (.inl rfl) v2).setCell (F := fun i => i = B) (p := ⟨B, 3, none⟩) (.inl rfl) v3).setCell (F := fun i => i = B) (p := ⟨B, 4, none⟩) (.inl rfl) v4).setCell (F := fun i => i = B) (p := ⟨B, 5, none⟩) (.inl rfl) v5).setCell (F := fun i => i = B) (p := ⟨B, 6, none⟩) (.inl rfl) v6).setCell (F := fun i => i = B) (p := ⟨B, 7, none⟩) (.inl rfl) v7).setCell (F := fun i => i = B) (p := ⟨B, 8, none⟩) (.inl rfl) v8).setCell (F := fun i => i = B) (p := ⟨B, 9, none⟩) (.inl rfl) v9).setCell (F := fun i => i = B) (p := ⟨B, 10, none⟩) (.inl rfl) v10)
set_option maxRecDepth 100000 in
set_option maxHeartbeats 4000000 in
theorem tblGet_any {tb p : Nat} {ts : Nat → Nat} {F : Nat → Prop} {S : StoreD} {Ts : Nat → TrD} {L : Nat → List OpD} (id : Int) (w : World) (ht : TblAt w tb p ts F) (hp : PagerAt w p F S) (hT : Tab S Ts L) (hd : depT (Ts 0) ≤ 31) (hid : In64 id) :
    Calls Tryz.prog 24 #[.pointer (some ⟨tb, 0, none⟩), .int .i64 id] w fun e w' => e = .returned (getR (getL (L 0) id)) ∧ ∃ F', TblAt w' tb p ts F' ∧ PagerAt w' p F' S ∧ Keeps F F' w w' := by
  have hin : ∀ x ∈ wayL 0 (opId id), In64 x := fun x hx => by
    have : x = id := by simpa [wayL, opId] using hx
    rw [this]; exact hid
  have HS0 := Lib.hid (show PagerAt w p (fun i => F i ∧ i < w.heap.size) S from hp.shrink)
  have HT0 : Hid (TblAt w tb p ts (fun i => F i ∧ i < w.heap.size)) := ⟨ht.row, ht.tree, fun q => ht.out q.1, fun j hj q => ht.outs j hj q.1⟩
  have HWID : Hid (∀ (F' : Nat → Prop) (w' : World), Keeps (fun i => F i ∧ i < w.heap.size) F' w w' → Keeps F F' w w') := fun F' w' h => h.widen (fun i q => q.1)
  have HLT : Hid (¬ (fun i => F i ∧ i < w.heap.size) w.heap.size) := fun q => absurd q.2 (Nat.lt_irrefl _)
  generalize (fun i => F i ∧ i < w.heap.size) = F0 at *
  clear hp ht
  have cM : Hid (∀ W, Ext w W → Calls Tryz.prog 69 #[.pointer (some ⟨tb, 0, none⟩)] W fun e w' => e = .returned (.bool true) ∧ W = w') := fun W hW => tblMade_any W (HT0.out.ext hW).row
  have cW : Hid (∀ W, Calls Tryz.prog 71 #[.int .i64 0, .agg #[.int .i64 id, .int .i64 0, .int .i64 0, .int .i64 0, .int .i64 0, .int .i64 0, .int .i64 0, .bool false, .int .i64 0, .int .i64 0, .int .i64 0]] W fun e w' => e = .returned (.string (wayK 0 (opId id))) ∧ Ext W w') := fun W => where_any 0 (opId id) W (by omega) hin
  have cG : Hid (∀ W, Ext w W → Calls Tryz.prog 70 #[.pointer (some ⟨ts 0, 0, none⟩), .string (wayK 0 (opId id))] W fun e w' => e = .returned (getV ((getL (L 0) id).map (fun o => bts (opL o)))) ∧ ∃ F', PagerAt w' p F' S ∧ Keeps F0 F' W w') := fun W hW => by
    have h1 := tget_any (Ts 0) (wayK 0 (opId id)) W ((HT0.out.ext hW).tree 0 (by omega)) (HT0.out.outs 0 (by omega)) (HS0.out.ext hW) (by omega) (hT.tr 0 (by omega)) (fine_dep hd)
    rwa [hT.get hid] at h1
  have HOK : Hid (∀ o, getL (L 0) id = some o → opChk o = 0) := fun o ho => hT.ok 0 (by omega) o (List.mem_of_find?_eq_some ho)
  clear hT hd hin
  generalize wayK 0 (opId id) = ky at *
  generalize getL (L 0) id = R at *
  obtain ⟨sv, ev, hgv, hrel⟩ : ∃ sv ev, getV (R.map (fun o => bts (opL o))) = .tuple #[.string sv, .int .i64 ev] ∧ ((ev = 0 ∧ ∃ o, R = some o ∧ sv = bts (opL o)) ∨ (ev = 6 ∧ R = none)) := by
    cases R with
    | none => exact ⟨_, _, rfl, .inr ⟨rfl, rfl⟩⟩
    | some o => exact ⟨_, _, rfl, .inl ⟨rfl, o, rfl, rfl⟩⟩
  rw [hgv] at cG
  have HREL := Lib.hid hrel
  clear hrel hgv
  obtain ⟨W0, hW0⟩ : ∃ W0, w.alloc (.cells #[.int .i64 0, .int .i64 0, .int .i64 0, .int .i64 0, .int .i64 0, .int .i64 0, .int .i64 0, .bool false, .int .i64 0, .int .i64 0, .int .i64 0] 53) = W0 := ⟨_, rfl⟩
  have HX0 : Hid (Ext w W0) := by unfold Hid; rw [← hW0]; exact Ext.alloc _ _
  have HR0 : Hid (Row1 W0 w.heap.size 53 opZero.cells) := by unfold Hid; rw [← hW0]; exact Row1.made w _ _
  have hc0 : W0.cell? ⟨tb, 0, none⟩ = some (tp (ts 0)) := (HT0.out.ext HX0.out).row.cell 0
  go_enter Tryz.func24, Tryz.ntmps24
  go_upto_region 1 with fail
  clear hW0
  go_upto_region 3 with (go_at_call 69; (with_reducible refine (cM.out _ HX0.out).mono ?_); clear cM; rintro e w1 ⟨rfl, rfl⟩)
  refine wp_region_held_drew (S := fun W => W.cell? ⟨tb, 0, none⟩ = some (tp (ts 0))) (by kernel_rfl) (((HT0.out.ext HX0.out).ext (by (repeat' (with_reducible first | exact Below.refl _ _ | refine Ext.drewN ?_ _ | refine Below.drew ?_ | refine Below.setCell ?_ ?_ _ | refine Below.alloc ?_ ?_ _)) <;> (first | omega | (simp; done) | (simp; omega)))).row.cell 0) (fun hHeld => ?_)
  refine' tk 0 ?_; (try simp only [Act.put, List.setIfInBounds_toArray, List.set_cons_zero, List.set_cons_succ])
  refine' tk 1 ?_; (try simp only [Act.put, List.setIfInBounds_toArray, List.set_cons_zero, List.set_cons_succ])
  refine' tk 2 ?_; (try simp only [Act.put, List.setIfInBounds_toArray, List.set_cons_zero, List.set_cons_succ])
  refine' tk 3 ?_; (try simp only [Act.put, List.setIfInBounds_toArray, List.set_cons_zero, List.set_cons_succ])
  refine' tk 4 ?_; (try simp only [Act.put, List.setIfInBounds_toArray, List.set_cons_zero, List.set_cons_succ])
  refine' tk 5 ?_; (try simp only [Act.put, List.setIfInBounds_toArray, List.set_cons_zero, List.set_cons_succ])
  refine' tk 6 ?_; (try simp only [Act.put, List.setIfInBounds_toArray, List.set_cons_zero, List.set_cons_succ])
  refine stp 7 (fun K hK => ?_); go_simp
  (with_reducible refine (cW.out _).mono ?_)
  rintro e w1 ⟨rfl, hb1⟩
  have HB1 : Hid (Ext W0 w1) := Ext.trans (by (repeat' (with_reducible first | exact Below.refl _ _ | refine Ext.drewN ?_ _ | refine Below.drew ?_ | refine Below.setCell ?_ ?_ _ | refine Below.alloc ?_ ?_ _)) <;> (first | omega | (simp; done) | (simp; omega))) hb1
  clear hb1
  (try dsimp only)
  (try go_simp)
  refine hK.out _ _ ((((HT0.out.ext HX0.out).ext HB1.out).ext (by (repeat' (with_reducible first | exact Below.refl _ _ | refine Ext.drewN ?_ _ | refine Below.drew ?_ | refine Below.setCell ?_ ?_ _ | refine Below.alloc ?_ ?_ _)) <;> (first | omega | (simp; done) | (simp; omega)))).row.cell 0) (fun hHeld => ?_)
  clear hK K
  (try simp only [Act.put, List.setIfInBounds_toArray, List.set_cons_zero, List.set_cons_succ])
  refine stp 8 (fun K hK => ?_); go_simp
  (with_reducible refine (cG.out _ ?_).mono ?_)
  · exact HX0.out.trans (HB1.out.trans (by (repeat' (with_reducible first | exact Below.refl _ _ | refine Ext.drewN ?_ _ | refine Below.drew ?_ | refine Below.setCell ?_ ?_ _ | refine Below.alloc ?_ ?_ _)) <;> (first | omega | (simp; done) | (simp; omega))))
  rintro e w2 ⟨rfl, F2, hp2, hk2⟩
  have HP2 := Lib.hid hp2
  have HK2 : Hid (Keeps F0 F2 W0 w2) := Keeps.trans (Keeps.of (HB1.out.trans (by (repeat' (with_reducible first | exact Below.refl _ _ | refine Ext.drewN ?_ _ | refine Below.drew ?_ | refine Below.setCell ?_ ?_ _ | refine Below.alloc ?_ ?_ _)) <;> (first | omega | (simp; done) | (simp; omega))))) hk2
  clear hp2 hk2
  (try dsimp only)
  (try go_simp)
  refine hK.out _ _ ((HT0.out.keep ((Keeps.of HX0.out).trans HK2.out)).row.cell 0) (fun hHeld => ?_)
  clear hK K
  (try simp only [Act.put, List.setIfInBounds_toArray, List.set_cons_zero, List.set_cons_succ])
  refine' tk 9 ?_; (try simp only [Act.put, List.setIfInBounds_toArray, List.set_cons_zero, List.set_cons_succ])
  refine' tk 10 ?_; (try simp only [Act.put, List.setIfInBounds_toArray, List.set_cons_zero, List.set_cons_succ])
  refine' tk 11 ?_; (try simp only [Act.put, List.setIfInBounds_toArray, List.set_cons_zero, List.set_cons_succ])
  refine' tk 12 ?_; (try simp only [Act.put, List.setIfInBounds_toArray, List.set_cons_zero, List.set_cons_succ])
  refine' tk 13 ?_; (try simp only [Act.put, List.setIfInBounds_toArray, List.set_cons_zero, List.set_cons_succ])
  refine wpAnyH_done (by kernel_rfl) ?_ _
  have HKW : Hid (Keeps F0 F2 w w2) := (Keeps.of HX0.out).trans HK2.out
  have HR2 : Hid (Row1 w2 w.heap.size 53 opZero.cells) := HK2.out.only.row HR0.out HLT.out
  have HN2 : Hid (¬ F2 w.heap.size) := HK2.out.out HR0.out.lt HLT.out
  have HDN : Hid (∀ W', Ext w2 W' → ∃ F', TblAt W' tb p ts F' ∧ PagerAt W' p F' S ∧ Keeps F F' w W') := fun W' hW => ⟨F2, (HT0.out.keep HKW.out).ext hW, HP2.out.ext hW, HWID.out _ _ (HKW.out.ext hW)⟩
  have HSET : Hid (∀ (W W' : World), Ext w2 W → Only (fun i => i = w.heap.size) W W' → ∃ F', TblAt W' tb p ts F' ∧ PagerAt W' p F' S ∧ Keeps F F' w W') := fun W W' hW ho => by
    have ht2 := (HT0.out.keep HKW.out).ext hW
    have hne : ∀ j, j < 5 → ts j ≠ w.heap.size := fun j hj e => by have := (HT0.out.tree j hj).lt; omega
    have hnt : tb ≠ w.heap.size := fun e => by have := HT0.out.row.lt; omega
    refine ⟨F2, ⟨ho.row ht2.row hnt, fun j hj => ho.row (ht2.tree j hj) (hne j hj), ht2.out, ht2.outs⟩, (HP2.out.ext hW).only ho (fun i q e => HN2.out (e ▸ q)), HWID.out _ _ ⟨((HKW.out.ext hW).only.trans ho (fun i q => .inr (by omega))), HKW.out.new⟩⟩
  clear cW cG
  rcases HREL.out with ⟨rfl, o, rfl, rfl⟩ | ⟨rfl, rfl⟩
  · have cD : Hid (∀ W, Calls Tryz.prog 72 #[.string (bts (opL o))] W fun e w' => e = .returned (.tuple #[.agg #[.int .i64 o.id, .int .i64 o.proc, .int .i64 o.object, .int .i64 o.kind, .int .i64 o.method, .int .i64 o.arg, .int .i64 o.second, .bool o.done, .int .i64 o.result, .int .i64 o.invoke, .int .i64 o.ret], .int .i64 0]) ∧ Ext W w') := fun W => opDecode_any o W (HOK.out o rfl)
    generalize hso : bts (opL o) = so at *
    go_upto_region 6 with fail
    go_wp2_with (go_at_call 72; (with_reducible refine (cD.out _).mono ?_); clear cD; rintro e w3 ⟨rfl, hb3⟩; have HB3 := Lib.hid hb3; clear hb3; have HR3 : Hid (Row1 w3 w.heap.size 53 [.int .i64 0, .int .i64 0, .int .i64 0, .int .i64 0, .int .i64 0, .int .i64 0, .int .i64 0, .bool false, .int .i64 0, .int .i64 0, .int .i64 0]) := HR2.out.ext HB3.out HR2.out.lt; obtain ⟨a0, a1, a2, a3, a4, a5, a6, a7, a8, a9, a10⟩ := cells11_row HR3.out; obtain ⟨f0, f1, f2, f3, f4, f5, f6, f7, f8, f9, f10⟩ := soft11_row HR3.out)
    refine bodyPost_ret (res_op rfl _ _ w.heap.size o _ rfl rfl ?_) rfl ⟨rfl, ?_⟩
    · exact row_set11 HR3.out _ _ _ _ _ _ _ _ _ _ _
    · exact HSET.out _ _ HB3.out (only_set11 _ _ _ _ _ _ _ _ _ _ _ _ _)
  · obtain ⟨a0, a1, a2, a3, a4, a5, a6, a7, a8, a9, a10⟩ := cells11_row (show Row1 w2 w.heap.size 53 [.int .i64 0, .int .i64 0, .int .i64 0, .int .i64 0, .int .i64 0, .int .i64 0, .int .i64 0, .bool false, .int .i64 0, .int .i64 0, .int .i64 0] from HR2.out)
    obtain ⟨f0, f1, f2, f3, f4, f5, f6, f7, f8, f9, f10⟩ := soft11_row HR2.out
    go_wp2_with fail
    refine bodyPost_ret (res_op rfl _ _ w.heap.size opZero _ rfl rfl ?_) rfl ⟨rfl, ?_⟩
    · exact row_set11 (show Row1 w2 w.heap.size 53 [.int .i64 0, .int .i64 0, .int .i64 0, .int .i64 0, .int .i64 0, .int .i64 0, .int .i64 0, .bool false, .int .i64 0, .int .i64 0, .int .i64 0] from HR2.out) _ _ _ _ _ _ _ _ _ _ _
    · exact HSET.out _ _ (Ext.refl _) (only_set11 _ _ _ _ _ _ _ _ _ _ _ _ _)
end Go.Proofs.YtojoefcfimmipaaGreat
namespace Go.Proofs.YtojoefcfimmipaaGreat
set_option linter.unusedSimpArgs false
set_option linter.unusedVariables false
open Go.RowKit
set_option maxRecDepth 100000 in
set_option maxHeartbeats 4000000 in
theorem tblDel_none {tb p : Nat} {ts : Nat → Nat} {F : Nat → Prop} {S : StoreD} {Ts : Nat → TrD} {L : Nat → List OpD} (id : Int) (w : World) (ht : TblAt w tb p ts F) (hp : PagerAt w p F S) (hT : Tab S Ts L) (hd : depT (Ts 0) ≤ 31) (hid : In64 id) (hn : getL (L 0) id = none) :
    Calls Tryz.prog 26 #[.pointer (some ⟨tb, 0, none⟩), .int .i64 id] w fun e w' => e = .returned (.int .i64 6) ∧ ∃ F', TblAt w' tb p ts F' ∧ PagerAt w' p F' S ∧ Keeps F F' w w' := by
  have cG : Calls Tryz.prog 24 #[.pointer (some ⟨tb, 0, none⟩), .int .i64 id] w fun e w' => e = .returned (.tuple #[.agg #[.int .i64 0, .int .i64 0, .int .i64 0, .int .i64 0, .int .i64 0, .int .i64 0, .int .i64 0, .bool false, .int .i64 0, .int .i64 0, .int .i64 0], .int .i64 6]) ∧ ∃ F', TblAt w' tb p ts F' ∧ PagerAt w' p F' S ∧ Keeps F F' w w' := by
    have h1 := tblGet_any id w ht hp hT hd hid
    rw [hn] at h1
    exact h1
  clear ht hp hT hd hid hn
  go_enter Tryz.func26, Tryz.ntmps26
  go_wp2_with (go_at_call 24; (with_reducible refine cG.mono ?_); clear cG; rintro e w1 ⟨rfl, F1, ht1, hp1, hk1⟩; have HT1 := Lib.hid ht1; have HP1 := Lib.hid hp1; have HK1 := Lib.hid hk1; clear ht1 hp1 hk1)
  go_ret
  exact ⟨rfl, F1, HT1.out.ext (Ext.alloc _ _), HP1.out.ext (Ext.alloc _ _), HK1.out.ext (Ext.alloc _ _)⟩
/-- a tree of which Put made another one -/
def PutBy (i : Nat) (o : OpD) (T T' : TrD) : Prop := ∃ Sa Sb, PutTR Sa i (wayK i o) (recW i o) Sb T' T
structure PutK (tb p : Nat) (ts : Nat → Nat) (Ts0 : Nat → TrD) (L : Nat → List OpD) (o : OpD) (R : Nat) (F0 : Nat → Prop) (w : World) (k : Nat) (wr : World) (S : StoreD) (Ts : Nat → TrD) (F : Nat → Prop) : Prop where
  at_ : TblAt wr tb p ts F
  pag : PagerAt wr p F S
  keep : Keeps F0 F w wr
  tab : Tab S Ts (fun i => if i < k then o :: L i else L i)
  done : ∀ i, i < k → PutBy i o (Ts0 i) (Ts i)
  same : ∀ i, k ≤ i → Ts i = Ts0 i
  room : R ≤ roomS S + needs Ts0 k
theorem PutK.step {tb p : Nat} {ts : Nat → Nat} {Ts0 : Nat → TrD} {L : Nat → List OpD} {o : OpD} {R : Nat} {F0 F F' : Nat → Prop} {w wr w' : World} {k : Nat} {S S' : StoreD} {Ts : Nat → TrD} {T' : TrD} (h : PutK tb p ts Ts0 L o R F0 w k wr S Ts F) (hk : k < 5) (ho : opChk o = 0) (hn : ∀ x ∈ L k, x.id ≠ o.id)
    (hp : PutTR S k (wayK k o) (recW k o) S' T' (Ts k)) (hp' : PagerAt w' p F' S') (hkp : Keeps F F' wr w') : PutK tb p ts Ts0 L o R F0 w (k + 1) w' S' (updF Ts k T') F' := by
  obtain ⟨h1, h2⟩ := h.tab.putR hk ho (by rw [if_neg (Nat.lt_irrefl _)]; exact hn) hp
  refine ⟨h.at_.keep hkp, hp', h.keep.trans hkp, h1.congr (fun i _ => rfl) (fun i _ => ?_), fun i hi => ?_, fun i hi => ?_, ?_⟩
  · by_cases e : i = k
    · subst e; rw [updF_same, if_pos (by omega), if_neg (by omega)]
    · rw [updF_other _ _ e]
      by_cases hl : i < k
      · rw [if_pos hl, if_pos (by omega)]
      · rw [if_neg hl, if_neg (by omega)]
  · by_cases e : i = k
    · subst e
      rw [updF_same]
      exact ⟨_, _, (h.same i (Nat.le_refl _)) ▸ hp⟩
    · rw [updF_other _ _ e]; exact h.done i (by omega)
  · rw [updF_other _ _ (by omega)]; exact h.same i (by omega)
  · have := h.room
    rw [h.same k (Nat.le_refl _)] at h2
    show _ ≤ _ + (needs Ts0 k + (Ts0 k).need)
    omega
theorem needs_le (Ts : Nat → TrD) : ∀ (k m : Nat), k < m → needs Ts k + (Ts k).need ≤ needs Ts m
  | k, 0, h => absurd h (by omega)
  | k, m + 1, h => by
    show _ ≤ needs Ts m + (Ts m).need
    by_cases e : k = m
    · subst e; exact Nat.le_refl _
    · have := needs_le Ts k m (by omega); omega
end Go.Proofs.YtojoefcfimmipaaGreat
