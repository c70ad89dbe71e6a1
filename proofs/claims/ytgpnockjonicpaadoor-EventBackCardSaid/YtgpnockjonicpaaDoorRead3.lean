/- event.reader.num. Conditions: a word of fewer than 10^6 bytes. -/
/- event.reader.word. No conditions. -/
import Derived.Test.YtgpnockjonicpaaDoorSplit
import Derived.Test.YtgpnockjonicpaaDoorNumV
import Derived.Test.YtgpnockjonicpaaDoorLaidS
namespace Go.Proofs.YtgpnockjonicpaaDoor
set_option linter.unusedSimpArgs false
set_option linter.unusedVariables false
open Go.RowKit

def fromN (s : ByteArray) : Nat := if minusB s = true ∧ 1 < s.size then 1 else 0
theorem toList_size (s : ByteArray) : s.data.toList.length = s.size := rfl
theorem minus_iff (s : ByteArray) : minusB s = true ↔ ∃ h : 0 < s.size, s[0].toNat = 45 := by
  unfold minusB
  constructor
  · intro h
    cases hl : s.data.toList with
    | nil => rw [hl] at h; cases h
    | cons c r =>
      rw [hl] at h
      have h1 : 0 < s.size := by rw [← toList_size, hl]; simp
      refine ⟨h1, ?_⟩
      have h2 : s[0] = c := by
        have : s.data.toList[0]? = some c := by rw [hl]; rfl
        have h3 := (List.getElem?_eq_some_iff.1 this).2
        exact h3
      rw [h2]
      have : c = 45 := by simpa using h
      rw [this]; rfl
  · rintro ⟨h, e⟩
    cases hl : s.data.toList with
    | nil => rw [← toList_size, hl] at h; simp at h
    | cons c r =>
      have h2 : s[0] = c := by
        have : s.data.toList[0]? = some c := by rw [hl]; rfl
        exact (List.getElem?_eq_some_iff.1 this).2
      rw [h2] at e
      show (c == 45) = true
      rw [beq_iff_eq]
      exact UInt8.toNat_inj.1 e
theorem body_drop (s : ByteArray) : bodyL s = s.data.toList.drop (if minusB s = true then 1 else 0) := by
  unfold bodyL
  split <;> simp
theorem body_from (s : ByteArray) (h : s.size ≠ 1 ∨ minusB s = false) : bodyL s = s.data.toList.drop (fromN s) := by
  rw [body_drop]
  unfold fromN
  by_cases hm : minusB s = true
  · have h1 := (minus_iff s).1 hm
    obtain ⟨h2, _⟩ := h1
    rw [if_pos hm]
    rcases h with h | h
    · rw [if_pos ⟨hm, by omega⟩]
    · rw [hm] at h; cases h
  · rw [if_neg hm, if_neg (fun q => hm q.1)]
theorem trim_body (s : ByteArray) : Lib.trimPrefix s.data.toList [45] = bodyL s := by
  unfold bodyL minusB Lib.trimPrefix
  cases s.data.toList with
  | nil => rfl
  | cons c r =>
    simp only [Lib.hasPrefix]
    by_cases e : c = 45
    · subst e; rfl
    · have h1 : ((45 : UInt8) == c) = false := by rw [beq_eq_false_iff_ne]; exact fun q => e q.symm
      have h2 : (c == (45 : UInt8)) = false := by rw [beq_eq_false_iff_ne]; exact e
      simp [List.isPrefixOf, h1, h2]
theorem str_nil (s : ByteArray) (h : s.size = 0) : s.toList = [] := by
  have : s = ByteArray.empty := ByteArray.ext (Array.eq_empty_of_size_eq_zero h)
  rw [this, ByteArray.toList_eq]
  rfl
theorem str_cons (s : ByteArray) (h : ¬ s.size = 0) : s.toList.isEmpty = false := by
  rw [ByteArray.toList_eq]
  cases q : s.data.toList with
  | nil => exfalso; apply h; rw [← toList_size, q]; rfl
  | cons _ _ => rfl
theorem str_eqb (a b : ByteArray) : (a.toList == b.toList) = decide (a = b) := by
  rw [ByteArray.toList_eq, ByteArray.toList_eq, Bool.eq_iff_iff, beq_iff_eq, decide_eq_true_eq]
  constructor
  · intro h; exact ByteArray.ext (Array.toList_inj.1 h)
  · intro h; rw [h]
/-- where the loop over a word's bytes stands -/
def NumRel (s : ByteArray) (k : Nat) (n : Int) : Prop := n = foldV ((s.data.toList.take k).drop (fromN s)) ∧ ((s.data.toList.take k).drop (fromN s)).all digB = true ∧ (fromN s < k → (bodyL s).length ≤ 15)
theorem NumRel.start (s : ByteArray) : NumRel s 0 0 := ⟨by simp [foldV], by simp, fun h => absurd h (by omega)⟩
section
variable {s : ByteArray} {k : Nat} {n : Int}
theorem NumRel.bound (h : NumRel s k n) (hk : k ≤ s.size) : 0 ≤ n ∧ n < 1000000000000000 := by
  obtain ⟨rfl, h1, h2⟩ := h
  have h3 := foldV_dig _ h1
  by_cases hf : fromN s < k
  · have hb := h2 hf
    have hl : ((s.data.toList.take k).drop (fromN s)).length ≤ 15 := by
      rw [List.length_drop, List.length_take, toList_size]
      have : (bodyL s).length = s.size - (if minusB s = true then 1 else 0) := by rw [body_drop, List.length_drop, toList_size]
      unfold fromN at *
      split at hf <;> (split at this <;> (first | omega | (split <;> omega) | (simp_all; omega)))
    have := pow15 _ hl
    generalize (10 : Int) ^ ((s.data.toList.take k).drop (fromN s)).length = p at *
    omega
  · have : (s.data.toList.take k).drop (fromN s) = [] := List.drop_eq_nil_of_le (by rw [List.length_take]; omega)
    rw [this]
    simp [foldV]
theorem NumRel.skip (h : NumRel s 0 n) (hm : minusB s = true) (h1 : 1 < s.size) : NumRel s 1 n := by
  obtain ⟨rfl, _, _⟩ := h
  have hf : fromN s = 1 := if_pos ⟨hm, h1⟩
  unfold NumRel
  rw [hf]
  refine ⟨?_, ?_, fun h => absurd h (by omega)⟩
  · rw [List.drop_eq_nil_of_le (by simp), List.drop_eq_nil_of_le (by rw [List.length_take]; omega)]
  · rw [List.drop_eq_nil_of_le (by rw [List.length_take]; omega)]; rfl
theorem NumRel.from_le (hk : k < s.size) (hs : ¬ (k = 0 ∧ s[k].toNat = 45 ∧ 1 < s.size)) : fromN s ≤ k := by
  unfold fromN
  split
  · rename_i h
    rcases Nat.eq_zero_or_pos k with e | e
    · subst e
      obtain ⟨_, h2⟩ := (minus_iff s).1 h.1
      exact absurd ⟨rfl, h2, h.2⟩ hs
    · exact e
  · omega
theorem NumRel.step (h : NumRel s k n) (hk : k < s.size) (hs : ¬ (k = 0 ∧ s[k].toNat = 45 ∧ 1 < s.size)) (hd : digB s[k] = true) (hb : (bodyL s).length ≤ 15) : NumRel s (k + 1) (10 * n + ((s[k].toNat : Int) - 48)) := by
  obtain ⟨rfl, h1, h2⟩ := h
  have hf := NumRel.from_le hk hs
  have e : (s.data.toList.take (k + 1)).drop (fromN s) = (s.data.toList.take k).drop (fromN s) ++ [s[k]] := by
    rw [List.take_succ_eq_append_getElem (by rw [toList_size]; exact hk), List.drop_append_of_le_length (by rw [List.length_take, toList_size]; omega)]
    rfl
  unfold NumRel
  rw [e, foldV_snoc, List.all_append, h1]
  exact ⟨rfl, by simp [hd], fun _ => hb⟩
theorem num_exit (hk : k < s.size) (hs : ¬ (k = 0 ∧ s[k].toNat = 45 ∧ 1 < s.size)) (hd : digB s[k] = false) : okW s = false := by
  by_cases h1 : s.size ≠ 1 ∨ minusB s = false
  · refine not_pass_dig s s[k] ?_ hd
    rw [body_from s h1]
    have hf := NumRel.from_le hk hs
    have : (s.data.toList.drop (fromN s))[k - fromN s]? = some s[k] := by
      rw [List.getElem?_drop, show fromN s + (k - fromN s) = k by omega]
      exact List.getElem?_eq_getElem (by rw [toList_size]; exact hk)
    exact List.mem_of_getElem? this
  · cases h : okW s with
    | false => rfl
    | true =>
      have hp := ok_pass s h
      have : bodyL s = [] := by
        have hm : minusB s = true := by
          cases q : minusB s
          · exact absurd (.inr q) h1
          · rfl
        rw [body_drop, if_pos hm, List.drop_eq_nil_of_le (by rw [toList_size]; omega)]
      simp [passB, this] at hp
/-- the number at the end -/
theorem NumRel.last (h : NumRel s s.size n) : (okW s = true → (if minusB s = true then -n else n) = numV s) ∧ (okW s = decide (numS (if minusB s = true then -n else n) = s)) ∧ -1000000000000000 < (if minusB s = true then -n else n) ∧ (if minusB s = true then -n else n) < 1000000000000000 := by
  have hb := h.bound (Nat.le_refl _)
  have h1 : okW s = true → (if minusB s = true then -n else n) = numV s := fun hok => by
    have hp := ok_pass s hok
    simp only [passB, Bool.and_eq_true, decide_eq_true_eq, Bool.not_eq_true', List.isEmpty_eq_false_iff] at hp
    have hsz : s.size ≠ 1 ∨ minusB s = false := by
      by_cases hm : minusB s = true
      · left
        intro e
        apply hp.1.1
        rw [body_drop, if_pos hm, List.drop_eq_nil_of_le (by rw [toList_size]; omega)]
      · right; simpa using hm
    have e : numV s = if minusB s = true then -(foldV (bodyL s)) else foldV (bodyL s) := by unfold numV; rw [if_neg (by omega)]
    rw [e, body_from s hsz]
    obtain ⟨rfl, _, _⟩ := h
    rw [List.take_of_length_le (by rw [toList_size]; exact Nat.le_refl _)]
  refine ⟨h1, ?_, by split <;> omega, by split <;> omega⟩
  cases hok : okW s with
  | true =>
    rw [h1 hok]
    exact hok.symm
  | false =>
    symm
    rw [decide_eq_false_iff_not]
    intro e
    have := okW_num (if minusB s = true then -n else n) (by split <;> omega) (by split <;> omega)
    rw [e, hok] at this
    cases this
end
theorem RdAt.setOk {w : World} {r B : Nat} {ws : List ByteArray} {ok : Bool} (h : RdAt w r B ws ok) (q : Bool) : RdAt (w.setCell ⟨r, 1, none⟩ (.bool q)) r B ws q := by
  obtain ⟨A, c, h1, h2, h3⟩ := h
  exact ⟨A, c, h1.set 1 _, h2.but (But.setCell But.refl (.inl rfl) _) h3.1, h3⟩
theorem RdAt.cells {w : World} {r B : Nat} {ws : List ByteArray} {ok : Bool} (h : RdAt w r B ws ok) : w.cell? ⟨r, 1, none⟩ = some (.bool ok) ∧ w.frozen? ⟨r, 1, none⟩ = false := by
  obtain ⟨A, c, h1, _, _⟩ := h
  exact ⟨h1.cell 1, h1.soft 1⟩
def NumPost (r B : Nat) (ws : List ByteArray) (ok : Bool) (w : World) (e : Ending) (w' : World) : Prop :=
  (∃ n : Int, e = .returned (.int .i64 n) ∧ (okW (sHead ws) = true → n = numV (sHead ws))) ∧ RdAt w' r B ws.tail (ok && okW (sHead ws)) ∧ Only (fun i => i = r) w w'
theorem okW_nil : okW ⟨#[]⟩ = false := by
  cases h : okW ⟨#[]⟩ with
  | false => rfl
  | true => have := ok_pass _ h; simp [passB, bodyL, minusB] at this

set_option maxRecDepth 100000 in
set_option maxHeartbeats 4000000 in
theorem num_any (r B : Nat) (ws : List ByteArray) (ok : Bool) (w : World) (h : RdAt w r B ws ok) (hs : (sHead ws).size ≤ 1000000) :
    Calls Tryd.prog 51 #[.pointer (some ⟨r, 0, none⟩)] w (NumPost r B ws ok w) := by
  go_enter Tryd.func51, Tryd.ntmps51
  go_wp2_with fail
  refine (next_any r B ws ok w h).mono ?_
  rintro e w1 ⟨rfl, hr1, ho1⟩
  have HE : Hid (ws.isEmpty = true → okW (sHead ws) = false) := fun q => by
    have : ws = [] := by simpa using q
    subst this
    exact okW_nil
  have HR := Lib.hid hr1
  have HO := Lib.hid ho1
  obtain ⟨c1, f1⟩ := hr1.cells
  have hl1 := hr1.lt
  clear hr1 ho1 h
  obtain ⟨s, hsw⟩ : ∃ s, sHead ws = s := ⟨_, rfl⟩
  have HSW := Lib.hid hsw
  rw [hsw] at HE hs ⊢
  clear hsw
  obtain ⟨ok1, hok1⟩ : ∃ q, (ok && !ws.isEmpty) = q := ⟨_, rfl⟩
  have HOK : Hid ((ok1 && okW s) = (ok && okW s)) := by
    unfold Hid
    rw [← hok1]
    cases hq : ws.isEmpty with
    | true => rw [HE.out hq]; simp
    | false => simp
  rw [hok1] at HR c1
  clear hok1
  go_wp2_with fail
  go_loopw [4, 10] (fun n i wr => ∃ (k : Nat) (v : Int), k ≤ s.size ∧ i = .int .i64 k ∧ n = .int .i64 v ∧ NumRel s k v ∧ wr = w1) (fun _ i _ => s.size - (intOf i).toNat)
  case atStart => exact ⟨0, 0, by omega, rfl, rfl, NumRel.start s, rfl⟩
  case round =>
    obtain ⟨k, v, hk, rfl, rfl, hrel, rfl⟩ := hrel
    have HREL := Lib.hid hrel
    have hv := hrel.bound hk
    clear hrel
    by_cases hlt : k < s.size
    · have hd : decide ((k : Int) < (s.size : Int)) = true := by simp; omega
      have HC : Hid (s[k].toNat < 256) := s[k].toNat_lt
      by_cases hsk : k = 0 ∧ s[k].toNat = 45 ∧ 1 < s.size
      · obtain ⟨rfl, h45, h1s⟩ := hsk
        have HN := Lib.hid (HREL.out.skip ((minus_iff s).2 ⟨hlt, h45⟩) h1s)
        have q1 : ((s[0].toNat : Int) == 45) = true := by simp; omega
        have q2 : decide (1 < (s.size : Int)) = true := by simp; omega
        clear h45
        go_wp2_with fail
        go_roundw
        case measure => simp [intOf]; omega
        case rel => exact ⟨1, v, by omega, by go_num, rfl, HN.out, trivial⟩
      · have HSK := Lib.hid hsk
        go_upto_region 6 with fail
        go_cut [25] (fun b wx => b = .bool false ∧ wx = wr)
        case first =>
          by_cases h45 : s[k].toNat = 45
          · have q1 : ((s[k].toNat : Int) == 45) = true := by simp; omega
            by_cases h0 : k = 0
            · have q2 : ((k : Int) == 0) = true := by simp; omega
              have q3 : decide (1 < (s.size : Int)) = false := by simp; omega
              clear h45 h0
              go_wp2_with fail
              go_meet
              exact ⟨rfl, rfl⟩
            · have q2 : ((k : Int) == 0) = false := by simp; omega
              clear h45 h0 hsk
              go_wp2_with fail
              go_meet
              exact ⟨rfl, rfl⟩
          · have q1 : ((s[k].toNat : Int) == 45) = false := by simp; omega
            clear h45 hsk
            go_wp2_with fail
            go_meet
            exact ⟨rfl, rfl⟩
        case rest =>
        obtain ⟨rfl, rfl⟩ := hcut
        clear hsk
        cases hdg : digB s[k] with
        | false =>
          have HNO := Lib.hid (num_exit hlt HSK.out hdg)
          have HD3 : s[k].toNat < 48 ∨ (¬ s[k].toNat < 48 ∧ 57 < s[k].toNat) := by
            simp only [digB, Bool.and_eq_false_iff, decide_eq_false_iff_not] at hdg
            omega
          clear hdg
          rcases HD3 with h1 | ⟨h1, h2⟩
          · have q1 : decide ((s[k].toNat : Int) < 48) = true := by simp; omega
            clear h1
            go_wp2_with fail
            go_ret
            refine ⟨⟨0, rfl, fun q => by rw [HSW.out, HNO.out] at q; cases q⟩, ?_, HO.out.trans' (Only.setCell (F := fun i => i = r) (p := ⟨r, 1, none⟩) Only.refl (.inl rfl) _)⟩
            rw [HSW.out, HNO.out, Bool.and_false]
            exact HR.out.setOk false
          · have q1 : decide ((s[k].toNat : Int) < 48) = false := by simp; omega
            have q2 : decide (57 < (s[k].toNat : Int)) = true := by simp; omega
            clear h1 h2
            go_wp2_with fail
            go_ret
            refine ⟨⟨0, rfl, fun q => by rw [HSW.out, HNO.out] at q; cases q⟩, ?_, HO.out.trans' (Only.setCell (F := fun i => i = r) (p := ⟨r, 1, none⟩) Only.refl (.inl rfl) _)⟩
            rw [HSW.out, HNO.out, Bool.and_false]
            exact HR.out.setOk false
        | true =>
          have HDG := Lib.hid hdg
          have q1 : decide ((s[k].toNat : Int) < 48) = false := by simp [digB] at hdg; simp; omega
          have q2 : decide (57 < (s[k].toNat : Int)) = false := by simp [digB] at hdg; simp; omega
          clear hdg
          go_wp2_with fail
          refine (Tryd.strings_TrimPrefix s ⟨#[45]⟩ _).mono ?_
          rintro e w' ⟨rfl, rfl⟩
          obtain ⟨tS, htS⟩ : ∃ tS : ByteArray, (⟨(Lib.trimPrefix s.data.toList (⟨#[45]⟩ : ByteArray).data.toList).toArray⟩ : ByteArray) = tS := ⟨_, rfl⟩
          have hts : tS.size = (bodyL s).length := by rw [← htS, ← trim_body s]; rfl
          rw [htS]
          clear htS
          by_cases h15 : 15 < (bodyL s).length
          · have HNO := Lib.hid (not_pass_len s h15)
            have q3 : decide (15 < (tS.size : Int)) = true := by simp; omega
            clear h15 hts
            go_wp2_with fail
            go_ret
            refine ⟨⟨0, rfl, fun q => by rw [HSW.out, HNO.out] at q; cases q⟩, ?_, HO.out.trans' (Only.setCell (F := fun i => i = r) (p := ⟨r, 1, none⟩) Only.refl (.inl rfl) _)⟩
            rw [HSW.out, HNO.out, Bool.and_false]
            exact HR.out.setOk false
          · have HN := Lib.hid (HREL.out.step hlt HSK.out HDG.out (by omega))
            have q3 : decide (15 < (tS.size : Int)) = false := by simp; omega
            clear h15 hts
            go_wp2_with fail
            go_roundw
            case measure => simp [intOf]; omega
            case rel =>
              have h48 : 48 ≤ s[k].toNat := by have := HDG.out; simp [digB] at this; omega
              have hc := HC.out
              exact ⟨k + 1, _, by omega, by go_num, by congr 2; omega, HN.out, trivial⟩
    · obtain rfl : k = s.size := by omega
      have hd : decide ((s.size : Int) < (s.size : Int)) = false := by simp
      obtain ⟨l1, l2, l3, l4⟩ := HREL.out.last
      obtain ⟨mb, hmb⟩ : ∃ mb, minusB s = mb := ⟨_, rfl⟩
      rw [hmb] at l1 l2 l3 l4
      have L1 := Lib.hid l1
      have L2 := Lib.hid l2
      clear l1 l2 HE
      have HMB := Lib.hid hmb
      go_upto_region 12 with fail
      go_cut [60] (fun b wx => b = .bool mb ∧ wx = wr)
      case first =>
        clear L1 L2 l3 l4
        by_cases h0 : s.size = 0
        · have t1 : s.toList = [] := str_nil s h0
          have t2 : s.toList.isEmpty = true := by rw [t1]; rfl
          have hm0 : mb = false := by
            rw [← hmb]
            cases q : minusB s with
            | false => rfl
            | true => obtain ⟨h, _⟩ := (minus_iff s).1 q; omega
          have HM0 := Lib.hid hm0
          clear hm0 hmb h0
          go_wp2_with fail
          go_meet
          exact ⟨by rw [HM0.out], rfl⟩
        · have t1 : s.toList.isEmpty = false := str_cons s h0
          have t2 : ¬ s.toList = [] := fun q => by rw [q] at t1; cases t1
          have hp : 0 < s.size := by omega
          have hpi : (0 : Int) < (s.size : Int) := by omega
          have q1 : ((s[0].toNat : Int) == 45) = mb := by
            rw [← hmb, Bool.eq_iff_iff, minus_iff]
            simp
            exact ⟨fun h => ⟨hp, by omega⟩, fun ⟨_, h⟩ => by omega⟩
          clear h0 hmb
          go_wp2_with fail
          go_meet
          exact ⟨rfl, rfl⟩
      case rest =>
      obtain ⟨rfl, rfl⟩ := hcut
      clear hmb
      cases mb with
      | true =>
        simp only [if_true] at L1 L2 l3 l4
        have s1 : IntKind.i64.wrap (-v) = -v := IntWalk.i64_in _ (by omega)
        go_upto_region 14 with fail
        cases ok1 with
        | false =>
          go_wp2_with fail
          go_ret
          refine ⟨⟨-v, rfl, fun q => by rw [HSW.out] at q ⊢; exact L1.out q⟩, ?_, HO.out.trans' (Only.setCell (F := fun i => i = r) (p := ⟨r, 1, none⟩) Only.refl (.inl rfl) _)⟩
          rw [HSW.out, ← HOK.out, Bool.false_and]
          exact HR.out.setOk false
        | true =>
          go_wp2_with fail
          refine (digits_any (-v) _ (by omega) (by omega)).mono ?_
          rintro e w2 ⟨rfl, hb2⟩
          have HR2 := Lib.hid (HR.out.ext hb2)
          have HO2 := Lib.hid (HO.out.ext hb2)
          obtain ⟨c2, f2⟩ := HR2.out.cells
          have q5 : ((numS (-v)).toList == s.toList) = okW s := by rw [str_eqb, L2.out]
          clear hb2 c1 f1
          go_wp2_with fail
          go_ret
          refine ⟨⟨-v, rfl, fun q => by rw [HSW.out] at q ⊢; exact L1.out q⟩, ?_, HO2.out.trans' (Only.setCell (F := fun i => i = r) (p := ⟨r, 1, none⟩) Only.refl (.inl rfl) _)⟩
          rw [HSW.out, ← HOK.out, Bool.true_and]
          exact HR2.out.setOk _
      | false =>
        simp only [Bool.false_eq_true, if_false] at L1 L2 l3 l4
        go_upto_region 14 with fail
        cases ok1 with
        | false =>
          go_wp2_with fail
          go_ret
          refine ⟨⟨v, rfl, fun q => by rw [HSW.out] at q ⊢; exact L1.out q⟩, ?_, HO.out.trans' (Only.setCell (F := fun i => i = r) (p := ⟨r, 1, none⟩) Only.refl (.inl rfl) _)⟩
          rw [HSW.out, ← HOK.out, Bool.false_and]
          exact HR.out.setOk false
        | true =>
          go_wp2_with fail
          refine (digits_any (v) _ (by omega) (by omega)).mono ?_
          rintro e w2 ⟨rfl, hb2⟩
          have HR2 := Lib.hid (HR.out.ext hb2)
          have HO2 := Lib.hid (HO.out.ext hb2)
          obtain ⟨c2, f2⟩ := HR2.out.cells
          have q5 : ((numS (v)).toList == s.toList) = okW s := by rw [str_eqb, L2.out]
          clear hb2 c1 f1
          go_wp2_with fail
          go_ret
          refine ⟨⟨v, rfl, fun q => by rw [HSW.out] at q ⊢; exact L1.out q⟩, ?_, HO2.out.trans' (Only.setCell (F := fun i => i = r) (p := ⟨r, 1, none⟩) Only.refl (.inl rfl) _)⟩
          rw [HSW.out, ← HOK.out, Bool.true_and]
          exact HR2.out.setOk _
end Go.Proofs.YtgpnockjonicpaaDoor
namespace Go.Proofs.YtgpnockjonicpaaDoor
set_option linter.unusedSimpArgs false
set_option linter.unusedVariables false
open Go.RowKit

/-- the place of a word among some; 0: it is none, or the empty one -/
def wordV (zs : List ByteArray) (x : ByteArray) : Int := if Lib.idxOfS zs x < 1 then 0 else Lib.idxOfS zs x
def okN (zs : List ByteArray) (x : ByteArray) : Bool := decide (1 ≤ Lib.idxOfS zs x)
set_option maxHeartbeats 1000000 in
theorem word_any (zs : List ByteArray) (b r B : Nat) (ws : List ByteArray) (ok : Bool) (w : World) (hz0 : Lib.idxOfS zs ⟨#[]⟩ = 0) (hzl : zs.length ≤ 100) (hb : Row1 w b 9 (zs.map Value.string)) (h : RdAt w r B ws ok) :
    Calls Tryd.prog 53 #[.pointer (some ⟨r, 0, none⟩), .slice (some ⟨b, 0, none⟩) zs.length zs.length] w fun e w' => e = .returned (.int .i64 (wordV zs (sHead ws))) ∧ RdAt w' r B ws.tail (ok && okN zs (sHead ws)) ∧ Only (fun i => i = r) w w' := by
  have hbr : b ≠ r := by
    obtain ⟨A, c, h1, _, _⟩ := h
    exact hb.apart h1 (by decide)
  have HV : Hid (wordV zs (sHead ws) = if Lib.idxOfS zs (sHead ws) < 1 then 0 else Lib.idxOfS zs (sHead ws)) := rfl
  have HO : Hid (okN zs (sHead ws) = decide (1 ≤ Lib.idxOfS zs (sHead ws))) := rfl
  have HE : Hid (ws.isEmpty = true → Lib.idxOfS zs (sHead ws) = 0) := fun q => by
    have : ws = [] := by simpa using q
    subst this
    exact hz0
  clear hz0
  go_enter Tryd.func53, Tryd.ntmps53
  go_wp2_with fail
  refine (next_any r B ws ok w h).mono ?_
  rintro e w1 ⟨rfl, hr1, ho1⟩
  have hb1 := ho1.row hb hbr
  have HR := Lib.hid hr1
  have HO1 := Lib.hid ho1
  obtain ⟨c1, f1⟩ := hr1.cells
  clear hr1 ho1 h hb
  go_wp2_with fail
  refine (Tryd.slices_Index_string b 0 zs.length zs.length zs (sHead ws) _ (Nat.le_refl _) (by omega) (fun j hj => ?_)).mono ?_
  · rw [Nat.zero_add, hb1.cell, List.getElem?_map, List.getD_eq_getElem?_getD, List.getElem?_eq_getElem hj]
    rfl
  rintro e w2 ⟨rfl, rfl⟩
  rw [List.take_length]
  obtain ⟨i, hi⟩ : ∃ i, Lib.idxOfS zs (sHead ws) = i := ⟨_, rfl⟩
  rw [hi] at HV HO HE ⊢
  clear hi hb1
  by_cases h1 : i < 1
  · have q1 : decide (i < 1) = true := by simpa using h1
    have HV2 : Hid (wordV zs (sHead ws) = 0) := by unfold Hid; rw [HV.out, if_pos h1]
    have HO2 : Hid (okN zs (sHead ws) = false) := by unfold Hid; rw [HO.out]; simp; omega
    clear h1
    go_wp2_with fail
    go_ret
    refine ⟨by rw [HV2.out]; rfl, ?_, HO1.out.trans' (Only.setCell (F := fun i => i = r) (p := ⟨r, 1, none⟩) Only.refl (.inl rfl) _)⟩
    rw [HO2.out, Bool.and_false]
    exact HR.out.setOk false
  · have q1 : decide (i < 1) = false := by simpa using h1
    have HV2 : Hid (wordV zs (sHead ws) = i) := by unfold Hid; rw [HV.out, if_neg h1]
    have HO2 : Hid (okN zs (sHead ws) = true) := by unfold Hid; rw [HO.out]; simp; omega
    have HW : Hid ((ok && !ws.isEmpty) = ok) := by
      unfold Hid
      cases q : ws.isEmpty with
      | false => simp
      | true => have := HE.out q; omega
    clear h1 HE
    go_wp2_with fail
    go_ret
    refine ⟨by rw [HV2.out]; rfl, ?_, HO1.out⟩
    have := HR.out
    rw [HW.out] at this
    rw [HO2.out, Bool.and_true]
    exact this
end Go.Proofs.YtgpnockjonicpaaDoor
