/- ref26.split. Conditions: a text of fewer than 10^8 bytes. -/
/- ref26.number, ref26.word. Conditions: words of fewer than 10^6 bytes. -/
/- ref26.word. Conditions: the names' first is empty and no other. -/
import Derived.Test.YtgpnockjonicpaaGreatDoorSplit
import Derived.Test.YtgpnockjonicpaaGreatDoorNumV
import Derived.Test.YtgpnockjonicpaaGreatDoorRead3
import Derived.Test.YtgpnockjonicpaaGreatDoorRead4
namespace Go.Proofs.YtgpnockjonicpaaGreatDoor
set_option linter.unusedSimpArgs false
set_option linter.unusedVariables false
open Go.RowKit

theorem Tryz.infoStr : (Tryz.prog.info? 9).map (fun i => (i.zero, i.size, i.bytes)) = some (some (.string ⟨#[]⟩), 1, 16) := by kernel_rfl
theorem elStr : Elem Tryz.prog 75 9 1 16 := Elem.of Tryz.underlying75 Tryz.infoStr rfl (by decide)
def strCell (s : ByteArray) : List Value := [.string s]
theorem str_len (s : ByteArray) : (strCell s).length = 1 := rfl
theorem str_one (s : ByteArray) : ∀ u ∈ strCell s, u.oneCell' = true := by
  intro u hu
  simp only [strCell, List.mem_singleton] at hu
  subst hu
  rfl
/-- how far the document's split is -/
def SplitAt (s : ByteArray) (c : UInt8) (done : List ByteArray) (fr i : Nat) : Prop :=
  splitS s c = done ++ (splitC c (s.data.toList.drop fr)).map strL ∧ fr ≤ i ∧ (∀ j, fr ≤ j → j < i → s.data.toList[j]? ≠ some c)
theorem indexByte_none (c : UInt8) : ∀ l : List UInt8, (∀ j : Nat, l[j]? ≠ some c) → Lib.indexByte l c = -1
  | [], _ => rfl
  | b :: l, h => by
    have h0 : (b == c) = false := by
      rw [beq_eq_false_iff_ne]
      intro e
      exact h 0 (by rw [e]; rfl)
    have h1 := indexByte_none c l (fun j => h (j + 1))
    unfold Lib.indexByte
    rw [h0, h1]
    rfl
theorem indexByte_some (c : UInt8) : ∀ (l : List UInt8) (i : Nat), l[i]? = some c → (∀ j, j < i → l[j]? ≠ some c) → Lib.indexByte l c = i
  | [], i, h, _ => by simp at h
  | b :: l, 0, h, _ => by
    have h0 : (b == c) = true := by simpa using h
    unfold Lib.indexByte
    rw [if_pos h0]
    rfl
  | b :: l, i + 1, h, hn => by
    have h0 : (b == c) = false := by
      rw [beq_eq_false_iff_ne]
      intro e
      exact hn 0 (by omega) (by rw [e]; rfl)
    have h1 := indexByte_some c l i (by simpa using h) (fun j hj => by have := hn (j + 1) (by omega); simpa using this)
    unfold Lib.indexByte
    rw [h0, h1]
    have : ((i : Int) == -1) = false := by rw [beq_eq_false_iff_ne]; omega
    simp [this]
section
variable {s : ByteArray} {c : UInt8} {done : List ByteArray} {fr i : Nat}
theorem SplitAt.start : SplitAt s c [] 0 0 := ⟨by simp [splitS], Nat.le_refl _, fun j _ h => absurd h (by omega)⟩
theorem SplitAt.miss (h : SplitAt s c done fr i) (hi : i < s.size) (hc : s[i].toNat ≠ c.toNat) : SplitAt s c done fr (i + 1) :=
  ⟨h.1, Nat.le_succ_of_le h.2.1, fun j h1 h2 => by
    by_cases e : j = i
    · subst e
      rw [List.getElem?_eq_getElem (by rw [toList_size]; exact hi)]
      intro q
      injection q with q
      exact hc (by have : s[j] = c := q; rw [this])
    · exact h.2.2 j h1 (by omega)⟩
theorem SplitAt.hit (h : SplitAt s c done fr i) (hi : i < s.size) (hc : s[i].toNat = c.toNat) : SplitAt s c (done ++ [s.extract fr i]) (i + 1) (i + 1) := by
  obtain ⟨h1, h2, h3⟩ := h
  have hci : s.data.toList[i]? = some c := by
    rw [List.getElem?_eq_getElem (by rw [toList_size]; exact hi)]
    congr 1
    exact UInt8.toNat_inj.1 hc
  have hx := indexByte_some c (s.data.toList.drop fr) (i - fr) (by rw [List.getElem?_drop, show fr + (i - fr) = i by omega]; exact hci) (fun j hj => by rw [List.getElem?_drop]; exact h3 (fr + j) (by omega) (by omega))
  refine ⟨?_, Nat.le_refl _, fun j q1 q2 => absurd q1 (by omega)⟩
  rw [h1, (splitC_index c _).2 (i - fr) hx, List.map_cons, List.append_assoc]
  congr 2
  · rw [extract_strL]
    rw [List.drop_take]
  · rw [List.drop_drop, show fr + (i - fr + 1) = i + 1 by omega]
    rfl
theorem SplitAt.last (h : SplitAt s c done fr s.size) : splitS s c = done ++ [s.extract fr s.size] := by
  obtain ⟨h1, h2, h3⟩ := h
  have hx := indexByte_none c (s.data.toList.drop fr) (fun j => by
    rw [List.getElem?_drop]
    by_cases hj : fr + j < s.size
    · exact h3 (fr + j) (by omega) hj
    · rw [List.getElem?_eq_none (by rw [toList_size]; omega)]; simp)
  rw [h1, (splitC_index c _).1 hx, extract_strL]
  simp only [List.map_cons, List.map_nil]
  congr 3
  show _ = ((s.data.toList.take s.data.toList.length).drop fr)
  rw [List.take_length]
end
set_option maxRecDepth 100000 in
set_option maxHeartbeats 2000000 in
theorem refSplit_any (s : ByteArray) (c : UInt8) (w : World) (hs : s.size ≤ 100000000) :
    Calls Tryz.prog 32 #[.string s, .int .u8 c.toNat] w fun e w' => (∃ v, e = .returned v ∧ Sl w' 1 RSt v (splitS s c)) ∧ Ext w w' := by
  go_enter Tryz.func32, Tryz.ntmps32
  go_wp2_with fail
  go_loopw [5, 6, 7] (fun v f i wr => ∃ (k fr : Nat) (done : List ByteArray), k ≤ s.size ∧ i = .int .i64 k ∧ f = .int .i64 fr ∧ OwnL wr w.heap.size 9 1 strCell v done ∧ done.length ≤ k ∧ Ext w wr ∧ SplitAt s c done fr k) (fun _ _ i _ => s.size - (intOf i).toNat)
  case atStart => exact ⟨0, 0, [], by omega, rfl, rfl, OwnL.nil _ _ _ _ _, by simp, Ext.refl _, SplitAt.start⟩
  case round =>
    obtain ⟨k, fr, done, hk, rfl, rfl, hown, hdl, hb, hsp⟩ := hrel
    have HOW := Lib.hid hown
    have HB := Lib.hid hb
    have HSP := Lib.hid hsp
    have hfr := hsp.2.1
    obtain ⟨vA, vc, rfl⟩ := hown.form
    have hz := hb.size
    clear hown hb hsp
    by_cases hlt : k < s.size
    · have hd : decide ((k : Int) < (s.size : Int)) = true := by simp; omega
      by_cases hc : s[k].toNat = c.toNat
      · have q1 : ((s[k].toNat : Int) == (c.toNat : Int)) = true := by simp; omega
        have HN := Lib.hid (HSP.out.hit hlt hc)
        clear hc
        go_wp2_with (at_builtin; refine wpList_push elStr str_len str_one rfl (.tmp 19) (.tmp 24) rfl _ done rfl (HOW.out.ext (by (repeat' (with_reducible first | exact Below.refl _ _ | refine Ext.drewN ?_ _ | refine Below.drew ?_ | refine Below.setCell ?_ ?_ _ | refine Below.alloc ?_ ?_ _)) <;> (first | omega | (simp; done) | (simp; omega)))) (by simp; omega) _ 1 (s.extract fr k) rfl (Row1.made' (by simp) _ (strCell (s.extract fr k))) (by omega) (by decide) ?_)
        intro pA pc wp hp hgp
        have HX2 : Hid (Ext w wp) := (by (repeat' (with_reducible first | exact HB.out | exact Below.refl _ _ | refine Ext.drewN ?_ _ | refine Below.drew ?_ | refine Below.setCell ?_ ?_ _ | refine Below.alloc ?_ ?_ _)) <;> (first | omega | (simp; done) | (simp; omega)) : Ext w _).grown hgp (by have := HB.out.size; first | omega | (simp; omega)) (fun j hj => (HOW.out.lt j hj).1)
        have HP := Lib.hid hp
        clear hp hgp
        go_wp2_with fail
        go_roundw
        case measure => simp [intOf]; omega
        case rel => exact ⟨k + 1, k + 1, done ++ [s.extract fr k], by omega, by go_num, by go_num, HP.out, by simp; omega, HX2.out, HN.out⟩
      · have q1 : ((s[k].toNat : Int) == (c.toNat : Int)) = false := by simp; omega
        have HN := Lib.hid (HSP.out.miss hlt hc)
        clear hc
        go_wp2_with fail
        go_roundw
        case measure => simp [intOf]; omega
        case rel => exact ⟨k + 1, fr, done, by omega, by go_num, rfl, HOW.out, by omega, HB.out, HN.out⟩
    · obtain rfl : k = s.size := by omega
      have hd : decide ((s.size : Int) < (s.size : Int)) = false := by simp
      have HN := Lib.hid HSP.out.last
      go_wp2_with (at_builtin; refine wpList_push elStr str_len str_one rfl (.tmp 28) (.tmp 32) rfl _ done rfl (HOW.out.ext (by (repeat' (with_reducible first | exact Below.refl _ _ | refine Ext.drewN ?_ _ | refine Below.drew ?_ | refine Below.setCell ?_ ?_ _ | refine Below.alloc ?_ ?_ _)) <;> (first | omega | (simp; done) | (simp; omega)))) (by simp; omega) _ 1 (s.extract fr s.size) rfl (Row1.made' (by simp) _ (strCell (s.extract fr s.size))) (by omega) (by decide) ?_)
      intro pA pc wp hp hgp
      have HX2 : Hid (Ext w wp) := (by (repeat' (with_reducible first | exact HB.out | exact Below.refl _ _ | refine Ext.drewN ?_ _ | refine Below.drew ?_ | refine Below.setCell ?_ ?_ _ | refine Below.alloc ?_ ?_ _)) <;> (first | omega | (simp; done) | (simp; omega)) : Ext w _).grown hgp (by have := HB.out.size; first | omega | (simp; omega)) (fun j hj => (HOW.out.lt j hj).1)
      have HP := Lib.hid hp
      clear hp hgp
      go_wp2_with fail
      go_ret
      exact ⟨⟨_, rfl, by rw [HN.out]; exact HP.out.sl str_len (fun _ => rfl)⟩, HX2.out⟩
end Go.Proofs.YtgpnockjonicpaaGreatDoor
namespace Go.Proofs.YtgpnockjonicpaaGreatDoor
set_option linter.unusedSimpArgs false
set_option linter.unusedVariables false
open Go.RowKit

/-- a word that is there, in memory -/
theorem Sl.word_at {w : World} {A : Option Addr} {n c : Nat} {ws : List ByteArray} (h : Sl w 1 RSt (.slice A n c) ws) (i : Nat) (hi : i < ws.length) :
    ∃ b off, A = some ⟨b, off, none⟩ ∧ b < w.heap.size ∧ w.cell? ⟨b, off + i, none⟩ = some (.string (hd ws i)) := by
  obtain ⟨_, _, _, hA⟩ := h.at
  obtain ⟨b, off, rfl, hbl, hx⟩ := hA (by omega)
  obtain ⟨cs, rfl, _, hcs⟩ := hx i hi
  have h1 := hcs 0 _ rfl
  refine ⟨b, off, rfl, hbl, ?_⟩
  have e : hd ws i = ws[i] := by
    unfold hd sHead
    rw [List.drop_eq_getElem_cons hi]
    rfl
  rw [e]
  simpa using h1
theorem hd_none {ws : List ByteArray} {i : Nat} (h : ws.length ≤ i) : hd ws i = ⟨#[]⟩ := by
  unfold hd sHead
  rw [List.drop_eq_nil_of_le h]
  rfl
theorem numV_nil : numV ⟨#[]⟩ = 0 := by decide
def frR (s : ByteArray) : Nat := if minusB s = true then 1 else 0
def foldR (s : ByteArray) (k : Nat) : Int := foldV ((s.data.toList.take k).drop (frR s))
theorem body_fr (s : ByteArray) : bodyL s = s.data.toList.drop (frR s) := body_drop s
theorem foldR_start (s : ByteArray) : foldR s (frR s) = 0 := by
  unfold foldR
  rw [List.drop_eq_nil_of_le (by rw [List.length_take]; omega)]
  rfl
theorem foldR_step (s : ByteArray) (k : Nat) (h0 : frR s ≤ k) (hk : k < s.size) : foldR s (k + 1) = 10 * foldR s k + ((s[k].toNat : Int) - 48) := by
  unfold foldR
  rw [List.take_succ_eq_append_getElem (by rw [toList_size]; exact hk), List.drop_append_of_le_length (by rw [List.length_take, toList_size]; omega), foldV_snoc]
  rfl
theorem foldR_bound (s : ByteArray) (k : Nat) (hk : k ≤ s.size) (hb : (bodyL s).length ≤ 15) : -23000000000000000 ≤ foldR s k ∧ foldR s k ≤ 23000000000000000 := by
  unfold foldR
  have h1 := foldV_abs ((s.data.toList.take k).drop (frR s))
  have hl : ((s.data.toList.take k).drop (frR s)).length ≤ 15 := by
    rw [body_fr, List.length_drop, toList_size] at hb
    rw [List.length_drop, List.length_take, toList_size]
    omega
  have h2 := pow15 _ hl
  generalize (10 : Int) ^ ((s.data.toList.take k).drop (frR s)).length = p at *
  omega
theorem foldR_last (s : ByteArray) : foldR s s.size = foldV (bodyL s) := by
  unfold foldR
  rw [body_fr, List.take_of_length_le (by rw [toList_size]; exact Nat.le_refl _)]

set_option maxRecDepth 100000 in
set_option maxHeartbeats 4000000 in
theorem refNum_any (V : Value) (ws : List ByteArray) (i : Nat) (w : World) (hV : Sl w 1 RSt V ws) (hi : i ≤ 100) (hs : (hd ws i).size ≤ 1000000) :
    Calls Tryz.prog 60 #[V, .int .i64 i] w fun e w' => e = .returned (.int .i64 (numV (hd ws i))) ∧ w' = w := by
  obtain ⟨A, c, rfl⟩ := hV.form
  obtain ⟨_, hc1, hc2, hA⟩ := hV.at
  clear hA
  have i0 : (0 : Int) ≤ (i : Int) := by omega
  by_cases hlt : i < ws.length
  · obtain ⟨b, off, rfl, hbl, hcell⟩ := hV.word_at i hlt
    have q1 : decide ((ws.length : Int) ≤ (i : Int)) = false := by simp; omega
    have i1 : (i : Int) < (ws.length : Int) := by omega
    generalize hd ws i = s at *
    clear hV hlt
    generalize ws.length = n at *
    have HV : Hid (numV s = if 15 < (bodyL s).length then 0 else if minusB s = true then -(foldV (bodyL s)) else foldV (bodyL s)) := rfl
    have HBL : Hid ((bodyL s).length = s.size - frR s) := by unfold Hid; rw [body_fr, List.length_drop, toList_size]
    have HFR : Hid (frR s = if minusB s = true then 1 else 0) := rfl
    obtain ⟨mb, hmb⟩ : ∃ mb, minusB s = mb := ⟨_, rfl⟩
    rw [hmb] at HV HFR
    have HMB := Lib.hid hmb
    clear hmb
    go_enter Tryz.func60, Tryz.ntmps60
    go_upto_region 4 with fail
    go_cut [25] (fun q wx => q = .bool mb ∧ w = wx)
    case first =>
      by_cases h0 : s.size = 0
      · have q2 : decide (0 < (s.size : Int)) = false := decide_eq_false (by omega)
        have q2' : decide (0 < s.size) = false := decide_eq_false (by omega)
        have q2'' : ¬ (0 : Int) < (s.size : Int) := by omega
        have hm0 : mb = false := by
          rw [← HMB.out]
          cases q : minusB s with
          | false => rfl
          | true => obtain ⟨h, _⟩ := (minus_iff s).1 q; omega
        have HM0 := Lib.hid hm0
        clear hm0 h0
        go_wp2_with fail
        go_meet
        exact ⟨by rw [HM0.out], rfl⟩
      · have q2 : decide (0 < (s.size : Int)) = true := by simp; omega
        have hp : 0 < s.size := by omega
        have hpi : (0 : Int) < (s.size : Int) := by omega
        have q3 : ((s[0].toNat : Int) == 45) = mb := by
          rw [← HMB.out, Bool.eq_iff_iff, minus_iff]
          simp
          exact ⟨fun h => ⟨hp, by omega⟩, fun ⟨_, h⟩ => by omega⟩
        clear h0
        go_wp2_with fail
        go_meet
        exact ⟨rfl, rfl⟩
    case rest =>
    obtain ⟨rfl, rfl⟩ := hcut
    apply_assumption
    go_cut [6] (fun q wx => q = .int .i64 (frR s) ∧ w = wx)
    case first =>
      cases mb with
      | true =>
        go_wp2_with fail
        go_meet
        exact ⟨by rw [HFR.out]; rfl, rfl⟩
      | false =>
        go_wp2_with fail
        go_meet
        exact ⟨by rw [HFR.out]; rfl, rfl⟩
    case rest =>
    obtain ⟨rfl, rfl⟩ := hcut
    have hfr : frR s ≤ 1 := by rw [HFR.out]; split <;> omega
    have HF := Lib.hid hfr
    have fb1 : ¬ 9223372036854775807 < (s.size : Int) - (frR s : Int) := by omega
    have fb2 : ¬ (s.size : Int) - (frR s : Int) < -9223372036854775808 := by omega
    have HFS : Hid (s.size = 0 → frR s = 0) := fun q => by
      rw [HFR.out]
      cases hq : mb with
      | false => rfl
      | true => obtain ⟨h, _⟩ := (minus_iff s).1 (by rw [HMB.out, hq]); omega
    by_cases h15 : 15 < (bodyL s).length
    · have e := HV.out
      rw [if_pos h15] at e
      have HE := Lib.hid e
      have q2 : decide (15 < (s.size : Int) - (frR s : Int)) = true := decide_eq_true (by rw [HBL.out] at h15; omega)
      clear h15 e
      generalize frR s = fr at *
      go_wp2_with fail
      go_ret
      exact ⟨by rw [HE.out]; rfl, rfl⟩
    · have e := HV.out
      rw [if_neg h15] at e
      have HE := Lib.hid e
      have H15 : Hid ((bodyL s).length ≤ 15) := by unfold Hid; omega
      have q2 : decide (15 < (s.size : Int) - (frR s : Int)) = false := decide_eq_false (by rw [HBL.out] at h15; omega)
      have HLE : Hid (frR s ≤ s.size) := by unfold Hid; have := HFS.out; omega
      have HST := Lib.hid (foldR_start s)
      clear h15 e hfr
      obtain ⟨fr, hfe⟩ : ∃ fr, frR s = fr := ⟨_, rfl⟩
      have HFE := Lib.hid hfe
      rw [hfe] at HF HLE HST ⊢ fb1 fb2 q2
      clear hfe
      go_wp2_with fail
      go_loopw [5, 7] (fun n i wr => ∃ (k : Nat), fr ≤ k ∧ k ≤ s.size ∧ i = .int .i64 k ∧ n = .int .i64 (foldR s k) ∧ wr = w) (fun _ i _ => s.size - (intOf i).toNat)
      case atStart => exact ⟨fr, Nat.le_refl _, HLE.out, rfl, by rw [HST.out], rfl⟩
      case round =>
        obtain ⟨k, hfk, hk, rfl, rfl, rfl⟩ := hrel
        have hb := foldR_bound s k hk H15.out
        by_cases hlt : k < s.size
        · have hd : decide ((k : Int) < (s.size : Int)) = true := decide_eq_true (by omega)
          have HC : Hid (s[k].toNat < 256) := s[k].toNat_lt
          have hc := HC.out
          have HN : Hid (foldR s (k + 1) = 10 * foldR s k + ((s[k].toNat : Int) - 48)) := foldR_step s k (by rw [HFE.out]; exact hfk) hlt
          have HFK := Lib.hid hfk
          clear hfk
          generalize foldR s k = v at *
          go_wp2_with fail
          go_roundw
          case measure => simp [intOf]; omega
          case rel => exact ⟨k + 1, by have := HFK.out; omega, by omega, by go_num, by rw [HN.out]; congr 2; omega, trivial⟩
        · obtain rfl : k = s.size := by omega
          have hd : decide ((s.size : Int) < (s.size : Int)) = false := by simp
          have HL := Lib.hid (foldR_last s)
          rw [HL.out] at hb ⊢
          have HFK := Lib.hid hfk
          clear hfk
          cases mb with
          | true =>
            have q4 : fr = 1 := by rw [← HFE.out, HFR.out]; rfl
            subst q4
            have HE2 := HE.out
            rw [if_pos rfl] at HE2
            have HE3 := Lib.hid HE2
            clear HE2
            generalize foldV (bodyL s) = v at *
            go_wp2_with fail
            go_ret
            exact ⟨by rw [HE3.out]; rfl, rfl⟩
          | false =>
            have q4 : fr = 0 := by rw [← HFE.out, HFR.out]; rfl
            subst q4
            have HE2 := HE.out
            rw [if_neg (by decide)] at HE2
            have HE3 := Lib.hid HE2
            clear HE2
            generalize foldV (bodyL s) = v at *
            go_wp2_with fail
            go_ret
            exact ⟨by rw [HE3.out]; rfl, rfl⟩
  · have q1 : decide ((ws.length : Int) ≤ (i : Int)) = true := by simp; omega
    rw [hd_none (by omega), numV_nil]
    go_enter Tryz.func60, Tryz.ntmps60
    go_wp2_with fail
    go_ret
    exact ⟨rfl, rfl⟩
end Go.Proofs.YtgpnockjonicpaaGreatDoor
namespace Go.Proofs.YtgpnockjonicpaaGreatDoor
set_option linter.unusedSimpArgs false
set_option linter.unusedVariables false
open Go.RowKit

theorem getD_get (zs : List ByteArray) (k : Nat) (h : k < zs.length) : zs.getD k ByteArray.empty = zs[k] := by
  rw [List.getD_eq_getElem?_getD, List.getElem?_eq_getElem h]; rfl
theorem wordV_hit (zs : List ByteArray) (x : ByteArray) (k : Nat) (h1 : 1 ≤ k) (hk : k < zs.length) (hx : zs[k] = x) (h0 : zs.getD 0 ByteArray.empty ≠ x) (hne : ∀ j, 1 ≤ j → j < k → zs.getD j ByteArray.empty ≠ x) : wordV zs x = k := by
  have e := Lib.idxFromS_hit x zs k 0 hk (by rw [getD_get zs k hk, hx]) (fun j hj => by
    rcases Nat.eq_zero_or_pos j with rfl | h
    · exact h0
    · exact hne j h hj)
  unfold wordV Lib.idxOfS
  rw [e, if_neg (by omega)]
  omega
theorem wordV_miss (zs : List ByteArray) (x : ByteArray) (hl : 0 < zs.length) (hne : ∀ j, 1 ≤ j → j < zs.length → zs.getD j ByteArray.empty ≠ x) : wordV zs x = 0 := by
  unfold wordV Lib.idxOfS
  by_cases h0 : zs.getD 0 ByteArray.empty = x
  · have e := Lib.idxFromS_hit x zs 0 0 hl h0 (fun j hj => absurd hj (by omega))
    rw [e]
    rfl
  · have e := Lib.idxFromS_miss x zs 0 (fun j hj => by
      rcases Nat.eq_zero_or_pos j with rfl | h
      · exact h0
      · exact hne j h hj)
    rw [e]
    rfl
set_option maxRecDepth 100000 in
set_option maxHeartbeats 4000000 in
theorem refWord_any (zs : List ByteArray) (b : Nat) (V : Value) (ws : List ByteArray) (i : Nat) (w : World) (hV : Sl w 1 RSt V ws) (hi : i ≤ 100) (hb : Row1 w b 9 (zs.map Value.string)) (hl : 0 < zs.length) (hl2 : zs.length ≤ 100) (hz0 : zs.getD 0 ByteArray.empty = ⟨#[]⟩) (hz : ∀ j, 1 ≤ j → j < zs.length → zs.getD j ByteArray.empty ≠ ⟨#[]⟩) :
    Calls Tryz.prog 61 #[V, .int .i64 i, .slice (some ⟨b, 0, none⟩) zs.length zs.length] w fun e w' => e = .returned (.int .i64 (wordV zs (hd ws i))) ∧ Ext w w' := by
  obtain ⟨A, c, rfl⟩ := hV.form
  obtain ⟨_, hc1, hc2, hA⟩ := hV.at
  clear hA
  have i0 : (0 : Int) ≤ (i : Int) := by omega
  by_cases hlt : i < ws.length
  · obtain ⟨bA, off, rfl, hbl, hcell⟩ := hV.word_at i hlt
    have q1 : decide ((i : Int) < (ws.length : Int)) = true := decide_eq_true (by omega)
    have q1' : decide (i < ws.length) = true := decide_eq_true (by omega)
    have i1 : (i : Int) < (ws.length : Int) := by omega
    generalize hd ws i = s at *
    clear hV
    generalize ws.length = n at *
    go_enter Tryz.func61, Tryz.ntmps61
    go_wp2_with fail
    have HM : Hid (∀ k : Nat, 1 ≤ k → (hk : k < zs.length) → zs[k] = s → (∀ j, 1 ≤ j → j < k → zs.getD j ByteArray.empty ≠ s) → wordV zs s = k) := fun k h1 hk hx hne => wordV_hit zs s k h1 hk hx (by rw [hz0]; intro q; exact hz k h1 hk (by rw [getD_get zs k hk, hx, ← q])) hne
    have HN : Hid ((∀ j, 1 ≤ j → j < zs.length → zs.getD j ByteArray.empty ≠ s) → wordV zs s = 0) := wordV_miss zs s hl
    have HROW := Lib.hid hb
    have hbb := hb.lt
    clear hb hz hz0
    go_loopw [7] (fun i wr => ∃ (k : Nat), 1 ≤ k ∧ k ≤ zs.length ∧ i = .int .i64 k ∧ Hid (∀ j, 1 ≤ j → j < k → zs.getD j ByteArray.empty ≠ s) ∧ Ext w wr) (fun i _ => zs.length - (intOf i).toNat)
    case atStart => exact ⟨1, Nat.le_refl _, hl, by go_num, fun j h1 h2 => absurd h1 (by omega), Ext.refl _⟩
    case round =>
      obtain ⟨k, hk1, hk, rfl, hne, hx⟩ := hrel
      have HX := Lib.hid hx
      have hzx := hx.size
      have hcell' := (hx.cell hbl).trans hcell
      have hbl' : bA < wr.heap.size := by omega
      have hbb' : b < wr.heap.size := by omega
      have hrow' := HROW.out.ext hx (by omega)
      clear hx
      by_cases hkl : k < zs.length
      · have hd : decide ((k : Int) < (zs.length : Int)) = true := decide_eq_true (by omega)
        have hzc : wr.cell? ⟨b, k, none⟩ = some (.string zs[k]) := by
          rw [hrow'.cell, List.getElem?_map, List.getElem?_eq_getElem hkl]; rfl
        have ki : (0 : Int) ≤ (k : Int) := by omega
        have HGK := Lib.hid (getD_get zs k hkl)
        have HMK := Lib.hid (fun q => HM.out k hk1 hkl q hne)
        clear hrow'
        generalize zs[k] = z at *
        go_upto_region 4 with fail
        refine wp_region_held_drew (S := fun W => W.cell? ⟨bA, off + i, none⟩ = some (.string s) ∧ W.cell? ⟨b, k, none⟩ = some (.string z) ∧ bA < W.heap.size ∧ b < W.heap.size) (by kernel_rfl) (⟨hcell', hzc, hbl', hbb'⟩) (fun hHeld => ?_)
        refine' wpAnyH_take (i := 0) (oi := ?zoi0a) (v := ?zv0a) ?zhi0a (by kernel_rfl) (by kernel_rfl) (by kernel_rfl) ?zhQ0a (Or.inl ⟨?zhw0a, ?zhy0a⟩) (by assumption) ?zrest0a; (case zhi0a => simp only [List.getElem?_toArray, List.getElem?_cons_succ, List.getElem?_cons_zero]; exact rfl); (case zhQ0a => exact fun _ _ _ h => h); (case zhw0a => rfl); (case zhy0a => intro w hSw; (try dsimp only at hSw); go_simp; (try with_reducible rfl)); (try simp only [Act.put, List.setIfInBounds_toArray, List.set_cons_zero, List.set_cons_succ])
        refine' wpAnyH_take (i := 1) (oi := ?zoi1a) (v := ?zv1a) ?zhi1a (by kernel_rfl) (by kernel_rfl) (by kernel_rfl) ?zhQ1a (Or.inl ⟨?zhw1a, ?zhy1a⟩) (by assumption) ?zrest1a; (case zhi1a => simp only [List.getElem?_toArray, List.getElem?_cons_succ, List.getElem?_cons_zero]; exact rfl); (case zhQ1a => exact fun _ _ _ h => h); (case zhw1a => rfl); (case zhy1a => intro w hSw; (try dsimp only at hSw); go_simp; (try with_reducible rfl)); (try simp only [Act.put, List.setIfInBounds_toArray, List.set_cons_zero, List.set_cons_succ])
        refine' wpAnyH_take (i := 2) (oi := ?zoi2a) (v := ?zv2a) ?zhi2a (by kernel_rfl) (by kernel_rfl) (by kernel_rfl) ?zhQ2a (Or.inl ⟨?zhw2a, ?zhy2a⟩) (by assumption) ?zrest2a; (case zhi2a => simp only [List.getElem?_toArray, List.getElem?_cons_succ, List.getElem?_cons_zero]; exact rfl); (case zhQ2a => exact fun _ _ _ h => h); (case zhw2a => rfl); (case zhy2a => intro w hSw; (try dsimp only at hSw); go_simp; (try with_reducible rfl)); (try simp only [Act.put, List.setIfInBounds_toArray, List.set_cons_zero, List.set_cons_succ])
        refine' wpAnyH_take (i := 3) (oi := ?zoi3a) (v := ?zv3a) ?zhi3a (by kernel_rfl) (by kernel_rfl) (by kernel_rfl) ?zhQ3a (Or.inl ⟨?zhw3a, ?zhy3a⟩) (by assumption) ?zrest3a; (case zhi3a => simp only [List.getElem?_toArray, List.getElem?_cons_succ, List.getElem?_cons_zero]; exact rfl); (case zhQ3a => exact fun _ _ _ h => h); (case zhw3a => rfl); (case zhy3a => intro w hSw; (try dsimp only at hSw); go_simp; (try with_reducible rfl)); (try simp only [Act.put, List.setIfInBounds_toArray, List.set_cons_zero, List.set_cons_succ])
        refine' wpAnyH_take (i := 4) (oi := ?zoi4a) (v := ?zv4a) ?zhi4a (by kernel_rfl) (by kernel_rfl) (by kernel_rfl) ?zhQ4a (Or.inl ⟨?zhw4a, ?zhy4a⟩) (by assumption) ?zrest4a; (case zhi4a => simp only [List.getElem?_toArray, List.getElem?_cons_succ, List.getElem?_cons_zero]; exact rfl); (case zhQ4a => exact fun _ _ _ h => h); (case zhw4a => rfl); (case zhy4a => intro w hSw; (try dsimp only at hSw); go_simp; (try with_reducible rfl)); (try simp only [Act.put, List.setIfInBounds_toArray, List.set_cons_zero, List.set_cons_succ])
        refine' wpAnyH_take (i := 5) (oi := ?zoi5a) (v := ?zv5a) ?zhi5a (by kernel_rfl) (by kernel_rfl) (by kernel_rfl) ?zhQ5a (Or.inl ⟨?zhw5a, ?zhy5a⟩) (by assumption) ?zrest5a; (case zhi5a => simp only [List.getElem?_toArray, List.getElem?_cons_succ, List.getElem?_cons_zero]; exact rfl); (case zhQ5a => exact fun _ _ _ h => h); (case zhw5a => rfl); (case zhy5a => intro w hSw; (try dsimp only at hSw); go_simp; (try with_reducible rfl)); (try simp only [Act.put, List.setIfInBounds_toArray, List.set_cons_zero, List.set_cons_succ])
        refine' wpAnyH_take (i := 6) (oi := ?zoi6a) (v := ?zv6a) ?zhi6a (by kernel_rfl) (by kernel_rfl) (by kernel_rfl) ?zhQ6a (Or.inl ⟨?zhw6a, ?zhy6a⟩) (by assumption) ?zrest6a; (case zhi6a => simp only [List.getElem?_toArray, List.getElem?_cons_succ, List.getElem?_cons_zero]; exact rfl); (case zhQ6a => exact fun _ _ _ h => h); (case zhw6a => rfl); (case zhy6a => intro w hSw; (try dsimp only at hSw); go_simp; (try with_reducible rfl)); (try simp only [Act.put, List.setIfInBounds_toArray, List.set_cons_zero, List.set_cons_succ])
        refine' wpAnyH_take (i := 7) (oi := ?zoi7a) (v := ?zv7a) ?zhi7a (by kernel_rfl) (by kernel_rfl) (by kernel_rfl) ?zhQ7a (Or.inl ⟨?zhw7a, ?zhy7a⟩) (by assumption) ?zrest7a; (case zhi7a => simp only [List.getElem?_toArray, List.getElem?_cons_succ, List.getElem?_cons_zero]; exact rfl); (case zhQ7a => exact fun _ _ _ h => h); (case zhw7a => rfl); (case zhy7a => intro w hSw; (try dsimp only at hSw); go_simp; (try with_reducible rfl)); (try simp only [Act.put, List.setIfInBounds_toArray, List.set_cons_zero, List.set_cons_succ])
        refine' wpAnyH_take (i := 8) (oi := ?zoi8a) (v := ?zv8a) ?zhi8a (by kernel_rfl) (by kernel_rfl) (by kernel_rfl) ?zhQ8a (Or.inl ⟨?zhw8a, ?zhy8a⟩) (by assumption) ?zrest8a; (case zhi8a => simp only [List.getElem?_toArray, List.getElem?_cons_succ, List.getElem?_cons_zero]; exact rfl); (case zhQ8a => exact fun _ _ _ h => h); (case zhw8a => rfl); (case zhy8a => intro w hSw; (try dsimp only at hSw); go_simp; (try with_reducible rfl)); (try simp only [Act.put, List.setIfInBounds_toArray, List.set_cons_zero, List.set_cons_succ])
        refine wpAnyH_done (by kernel_rfl) ?_ _
        go_wp2_with fail
        · have HE := Lib.hid (HMK.out (of_decide_eq_true ((str_eqb z s).symm.trans (by assumption))))
          go_wp2_with fail
          go_ret
          exact ⟨by rw [HE.out]; rfl, by (repeat' (with_reducible first | exact HX.out | exact Below.refl _ _ | refine Ext.drewN ?_ _ | refine Below.drew ?_ | refine Below.setCell ?_ ?_ _ | refine Below.alloc ?_ ?_ _)) <;> (first | omega | (simp; done) | (simp; omega))⟩
        · have he : ¬ z = s := of_decide_eq_false ((str_eqb z s).symm.trans (by assumption))
          have HNE : Hid (∀ j, 1 ≤ j → j < k + 1 → zs.getD j ByteArray.empty ≠ s) := fun j h1 h2 => by
            by_cases e : j = k
            · subst e; rw [HGK.out]; exact he
            · exact hne j h1 (by omega)
          clear he
          go_wp2_with fail
          go_roundw
          case measure => simp [intOf]; omega
          case rel => exact ⟨k + 1, by omega, by omega, by go_num, HNE, by (repeat' (with_reducible first | exact HX.out | exact Below.refl _ _ | refine Ext.drewN ?_ _ | refine Below.drew ?_ | refine Below.setCell ?_ ?_ _ | refine Below.alloc ?_ ?_ _)) <;> (first | omega | (simp; done) | (simp; omega))⟩
      · obtain rfl : k = zs.length := by omega
        have hd : decide ((zs.length : Int) < (zs.length : Int)) = false := by simp
        have HE := Lib.hid (HN.out hne)
        clear hrow'
        go_wp2_with fail
        go_ret
        exact ⟨by rw [HE.out]; rfl, by (repeat' (with_reducible first | exact HX.out | exact Below.refl _ _ | refine Ext.drewN ?_ _ | refine Below.drew ?_ | refine Below.setCell ?_ ?_ _ | refine Below.alloc ?_ ?_ _)) <;> (first | omega | (simp; done) | (simp; omega))⟩
  · have q1 : decide ((i : Int) < (ws.length : Int)) = false := decide_eq_false (by omega)
    have q1' : decide (i < ws.length) = false := decide_eq_false (by omega)
    rw [hd_none (by omega), wordV_miss zs _ hl hz]
    go_enter Tryz.func61, Tryz.ntmps61
    go_wp2_with fail
    go_loopw [7] (fun i wr => i = .int .i64 1 ∧ w = wr) (fun i _ => 0)
    case atStart => exact ⟨rfl, rfl⟩
    case round =>
      obtain ⟨rfl, rfl⟩ := hrel
      by_cases h1 : decide ((1 : Int) < (zs.length : Int)) = true
      · go_wp2_with fail
        go_ret
        exact ⟨rfl, Ext.refl _⟩
      · go_wp2_with fail
        go_ret
        exact ⟨rfl, Ext.refl _⟩
end Go.Proofs.YtgpnockjonicpaaGreatDoor
