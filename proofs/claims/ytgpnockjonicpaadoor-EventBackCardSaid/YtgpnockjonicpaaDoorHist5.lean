/- hist.Check, ref12.Check: which histories may be. Conditions: that all can be read. -/
/- hist.Check: which histories may be. Conditions: that all can be read, numbers that an int holds. -/
import Derived.Test.YtgpnockjonicpaaDoorHist3
import Derived.Test.YtgpnockjonicpaaDoorChk3
import Derived.Test.YtgpnockjonicpaaDoorRChk2
import Derived.IntWalk
namespace Go.Proofs.YtgpnockjonicpaaDoor
set_option linter.unusedSimpArgs false
set_option linter.unusedVariables false
open Go.RowKit

def lowB (p : Option Int) (x : OpD) : Bool := match p with | some q => decide (x.id ≤ q) | none => false
def chkSeq : Option Int → List OpD → Int
  | _, [] => 0
  | p, x :: r => if chkL x ≠ 0 then chkL x else if lowB p x = true then 7 else chkSeq (some x.id) r
def besSeq (l : List OpD) : List OpD → Int
  | [] => 0
  | x :: r => if besideL l x ≠ 0 then besideL l x else besSeq l r
/-- what is wrong with a history -/
def histL (l : List OpD) : Int := if 64 < l.length then 34 else if chkSeq none l ≠ 0 then chkSeq none l else besSeq l l
def prevId (l : List OpD) (k : Nat) : Option Int := if k = 0 then none else (l[k - 1]?).map OpD.id
theorem prevId_succ (l : List OpD) (k : Nat) (h : k < l.length) : prevId l (k + 1) = some l[k].id := by simp [prevId, h]
theorem chkSeq_at (l : List OpD) (k : Nat) (h : k < l.length) : chkSeq (prevId l k) (l.drop k) = if chkL l[k] ≠ 0 then chkL l[k] else if lowB (prevId l k) l[k] = true then 7 else chkSeq (prevId l (k + 1)) (l.drop (k + 1)) := by
  rw [List.drop_eq_getElem_cons h, chkSeq, prevId_succ l k h]
theorem besSeq_at (l : List OpD) (k : Nat) (h : k < l.length) : besSeq l (l.drop k) = if besideL l l[k] ≠ 0 then besideL l l[k] else besSeq l (l.drop (k + 1)) := by
  rw [List.drop_eq_getElem_cons h, besSeq]

set_option maxRecDepth 100000 in
set_option maxHeartbeats 4000000 in
theorem refHist_any (V : Value) (l : List OpD) (w : World) (hs : Sl w 11 ROp V l) :
    Calls Tryd.prog 10 #[V] w fun e w' => e = .returned (.int .i64 (histL l)) ∧ Ext w w' := by
  obtain ⟨A, c, rfl⟩ := hs.form
  have HS := Lib.hid hs
  obtain ⟨_, hc1, hc2, hA⟩ := hs.at
  have HA := Lib.hid hA
  have HV : Hid (histL l = if 64 < l.length then 34 else if chkSeq none l ≠ 0 then chkSeq none l else besSeq l l) := rfl
  clear hs hA
  by_cases hbig : 64 < l.length
  · have q0 : decide ((64 : Int) < (l.length : Int)) = true := by simp; omega
    rw [if_pos hbig] at HV
    go_enter Tryd.func10, Tryd.ntmps10
    go_wp2_with fail
    go_ret
    exact ⟨by rw [HV.out]; rfl, Ext.refl _⟩
  · have q0 : decide ((64 : Int) < (l.length : Int)) = false := by simp; omega
    rw [if_neg hbig] at HV
    go_enter Tryd.func10, Tryd.ntmps10
    go_wp2_with fail
    go_loopw [3] (fun i wr => ∃ k : Nat, k ≤ l.length ∧ i = .int .i64 k ∧ Ext w wr ∧ chkSeq none l = chkSeq (prevId l k) (l.drop k)) (fun i _ => l.length - (intOf i).toNat)
    case atStart => exact ⟨0, by omega, rfl, Ext.refl _, rfl⟩
    case round =>
      obtain ⟨k, hk, rfl, hb, hseq⟩ := hrel
      have HB := Lib.hid hb
      have HF := Lib.hid hseq
      clear hb hseq
      by_cases hlt : k < l.length
      · have hd : decide ((k : Int) < (l.length : Int)) = true := by simp; omega
        obtain ⟨b, off, rfl, hbl, hcell⟩ := HA.out (by omega)
        have HEJ : Hid (∀ (j : Nat) (hj : j < l.length) (W : World), Ext w W → (W.cell? ⟨b, off + j * 11, none⟩ = some (.int .i64 l[j].id) ∧ W.cell? ⟨b, off + j * 11 + 1, none⟩ = some (.int .i64 l[j].proc) ∧ W.cell? ⟨b, off + j * 11 + 2, none⟩ = some (.int .i64 l[j].object) ∧ W.cell? ⟨b, off + j * 11 + 3, none⟩ = some (.int .i64 l[j].kind) ∧ W.cell? ⟨b, off + j * 11 + 4, none⟩ = some (.int .i64 l[j].method) ∧ W.cell? ⟨b, off + j * 11 + 5, none⟩ = some (.int .i64 l[j].arg) ∧ W.cell? ⟨b, off + j * 11 + 6, none⟩ = some (.int .i64 l[j].second) ∧ W.cell? ⟨b, off + j * 11 + 7, none⟩ = some (.bool l[j].done) ∧ W.cell? ⟨b, off + j * 11 + 8, none⟩ = some (.int .i64 l[j].result) ∧ W.cell? ⟨b, off + j * 11 + 9, none⟩ = some (.int .i64 l[j].invoke) ∧ W.cell? ⟨b, off + j * 11 + 10, none⟩ = some (.int .i64 l[j].ret))) := by
          intro j hj W h
          obtain ⟨cs, rfl, _, hcs⟩ := hcell j hj
          have hw := fun i u hu => (h.cell (p := ⟨b, off + j * 11 + i, none⟩) hbl).trans (hcs i u hu)
          exact ⟨hw 0 _ rfl, hw 1 _ rfl, hw 2 _ rfl, hw 3 _ rfl, hw 4 _ rfl, hw 5 _ rfl, hw 6 _ rfl, hw 7 _ rfl, hw 8 _ rfl, hw 9 _ rfl, hw 10 _ rfl⟩
        have H1 : Hid (chkL l[k] ≠ 0 → histL l = chkL l[k]) := fun h => by
          have e1 : chkSeq none l = chkL l[k] := by rw [HF.out, chkSeq_at l k hlt, if_pos h]
          rw [HV.out, e1, if_pos h]
        have H7 : Hid (chkL l[k] = 0 → lowB (prevId l k) l[k] = true → histL l = 7) := fun h h2 => by
          have e1 : chkSeq none l = 7 := by rw [HF.out, chkSeq_at l k hlt, if_neg (by simpa using h), if_pos h2]
          rw [HV.out, e1]; rfl
        have HN : Hid (chkL l[k] = 0 → lowB (prevId l k) l[k] = false → chkSeq none l = chkSeq (prevId l (k + 1)) (l.drop (k + 1))) := fun h h2 => by
          rw [HF.out, chkSeq_at l k hlt, if_neg (by simpa using h), if_neg (by simp [h2])]
        have HE := Lib.hid (HEJ.out k hlt)
        have HPR : Hid (∀ m, k = m + 1 → ∃ p : OpD, prevId l k = some p.id ∧ ∀ W : World, Ext w W → W.cell? ⟨b, off + m * 11, none⟩ = some (.int .i64 p.id)) := by
          intro m hm
          subst hm
          exact ⟨l[m], prevId_succ l m (by omega), fun W h => (HEJ.out m (by omega) W h).1⟩
        have HP0 : Hid (k = 0 → prevId l k = none) := fun h => by subst h; rfl
        clear hcell HEJ
        generalize l[k] = x at *
        generalize prevId l k = pv at *
        obtain ⟨e0, e1, e2, e3, e4, e5, e6, e7, e8, e9, e10⟩ := HE.out wr HB.out
        go_wp2_with fail
        refine (refCheck_any x _).mono ?_
        rintro e w1 ⟨rfl, hb1⟩
        have K1 := Lib.hid (Ext.trans HB.out hb1)
        clear hb1 e0 e1 e2 e3 e4 e5 e6 e7 e8 e9 e10
        obtain ⟨e0, e1, e2, e3, e4, e5, e6, e7, e8, e9, e10⟩ := HE.out w1 K1.out
        have hbw := Nat.lt_of_lt_of_le hbl K1.out.size
        by_cases hz : chkL x = 0
        · rw [hz]
          have HN2 := Lib.hid (HN.out hz)
          have H72 := Lib.hid (H7.out hz)
          clear hz H1 HN H7
          go_wp2_with fail
          cases k with
          | zero =>
            have HN3 := Lib.hid (HN2.out (by rw [HP0.out rfl]; rfl))
            go_quiet (fail)
            go_wp2_with fail
            go_roundw
            case measure => simp [intOf]; omega
            case rel => exact ⟨1, by omega, by go_num, by (repeat' (with_reducible first | exact K1.out | exact Below.refl _ _ | refine Ext.drewN ?_ _ | refine Below.drew ?_ | refine Below.setCell ?_ ?_ _ | refine Below.alloc ?_ ?_ _)) <;> (first | omega | (simp; done) | (simp; omega)), HN3.out⟩
          | succ m =>
            obtain ⟨p, hp1, hp2⟩ := HPR.out m rfl
            have HL : Hid (lowB pv x = decide (x.id ≤ p.id)) := by unfold Hid; rw [hp1]; rfl
            have c0 := hp2 w1 K1.out
            clear hp1 hp2 HPR HP0
            have s1 : IntKind.i64.wrap (((m + 1 : Nat) : Int) - 1) = (m : Int) := by rw [IntWalk.i64_in _ (by omega)]; omega
            have s2 : (0 : Int) ≤ (m : Int) := by omega
            have s3 : (m : Int) < (l.length : Int) := by omega
            have s4 : decide ((0 : Int) < ((m + 1 : Nat) : Int)) = true := (by first | (simp; done) | (simp; omega) | omega)
            cases hq : decide (x.id ≤ p.id) with
            | true =>
              have HN3 := Lib.hid (H72.out (by rw [HL.out, hq]))
              go_quiet (fail)
              go_wp2_with fail
              go_ret
              exact ⟨by rw [HN3.out]; rfl, by (repeat' (with_reducible first | exact K1.out | exact Below.refl _ _ | refine Ext.drewN ?_ _ | refine Below.drew ?_ | refine Below.setCell ?_ ?_ _ | refine Below.alloc ?_ ?_ _)) <;> (first | omega | (simp; done) | (simp; omega))⟩
            | false =>
              have HN3 := Lib.hid (HN2.out (by rw [HL.out, hq]))
              go_quiet (fail)
              go_wp2_with fail
              go_roundw
              case measure => simp [intOf]; omega
              case rel => exact ⟨m + 1 + 1, by omega, by go_num, by (repeat' (with_reducible first | exact K1.out | exact Below.refl _ _ | refine Ext.drewN ?_ _ | refine Below.drew ?_ | refine Below.setCell ?_ ?_ _ | refine Below.alloc ?_ ?_ _)) <;> (first | omega | (simp; done) | (simp; omega)), HN3.out⟩
        · have q : (chkL x != 0) = true := by simpa using hz
          have HH := Lib.hid (H1.out hz)
          clear hz H1 HN H7
          generalize chkL x = cx at *
          go_wp2_with fail
          go_ret
          exact ⟨by rw [HH.out]; rfl, K1.out⟩
      · obtain rfl : k = l.length := by omega
        obtain ⟨wo, rfl⟩ : ∃ wo, wo = wr := ⟨_, rfl⟩
        have hd : decide ((l.length : Int) < (l.length : Int)) = false := by simp
        have HV2 : Hid (histL l = besSeq l l) := by
          have e1 : chkSeq none l = 0 := by rw [HF.out, List.drop_length]; rfl
          unfold Hid
          rw [HV.out, e1, if_neg (by simp)]
        clear HF HV
        go_wp2_with fail
        go_loopw [5] (fun i wr => ∃ k : Nat, k ≤ l.length ∧ i = .int .i64 k ∧ Ext wo wr ∧ besSeq l l = besSeq l (l.drop k)) (fun i _ => l.length - (intOf i).toNat)
        case atStart => exact ⟨0, by omega, rfl, Ext.refl _, rfl⟩
        case round =>
          obtain ⟨j, hj, rfl, hbz, hseq⟩ := hrel
          obtain ⟨wz, rfl⟩ : ∃ wz, wz = wr := ⟨_, rfl⟩
          have HBZ := Lib.hid (Ext.trans HB.out hbz)
          have HZ := Lib.hid hbz
          have HF := Lib.hid hseq
          clear hbz hseq
          by_cases hlt : j < l.length
          · have hdj : decide ((j : Int) < (l.length : Int)) = true := by simp; omega
            obtain ⟨b, off, rfl, hbl, hcell⟩ := HA.out (by omega)
            obtain ⟨cs, rfl, _, hcs⟩ := hcell j hlt
            have HE : Hid (wz.cell? ⟨b, off + j * 11, none⟩ = some (.int .i64 l[j].id) ∧ wz.cell? ⟨b, off + j * 11 + 1, none⟩ = some (.int .i64 l[j].proc) ∧ wz.cell? ⟨b, off + j * 11 + 2, none⟩ = some (.int .i64 l[j].object) ∧ wz.cell? ⟨b, off + j * 11 + 3, none⟩ = some (.int .i64 l[j].kind) ∧ wz.cell? ⟨b, off + j * 11 + 4, none⟩ = some (.int .i64 l[j].method) ∧ wz.cell? ⟨b, off + j * 11 + 5, none⟩ = some (.int .i64 l[j].arg) ∧ wz.cell? ⟨b, off + j * 11 + 6, none⟩ = some (.int .i64 l[j].second) ∧ wz.cell? ⟨b, off + j * 11 + 7, none⟩ = some (.bool l[j].done) ∧ wz.cell? ⟨b, off + j * 11 + 8, none⟩ = some (.int .i64 l[j].result) ∧ wz.cell? ⟨b, off + j * 11 + 9, none⟩ = some (.int .i64 l[j].invoke) ∧ wz.cell? ⟨b, off + j * 11 + 10, none⟩ = some (.int .i64 l[j].ret)) := by
              have hw := fun i u hu => (HBZ.out.cell (p := ⟨b, off + j * 11 + i, none⟩) hbl).trans (hcs i u hu)
              exact ⟨hw 0 _ rfl, hw 1 _ rfl, hw 2 _ rfl, hw 3 _ rfl, hw 4 _ rfl, hw 5 _ rfl, hw 6 _ rfl, hw 7 _ rfl, hw 8 _ rfl, hw 9 _ rfl, hw 10 _ rfl⟩
            have H1 : Hid (besideL l l[j] ≠ 0 → histL l = besideL l l[j]) := fun h => by rw [HV2.out, HF.out, besSeq_at l j hlt, if_pos h]
            have HN : Hid (besideL l l[j] = 0 → besSeq l l = besSeq l (l.drop (j + 1))) := fun h => by rw [HF.out, besSeq_at l j hlt, if_neg (by simpa using h)]
            clear hcell hcs
            generalize l[j] = x at *
            obtain ⟨e0, e1, e2, e3, e4, e5, e6, e7, e8, e9, e10⟩ := HE.out
            go_wp2_with fail
            refine (refBeside_any _ l x _ (HS.out.ext HBZ.out)).mono ?_
            rintro e w1 ⟨rfl, hb1⟩
            have K1 := Lib.hid (Ext.trans HZ.out hb1)
            clear hb1 e0 e1 e2 e3 e4 e5 e6 e7 e8 e9 e10
            by_cases hz : besideL l x = 0
            · rw [hz]
              have HN2 := Lib.hid (HN.out hz)
              clear hz H1 HN
              go_wp2_with fail
              go_roundw
              case measure => simp [intOf]; omega
              case rel => exact ⟨j + 1, by omega, by go_num, K1.out, HN2.out⟩
            · have q : (besideL l x != 0) = true := by simpa using hz
              have HH := Lib.hid (H1.out hz)
              clear hz H1 HN
              generalize besideL l x = cx at *
              go_wp2_with fail
              go_ret
              exact ⟨by rw [HH.out]; rfl, Ext.trans HB.out K1.out⟩
          · obtain rfl : j = l.length := by omega
            have HV3 : Hid (histL l = 0) := by unfold Hid; rw [HV2.out, HF.out, List.drop_length]; rfl
            go_wp2_with fail
            go_ret
            exact ⟨by rw [HV3.out]; rfl, HBZ.out⟩
end Go.Proofs.YtgpnockjonicpaaDoor
namespace Go.Proofs.YtgpnockjonicpaaDoor
set_option linter.unusedSimpArgs false
set_option linter.unusedVariables false
open Go.RowKit

set_option maxRecDepth 100000 in
set_option maxHeartbeats 4000000 in
theorem hist_any (V : Value) (l : List OpD) (w : World) (hs : Sl w 11 ROp V l) (hwf : ∀ o ∈ l, -9223372036854775808 ≤ o.result ∧ o.result ≤ 9223372036854775807) :
    Calls Tryd.prog 25 #[V] w fun e w' => e = .returned (.int .i64 (histL l)) ∧ Ext w w' := by
  obtain ⟨A, c, rfl⟩ := hs.form
  have HS := Lib.hid hs
  have HWF := Lib.hid hwf
  obtain ⟨_, hc1, hc2, hA⟩ := hs.at
  have HA := Lib.hid hA
  have HV : Hid (histL l = if 64 < l.length then 34 else if chkSeq none l ≠ 0 then chkSeq none l else besSeq l l) := rfl
  clear hs hA hwf
  by_cases hbig : 64 < l.length
  · have q0 : decide ((64 : Int) < (l.length : Int)) = true := by simp; omega
    rw [if_pos hbig] at HV
    go_enter Tryd.func25, Tryd.ntmps25
    go_wp2_with fail
    go_ret
    exact ⟨by rw [HV.out]; rfl, Ext.refl _⟩
  · have q0 : decide ((64 : Int) < (l.length : Int)) = false := by simp; omega
    rw [if_neg hbig] at HV
    go_enter Tryd.func25, Tryd.ntmps25
    go_wp2_with fail
    go_loopw [14] (fun i wr => ∃ k : Nat, k ≤ l.length ∧ i = .int .i64 k ∧ Ext w wr ∧ chkSeq none l = chkSeq (prevId l k) (l.drop k)) (fun i _ => l.length - (intOf i).toNat)
    case atStart => exact ⟨0, by omega, rfl, Ext.refl _, rfl⟩
    case round =>
      obtain ⟨k, hk, rfl, hb, hseq⟩ := hrel
      have HB := Lib.hid hb
      have HF := Lib.hid hseq
      clear hb hseq
      by_cases hlt : k < l.length
      · have hd : decide ((k : Int) < (l.length : Int)) = true := by simp; omega
        obtain ⟨b, off, rfl, hbl, hcell⟩ := HA.out (by omega)
        have HEJ : Hid (∀ (j : Nat) (hj : j < l.length) (W : World), Ext w W → (W.cell? ⟨b, off + j * 11, none⟩ = some (.int .i64 l[j].id) ∧ W.cell? ⟨b, off + j * 11 + 1, none⟩ = some (.int .i64 l[j].proc) ∧ W.cell? ⟨b, off + j * 11 + 2, none⟩ = some (.int .i64 l[j].object) ∧ W.cell? ⟨b, off + j * 11 + 3, none⟩ = some (.int .i64 l[j].kind) ∧ W.cell? ⟨b, off + j * 11 + 4, none⟩ = some (.int .i64 l[j].method) ∧ W.cell? ⟨b, off + j * 11 + 5, none⟩ = some (.int .i64 l[j].arg) ∧ W.cell? ⟨b, off + j * 11 + 6, none⟩ = some (.int .i64 l[j].second) ∧ W.cell? ⟨b, off + j * 11 + 7, none⟩ = some (.bool l[j].done) ∧ W.cell? ⟨b, off + j * 11 + 8, none⟩ = some (.int .i64 l[j].result) ∧ W.cell? ⟨b, off + j * 11 + 9, none⟩ = some (.int .i64 l[j].invoke) ∧ W.cell? ⟨b, off + j * 11 + 10, none⟩ = some (.int .i64 l[j].ret))) := by
          intro j hj W h
          obtain ⟨cs, rfl, _, hcs⟩ := hcell j hj
          have hw := fun i u hu => (h.cell (p := ⟨b, off + j * 11 + i, none⟩) hbl).trans (hcs i u hu)
          exact ⟨hw 0 _ rfl, hw 1 _ rfl, hw 2 _ rfl, hw 3 _ rfl, hw 4 _ rfl, hw 5 _ rfl, hw 6 _ rfl, hw 7 _ rfl, hw 8 _ rfl, hw 9 _ rfl, hw 10 _ rfl⟩
        have H1 : Hid (chkL l[k] ≠ 0 → histL l = chkL l[k]) := fun h => by
          have e1 : chkSeq none l = chkL l[k] := by rw [HF.out, chkSeq_at l k hlt, if_pos h]
          rw [HV.out, e1, if_pos h]
        have H7 : Hid (chkL l[k] = 0 → lowB (prevId l k) l[k] = true → histL l = 7) := fun h h2 => by
          have e1 : chkSeq none l = 7 := by rw [HF.out, chkSeq_at l k hlt, if_neg (by simpa using h), if_pos h2]
          rw [HV.out, e1]; rfl
        have HN : Hid (chkL l[k] = 0 → lowB (prevId l k) l[k] = false → chkSeq none l = chkSeq (prevId l (k + 1)) (l.drop (k + 1))) := fun h h2 => by
          rw [HF.out, chkSeq_at l k hlt, if_neg (by simpa using h), if_neg (by simp [h2])]
        have HE := Lib.hid (HEJ.out k hlt)
        have HRW := Lib.hid (HWF.out l[k] (List.getElem_mem hlt))
        have HPR : Hid (∀ m, k = m + 1 → ∃ p : OpD, prevId l k = some p.id ∧ ∀ W : World, Ext w W → W.cell? ⟨b, off + m * 11, none⟩ = some (.int .i64 p.id)) := by
          intro m hm
          subst hm
          exact ⟨l[m], prevId_succ l m (by omega), fun W h => (HEJ.out m (by omega) W h).1⟩
        have HP0 : Hid (k = 0 → prevId l k = none) := fun h => by subst h; rfl
        clear hcell HEJ
        generalize l[k] = x at *
        generalize prevId l k = pv at *
        obtain ⟨e0, e1, e2, e3, e4, e5, e6, e7, e8, e9, e10⟩ := HE.out wr HB.out
        go_wp2_with fail
        have hzr := HB.out.size
        refine (opCheck_any x _ HRW.out).mono ?_
        rintro e w1 ⟨rfl, hb1⟩
        rw [opChk_eq]
        have K1 := Lib.hid (Ext.trans (by (repeat' (with_reducible first | exact HB.out | exact Below.refl _ _ | refine Ext.drewN ?_ _ | refine Below.drew ?_ | refine Below.setCell ?_ ?_ _ | refine Below.alloc ?_ ?_ _)) <;> (first | omega | (simp; done) | (simp; omega)) : Ext w _) hb1)
        have b0 : w1.cell? ⟨wr.heap.size, 0, none⟩ = some (.int .i64 x.id) := by rw [hb1.cell (by first | (simp; done) | (simp; omega) | omega)]; go_simp
        have hbx : wr.heap.size < w1.heap.size := by have := hb1.size; simp at this; omega
        clear hb1 e0 e1 e2 e3 e4 e5 e6 e7 e8 e9 e10
        obtain ⟨e0, e1, e2, e3, e4, e5, e6, e7, e8, e9, e10⟩ := HE.out w1 K1.out
        have hbw := Nat.lt_of_lt_of_le hbl K1.out.size
        by_cases hz : chkL x = 0
        · rw [hz]
          have HN2 := Lib.hid (HN.out hz)
          have H72 := Lib.hid (H7.out hz)
          clear hz H1 HN H7
          go_wp2_with fail
          cases k with
          | zero =>
            have HN3 := Lib.hid (HN2.out (by rw [HP0.out rfl]; rfl))
            go_quiet (fail)
            go_wp2_with fail
            go_roundw
            case measure => simp [intOf]; omega
            case rel => exact ⟨1, by omega, by go_num, by (repeat' (with_reducible first | exact K1.out | exact Below.refl _ _ | refine Ext.drewN ?_ _ | refine Below.drew ?_ | refine Below.setCell ?_ ?_ _ | refine Below.alloc ?_ ?_ _)) <;> (first | omega | (simp; done) | (simp; omega)), HN3.out⟩
          | succ m =>
            obtain ⟨p, hp1, hp2⟩ := HPR.out m rfl
            have HL : Hid (lowB pv x = decide (x.id ≤ p.id)) := by unfold Hid; rw [hp1]; rfl
            have c0 := hp2 w1 K1.out
            clear hp1 hp2 HPR HP0
            have s1 : IntKind.i64.wrap (((m + 1 : Nat) : Int) - 1) = (m : Int) := by rw [IntWalk.i64_in _ (by omega)]; omega
            have s2 : (0 : Int) ≤ (m : Int) := by omega
            have s3 : (m : Int) < (l.length : Int) := by omega
            have s4 : decide ((0 : Int) < ((m + 1 : Nat) : Int)) = true := (by first | (simp; done) | (simp; omega) | omega)
            cases hq : decide (x.id ≤ p.id) with
            | true =>
              have HN3 := Lib.hid (H72.out (by rw [HL.out, hq]))
              go_quiet (fail)
              go_wp2_with fail
              go_ret
              exact ⟨by rw [HN3.out]; rfl, by (repeat' (with_reducible first | exact K1.out | exact Below.refl _ _ | refine Ext.drewN ?_ _ | refine Below.drew ?_ | refine Below.setCell ?_ ?_ _ | refine Below.alloc ?_ ?_ _)) <;> (first | omega | (simp; done) | (simp; omega))⟩
            | false =>
              have HN3 := Lib.hid (HN2.out (by rw [HL.out, hq]))
              go_quiet (fail)
              go_wp2_with fail
              go_roundw
              case measure => simp [intOf]; omega
              case rel => exact ⟨m + 1 + 1, by omega, by go_num, by (repeat' (with_reducible first | exact K1.out | exact Below.refl _ _ | refine Ext.drewN ?_ _ | refine Below.drew ?_ | refine Below.setCell ?_ ?_ _ | refine Below.alloc ?_ ?_ _)) <;> (first | omega | (simp; done) | (simp; omega)), HN3.out⟩
        · have q : (chkL x != 0) = true := by simpa using hz
          have HH := Lib.hid (H1.out hz)
          clear hz H1 HN H7
          generalize chkL x = cx at *
          go_wp2_with fail
          go_ret
          exact ⟨by rw [HH.out]; rfl, K1.out⟩
      · obtain rfl : k = l.length := by omega
        obtain ⟨wo, rfl⟩ : ∃ wo, wo = wr := ⟨_, rfl⟩
        have hd : decide ((l.length : Int) < (l.length : Int)) = false := by simp
        have HV2 : Hid (histL l = besSeq l l) := by
          have e1 : chkSeq none l = 0 := by rw [HF.out, List.drop_length]; rfl
          unfold Hid
          rw [HV.out, e1, if_neg (by simp)]
        clear HF HV
        go_wp2_with fail
        go_loopw [40] (fun i wr => ∃ k : Nat, k ≤ l.length ∧ i = .int .i64 k ∧ Ext wo wr ∧ besSeq l l = besSeq l (l.drop k)) (fun i _ => l.length - (intOf i).toNat)
        case atStart => exact ⟨0, by omega, rfl, Ext.refl _, rfl⟩
        case round =>
          obtain ⟨j, hj, rfl, hbz, hseq⟩ := hrel
          obtain ⟨wz, rfl⟩ : ∃ wz, wz = wr := ⟨_, rfl⟩
          have HBZ := Lib.hid (Ext.trans HB.out hbz)
          have HZ := Lib.hid hbz
          have HF := Lib.hid hseq
          clear hbz hseq
          by_cases hlt : j < l.length
          · have hdj : decide ((j : Int) < (l.length : Int)) = true := by simp; omega
            obtain ⟨b, off, rfl, hbl, hcell⟩ := HA.out (by omega)
            obtain ⟨cs, rfl, _, hcs⟩ := hcell j hlt
            have HE : Hid (wz.cell? ⟨b, off + j * 11, none⟩ = some (.int .i64 l[j].id) ∧ wz.cell? ⟨b, off + j * 11 + 1, none⟩ = some (.int .i64 l[j].proc) ∧ wz.cell? ⟨b, off + j * 11 + 2, none⟩ = some (.int .i64 l[j].object) ∧ wz.cell? ⟨b, off + j * 11 + 3, none⟩ = some (.int .i64 l[j].kind) ∧ wz.cell? ⟨b, off + j * 11 + 4, none⟩ = some (.int .i64 l[j].method) ∧ wz.cell? ⟨b, off + j * 11 + 5, none⟩ = some (.int .i64 l[j].arg) ∧ wz.cell? ⟨b, off + j * 11 + 6, none⟩ = some (.int .i64 l[j].second) ∧ wz.cell? ⟨b, off + j * 11 + 7, none⟩ = some (.bool l[j].done) ∧ wz.cell? ⟨b, off + j * 11 + 8, none⟩ = some (.int .i64 l[j].result) ∧ wz.cell? ⟨b, off + j * 11 + 9, none⟩ = some (.int .i64 l[j].invoke) ∧ wz.cell? ⟨b, off + j * 11 + 10, none⟩ = some (.int .i64 l[j].ret)) := by
              have hw := fun i u hu => (HBZ.out.cell (p := ⟨b, off + j * 11 + i, none⟩) hbl).trans (hcs i u hu)
              exact ⟨hw 0 _ rfl, hw 1 _ rfl, hw 2 _ rfl, hw 3 _ rfl, hw 4 _ rfl, hw 5 _ rfl, hw 6 _ rfl, hw 7 _ rfl, hw 8 _ rfl, hw 9 _ rfl, hw 10 _ rfl⟩
            have H1 : Hid (besideL l l[j] ≠ 0 → histL l = besideL l l[j]) := fun h => by rw [HV2.out, HF.out, besSeq_at l j hlt, if_pos h]
            have HN : Hid (besideL l l[j] = 0 → besSeq l l = besSeq l (l.drop (j + 1))) := fun h => by rw [HF.out, besSeq_at l j hlt, if_neg (by simpa using h)]
            clear hcell hcs
            generalize l[j] = x at *
            obtain ⟨e0, e1, e2, e3, e4, e5, e6, e7, e8, e9, e10⟩ := HE.out
            go_wp2_with fail
            have hzz := HZ.out.size
            have hzy := HBZ.out.size
            refine (histBeside_any _ l x _ (HS.out.ext (by (repeat' (with_reducible first | exact HBZ.out | exact Below.refl _ _ | refine Ext.drewN ?_ _ | refine Below.drew ?_ | refine Below.setCell ?_ ?_ _ | refine Below.alloc ?_ ?_ _)) <;> (first | omega | (simp; done) | (simp; omega))))).mono ?_
            rintro e w1 ⟨rfl, hb1⟩
            have K1 := Lib.hid (Ext.trans (by (repeat' (with_reducible first | exact HZ.out | exact Below.refl _ _ | refine Ext.drewN ?_ _ | refine Below.drew ?_ | refine Below.setCell ?_ ?_ _ | refine Below.alloc ?_ ?_ _)) <;> (first | omega | (simp; done) | (simp; omega)) : Ext wo _) hb1)
            clear hb1 e0 e1 e2 e3 e4 e5 e6 e7 e8 e9 e10
            by_cases hz : besideL l x = 0
            · rw [hz]
              have HN2 := Lib.hid (HN.out hz)
              clear hz H1 HN
              go_wp2_with fail
              go_roundw
              case measure => simp [intOf]; omega
              case rel => exact ⟨j + 1, by omega, by go_num, K1.out, HN2.out⟩
            · have q : (besideL l x != 0) = true := by simpa using hz
              have HH := Lib.hid (H1.out hz)
              clear hz H1 HN
              generalize besideL l x = cx at *
              go_wp2_with fail
              go_ret
              exact ⟨by rw [HH.out]; rfl, Ext.trans HB.out K1.out⟩
          · obtain rfl : j = l.length := by omega
            have HV3 : Hid (histL l = 0) := by unfold Hid; rw [HV2.out, HF.out, List.drop_length]; rfl
            go_wp2_with fail
            go_ret
            exact ⟨by rw [HV3.out]; rfl, HBZ.out⟩
end Go.Proofs.YtgpnockjonicpaaDoor
