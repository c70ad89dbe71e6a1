/- ref12.With: a list of operations with an operation, in the place of one of its number. Conditions: fewer than 10^8 operations. -/
/- ref12.With's list: where the operation stands; numbers rise; the list that With makes of any operations. No program. -/
import Derived.Test.YtgpnockjonicpaaGreatDoorOps2
namespace Go.Proofs.YtgpnockjonicpaaGreatDoor
set_option linter.unusedSimpArgs false
set_option linter.unusedVariables false
open Go.RowKit

def withHead (o : OpD) (s : List OpD × Bool) (x : OpD) : List OpD × Bool := if s.2 = false ∧ o.id ≤ x.id then (s.1 ++ [o], true) else s
def withStep (o : OpD) (s : List OpD × Bool) (x : OpD) : List OpD × Bool := ((withHead o s x).1 ++ (if x.id = o.id then [] else [x]), (withHead o s x).2)
/-- a list with an operation -/
def withL (l : List OpD) (o : OpD) : List OpD := if (l.foldl (withStep o) ([], false)).2 then (l.foldl (withStep o) ([], false)).1 else (l.foldl (withStep o) ([], false)).1 ++ [o]
theorem with_take (l : List OpD) (o : OpD) (k : Nat) (h : k < l.length) : (l.take (k + 1)).foldl (withStep o) ([], false) = withStep o ((l.take k).foldl (withStep o) ([], false)) l[k] := by
  rw [List.take_succ_eq_append_getElem h, List.foldl_append]
  rfl
theorem withHead_len (o : OpD) (s : List OpD × Bool) (x : OpD) : (withHead o s x).1.length ≤ s.1.length + 1 := by
  unfold withHead
  split <;> simp
theorem with_len (l : List OpD) (o : OpD) (k : Nat) (h : k ≤ l.length) : ((l.take k).foldl (withStep o) ([], false)).1.length ≤ 2 * k := by
  induction k with
  | zero => simp
  | succ k ih =>
    rw [with_take l o k (by omega)]
    have := ih (by omega)
    generalize (l.take k).foldl (withStep o) ([], false) = s at *
    have := withHead_len o s l[k]
    unfold withStep
    split <;> simp <;> omega

set_option maxRecDepth 100000 in
set_option maxHeartbeats 2000000 in
theorem refWith_any (V : Value) (l : List OpD) (o : OpD) (w : World) (hs : Sl w 11 ROp V l) (hn : l.length ≤ 100000000) :
    Calls Tryz.prog 44 #[V, o.val] w fun e w' => (∃ v, e = .returned v ∧ OwnL w' w.heap.size 43 11 OpD.cells v (withL l o)) ∧ Ext w w' := by
  obtain ⟨A, c, rfl⟩ := hs.form
  obtain ⟨_, hc1, hc2, hA⟩ := hs.at
  have HA := Lib.hid hA
  clear hs hA
  go_enter Tryz.func44, Tryz.ntmps44
  go_wp2_with fail
  go_loopw [5, 6, 7] (fun v dn i wr => ∃ k : Nat, k ≤ l.length ∧ i = .int .i64 k ∧ dn = .bool ((l.take k).foldl (withStep o) ([], false)).2 ∧ Ext (w.alloc (.cells #[.int .i64 o.id, .int .i64 o.proc, .int .i64 o.object, .int .i64 o.kind, .int .i64 o.method, .int .i64 o.arg, .int .i64 o.second, .bool o.done, .int .i64 o.result, .int .i64 o.invoke, .int .i64 o.ret] 43)) wr ∧ OwnL wr (w.heap.size + 1) 43 11 OpD.cells v ((l.take k).foldl (withStep o) ([], false)).1)
    (fun _ _ i _ => l.length - (intOf i).toNat)
  case atStart => exact ⟨0, by omega, rfl, rfl, Ext.refl _, OwnL.nil _ _ _ _ _⟩
  case round =>
    obtain ⟨k, hk, rfl, rfl, hb, hown⟩ := hrel
    have HB := Lib.hid hb
    have HO := Lib.hid hown
    have HX : Hid (Ext w wr) := Ext.trans (Ext.alloc _ _) hb
    have hzr := hb.size
    simp at hzr
    have HBOX : Hid (∀ W : World, Ext (w.alloc (.cells #[.int .i64 o.id, .int .i64 o.proc, .int .i64 o.object, .int .i64 o.kind, .int .i64 o.method, .int .i64 o.arg, .int .i64 o.second, .bool o.done, .int .i64 o.result, .int .i64 o.invoke, .int .i64 o.ret] 43)) W → At11 W w.heap.size o) := fun W h => (At11.row (Row1.made w 43 o.cells)).ext h (by simp)
    have HLEN := Lib.hid (with_len l o k hk)
    clear hb hown
    by_cases hlt : k < l.length
    · have hd : decide ((k : Int) < (l.length : Int)) = true := by simp; omega
      have HT := Lib.hid (with_take l o k hlt)
      obtain ⟨b, off, rfl, hbl, hx⟩ := HA.out (by omega)
      obtain ⟨cs, rfl, _, hcs⟩ := hx k hlt
      have HE : Hid (∀ W : World, Ext w W → (W.cell? ⟨b, off + k * 11, none⟩ = some (.int .i64 l[k].id) ∧ W.cell? ⟨b, off + k * 11 + 1, none⟩ = some (.int .i64 l[k].proc) ∧ W.cell? ⟨b, off + k * 11 + 2, none⟩ = some (.int .i64 l[k].object) ∧ W.cell? ⟨b, off + k * 11 + 3, none⟩ = some (.int .i64 l[k].kind) ∧ W.cell? ⟨b, off + k * 11 + 4, none⟩ = some (.int .i64 l[k].method) ∧ W.cell? ⟨b, off + k * 11 + 5, none⟩ = some (.int .i64 l[k].arg) ∧ W.cell? ⟨b, off + k * 11 + 6, none⟩ = some (.int .i64 l[k].second) ∧ W.cell? ⟨b, off + k * 11 + 7, none⟩ = some (.bool l[k].done) ∧ W.cell? ⟨b, off + k * 11 + 8, none⟩ = some (.int .i64 l[k].result) ∧ W.cell? ⟨b, off + k * 11 + 9, none⟩ = some (.int .i64 l[k].invoke) ∧ W.cell? ⟨b, off + k * 11 + 10, none⟩ = some (.int .i64 l[k].ret))) := by
        intro W h
        have hw := fun j u hu => (h.cell (p := ⟨b, off + k * 11 + j, none⟩) hbl).trans (hcs j u hu)
        exact ⟨hw 0 _ rfl, hw 1 _ rfl, hw 2 _ rfl, hw 3 _ rfl, hw 4 _ rfl, hw 5 _ rfl, hw 6 _ rfl, hw 7 _ rfl, hw 8 _ rfl, hw 9 _ rfl, hw 10 _ rfl⟩
      clear hx hcs
      generalize l[k] = x at *
      generalize (l.take k).foldl (withStep o) ([], false) = s at *
      obtain ⟨s1, dn⟩ := s
      dsimp only at HO HLEN ⊢
      obtain ⟨vA, vc, rfl⟩ := HO.out.form
      have hbw := Nat.lt_of_lt_of_le hbl HX.out.size
      obtain ⟨e0, e1, e2, e3, e4, e5, e6, e7, e8, e9, e10⟩ := HE.out wr HX.out
      obtain ⟨a0, a1, a2, a3, a4, a5, a6, a7, a8, a9, a10⟩ := HBOX.out wr HB.out
      go_upto_region 6 with fail
      obtain ⟨q, hq⟩ : ∃ q, decide (dn = false ∧ o.id ≤ x.id) = q := ⟨_, rfl⟩
      have HQ := Lib.hid hq
      clear hq
      go_cut [25] (fun s wx => s = .bool q ∧ Ext wr wx)
      case first =>
        cases dn with
        | true =>
          obtain rfl : q = false := by rw [← HQ.out]; simp
          go_quiet (fail)
          go_wp2_with fail
          go_meet
          exact ⟨rfl, by (repeat' (with_reducible first | exact Below.refl _ _ | refine Ext.drewN ?_ _ | refine Below.drew ?_ | refine Below.setCell ?_ ?_ _ | refine Below.alloc ?_ ?_ _)) <;> (first | omega | (simp; done) | (simp; omega))⟩
        | false =>
          obtain rfl : q = decide (o.id ≤ x.id) := by rw [← HQ.out]; simp
          go_quiet (fail)
          go_wp2_with fail
          go_meet
          exact ⟨rfl, by (repeat' (with_reducible first | exact Below.refl _ _ | refine Ext.drewN ?_ _ | refine Below.drew ?_ | refine Below.setCell ?_ ?_ _ | refine Below.alloc ?_ ?_ _)) <;> (first | omega | (simp; done) | (simp; omega))⟩
      case rest =>
      obtain ⟨rfl, hbq⟩ := hcut
      have HB := Lib.hid (Ext.trans HB.out hbq)
      have HO := Lib.hid (HO.out.ext hbq)
      have hzr := Nat.le_trans hzr hbq.size
      have hbw := Nat.lt_of_lt_of_le hbw hbq.size
      clear hbq e0 e1 e2 e3 e4 e5 e6 e7 e8 e9 e10 a0 a1 a2 a3 a4 a5 a6 a7 a8 a9 a10
      obtain ⟨a0, a1, a2, a3, a4, a5, a6, a7, a8, a9, a10⟩ := HBOX.out wc HB.out
      generalize wc = wr at *
      go_upto_if 25 with fail
      go_cut [5, 6] (fun v d wx => d = .bool (withHead o (s1, dn) x).2 ∧ Ext (w.alloc (.cells #[.int .i64 o.id, .int .i64 o.proc, .int .i64 o.object, .int .i64 o.kind, .int .i64 o.method, .int .i64 o.arg, .int .i64 o.second, .bool o.done, .int .i64 o.result, .int .i64 o.invoke, .int .i64 o.ret] 43)) wx ∧ OwnL wx (w.heap.size + 1) 43 11 OpD.cells v (withHead o (s1, dn) x).1)
      case first =>
        cases q with
        | false =>
          have HG : Hid (withHead o (s1, dn) x = (s1, dn)) := by unfold Hid withHead; exact if_neg (of_decide_eq_false HQ.out)
          go_wp2_with fail
          go_meet
          rw [HG.out]
          exact ⟨rfl, HB.out, HO.out⟩
        | true =>
          have HG : Hid (withHead o (s1, dn) x = (s1 ++ [o], true)) := by unfold Hid withHead; exact if_pos (of_decide_eq_true HQ.out)
          go_wp2_with (at_builtin; refine wpList_push elOp op_len op_one rfl (.tmp 26) (.tmp 28) rfl _ s1 rfl (HO.out.ext (by (repeat' (with_reducible first | exact Below.refl _ _ | refine Ext.drewN ?_ _ | refine Below.drew ?_ | refine Below.setCell ?_ ?_ _ | refine Below.alloc ?_ ?_ _)) <;> (first | omega | (simp; done) | (simp; omega)))) (by simp; omega) _ 1 o rfl (Row1.made _ _ o.cells) (by have := HLEN.out; omega) (by decide) ?_)
          intro pA pc wp hp hgp
          have HXP := Lib.hid ((HO.out.ext (by (repeat' (with_reducible first | exact Below.refl _ _ | refine Ext.drewN ?_ _ | refine Below.drew ?_ | refine Below.setCell ?_ ?_ _ | refine Below.alloc ?_ ?_ _)) <;> (first | omega | (simp; done) | (simp; omega)))).grown (a := w.alloc (.cells #[.int .i64 o.id, .int .i64 o.proc, .int .i64 o.object, .int .i64 o.kind, .int .i64 o.method, .int .i64 o.arg, .int .i64 o.second, .bool o.done, .int .i64 o.result, .int .i64 o.invoke, .int .i64 o.ret] 43)) (by (repeat' (with_reducible first | exact HB.out | exact Below.refl _ _ | refine Ext.drewN ?_ _ | refine Below.drew ?_ | refine Below.setCell ?_ ?_ _ | refine Below.alloc ?_ ?_ _)) <;> (first | omega | (simp; done) | (simp; omega))) hgp (by simp))
          have HP := Lib.hid hp
          clear hp hgp
          go_wp2_with fail
          go_meet
          rw [HG.out]
          exact ⟨rfl, HXP.out, HP.out⟩
      case rest =>
        have HLEN2 : Hid ((withHead o (s1, dn) x).1.length ≤ 2 * k + 1) := Nat.le_trans (withHead_len o (s1, dn) x) (by have := HLEN.out; simp only; omega)
        have HT2 : Hid ((l.take (k + 1)).foldl (withStep o) ([], false) = ((withHead o (s1, dn) x).1 ++ (if x.id = o.id then [] else [x]), (withHead o (s1, dn) x).2)) := HT.out
        generalize withHead o (s1, dn) x = s at *
        clear HT HO HB HLEN a0 a1 a2 a3 a4 a5 a6 a7 a8 a9 a10
        obtain ⟨s2, dn2⟩ := s
        obtain ⟨rfl, hb, hown⟩ := hcut
        have HB := Lib.hid hb
        have HO := Lib.hid hown
        obtain ⟨vA, vc, rfl⟩ := hown.form
        have hzr := hb.size
        simp at hzr
        obtain ⟨e0, e1, e2, e3, e4, e5, e6, e7, e8, e9, e10⟩ := HE.out wc (Ext.trans (Ext.alloc _ _) hb)
        obtain ⟨a0, a1, a2, a3, a4, a5, a6, a7, a8, a9, a10⟩ := HBOX.out wc hb
        have hbw := Nat.lt_of_lt_of_le hbl (Ext.trans (Ext.alloc _ _) hb : Ext w wc).size
        clear hb hown
        go_wp2_with fail
        by_cases heq : x.id = o.id
        · have hq : (x.id != o.id) = false := by simpa using heq
          have HT3 : Hid ((l.take (k + 1)).foldl (withStep o) ([], false) = (s2, dn2)) := by unfold Hid; rw [HT2.out, if_pos heq]; simp
          clear heq HT2
          go_quiet (fail)
          go_wp2_with fail
          go_roundw
          case measure => simp [intOf]; omega
          case rel =>
            exact ⟨k + 1, by omega, by go_num, by rw [HT3.out], by (repeat' (with_reducible first | exact HB.out | exact Below.refl _ _ | refine Ext.drewN ?_ _ | refine Below.drew ?_ | refine Below.setCell ?_ ?_ _ | refine Below.alloc ?_ ?_ _)) <;> (first | omega | (simp; done) | (simp; omega)), by rw [HT3.out]; exact (HO.out.ext (by (repeat' (with_reducible first | exact Below.refl _ _ | refine Ext.drewN ?_ _ | refine Below.drew ?_ | refine Below.setCell ?_ ?_ _ | refine Below.alloc ?_ ?_ _)) <;> (first | omega | (simp; done) | (simp; omega))))⟩
        · have hq : (x.id != o.id) = true := by simpa using heq
          have HT3 : Hid ((l.take (k + 1)).foldl (withStep o) ([], false) = (s2 ++ [x], dn2)) := by unfold Hid; rw [HT2.out, if_neg heq]
          clear heq HT2
          go_quiet (fail)
          go_wp2_with (at_builtin; refine wpList_push elOp op_len op_one rfl (.tmp 38) (.tmp 43) rfl _ s2 rfl (HO.out.ext (by (repeat' (with_reducible first | exact Below.refl _ _ | refine Ext.drewN ?_ _ | refine Below.drew ?_ | refine Below.setCell ?_ ?_ _ | refine Below.alloc ?_ ?_ _)) <;> (first | omega | (simp; done) | (simp; omega)))) (by simp; omega) _ 1 x rfl (Row1.made _ _ x.cells) (by have := HLEN2.out; omega) (by decide) ?_)
          intro pA pc wp hp hgp
          have HXP := Lib.hid ((HO.out.ext (by (repeat' (with_reducible first | exact Below.refl _ _ | refine Ext.drewN ?_ _ | refine Below.drew ?_ | refine Below.setCell ?_ ?_ _ | refine Below.alloc ?_ ?_ _)) <;> (first | omega | (simp; done) | (simp; omega)))).grown (a := w.alloc (.cells #[.int .i64 o.id, .int .i64 o.proc, .int .i64 o.object, .int .i64 o.kind, .int .i64 o.method, .int .i64 o.arg, .int .i64 o.second, .bool o.done, .int .i64 o.result, .int .i64 o.invoke, .int .i64 o.ret] 43)) (by (repeat' (with_reducible first | exact HB.out | exact Below.refl _ _ | refine Ext.drewN ?_ _ | refine Below.drew ?_ | refine Below.setCell ?_ ?_ _ | refine Below.alloc ?_ ?_ _)) <;> (first | omega | (simp; done) | (simp; omega))) hgp (by simp))
          have HP := Lib.hid hp
          clear hp hgp
          go_wp2_with fail
          go_roundw
          case measure => simp [intOf]; omega
          case rel =>
            exact ⟨k + 1, by omega, by go_num, by rw [HT3.out], HXP.out, by rw [HT3.out]; exact HP.out⟩
    · obtain rfl : k = l.length := by omega
      have hd : decide ((l.length : Int) < (l.length : Int)) = false := by simp
      have HT : Hid (withL l o = if (l.foldl (withStep o) ([], false)).2 then (l.foldl (withStep o) ([], false)).1 else (l.foldl (withStep o) ([], false)).1 ++ [o]) := rfl
      rw [List.take_length] at HO HLEN ⊢
      generalize l.foldl (withStep o) ([], false) = s at *
      obtain ⟨s1, dn⟩ := s
      dsimp only at HO HLEN HT ⊢
      obtain ⟨vA, vc, rfl⟩ := HO.out.form
      obtain ⟨a0, a1, a2, a3, a4, a5, a6, a7, a8, a9, a10⟩ := HBOX.out wr HB.out
      cases dn with
      | true =>
        go_wp2_with fail
        go_ret
        refine ⟨⟨_, rfl, ?_⟩, HX.out⟩
        rw [HT.out]
        exact HO.out.lower (by omega)
      | false =>
        go_wp2_with (at_builtin; refine wpList_push elOp op_len op_one rfl (.tmp 47) (.tmp 49) rfl _ s1 rfl (HO.out.ext (by (repeat' (with_reducible first | exact Below.refl _ _ | refine Ext.drewN ?_ _ | refine Below.drew ?_ | refine Below.setCell ?_ ?_ _ | refine Below.alloc ?_ ?_ _)) <;> (first | omega | (simp; done) | (simp; omega)))) (by simp; omega) _ 1 o rfl (Row1.made _ _ o.cells) (by have := HLEN.out; omega) (by decide) ?_)
        intro pA pc wp hp hgp
        have HXP := Lib.hid ((HO.out.ext (by (repeat' (with_reducible first | exact Below.refl _ _ | refine Ext.drewN ?_ _ | refine Below.drew ?_ | refine Below.setCell ?_ ?_ _ | refine Below.alloc ?_ ?_ _)) <;> (first | omega | (simp; done) | (simp; omega)))).grown (a := w.alloc (.cells #[.int .i64 o.id, .int .i64 o.proc, .int .i64 o.object, .int .i64 o.kind, .int .i64 o.method, .int .i64 o.arg, .int .i64 o.second, .bool o.done, .int .i64 o.result, .int .i64 o.invoke, .int .i64 o.ret] 43)) (by (repeat' (with_reducible first | exact HB.out | exact Below.refl _ _ | refine Ext.drewN ?_ _ | refine Below.drew ?_ | refine Below.setCell ?_ ?_ _ | refine Below.alloc ?_ ?_ _)) <;> (first | omega | (simp; done) | (simp; omega))) hgp (by simp))
        have HP := Lib.hid hp
        clear hp hgp
        go_wp2_with fail
        go_ret
        refine ⟨⟨_, rfl, ?_⟩, Ext.trans (Ext.alloc _ _) HXP.out⟩
        rw [HT.out]
        exact HP.out.lower (by omega)
end Go.Proofs.YtgpnockjonicpaaGreatDoor
namespace Go.Proofs.YtgpnockjonicpaaGreatDoor
set_option linter.unusedSimpArgs false
set_option linter.unusedVariables false
open Go.RowKit

theorem with_true (o : OpD) : ∀ (l acc : List OpD), l.foldl (withStep o) (acc, true) = (acc ++ l.filter (fun x => x.id != o.id), true)
  | [], acc => by simp
  | x :: r, acc => by
    have h : withStep o (acc, true) x = (acc ++ (if x.id = o.id then [] else [x]), true) := by simp [withStep, withHead]
    rw [List.foldl_cons, h, with_true o r]
    by_cases e : x.id = o.id
    · simp [e]
    · simp [e]
theorem with_false (o : OpD) : ∀ (l acc : List OpD), (let s := l.foldl (withStep o) (acc, false); if s.2 then s.1 else s.1 ++ [o]) = acc ++ l.takeWhile (fun x => decide (x.id < o.id)) ++ [o] ++ (l.dropWhile (fun x => decide (x.id < o.id))).filter (fun x => x.id != o.id)
  | [], acc => by simp
  | x :: r, acc => by
    by_cases h : x.id < o.id
    · have h1 : withStep o (acc, false) x = (acc ++ [x], false) := by
        have h2 : ¬ o.id ≤ x.id := by omega
        have h3 : ¬ x.id = o.id := by omega
        simp [withStep, withHead, h2, h3]
      rw [List.foldl_cons, h1, with_false o r (acc ++ [x])]
      simp [h]
    · have h2 : o.id ≤ x.id := by omega
      have h1 : withStep o (acc, false) x = ((acc ++ [o]) ++ (if x.id = o.id then [] else [x]), true) := by simp [withStep, withHead, h2]
      rw [List.foldl_cons, h1, with_true]
      by_cases e : x.id = o.id
      · simp [e]
      · simp [e, h]
theorem withL_eq (l : List OpD) (o : OpD) : withL l o = l.takeWhile (fun x => decide (x.id < o.id)) ++ [o] ++ (l.dropWhile (fun x => decide (x.id < o.id))).filter (fun x => x.id != o.id) := by
  have := with_false o l []
  simpa [withL] using this
theorem withL_len (l : List OpD) (o : OpD) : (withL l o).length ≤ l.length + 1 := by
  rw [withL_eq]
  have h1 := List.takeWhile_append_dropWhile (p := fun x : OpD => decide (x.id < o.id)) (l := l)
  have h2 := congrArg List.length h1
  have h3 := List.length_filter_le (fun x : OpD => x.id != o.id) (l.dropWhile (fun x => decide (x.id < o.id)))
  rw [List.length_append] at h2
  simp only [List.length_append, List.length_cons, List.length_nil]
  omega
/-- numbers rise -/
def Ris (l : List OpD) : Prop := l.Pairwise (fun a b => a.id < b.id)
theorem drop_ge (o : OpD) : ∀ l : List OpD, Ris l → ∀ x ∈ l.dropWhile (fun x => decide (x.id < o.id)), o.id ≤ x.id
  | [], _, x, hx => by simp at hx
  | y :: r, h, x, hx => by
    obtain ⟨hy, hr⟩ := List.pairwise_cons.1 h
    by_cases e : y.id < o.id
    · rw [List.dropWhile_cons_of_pos (by simpa using e)] at hx
      exact drop_ge o r hr x hx
    · rw [List.dropWhile_cons_of_neg (by simpa using e)] at hx
      rcases List.mem_cons.1 hx with rfl | hx
      · omega
      · have := hy x hx; omega
theorem withL_ris (l : List OpD) (o : OpD) (h : Ris l) : Ris (withL l o) := by
  rw [withL_eq]
  unfold Ris at *
  have ht : ∀ x ∈ l.takeWhile (fun x => decide (x.id < o.id)), x.id < o.id := fun x hx => by
    have := List.all_takeWhile (p := fun x : OpD => decide (x.id < o.id)) (l := l)
    simpa using (List.all_eq_true.1 this) x hx
  have hd : ∀ x ∈ (l.dropWhile (fun x => decide (x.id < o.id))).filter (fun x => x.id != o.id), o.id < x.id := fun x hx => by
    obtain ⟨h1, h2⟩ := List.mem_filter.1 hx
    have := drop_ge o l h x h1
    have h3 : x.id ≠ o.id := by simpa using h2
    omega
  refine List.pairwise_append.2 ⟨List.pairwise_append.2 ⟨h.sublist (List.takeWhile_sublist _), by simp, fun a ha b hb => ?_⟩, (h.sublist (List.dropWhile_sublist _)).filter _, fun a ha b hb => ?_⟩
  · simp at hb; subst hb; exact ht a ha
  · have h2 := hd b hb
    rcases List.mem_append.1 ha with ha | ha
    · have := ht a ha; omega
    · simp at ha; subst ha; exact h2
/-- the list that With makes of operations -/
def onceL (l : List OpD) : List OpD := l.foldl withL []
theorem once_take (l : List OpD) (k : Nat) (h : k < l.length) : onceL (l.take (k + 1)) = withL (onceL (l.take k)) l[k] := by
  unfold onceL
  rw [List.take_succ_eq_append_getElem h, List.foldl_append]
  rfl
theorem once_len (l : List OpD) (k : Nat) (h : k ≤ l.length) : (onceL (l.take k)).length ≤ k := by
  induction k with
  | zero => simp [onceL]
  | succ k ih =>
    rw [once_take l k (by omega)]
    have := ih (by omega)
    have := withL_len (onceL (l.take k)) l[k]
    omega
theorem once_ris (l : List OpD) : Ris (onceL l) := by
  have h : ∀ (l acc : List OpD), Ris acc → Ris (l.foldl withL acc) := by
    intro l
    induction l with
    | nil => intro acc h; exact h
    | cons x r ih => intro acc h; exact ih _ (withL_ris acc x h)
  exact h l [] List.Pairwise.nil
theorem Ris.nodup {l : List OpD} (h : Ris l) : (l.map OpD.id).Nodup := by
  rw [List.nodup_iff_pairwise_ne, List.pairwise_map]
  exact h.imp (fun h => by omega)
end Go.Proofs.YtgpnockjonicpaaGreatDoor
