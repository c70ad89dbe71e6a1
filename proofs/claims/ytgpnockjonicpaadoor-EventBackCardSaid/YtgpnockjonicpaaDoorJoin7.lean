/- slices.SortFunc at operations, by their numbers; lists whose numbers rise. Conditions: fewer than 10^9. -/
/- event.Join. Conditions: that all can be read, numbers that an int holds, fewer than 10^6 events. -/
import Derived.Test.YtgpnockjonicpaaDoorJoin5
import Derived.Test.YtgpnockjonicpaaDoorLaidO
import Derived.Shelf.SlSortCmp.NoneTotal
import Derived.Test.YtgpnockjonicpaaDoorHist5
namespace Go.Proofs.YtgpnockjonicpaaDoor
set_option linter.unusedSimpArgs false
set_option linter.unusedVariables false
open Go.RowKit Go.Sort Go.Shelf Go.Proofs

instance : Inhabited OpD := ⟨opZero⟩
theorem Tryd.isAggO : ∀ w, (isAgg (Tryd.laysSortO_ren.t 24)).run Tryd.prog w = .ok true w := fun w => by kernel_rfl
theorem Tryd.sizeOfO : ∀ w, (Go.sizeOf (Tryd.laysSortO_ren.t 24)).run Tryd.prog w = .ok 11 w := fun w => by kernel_rfl
theorem byId_closure (a b : OpD) (W : World) : Calls Tryd.prog 23 #[.agg a.cells.toArray, .agg b.cells.toArray] W fun e w' => e = .returned (.int .i64 (cmpI a.id b.id)) ∧ ∃ q os', w' = grow (W.drewN q) os' := by
  show Calls Tryd.prog 23 #[a.val, b.val] W _
  go_enter Tryd.func23, Tryd.ntmps23
  go_wp2_with (go_at_call 24; refine (cmpCompare_any _ _ _).mono ?_; rintro e w' ⟨rfl, rfl⟩)
  go_ret
  exact ⟨rfl, 0, _, by rw [alloc_eq_grow, alloc_eq_grow, grow_grow]; rfl⟩
theorem ltId (x y : OpD) : ltOf (fun x y : OpD => cmpI x.id y.id) x y = decide (x.id < y.id) := by
  unfold ltOf cmpI
  by_cases h1 : x.id < y.id
  · simp [h1]
  · by_cases h2 : y.id < x.id <;> simp [h1, h2]
theorem swoId : SWO (ltOf fun x y : OpD => cmpI x.id y.id) where
  irrefl x := by rw [ltId]; simp
  trans x y z h1 h2 := by rw [ltId] at *; simp at *; omega
  ntrans x y z h1 h2 := by rw [ltId] at *; simp at *; omega

theorem sortById_any (v : Value) (l : List OpD) (base : Nat) (w : World) (h : OwnL w base 40 11 OpD.cells v l) (hn : l.length ≤ 1000000000) :
    Calls Tryd.prog 22 #[v, .func (.func 23) #[] #[]] w fun e w' => e = .returned (.tuple #[]) ∧ (∃ l' : List OpD, l'.Perm l ∧ l'.Pairwise (fun a b => a.id ≤ b.id) ∧ Sl w' 11 ROp v l') ∧ w.grownBy w' v.ownBlock := by
  have h' : w.ownsRow base 40 11 v l.length (l.flatMap OpD.cells) := h
  obtain ⟨A, c, rfl, hc1, hc2, hx⟩ := own_form h'
  by_cases h0 : l.length = 0
  · obtain rfl : l = [] := List.eq_nil_of_length_eq_zero h0
    have hcon := AnyF.slices_SortFunc_none Tryd.laysSortO A c (.func (.func 23) #[] #[]) w
    change Calls Tryd.prog 22 _ _ _ at hcon
    refine hcon.mono ?_
    rintro e w' ⟨rfl, rfl⟩
    exact ⟨rfl, ⟨[], List.Perm.refl _, List.Pairwise.nil, ⟨A, c, rfl, by simp, by simpa [maxLen] using hc2, fun h => absurd h (by simp)⟩⟩, World.grownBy.refl _ _⟩
  · obtain ⟨g, rfl, _, hgl, _, _⟩ := hx (by omega)
    have eg : ∀ args w, (callFunc 23 args).run Tryd.prog w = .ok (.enter 23 args) w := enters_of Tryd.func23 (by kernel_rfl) rfl
    have hH := holdsK_of_own (enc := OpD.cells) (k := 11) (fun _ => rfl) h'
    have hcon := AnyQ.slices_SortFunc Tryd.laysSortO 11 Tryd.isAggO Tryd.sizeOfO OpD.cells (fun _ => rfl) (fun x v hv => op_one x v hv) (fun x y => cmpI x.id y.id) swoId 23 #[] g 0 c l.toArray w eg (fun m os dk _ x y => byId_closure x y _) hH hgl (by simp; omega)
    change Calls Tryd.prog 22 _ _ _ at hcon
    simp only [List.size_toArray] at hcon
    refine hcon.mono ?_
    rintro e w' ⟨rfl, d', n, os, hp, hs, rfl⟩
    have hds : d'.size = l.length := by have := hp.1; simpa using this
    refine ⟨rfl, ⟨d'.toList, by simpa using permIn_perm (d := l.toArray) (by simpa using hp), ?_, ?_⟩, grownBy_sortK d'⟩
    · refine (sortedIn_pairwise hds.symm hs).imp fun {a b} h => ?_
      rw [ltId] at h
      simpa using h
    · exact sl_of_holdsK (enc := OpD.cells) (k := 11) (R := ROp) (fun _ => rfl) (fun _ => rfl) (holdsK_sortWorldK_c OpD.cells 11 w g 0 l.toArray d' n os hH hgl (by simpa using hds)) hds.symm hc1 (by simpa [maxLen] using hc2) (by simp [sortWorldK, putRowK, putRow, mapBlock, grow, Sort.ahead]; omega)

theorem Ris.ext : ∀ {a b : List OpD}, Ris a → Ris b → (∀ x, x ∈ a ↔ x ∈ b) → a = b
  | [], [], _, _, _ => rfl
  | [], y :: s, _, _, h => absurd ((h y).2 (by simp)) (by simp)
  | x :: r, [], _, _, h => absurd ((h x).1 (by simp)) (by simp)
  | x :: r, y :: s, h1, h2, h => by
    obtain ⟨p1, p2⟩ := List.pairwise_cons.1 h1
    obtain ⟨q1, q2⟩ := List.pairwise_cons.1 h2
    have e : x = y := by
      rcases List.mem_cons.1 ((h x).1 (by simp)) with e | hx
      · exact e
      · rcases List.mem_cons.1 ((h y).2 (by simp)) with e | hy
        · exact e.symm
        · have := q1 x hx; have := p1 y hy; omega
    subst e
    congr 1
    refine Ris.ext p2 q2 fun z => ?_
    constructor
    · intro hz
      rcases List.mem_cons.1 ((h z).1 (List.mem_cons_of_mem _ hz)) with e | hz'
      · have := p1 z hz; rw [e] at this; omega
      · exact hz'
    · intro hz
      rcases List.mem_cons.1 ((h z).2 (List.mem_cons_of_mem _ hz)) with e | hz'
      · have := q1 z hz; rw [e] at this; omega
      · exact hz'
/-- what has been gathered while some operations are still to come -/
structure CollO (M : Int → Option OpD) (left : Int → Bool) (gs : List OpD) : Prop where
  nodup : (gs.map OpD.id).Nodup
  iff : ∀ o, o ∈ gs ↔ M o.id = some o ∧ left o.id = false
section
variable {l : List OpD} {M : Int → Option OpD} {Q : Int → Option Int}
theorem CollO.start : CollO M (fun x => (M x).isSome) [] := ⟨List.nodup_nil, fun o => ⟨fun h => (by cases h), fun ⟨h, h2⟩ => by rw [h] at h2; cases h2⟩⟩
theorem JRel.key (h : JRel l M Q) {id : Int} {o : OpD} (e : M id = some o) : o.id = id := ((getL_iff h.ris id o).1 (by rw [← h.ops, e])).2
theorem CollO.step {left : Int → Bool} {gs : List OpD} (h : CollO M left gs) {x : Int} {c : OpD} (hx : left x = true) (hc : M x = some c) (hk : c.id = x) : CollO M (fun y => left y && !decide (y = x)) (gs ++ [c]) := by
  have hn : ∀ o ∈ gs, o.id ≠ x := fun o ho e => by
    have := ((h.iff o).1 ho).2
    rw [e, hx] at this
    cases this
  refine ⟨?_, fun o => ?_⟩
  · rw [List.map_append, List.nodup_append]
    refine ⟨h.nodup, by simp, fun a ha b hb => ?_⟩
    obtain ⟨g, hg, rfl⟩ := List.mem_map.1 ha
    simp only [List.map_cons, List.map_nil, List.mem_singleton] at hb
    rw [hb, hk]; exact hn g hg
  · rw [List.mem_append, List.mem_singleton, h.iff o]
    by_cases e : o.id = x
    · simp only [e, hx, hc]
      simp
      exact ⟨fun q => q.symm, fun q => q.symm⟩
    · have e2 : o ≠ c := fun q => e (by rw [q, hk])
      simp [e, e2]
theorem CollO.done {left : Int → Bool} {gs gs' : List OpD} (h : CollO M left gs) (hR : JRel l M Q) (hl : ∀ x, left x = false) (hp : gs'.Perm gs) (hs : gs'.Pairwise (fun a b => a.id ≤ b.id)) : gs' = l := by
  refine Ris.ext ?_ hR.ris fun o => ?_
  · have hn : (gs'.map OpD.id).Nodup := (hp.map OpD.id).nodup_iff.2 h.nodup
    unfold List.Nodup at hn
    rw [List.pairwise_map] at hn
    exact (hs.and hn).imp fun {a b} h => by have := h.1; have := h.2; omega
  · rw [hp.mem_iff, h.iff, hl, hR.ops, getL_iff hR.ris]
    simp
end
theorem stepL_res {l : List OpD} {x : EvD} (hr : Ris l) (hl : ∀ o ∈ l, -9223372036854775808 ≤ o.result ∧ o.result ≤ 9223372036854775807) (hx : EvOk x) : ∀ o ∈ (stepL l x).1, -9223372036854775808 ≤ o.result ∧ o.result ≤ 9223372036854775807 := by
  have hw : ∀ y : OpD, (-9223372036854775808 ≤ y.result ∧ y.result ≤ 9223372036854775807) → ∀ o ∈ withL l y, -9223372036854775808 ≤ o.result ∧ o.result ≤ 9223372036854775807 := fun y hy o ho => by
    rcases (withL_mem hr y o).1 ho with rfl | ⟨h, _⟩
    · exact hy
    · exact hl o h
  unfold stepL
  split
  · unfold stepAns
    cases openL l x.proc with
    | negSucc _ => exact hl
    | ofNat k =>
      show ∀ o ∈ (stepAt l x l[k]?).1, _
      cases l[k]? with
      | none => exact hl
      | some o =>
        unfold stepAt
        dsimp only
        split
        · split
          · exact hl
          · exact hw _ hx.2.2
        · exact hl
  · unfold stepInv
    split
    · exact hl
    · split
      · exact hl
      · exact hw _ (by simp [opOf])
end Go.Proofs.YtgpnockjonicpaaDoor
namespace Go.Proofs.YtgpnockjonicpaaDoor
set_option linter.unusedSimpArgs false
set_option linter.unusedVariables false
open Go.RowKit

def evZero : EvD := ⟨0, 0, false, 0, 0, 0, 0, 0, 0, 0⟩
def ResOk (l : List OpD) : Prop := ∀ o ∈ l, -9223372036854775808 ≤ o.result ∧ o.result ≤ 9223372036854775807
theorem joinFrom_take (xs : List EvD) (l : List OpD) (k : Nat) (h : k < xs.length) : joinFrom k (prevE xs k) l (xs.drop k) =
    if (takeS (prevE xs k) l xs[k]).2 ≠ 0 then ([], k, (takeS (prevE xs k) l xs[k]).2) else joinFrom (k + 1) (prevE xs (k + 1)) (takeS (prevE xs k) l xs[k]).1 (xs.drop (k + 1)) := by
  rw [joinFrom_at xs l k h]
  unfold takeS
  by_cases hl : lateB (prevE xs k) xs[k] = true
  · rw [if_pos hl, if_pos hl, if_pos (by simp)]
  · rw [if_neg hl, if_neg hl]
theorem takeS_res {p : Option EvD} {l : List OpD} {x : EvD} (hr : Ris l) (hl : ResOk l) (hx : EvOk x) : ResOk (takeS p l x).1 := by
  unfold takeS
  split
  · exact hl
  · exact stepL_res hr hl hx
/-- what event.Join has made of the first events -/
def JoinAt (xs : List EvD) (w wr : World) (k : Nat) : Prop := ∃ (l : List OpD) (M : Int → Option OpD) (Q : Int → Option Int) (last : EvD),
  Ext w wr ∧ JAt wr (w.heap.size + 2) w.heap.size (w.heap.size + 1) k last M Q ∧ JRel l M Q ∧ (∀ q, prevE xs k = some q → q = last) ∧ ResOk l ∧ joinL xs = joinEnd xs.length (joinFrom k (prevE xs k) l (xs.drop k))

set_option maxRecDepth 100000 in
set_option maxHeartbeats 8000000 in
theorem join_any (V : Value) (xs : List EvD) (w : World) (hs : Sl w 10 REv V xs) (hn : xs.length ≤ 1000000) (hwf : ∀ x ∈ xs, EvOk x) :
    Calls Tryd.prog 11 #[V] w fun e w' => (∃ v, e = .returned (.tuple #[v, .int .i64 (joinL xs).2.1, .int .i64 (joinL xs).2.2]) ∧ Sl w' 11 ROp v (joinL xs).1) ∧ Ext w w' := by
  obtain ⟨A, c, rfl⟩ := hs.form
  obtain ⟨_, hc1, hc2, _⟩ := hs.at
  have HS := Lib.hid hs
  have HWF := Lib.hid hwf
  have hmm := @run_makeMap Tryd.prog
  clear hs hwf
  go_enter Tryd.func11, Tryd.ntmps11
  go_wp2_with fail
  go_loopw [19] (fun i wr => ∃ k : Nat, k ≤ xs.length ∧ i = .int .i64 k ∧ JoinAt xs w wr k) (fun i _ => xs.length - (intOf i).toNat)
  case atStart =>
    refine ⟨0, by omega, rfl, [], _, _, evZero, by (repeat' (with_reducible first | exact Below.refl _ _ | refine Ext.drewN ?_ _ | refine Below.drew ?_ | refine Below.setCell ?_ ?_ _ | refine Below.alloc ?_ ?_ _)) <;> (first | omega | (simp; done) | (simp; omega)), ⟨?_, ?_, ?_, by omega⟩, JRel.start, (fun q h => by cases h), (fun o h => by cases h), rfl⟩
    · exact Row1.made' (by simp) _ (.map (some w.heap.size) :: .map (some (w.heap.size + 1)) :: evZero.cells)
    · exact ((MapI.made w 3 OpD.val).ext (Ext.alloc _ _)).ext (Ext.alloc _ _)
    · have h := (MapI.made (w.alloc (.map #[] 0)) 3 (Value.int .i64)).ext (Ext.alloc _ (.cells (.map (some w.heap.size) :: .map (some (w.heap.size + 1)) :: evZero.cells).toArray 54))
      have e : (w.alloc (.map #[] 0)).heap.size = w.heap.size + 1 := by simp
      rw [e] at h
      exact h
  case round =>
    obtain ⟨k, hk, rfl, hja⟩ := hrel
    have HJA := Lib.hid hja
    clear hja hmm
    by_cases hlt : k < xs.length
    · have hd : decide ((k : Int) < (xs.length : Int)) = true := by simp; omega
      obtain ⟨l, M, Q, last, hb, hj, hR, hp, hres, hseq⟩ := HJA.out
      have HB := Lib.hid hb
      have HJ := Lib.hid hj
      have HR := Lib.hid hR
      have HP := Lib.hid hp
      have HRES := Lib.hid hres
      have HF : Hid (joinL xs = joinEnd xs.length (if (takeS (prevE xs k) l xs[k]).2 ≠ 0 then ([], k, (takeS (prevE xs k) l xs[k]).2) else joinFrom (k + 1) (prevE xs (k + 1)) (takeS (prevE xs k) l xs[k]).1 (xs.drop (k + 1)))) := by unfold Hid; rw [hseq, joinFrom_take xs l k hlt]
      have HX := Lib.hid (HWF.out xs[k] (List.getElem_mem hlt))
      obtain ⟨b, off, rfl, hbl, hcell⟩ := HS.out.evs_at (by omega)
      have HE := Lib.hid (hcell k hlt)
      have HPK := Lib.hid (prevE_succ xs k hlt)
      have q0 : ((k : Int) == 0) = (prevE xs k).isNone := by
        cases k with
        | zero => rfl
        | succ m => rw [prevE_succ xs m (by omega)]; simp; omega
      have hbw := Nat.lt_of_lt_of_le hbl HB.out.size
      have hzr := HB.out.size
      clear hb hj hR hp hres hseq hcell HJA
      generalize xs[k] = x at *
      generalize prevE xs k = pv at *
      obtain ⟨e0, e1, e2, e3, e4, e5, e6, e7, e8, e9⟩ := HE.out wr HB.out
      go_wp2_with fail
      refine (take_any pv (w.heap.size + 2) w.heap.size (w.heap.size + 1) k last M Q l x _ HP.out (HJ.out.ext (by (repeat' (with_reducible first | exact Below.refl _ _ | refine Ext.drewN ?_ _ | refine Below.drew ?_ | refine Below.setCell ?_ ?_ _ | refine Below.alloc ?_ ?_ _)) <;> (first | omega | (simp; done) | (simp; omega)))) HR.out (by omega) HX.out).mono ?_
      rintro e w2 ⟨rfl, ho2, hj2⟩
      have HB2 : Hid (Ext w w2) := Below.trans (by (repeat' (with_reducible first | exact HB.out | exact Below.refl _ _ | refine Ext.drewN ?_ _ | refine Below.drew ?_ | refine Below.setCell ?_ ?_ _ | refine Below.alloc ?_ ?_ _)) <;> (first | omega | (simp; done) | (simp; omega)) : Ext w _) (ho2.below (fun i q => by unfold Jmay at q; omega) (by have := HB.out.size; first | omega | (simp; omega)))
      have HJ2 := Lib.hid hj2
      clear ho2 hj2 e0 e1 e2 e3 e4 e5 e6 e7 e8 e9 q0
      have HRS := Lib.hid (takeS_res (p := pv) HR.out.ris HRES.out HX.out)
      generalize takeS pv l x = st at *
      obtain ⟨l2, f⟩ := st
      dsimp only at HF HJ2 HRS ⊢
      by_cases hf : f = 0
      · have q1 : (f != 0) = false := by simpa using hf
        have HF2 : Hid (joinL xs = joinEnd xs.length (joinFrom (k + 1) (prevE xs (k + 1)) l2 (xs.drop (k + 1)))) := by unfold Hid; rw [HF.out, if_neg (by simpa using hf)]
        have HJ3 := Lib.hid (HJ2.out hf)
        clear hf HF HJ2
        go_wp2_with fail
        go_roundw
        case measure => simp [intOf]; omega
        case rel =>
          obtain ⟨M', Q', h1, h2⟩ := HJ3.out
          exact ⟨k + 1, by omega, by go_num, l2, M', Q', x, by (repeat' (with_reducible first | exact HB2.out | exact Below.refl _ _ | refine Ext.drewN ?_ _ | refine Below.drew ?_ | refine Below.setCell ?_ ?_ _ | refine Below.alloc ?_ ?_ _)) <;> (first | omega | (simp; done) | (simp; omega)), h1.ext (by (repeat' (with_reducible first | exact Below.refl _ _ | refine Ext.drewN ?_ _ | refine Below.drew ?_ | refine Below.setCell ?_ ?_ _ | refine Below.alloc ?_ ?_ _)) <;> (first | omega | (simp; done) | (simp; omega))), h2, (fun q hq => by rw [HPK.out] at hq; injection hq with hq; exact hq.symm), HRS.out, HF2.out⟩
      · have q1 : (f != 0) = true := by simpa using hf
        have HF2 : Hid (joinL xs = ([], k, f)) := by unfold Hid; rw [HF.out, if_pos hf]; unfold joinEnd; rw [if_pos hf]
        clear hf HF HJ2
        go_wp2_with fail
        go_ret3
        exact ⟨⟨_, by rw [HF2.out]; rfl, by rw [HF2.out]; exact Sl.nil _ _ _⟩, by (repeat' (with_reducible first | exact HB2.out | exact Below.refl _ _ | refine Ext.drewN ?_ _ | refine Below.drew ?_ | refine Below.setCell ?_ ?_ _ | refine Below.alloc ?_ ?_ _)) <;> (first | omega | (simp; done) | (simp; omega))⟩
    · obtain rfl : k = xs.length := by omega
      have hd : decide ((xs.length : Int) < (xs.length : Int)) = false := by simp
      obtain ⟨l, M, Q, last, hb, hj, hR, hp, hres, hseq⟩ := HJA.out
      have HB := Lib.hid hb
      have HJ := Lib.hid hj
      have HR := Lib.hid hR
      have HRES := Lib.hid hres
      have HD : Hid (joinL xs = joinEnd xs.length (l, xs.length, 0)) := by unfold Hid; rw [hseq, List.drop_length]; rfl
      have c0 := HJ.out.1.cell 0
      have hsz := HJ.out.lt
      clear hb hj hR hp hres hseq HJA
      go_wp2_with (at_range; refine wpList_range_I _ rfl _ 51 rfl 3 40 Tryd.underlying3 Tryd.underlying51 w.heap.size xs.length rfl (HJ.out.2.1.ext (by (repeat' (with_reducible first | exact Below.refl _ _ | refine Ext.drewN ?_ _ | refine Below.drew ?_ | refine Below.setCell ?_ ?_ _ | refine Below.alloc ?_ ?_ _)) <;> (first | omega | (simp; done) | (simp; omega)))) ?_; intro w0 cnt hcnt hrg0 hg0 hs0)
      go_frame
      have hB0 : Ext w w0 := HB.out.trans ⟨hg0.os, hg0.tape, hg0.output, hg0.size, fun k hk => hg0.block k hk (by simp)⟩
      obtain ⟨r, hr⟩ : ∃ r, wr.heap.size = r := ⟨_, rfl⟩
      rw [hr] at hrg0 hs0 ⊢
      have hrB : w.heap.size + 2 < r := by omega
      have hs1 : r < w0.heap.size := by omega
      clear hs0 hr hg0 c0 hsz
      go_loopw [9] (fun v wz => ∃ (left : Int → Bool) (cnt : Nat) (gs : List OpD), RangeI wz 3 w.heap.size r xs.length OpD.val M left cnt ∧ gs.length + cnt ≤ 1000000 ∧ OwnL wz (r + 1) 40 11 OpD.cells v gs ∧ CollO M left gs ∧ Ext w wz ∧ r < wz.heap.size) (fun _ wz => wz.rangeLeft w.heap.size r)
      case atStart => exact ⟨_, cnt, [], hrg0, by simp; omega, OwnL.nil _ _ _ _ _, CollO.start, hB0, hs1⟩
      case round =>
        obtain ⟨left, cnt2, gs, hrg, hcs, hown, hC, hb, hrl⟩ := hrel
        have HB2 := Lib.hid hb
        have HC := Lib.hid hC
        have HOW := Lib.hid hown
        have HRG := Lib.hid hrg
        obtain ⟨vA, vc, rfl⟩ := hown.form
        clear hb hC hown hrg hrg0 hB0 hs1 hcnt
        go_wp2_with (at_next; refine wpList_next_I _ rfl _ rfl 3 Tryd.underlying3 w.heap.size r xs.length _ rfl HRG.out ?_ ?_)
        · intro hc0 hl0
          have HL0 := Lib.hid hl0
          clear hc0 hl0
          go_wp2_with fail
          refine (sortById_any _ gs (r + 1) _ HOW.out (by omega)).mono ?_
          rintro e w3 ⟨rfl, ⟨gs', hp, hso, hsl⟩, hgr⟩
          have hfin := HC.out.done HR.out HL0.out hp hso
          have HLEN := Lib.hid hp.length_eq.symm
          subst hfin
          have HB3 := Lib.hid (HB2.out.grown hgr HB2.out.size (fun j hj => by have := (HOW.out.lt j hj).1; omega))
          have HSL := Lib.hid hsl
          clear hp hso hsl hgr
          rw [HLEN.out] at HSL ⊢
          go_wp2_with fail
          refine (hist_any _ gs' _ (HSL.out.ext (by (repeat' (with_reducible first | exact Below.refl _ _ | refine Ext.drewN ?_ _ | refine Below.drew ?_ | refine Below.setCell ?_ ?_ _ | refine Below.alloc ?_ ?_ _)) <;> (first | omega | (simp; done) | (simp; omega)))) HRES.out).mono ?_
          rintro e w4 ⟨rfl, hb4⟩
          have HB4 := Lib.hid (Ext.trans (by (repeat' (with_reducible first | exact HB3.out | exact Below.refl _ _ | refine Ext.drewN ?_ _ | refine Below.drew ?_ | refine Below.setCell ?_ ?_ _ | refine Below.alloc ?_ ?_ _)) <;> (first | omega | (simp; done) | (simp; omega)) : Ext w _) hb4)
          have HSL4 := Lib.hid (HSL.out.ext (Ext.trans (by (repeat' (with_reducible first | exact Below.refl _ _ | refine Ext.drewN ?_ _ | refine Below.drew ?_ | refine Below.setCell ?_ ?_ _ | refine Below.alloc ?_ ?_ _)) <;> (first | omega | (simp; done) | (simp; omega))) hb4))
          clear hb4
          by_cases hf : histL gs' = 0
          · have HD2 : Hid (joinL xs = (gs', xs.length, 0)) := by unfold Hid; rw [HD.out]; unfold joinEnd; rw [if_neg (by simp), if_neg (by simpa using hf)]
            have q1 : (histL gs' != 0) = false := by simpa using hf
            clear hf
            go_wp2_with fail
            go_ret3
            exact ⟨⟨_, by rw [HD2.out]; rfl, by rw [HD2.out]; exact HSL4.out.ext (by (repeat' (with_reducible first | exact Below.refl _ _ | refine Ext.drewN ?_ _ | refine Below.drew ?_ | refine Below.setCell ?_ ?_ _ | refine Below.alloc ?_ ?_ _)) <;> (first | omega | (simp; done) | (simp; omega)))⟩, by (repeat' (with_reducible first | exact HB4.out | exact Below.refl _ _ | refine Ext.drewN ?_ _ | refine Below.drew ?_ | refine Below.setCell ?_ ?_ _ | refine Below.alloc ?_ ?_ _)) <;> (first | omega | (simp; done) | (simp; omega))⟩
          · have HD2 : Hid (joinL xs = ([], xs.length, histL gs')) := by unfold Hid; rw [HD.out]; unfold joinEnd; rw [if_neg (by simp), if_pos (by simpa using hf)]
            have q1 : (histL gs' != 0) = true := by simpa using hf
            clear hf
            go_wp2_with fail
            go_ret3
            exact ⟨⟨_, by rw [HD2.out]; rfl, by rw [HD2.out]; exact Sl.nil _ _ _⟩, by (repeat' (with_reducible first | exact HB4.out | exact Below.refl _ _ | refine Ext.drewN ?_ _ | refine Below.drew ?_ | refine Below.setCell ?_ ?_ _ | refine Below.alloc ?_ ?_ _)) <;> (first | omega | (simp; done) | (simp; omega))⟩
        · intro x cc w1 cnt1 hwx hlx hfx hrg1 hlt hg1 hs1 hen
          have HC1 := Lib.hid (HC.out.step hlx hfx (HR.out.key hfx))
          have HRG1 := Lib.hid hrg1
          have HO1 : Hid (OwnL w1 (r + 1) 40 11 OpD.cells (.slice vA gs.length vc) gs) := World.ownsRow.kept HOW.out hg1 (.inr (fun e => by have := (HOW.out.lt r e).1; omega))
          have HB1 := Lib.hid (HB2.out.grown hg1 HB2.out.size (fun j hj => by cases hj; omega))
          have hrl1 : r < w1.heap.size := by rw [hs1]; exact hrl
          have hlc := hlt
          clear hlx hfx hrg1 hg1 hs1
          go_wp2_with (at_builtin; refine wpList_push elOp op_len op_one rfl (.tmp 43) (.tmp 45) rfl _ gs rfl (HO1.out.ext (by (repeat' (with_reducible first | exact Below.refl _ _ | refine Ext.drewN ?_ _ | refine Below.drew ?_ | refine Below.setCell ?_ ?_ _ | refine Below.alloc ?_ ?_ _)) <;> (first | omega | (simp; done) | (simp; omega)))) (by simp; omega) _ 1 cc rfl (Row1.made' (by simp) _ cc.cells) (by omega) (by decide) ?_)
          intro pA pc wp hp hgp
          have HRG2 := Lib.hid ((HRG1.out.ext (by (repeat' (with_reducible first | exact Below.refl _ _ | refine Ext.drewN ?_ _ | refine Below.drew ?_ | refine Below.setCell ?_ ?_ _ | refine Below.alloc ?_ ?_ _)) <;> (first | omega | (simp; done) | (simp; omega)))).kept hgp (fun e => by have := (HO1.out.lt _ e.symm).1; omega) (fun e => by have := (HO1.out.lt _ e.symm).1; omega))
          have HX2 : Hid (Ext w wp) := (by (repeat' (with_reducible first | exact HB1.out | exact Below.refl _ _ | refine Ext.drewN ?_ _ | refine Below.drew ?_ | refine Below.setCell ?_ ?_ _ | refine Below.alloc ?_ ?_ _)) <;> (first | omega | (simp; done) | (simp; omega)) : Ext w _).grown hgp (by have := HB1.out.size; first | omega | (simp; omega)) (fun j hj => by have := (HO1.out.lt j hj).1; omega)
          have hsz2 := hgp.size
          simp at hsz2
          have HP := Lib.hid hp
          clear hp hgp
          go_wp2_with fail
          go_roundw
          case measure => rw [HRG2.out.left_eq, HRG.out.left_eq]; exact hlc
          case rel => exact ⟨_, cnt1, gs ++ [cc], HRG2.out.ext (by (repeat' (with_reducible first | exact Below.refl _ _ | refine Ext.drewN ?_ _ | refine Below.drew ?_ | refine Below.setCell ?_ ?_ _ | refine Below.alloc ?_ ?_ _)) <;> (first | omega | (simp; done) | (simp; omega))), by simp; omega, HP.out.ext (by (repeat' (with_reducible first | exact Below.refl _ _ | refine Ext.drewN ?_ _ | refine Below.drew ?_ | refine Below.setCell ?_ ?_ _ | refine Below.alloc ?_ ?_ _)) <;> (first | omega | (simp; done) | (simp; omega))), HC1.out, by (repeat' (with_reducible first | exact HX2.out | exact Below.refl _ _ | refine Ext.drewN ?_ _ | refine Below.drew ?_ | refine Below.setCell ?_ ?_ _ | refine Below.alloc ?_ ?_ _)) <;> (first | omega | (simp; done) | (simp; omega)), by omega⟩
end Go.Proofs.YtgpnockjonicpaaDoor
