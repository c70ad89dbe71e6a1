/- Events joined: what the program's maps are to the document's list. No program. -/
/- event.joiner.answer. Conditions: numbers that an int holds, fewer than 10^6 events. -/
import Derived.Test.YtgpnockjonicpaaDoorJoin2
import Derived.Test.YtgpnockjonicpaaDoorMapE
import Derived.Test.YtgpnockjonicpaaDoorChk3
namespace Go.Proofs.YtgpnockjonicpaaDoor
set_option linter.unusedSimpArgs false
set_option linter.unusedVariables false
open Go.RowKit

theorem withL_mem {l : List OpD} (h : Ris l) (o x : OpD) : x ∈ withL l o ↔ x = o ∨ (x ∈ l ∧ x.id ≠ o.id) := by
  rw [withL_eq]
  have ht : ∀ x ∈ l.takeWhile (fun x => decide (x.id < o.id)), x.id < o.id := fun x hx => by
    have := List.all_takeWhile (p := fun x : OpD => decide (x.id < o.id)) (l := l)
    simpa using (List.all_eq_true.1 this) x hx
  have hm : x ∈ l ↔ x ∈ l.takeWhile (fun x => decide (x.id < o.id)) ∨ x ∈ l.dropWhile (fun x => decide (x.id < o.id)) := by
    rw [← List.mem_append, List.takeWhile_append_dropWhile]
  simp only [List.mem_append, List.mem_singleton, List.mem_filter, bne_iff_ne]
  constructor
  · rintro ((h1 | h1) | ⟨h1, h2⟩)
    · have := ht x h1; exact .inr ⟨hm.2 (.inl h1), by omega⟩
    · exact .inl h1
    · exact .inr ⟨hm.2 (.inr h1), h2⟩
  · rintro (h1 | ⟨h1, h2⟩)
    · exact .inl (.inr h1)
    · rcases hm.1 h1 with h3 | h3
      · exact .inl (.inl h3)
      · exact .inr ⟨h3, h2⟩
theorem Ris.inj {l : List OpD} (h : Ris l) {a b : OpD} (ha : a ∈ l) (hb : b ∈ l) (e : a.id = b.id) : a = b := by
  induction l with
  | nil => cases ha
  | cons x r ih =>
    obtain ⟨h1, h2⟩ := List.pairwise_cons.1 h
    rcases List.mem_cons.1 ha with q1 | ha' <;> rcases List.mem_cons.1 hb with q2 | hb'
    · rw [q1, q2]
    · have := h1 b hb'; rw [← q1] at this; omega
    · have := h1 a ha'; rw [← q2] at this; omega
    · exact ih h2 ha' hb'
theorem getL_iff {l : List OpD} (h : Ris l) (id : Int) (o : OpD) : getL l id = some o ↔ o ∈ l ∧ o.id = id := by
  constructor
  · intro e
    have h1 := List.find?_some e
    exact ⟨List.mem_of_find?_eq_some e, by simpa using h1⟩
  · rintro ⟨hm, rfl⟩
    unfold getL
    cases e : l.find? (fun x => x.id == o.id) with
    | none => have := List.find?_eq_none.1 e o hm; simp at this
    | some y =>
      have h1 := List.find?_some e
      rw [h.inj (List.mem_of_find?_eq_some e) hm (by simpa using h1)]
theorem getL_none {l : List OpD} (id : Int) : getL l id = none ↔ ∀ o ∈ l, o.id ≠ id := by
  unfold getL
  rw [List.find?_eq_none]
  simp
theorem openAt_neg (proc : Int) : ∀ (l : List OpD) (k : Nat), openAt proc k l < 0 ↔ ∀ o ∈ l, ¬ (o.proc = proc ∧ o.done = false)
  | [], _ => by simp [openAt]
  | x :: r, k => by
    unfold openAt
    split
    · rename_i h
      simp only [Bool.and_eq_true, beq_iff_eq, Bool.not_eq_true'] at h
      exact ⟨fun h1 => absurd h1 (by omega), fun h1 => absurd h (h1 x (by simp))⟩
    · rename_i h
      simp only [Bool.and_eq_true, beq_iff_eq, Bool.not_eq_true'] at h
      rw [openAt_neg proc r (k + 1)]
      constructor
      · intro hh o ho
        rcases List.mem_cons.1 ho with q | ho
        · rw [q]; exact h
        · exact hh o ho
      · exact fun hh o ho => hh o (List.mem_cons_of_mem _ ho)
theorem openAt_hit (proc : Int) : ∀ (l : List OpD) (k j : Nat), openAt proc k l = ((k + j : Nat) : Int) → ∃ o, l[j]? = some o ∧ o.proc = proc ∧ o.done = false
  | [], k, j, h => by unfold openAt at h; omega
  | x :: r, k, j, h => by
    unfold openAt at h
    split at h
    · rename_i h1
      simp only [Bool.and_eq_true, beq_iff_eq, Bool.not_eq_true'] at h1
      obtain rfl : j = 0 := by omega
      exact ⟨x, rfl, h1.1, h1.2⟩
    · cases j with
      | zero =>
        rcases openAt_range proc r (k + 1) with h2 | ⟨j', h2, _⟩ <;> omega
      | succ j =>
        obtain ⟨o, h2, h3⟩ := openAt_hit proc r (k + 1) j (by rw [h]; congr 1; omega)
        exact ⟨o, by simpa using h2, h3⟩

/-- what the program keeps of operations is what the document keeps -/
structure JRel (l : List OpD) (M : Int → Option OpD) (Q : Int → Option Int) : Prop where
  ris : Ris l
  ops : ∀ id, M id = getL l id
  opn : ∀ p id, Q p = some id ↔ ∃ o ∈ l, o.proc = p ∧ o.done = false ∧ o.id = id
  one : ∀ a ∈ l, ∀ b ∈ l, a.proc = b.proc → a.done = false → b.done = false → a = b
theorem JRel.start : JRel [] (fun _ => none) (fun _ => none) := ⟨List.Pairwise.nil, fun _ => rfl, fun _ _ => ⟨(fun h => by cases h), (fun ⟨_, h, _⟩ => by cases h)⟩, (fun _ h => by cases h)⟩
section
variable {l : List OpD} {M : Int → Option OpD} {Q : Int → Option Int}
theorem getL_with (h : Ris l) (o : OpD) (id : Int) : getL (withL l o) id = if id = o.id then some o else getL l id := by
  have hr := withL_ris l o h
  by_cases e : id = o.id
  · rw [if_pos e, getL_iff hr]; exact ⟨(withL_mem h o o).2 (.inl rfl), e.symm⟩
  · rw [if_neg e]
    cases e2 : getL l id with
    | none =>
      rw [getL_none] at e2 ⊢
      intro y hy
      rcases (withL_mem h o y).1 hy with rfl | ⟨h1, _⟩
      · exact fun q => e q.symm
      · exact e2 y h1
    | some y =>
      obtain ⟨h1, h2⟩ := (getL_iff h id y).1 e2
      exact (getL_iff hr id y).2 ⟨(withL_mem h o y).2 (.inr ⟨h1, by omega⟩), h2⟩
/-- an invocation -/
theorem JRel.invoke (h : JRel l M Q) (o : OpD) (h1 : M o.id = none) (h2 : Q o.proc = none) (h3 : o.done = false) : JRel (withL l o) (updI M o.id (some o)) (updI Q o.proc (some o.id)) := by
  have hn : ∀ y ∈ l, y.id ≠ o.id := (getL_none _).1 (by rw [← h.ops, h1])
  have hq : ∀ y ∈ l, y.proc = o.proc → y.done = false → False := fun y hy e e2 => by
    have := (h.opn o.proc y.id).2 ⟨y, hy, e, e2, rfl⟩
    rw [h2] at this; cases this
  refine ⟨withL_ris l o h.ris, fun id => ?_, fun p id => ?_, fun a ha b hb e e2 e3 => ?_⟩
  · rw [getL_with h.ris]
    unfold updI
    split
    · rfl
    · exact h.ops id
  · unfold updI
    split
    · rename_i e
      subst e
      constructor
      · intro q; injection q with q; exact ⟨o, (withL_mem h.ris o o).2 (.inl rfl), rfl, h3, q⟩
      · rintro ⟨y, hy, e1, e2, e3⟩
        rcases (withL_mem h.ris o y).1 hy with rfl | ⟨h4, _⟩
        · rw [e3]
        · exact (hq y h4 e1 e2).elim
    · rename_i e
      rw [h.opn]
      constructor
      · rintro ⟨y, hy, e1, e2, e3⟩; exact ⟨y, (withL_mem h.ris o y).2 (.inr ⟨hy, hn y hy⟩), e1, e2, e3⟩
      · rintro ⟨y, hy, e1, e2, e3⟩
        rcases (withL_mem h.ris o y).1 hy with rfl | ⟨h4, _⟩
        · exact absurd e1.symm e
        · exact ⟨y, h4, e1, e2, e3⟩
  · rcases (withL_mem h.ris o a).1 ha with q1 | ⟨h4, _⟩ <;> rcases (withL_mem h.ris o b).1 hb with q2 | ⟨h5, _⟩
    · rw [q1, q2]
    · rw [q1] at e; exact (hq b h5 e.symm e3).elim
    · rw [q2] at e; exact (hq a h4 e e2).elim
    · exact h.one a h4 b h5 e e2 e3
/-- an answer -/
theorem JRel.answer (h : JRel l M Q) (o y : OpD) (h1 : o ∈ l) (h2 : o.done = false) (e1 : y.id = o.id) (e2 : y.proc = o.proc) (e3 : y.done = true) : JRel (withL l y) (updI M o.id (some y)) (updI Q o.proc none) := by
  refine ⟨withL_ris l y h.ris, fun id => ?_, fun p id => ?_, fun a ha b hb f1 f2 f3 => ?_⟩
  · rw [getL_with h.ris, e1]
    unfold updI
    split
    · rfl
    · exact h.ops id
  · unfold updI
    split
    · rename_i e
      subst e
      constructor
      · intro q; cases q
      · rintro ⟨z, hz, f1, f2, f3⟩
        rcases (withL_mem h.ris y z).1 hz with rfl | ⟨h4, h5⟩
        · rw [e3] at f2; cases f2
        · have := h.one z h4 o h1 f1 f2 h2
          rw [this, e1] at h5
          exact absurd rfl h5
    · rename_i e
      rw [h.opn]
      constructor
      · rintro ⟨z, hz, f1, f2, f3⟩
        refine ⟨z, (withL_mem h.ris y z).2 (.inr ⟨hz, fun q => ?_⟩), f1, f2, f3⟩
        rw [e1] at q
        have := h.ris.inj hz h1 q
        rw [this] at f1
        exact e f1.symm
      · rintro ⟨z, hz, f1, f2, f3⟩
        rcases (withL_mem h.ris y z).1 hz with rfl | ⟨h4, h5⟩
        · rw [e3] at f2; cases f2
        · exact ⟨z, h4, f1, f2, f3⟩
  · rcases (withL_mem h.ris y a).1 ha with q1 | ⟨h4, _⟩ <;> rcases (withL_mem h.ris y b).1 hb with q2 | ⟨h5, _⟩
    · rw [q1, q2]
    · rw [q1, e3] at f2; cases f2
    · rw [q2, e3] at f3; cases f3
    · exact h.one a h4 b h5 f1 f2 f3
theorem JRel.open_neg (h : JRel l M Q) (p : Int) : openL l p < 0 ↔ Q p = none := by
  unfold openL
  rw [openAt_neg]
  constructor
  · intro hn
    cases e : Q p with
    | none => rfl
    | some id => obtain ⟨o, h1, h2, h3, _⟩ := (h.opn p id).1 e; exact absurd ⟨h2, h3⟩ (hn o h1)
  · intro e o ho hh
    have := (h.opn p o.id).2 ⟨o, ho, hh.1, hh.2, rfl⟩
    rw [e] at this; cases this
/-- where the document looks for the operation that is answered -/
theorem JRel.open_some (h : JRel l M Q) (x : EvD) (id : Int) (e : Q x.proc = some id) : ∃ o, o ∈ l ∧ o.proc = x.proc ∧ o.done = false ∧ o.id = id ∧ stepAns l x = stepAt l x (some o) := by
  have h1 : ¬ openL l x.proc < 0 := by rw [h.open_neg, e]; simp
  rcases openL_range l x.proc with h2 | ⟨j, h2, _⟩
  · rw [h2] at h1; exact absurd (by decide) h1
  · obtain ⟨o, h3, h4, h5⟩ := openAt_hit x.proc l 0 j (by unfold openL at h2; rw [h2, Nat.zero_add])
    have hm := List.mem_of_getElem? h3
    have h6 := (h.opn x.proc o.id).2 ⟨o, hm, h4, h5, rfl⟩
    rw [e] at h6
    injection h6 with h6
    refine ⟨o, hm, h4, h5, h6.symm, ?_⟩
    unfold stepAns
    rw [h2]
    show stepAt l x l[j]? = _
    rw [h3]
theorem JRel.open_none (h : JRel l M Q) (x : EvD) (e : Q x.proc = none) : stepAns l x = (l, 6) := by
  have h1 := (h.open_neg x.proc).2 e
  unfold stepAns
  cases q : openL l x.proc with
  | ofNat k => rw [q] at h1; exact absurd h1 (by simp)
  | negSucc _ => rfl
end
end Go.Proofs.YtgpnockjonicpaaDoor
namespace Go.Proofs.YtgpnockjonicpaaDoor
set_option linter.unusedSimpArgs false
set_option linter.unusedVariables false
open Go.RowKit

theorem Tryd.zInt (w : World) : (zeroValue 3).run Tryd.prog w = .ok (.int .i64 0) w := by kernel_rfl
theorem Tryd.zOp (w : World) : (zeroValue 40).run Tryd.prog w = .ok opZero.val w := by kernel_rfl
/-- an event's numbers are an int's -/
def EvOk (x : EvD) : Prop := (Lit.int .i64 x.proc).wf = true ∧ (Lit.int .i64 x.id).wf = true ∧ -9223372036854775808 ≤ x.result ∧ x.result ≤ 9223372036854775807
/-- a joiner in memory -/
def JAt (w : World) (j mo mq n : Nat) (last : EvD) (M : Int → Option OpD) (Q : Int → Option Int) : Prop :=
  Row1 w j 54 (.map (some mo) :: .map (some mq) :: last.cells) ∧ MapI w 3 mo n OpD.val M ∧ MapI w 3 mq n (Value.int .i64) Q ∧ mo ≠ mq
def Jmay (j mo mq : Nat) (i : Nat) : Prop := i = j ∨ i = mo ∨ i = mq
theorem row_ne_map {α : Type} {w : World} {g : Nat} {t : TypeId} {cs : List Value} {k : TypeId} {b n : Nat} {enc : α → Value} {f : Int → Option α} (h : Row1 w g t cs) (hm : MapI w k b n enc f) : g ≠ b := by
  intro e
  subst e
  obtain ⟨D, ⟨es, clock, hb, _⟩, _⟩ := hm
  have := h.symm.trans hb
  cases this
section
variable {w w' : World} {j mo mq n : Nat} {last : EvD} {M : Int → Option OpD} {Q : Int → Option Int}
theorem JAt.ext (h : JAt w j mo mq n last M Q) (hb : Ext w w') : JAt w' j mo mq n last M Q := ⟨h.1.ext hb h.1.lt, h.2.1.ext hb, h.2.2.1.ext hb, h.2.2.2⟩
theorem JAt.lt (h : JAt w j mo mq n last M Q) : j < w.heap.size ∧ mo < w.heap.size ∧ mq < w.heap.size := ⟨h.1.lt, h.2.1.lt, h.2.2.1.lt⟩
theorem JAt.ne (h : JAt w j mo mq n last M Q) : j ≠ mo ∧ j ≠ mq ∧ mo ≠ mq := ⟨row_ne_map h.1 h.2.1, row_ne_map h.1 h.2.2.1, h.2.2.2⟩
end
/-- what a joiner's step answers -/
def JPost (w : World) (j mo mq n : Nat) (last : EvD) (s : List OpD × Int) (e : Ending) (w' : World) : Prop :=
  e = .returned (.int .i64 s.2) ∧ Only (Jmay j mo mq) w w' ∧ (s.2 = 0 → ∃ M' Q', JAt w' j mo mq (n + 1) last M' Q' ∧ JRel s.1 M' Q')

set_option maxRecDepth 100000 in
set_option maxHeartbeats 8000000 in
theorem joinAnswer_any (j mo mq n : Nat) (last : EvD) (M : Int → Option OpD) (Q : Int → Option Int) (l : List OpD) (x : EvD) (w : World) (hJ : JAt w j mo mq n last M Q) (hR : JRel l M Q) (hn : n ≤ 1000000) (hx : EvOk x) :
    Calls Tryd.prog 39 #[.pointer (some ⟨j, 0, none⟩), x.val] w (JPost w j mo mq n last (stepAns l x)) := by
  have HJ := Lib.hid hJ
  have HR := Lib.hid hR
  have HX := Lib.hid hx
  have HLT := Lib.hid hJ.lt
  have hltj := hJ.lt.1
  have HNE := Lib.hid hJ.ne
  have HJW : Hid (∀ W : World, Ext (w.alloc (.cells #[.int .i64 x.time, .int .i64 x.proc, .bool x.answer, .int .i64 x.id, .int .i64 x.object, .int .i64 x.kind, .int .i64 x.method, .int .i64 x.arg, .int .i64 x.second, .int .i64 x.result] 42)) W → Ext w W) := fun W h => Ext.trans (Ext.alloc _ _) h
  have HBX : Hid (∀ W : World, Ext (w.alloc (.cells #[.int .i64 x.time, .int .i64 x.proc, .bool x.answer, .int .i64 x.id, .int .i64 x.object, .int .i64 x.kind, .int .i64 x.method, .int .i64 x.arg, .int .i64 x.second, .int .i64 x.result] 42)) W → At10 W w.heap.size x) := fun W h => (At10.row (Row1.made w 42 x.cells)).ext h (by simp)
  have HJC : Hid (∀ W : World, Ext w W → W.cell? ⟨j, 0, none⟩ = some (.map (some mo)) ∧ W.cell? ⟨j, 1, none⟩ = some (.map (some mq))) := fun W h => ⟨(hJ.ext h).1.cell 0, (hJ.ext h).1.cell 1⟩
  have HLQ : Hid (∀ W : World, Ext w W → (Instr.lookup 52 (.map (some mq)) (.int .i64 x.proc) true).run Tryd.prog W = .ok (.tuple #[((Q x.proc).map (Value.int .i64)).getD (.int .i64 0), .bool (Q x.proc).isSome]) W) :=
    fun W h => (hJ.ext h).2.2.1.look Tryd.underlying3 Tryd.underlying52 (Tryd.zInt W) hx.1
  clear hJ hR hx
  cases hq : Q x.proc with
  | none =>
    have HD := Lib.hid (HR.out.open_none x hq)
    rw [hq] at HLQ
    clear hq
    go_enter Tryd.func39, Tryd.ntmps39
    go_wp2_with fail
    have HKS : Hid (∀ W : World, Ext (w.alloc (.cells #[.int .i64 x.time, .int .i64 x.proc, .bool x.answer, .int .i64 x.id, .int .i64 x.object, .int .i64 x.kind, .int .i64 x.method, .int .i64 x.arg, .int .i64 x.second, .int .i64 x.result] 42)) W → (W.cell? ⟨j, 1, none⟩ = some (.map (some mq)) ∧ W.cell? ⟨w.heap.size, 1, none⟩ = some (.int .i64 x.proc) ∧
        (Instr.lookup 52 (.map (some mq)) (.int .i64 x.proc) true).run Tryd.prog W = .ok (.tuple #[.int .i64 0, .bool false]) W)) := fun W h => ⟨(HJC.out W (HJW.out W h)).2, (HBX.out W h).2.1, HLQ.out W (HJW.out W h)⟩
    refine wp_region_held_drew (S := fun W => W.cell? ⟨j, 1, none⟩ = some (.map (some mq)) ∧ W.cell? ⟨w.heap.size, 1, none⟩ = some (.int .i64 x.proc) ∧ (Instr.lookup 52 (.map (some mq)) (.int .i64 x.proc) true).run Tryd.prog W = .ok (.tuple #[.int .i64 0, .bool false]) W) (by kernel_rfl) (HKS.out _ (by (repeat' (with_reducible first | exact Below.refl _ _ | refine Ext.drewN ?_ _ | refine Below.drew ?_ | refine Below.setCell ?_ ?_ _ | refine Below.alloc ?_ ?_ _)) <;> (first | omega | (simp; done) | (simp; omega)))) (fun hHeld => ?_)
    refine' wpAnyH_take (i := 0) (oi := ?zoi0a) (v := ?zv0a) ?zhi0a (by kernel_rfl) (by kernel_rfl) (by kernel_rfl) ?zhQ0a (Or.inl ⟨?zhw0a, ?zhy0a⟩) (by assumption) ?zrest0a; (case zhi0a => simp only [List.getElem?_toArray, List.getElem?_cons_succ, List.getElem?_cons_zero]; exact rfl); (case zhQ0a => exact fun _ _ _ h => h); (case zhw0a => rfl); (case zhy0a => intro w hSw; (try dsimp only at hSw); go_simp; (try with_reducible rfl)); (try simp only [Act.put, List.setIfInBounds_toArray, List.set_cons_zero, List.set_cons_succ])
    refine' wpAnyH_take (i := 1) (oi := ?zoi1a) (v := ?zv1a) ?zhi1a (by kernel_rfl) (by kernel_rfl) (by kernel_rfl) ?zhQ1a (Or.inl ⟨?zhw1a, ?zhy1a⟩) (by assumption) ?zrest1a; (case zhi1a => simp only [List.getElem?_toArray, List.getElem?_cons_succ, List.getElem?_cons_zero]; exact rfl); (case zhQ1a => exact fun _ _ _ h => h); (case zhw1a => rfl); (case zhy1a => intro w hSw; (try dsimp only at hSw); go_simp; (try with_reducible rfl)); (try simp only [Act.put, List.setIfInBounds_toArray, List.set_cons_zero, List.set_cons_succ])
    refine' wpAnyH_take (i := 2) (oi := ?zoi2a) (v := ?zv2a) ?zhi2a (by kernel_rfl) (by kernel_rfl) (by kernel_rfl) ?zhQ2a (Or.inl ⟨?zhw2a, ?zhy2a⟩) (by assumption) ?zrest2a; (case zhi2a => simp only [List.getElem?_toArray, List.getElem?_cons_succ, List.getElem?_cons_zero]; exact rfl); (case zhQ2a => exact fun _ _ _ h => h); (case zhw2a => rfl); (case zhy2a => intro w hSw; (try dsimp only at hSw); go_simp; (try with_reducible rfl)); (try simp only [Act.put, List.setIfInBounds_toArray, List.set_cons_zero, List.set_cons_succ])
    refine' wpAnyH_take (i := 3) (oi := ?zoi3a) (v := ?zv3a) ?zhi3a (by kernel_rfl) (by kernel_rfl) (by kernel_rfl) ?zhQ3a (Or.inl ⟨?zhw3a, ?zhy3a⟩) (by assumption) ?zrest3a; (case zhi3a => simp only [List.getElem?_toArray, List.getElem?_cons_succ, List.getElem?_cons_zero]; exact rfl); (case zhQ3a => exact fun _ _ _ h => h); (case zhw3a => rfl); (case zhy3a => intro w hSw; (try dsimp only at hSw); go_simp; (try with_reducible rfl)); (try simp only [Act.put, List.setIfInBounds_toArray, List.set_cons_zero, List.set_cons_succ])
    refine' wpAnyH_take (i := 4) (oi := ?zoi4a) (v := ?zv4a) ?zhi4a (by kernel_rfl) (by kernel_rfl) (by kernel_rfl) ?zhQ4a (Or.inl ⟨?zhw4a, ?zhy4a⟩) (by assumption) ?zrest4a; (case zhi4a => simp only [List.getElem?_toArray, List.getElem?_cons_succ, List.getElem?_cons_zero]; exact rfl); (case zhQ4a => exact fun _ _ _ h => h); (case zhw4a => rfl); (case zhy4a => intro w hSw; (try dsimp only at hSw); go_simp; (try with_reducible rfl)); (try simp only [Act.put, List.setIfInBounds_toArray, List.set_cons_zero, List.set_cons_succ])
    refine' wpAnyH_take (i := 5) (oi := ?zoi5a) (v := ?zv5a) ?zhi5a (by kernel_rfl) (by kernel_rfl) (by kernel_rfl) ?zhQ5a (Or.inl ⟨?zhw5a, ?zhy5a⟩) (by assumption) ?zrest5a; (case zhi5a => simp only [List.getElem?_toArray, List.getElem?_cons_succ, List.getElem?_cons_zero]; exact rfl); (case zhQ5a => exact fun _ _ _ h => h); (case zhw5a => rfl); (case zhy5a => intro w hSw; (try dsimp only at hSw); go_simp; (try with_reducible rfl)); (try simp only [Act.put, List.setIfInBounds_toArray, List.set_cons_zero, List.set_cons_succ])
    refine' wpAnyH_take (i := 6) (oi := ?zoi6a) (v := ?zv6a) ?zhi6a (by kernel_rfl) (by kernel_rfl) (by kernel_rfl) ?zhQ6a (Or.inl ⟨?zhw6a, ?zhy6a⟩) (by assumption) ?zrest6a; (case zhi6a => simp only [List.getElem?_toArray, List.getElem?_cons_succ, List.getElem?_cons_zero]; exact rfl); (case zhQ6a => exact fun _ _ _ h => h); (case zhw6a => rfl); (case zhy6a => intro w hSw; (try dsimp only at hSw); go_simp; (try with_reducible rfl)); (try simp only [Act.put, List.setIfInBounds_toArray, List.set_cons_zero, List.set_cons_succ])
    refine' wpAnyH_take (i := 7) (oi := ?zoi7a) (v := ?zv7a) ?zhi7a (by kernel_rfl) (by kernel_rfl) (by kernel_rfl) ?zhQ7a (Or.inl ⟨?zhw7a, ?zhy7a⟩) (by assumption) ?zrest7a; (case zhi7a => simp only [List.getElem?_toArray, List.getElem?_cons_succ, List.getElem?_cons_zero]; exact rfl); (case zhQ7a => exact fun _ _ _ h => h); (case zhw7a => rfl); (case zhy7a => intro w hSw; (try dsimp only at hSw); go_simp; (try with_reducible rfl)); (try simp only [Act.put, List.setIfInBounds_toArray, List.set_cons_zero, List.set_cons_succ])
    refine' wpAnyH_take (i := 8) (oi := ?zoi8a) (v := ?zv8a) ?zhi8a (by kernel_rfl) (by kernel_rfl) (by kernel_rfl) ?zhQ8a (Or.inl ⟨?zhw8a, ?zhy8a⟩) (by assumption) ?zrest8a; (case zhi8a => simp only [List.getElem?_toArray, List.getElem?_cons_succ, List.getElem?_cons_zero]; exact rfl); (case zhQ8a => exact fun _ _ _ h => h); (case zhw8a => rfl); (case zhy8a => intro w hSw; (try dsimp only at hSw); go_simp; (try with_reducible rfl)); (try simp only [Act.put, List.setIfInBounds_toArray, List.set_cons_zero, List.set_cons_succ])
    refine' wpAnyH_take (i := 9) (oi := ?zoi9a) (v := ?zv9a) ?zhi9a (by kernel_rfl) (by kernel_rfl) (by kernel_rfl) ?zhQ9a (Or.inl ⟨?zhw9a, ?zhy9a⟩) (by assumption) ?zrest9a; (case zhi9a => simp only [List.getElem?_toArray, List.getElem?_cons_succ, List.getElem?_cons_zero]; exact rfl); (case zhQ9a => exact fun _ _ _ h => h); (case zhw9a => rfl); (case zhy9a => intro w hSw; (try dsimp only at hSw); go_simp; (try with_reducible rfl)); (try simp only [Act.put, List.setIfInBounds_toArray, List.set_cons_zero, List.set_cons_succ])
    refine' wpAnyH_take (i := 10) (oi := ?zoi10a) (v := ?zv10a) ?zhi10a (by kernel_rfl) (by kernel_rfl) (by kernel_rfl) ?zhQ10a (Or.inl ⟨?zhw10a, ?zhy10a⟩) (by assumption) ?zrest10a; (case zhi10a => simp only [List.getElem?_toArray, List.getElem?_cons_succ, List.getElem?_cons_zero]; exact rfl); (case zhQ10a => exact fun _ _ _ h => h); (case zhw10a => rfl); (case zhy10a => intro w hSw; (try dsimp only at hSw); go_simp; (try with_reducible rfl)); (try simp only [Act.put, List.setIfInBounds_toArray, List.set_cons_zero, List.set_cons_succ])
    refine' wpAnyH_take (i := 11) (oi := ?zoi11a) (v := ?zv11a) ?zhi11a (by kernel_rfl) (by kernel_rfl) (by kernel_rfl) ?zhQ11a (Or.inl ⟨?zhw11a, ?zhy11a⟩) (by assumption) ?zrest11a; (case zhi11a => simp only [List.getElem?_toArray, List.getElem?_cons_succ, List.getElem?_cons_zero]; exact rfl); (case zhQ11a => exact fun _ _ _ h => h); (case zhw11a => rfl); (case zhy11a => intro w hSw; (try dsimp only at hSw); go_simp; (try with_reducible rfl)); (try simp only [Act.put, List.setIfInBounds_toArray, List.set_cons_zero, List.set_cons_succ])
    refine wpAnyH_done (by kernel_rfl) ?_ _
    go_wp2_with fail
    go_ret
    rw [HD.out]
    exact ⟨rfl, Only.of (by (repeat' (with_reducible first | exact Below.refl _ _ | refine Ext.drewN ?_ _ | refine Below.drew ?_ | refine Below.setCell ?_ ?_ _ | refine Below.alloc ?_ ?_ _)) <;> (first | omega | (simp; done) | (simp; omega))), fun h => absurd h (by simp)⟩
  | some id =>
    obtain ⟨o, ho, hop, hod, hoi, hst⟩ := HR.out.open_some x id hq
    have hM : M id = some o := by rw [HR.out.ops]; exact (getL_iff HR.out.ris id o).2 ⟨ho, hoi⟩
    have HST : Hid (stepAns l x = if o.id = x.id then (if saysMore x = true then (l, 33) else (withL l (answered o x), chkL (answered o x))) else (l, 6)) := by unfold Hid; rw [hst]; rfl
    have HLM : Hid (∀ W : World, Ext w W → (Lit.int .i64 id).wf = true → (Instr.lookup 51 (.map (some mo)) (.int .i64 id) false).run Tryd.prog W = .ok (.agg #[.int .i64 o.id, .int .i64 o.proc, .int .i64 o.object, .int .i64 o.kind, .int .i64 o.method, .int .i64 o.arg, .int .i64 o.second, .bool o.done, .int .i64 o.result, .int .i64 o.invoke, .int .i64 o.ret]) W) := fun W h hw => by
      have h1 := (HJ.out.ext h).2.1.look0 Tryd.underlying3 Tryd.underlying51 (Tryd.zOp W) hw
      rw [hM] at h1
      exact h1
    have HRN : Hid (∀ y : OpD, y.id = id → y.proc = o.proc → y.done = true → JRel (withL l y) (updI M id (some y)) (updI Q x.proc none)) := fun y e1 e2 e3 => by
      have := HR.out.answer o y ho hod (by rw [e1, hoi]) e2 e3
      rw [hoi, hop] at this
      exact this
    rw [hq] at HLQ
    have HOI := Lib.hid hoi
    clear hq ho hop hod hoi hst hM
    have HKS : Hid (∀ W : World, Ext (w.alloc (.cells #[.int .i64 x.time, .int .i64 x.proc, .bool x.answer, .int .i64 x.id, .int .i64 x.object, .int .i64 x.kind, .int .i64 x.method, .int .i64 x.arg, .int .i64 x.second, .int .i64 x.result] 42)) W → (W.cell? ⟨j, 1, none⟩ = some (.map (some mq)) ∧ W.cell? ⟨w.heap.size, 1, none⟩ = some (.int .i64 x.proc) ∧
        (Instr.lookup 52 (.map (some mq)) (.int .i64 x.proc) true).run Tryd.prog W = .ok (.tuple #[.int .i64 id, .bool true]) W)) := fun W h => ⟨(HJC.out W (HJW.out W h)).2, (HBX.out W h).2.1, HLQ.out W (HJW.out W h)⟩
    by_cases h1 : id = x.id
    · have q3 : (id != x.id) = false := by simpa using h1
      have HID := Lib.hid h1
      have HOX : Hid (o.id = x.id) := by unfold Hid; rw [HOI.out]; exact h1
      rw [if_pos HOX.out] at HST
      clear h1
      go_enter Tryd.func39, Tryd.ntmps39
      go_wp2_with fail
      refine wp_region_held_drew (S := fun W => W.cell? ⟨j, 1, none⟩ = some (.map (some mq)) ∧ W.cell? ⟨w.heap.size, 1, none⟩ = some (.int .i64 x.proc) ∧ (Instr.lookup 52 (.map (some mq)) (.int .i64 x.proc) true).run Tryd.prog W = .ok (.tuple #[.int .i64 id, .bool true]) W) (by kernel_rfl) (HKS.out _ (by (repeat' (with_reducible first | exact Below.refl _ _ | refine Ext.drewN ?_ _ | refine Below.drew ?_ | refine Below.setCell ?_ ?_ _ | refine Below.alloc ?_ ?_ _)) <;> (first | omega | (simp; done) | (simp; omega)))) (fun hHeld => ?_)
      refine' wpAnyH_take (i := 0) (oi := ?zoi0b) (v := ?zv0b) ?zhi0b (by kernel_rfl) (by kernel_rfl) (by kernel_rfl) ?zhQ0b (Or.inl ⟨?zhw0b, ?zhy0b⟩) (by assumption) ?zrest0b; (case zhi0b => simp only [List.getElem?_toArray, List.getElem?_cons_succ, List.getElem?_cons_zero]; exact rfl); (case zhQ0b => exact fun _ _ _ h => h); (case zhw0b => rfl); (case zhy0b => intro w hSw; (try dsimp only at hSw); go_simp; (try with_reducible rfl)); (try simp only [Act.put, List.setIfInBounds_toArray, List.set_cons_zero, List.set_cons_succ])
      refine' wpAnyH_take (i := 1) (oi := ?zoi1b) (v := ?zv1b) ?zhi1b (by kernel_rfl) (by kernel_rfl) (by kernel_rfl) ?zhQ1b (Or.inl ⟨?zhw1b, ?zhy1b⟩) (by assumption) ?zrest1b; (case zhi1b => simp only [List.getElem?_toArray, List.getElem?_cons_succ, List.getElem?_cons_zero]; exact rfl); (case zhQ1b => exact fun _ _ _ h => h); (case zhw1b => rfl); (case zhy1b => intro w hSw; (try dsimp only at hSw); go_simp; (try with_reducible rfl)); (try simp only [Act.put, List.setIfInBounds_toArray, List.set_cons_zero, List.set_cons_succ])
      refine' wpAnyH_take (i := 2) (oi := ?zoi2b) (v := ?zv2b) ?zhi2b (by kernel_rfl) (by kernel_rfl) (by kernel_rfl) ?zhQ2b (Or.inl ⟨?zhw2b, ?zhy2b⟩) (by assumption) ?zrest2b; (case zhi2b => simp only [List.getElem?_toArray, List.getElem?_cons_succ, List.getElem?_cons_zero]; exact rfl); (case zhQ2b => exact fun _ _ _ h => h); (case zhw2b => rfl); (case zhy2b => intro w hSw; (try dsimp only at hSw); go_simp; (try with_reducible rfl)); (try simp only [Act.put, List.setIfInBounds_toArray, List.set_cons_zero, List.set_cons_succ])
      refine' wpAnyH_take (i := 3) (oi := ?zoi3b) (v := ?zv3b) ?zhi3b (by kernel_rfl) (by kernel_rfl) (by kernel_rfl) ?zhQ3b (Or.inl ⟨?zhw3b, ?zhy3b⟩) (by assumption) ?zrest3b; (case zhi3b => simp only [List.getElem?_toArray, List.getElem?_cons_succ, List.getElem?_cons_zero]; exact rfl); (case zhQ3b => exact fun _ _ _ h => h); (case zhw3b => rfl); (case zhy3b => intro w hSw; (try dsimp only at hSw); go_simp; (try with_reducible rfl)); (try simp only [Act.put, List.setIfInBounds_toArray, List.set_cons_zero, List.set_cons_succ])
      refine' wpAnyH_take (i := 4) (oi := ?zoi4b) (v := ?zv4b) ?zhi4b (by kernel_rfl) (by kernel_rfl) (by kernel_rfl) ?zhQ4b (Or.inl ⟨?zhw4b, ?zhy4b⟩) (by assumption) ?zrest4b; (case zhi4b => simp only [List.getElem?_toArray, List.getElem?_cons_succ, List.getElem?_cons_zero]; exact rfl); (case zhQ4b => exact fun _ _ _ h => h); (case zhw4b => rfl); (case zhy4b => intro w hSw; (try dsimp only at hSw); go_simp; (try with_reducible rfl)); (try simp only [Act.put, List.setIfInBounds_toArray, List.set_cons_zero, List.set_cons_succ])
      refine' wpAnyH_take (i := 5) (oi := ?zoi5b) (v := ?zv5b) ?zhi5b (by kernel_rfl) (by kernel_rfl) (by kernel_rfl) ?zhQ5b (Or.inl ⟨?zhw5b, ?zhy5b⟩) (by assumption) ?zrest5b; (case zhi5b => simp only [List.getElem?_toArray, List.getElem?_cons_succ, List.getElem?_cons_zero]; exact rfl); (case zhQ5b => exact fun _ _ _ h => h); (case zhw5b => rfl); (case zhy5b => intro w hSw; (try dsimp only at hSw); go_simp; (try with_reducible rfl)); (try simp only [Act.put, List.setIfInBounds_toArray, List.set_cons_zero, List.set_cons_succ])
      refine' wpAnyH_take (i := 6) (oi := ?zoi6b) (v := ?zv6b) ?zhi6b (by kernel_rfl) (by kernel_rfl) (by kernel_rfl) ?zhQ6b (Or.inl ⟨?zhw6b, ?zhy6b⟩) (by assumption) ?zrest6b; (case zhi6b => simp only [List.getElem?_toArray, List.getElem?_cons_succ, List.getElem?_cons_zero]; exact rfl); (case zhQ6b => exact fun _ _ _ h => h); (case zhw6b => rfl); (case zhy6b => intro w hSw; (try dsimp only at hSw); go_simp; (try with_reducible rfl)); (try simp only [Act.put, List.setIfInBounds_toArray, List.set_cons_zero, List.set_cons_succ])
      refine' wpAnyH_take (i := 7) (oi := ?zoi7b) (v := ?zv7b) ?zhi7b (by kernel_rfl) (by kernel_rfl) (by kernel_rfl) ?zhQ7b (Or.inl ⟨?zhw7b, ?zhy7b⟩) (by assumption) ?zrest7b; (case zhi7b => simp only [List.getElem?_toArray, List.getElem?_cons_succ, List.getElem?_cons_zero]; exact rfl); (case zhQ7b => exact fun _ _ _ h => h); (case zhw7b => rfl); (case zhy7b => intro w hSw; (try dsimp only at hSw); go_simp; (try with_reducible rfl)); (try simp only [Act.put, List.setIfInBounds_toArray, List.set_cons_zero, List.set_cons_succ])
      refine' wpAnyH_take (i := 8) (oi := ?zoi8b) (v := ?zv8b) ?zhi8b (by kernel_rfl) (by kernel_rfl) (by kernel_rfl) ?zhQ8b (Or.inl ⟨?zhw8b, ?zhy8b⟩) (by assumption) ?zrest8b; (case zhi8b => simp only [List.getElem?_toArray, List.getElem?_cons_succ, List.getElem?_cons_zero]; exact rfl); (case zhQ8b => exact fun _ _ _ h => h); (case zhw8b => rfl); (case zhy8b => intro w hSw; (try dsimp only at hSw); go_simp; (try with_reducible rfl)); (try simp only [Act.put, List.setIfInBounds_toArray, List.set_cons_zero, List.set_cons_succ])
      refine' wpAnyH_take (i := 9) (oi := ?zoi9b) (v := ?zv9b) ?zhi9b (by kernel_rfl) (by kernel_rfl) (by kernel_rfl) ?zhQ9b (Or.inl ⟨?zhw9b, ?zhy9b⟩) (by assumption) ?zrest9b; (case zhi9b => simp only [List.getElem?_toArray, List.getElem?_cons_succ, List.getElem?_cons_zero]; exact rfl); (case zhQ9b => exact fun _ _ _ h => h); (case zhw9b => rfl); (case zhy9b => intro w hSw; (try dsimp only at hSw); go_simp; (try with_reducible rfl)); (try simp only [Act.put, List.setIfInBounds_toArray, List.set_cons_zero, List.set_cons_succ])
      refine' wpAnyH_take (i := 10) (oi := ?zoi10b) (v := ?zv10b) ?zhi10b (by kernel_rfl) (by kernel_rfl) (by kernel_rfl) ?zhQ10b (Or.inl ⟨?zhw10b, ?zhy10b⟩) (by assumption) ?zrest10b; (case zhi10b => simp only [List.getElem?_toArray, List.getElem?_cons_succ, List.getElem?_cons_zero]; exact rfl); (case zhQ10b => exact fun _ _ _ h => h); (case zhw10b => rfl); (case zhy10b => intro w hSw; (try dsimp only at hSw); go_simp; (try with_reducible rfl)); (try simp only [Act.put, List.setIfInBounds_toArray, List.set_cons_zero, List.set_cons_succ])
      refine' wpAnyH_take (i := 11) (oi := ?zoi11b) (v := ?zv11b) ?zhi11b (by kernel_rfl) (by kernel_rfl) (by kernel_rfl) ?zhQ11b (Or.inl ⟨?zhw11b, ?zhy11b⟩) (by assumption) ?zrest11b; (case zhi11b => simp only [List.getElem?_toArray, List.getElem?_cons_succ, List.getElem?_cons_zero]; exact rfl); (case zhQ11b => exact fun _ _ _ h => h); (case zhw11b => rfl); (case zhy11b => intro w hSw; (try dsimp only at hSw); go_simp; (try with_reducible rfl)); (try simp only [Act.put, List.setIfInBounds_toArray, List.set_cons_zero, List.set_cons_succ])
      refine wpAnyH_done (by kernel_rfl) ?_ _
      clear hHeld HKS HLQ
      go_upto_region 4 with fail
      obtain ⟨sm, hsm⟩ : ∃ sm, saysMore x = sm := ⟨_, rfl⟩
      have HSM := Lib.hid hsm
      clear hsm
      generalize hwq : World.drew _ = wq
      have KW : Hid (Ext (w.alloc (.cells #[.int .i64 x.time, .int .i64 x.proc, .bool x.answer, .int .i64 x.id, .int .i64 x.object, .int .i64 x.kind, .int .i64 x.method, .int .i64 x.arg, .int .i64 x.second, .int .i64 x.result] 42)) wq) := by subst hwq; unfold Hid; (repeat' (with_reducible first | exact Below.refl _ _ | refine Ext.drewN ?_ _ | refine Below.drew ?_ | refine Below.setCell ?_ ?_ _ | refine Below.alloc ?_ ?_ _)) <;> (first | omega | (simp; done) | (simp; omega))
      clear hwq
      obtain ⟨a0, a1, a2, a3, a4, a5, a6, a7, a8, a9⟩ := HBX.out _ KW.out
      generalize Value.agg #[.int .i64 x.time, .int .i64 x.proc, .bool x.answer, .int .i64 x.id, .int .i64 x.object, .int .i64 x.kind, .int .i64 x.method, .int .i64 x.arg, .int .i64 x.second, .int .i64 x.result] = V1
      go_cut [49] (fun s wx => s = .bool sm ∧ wx = wq)
      case first =>
        go_wp2_with fail
        all_goals go_meet
        all_goals refine ⟨?_, rfl⟩
        all_goals go_light
        all_goals rw [← HSM.out]
        all_goals (clear HSM HBX HRN HJ HR HX HNE HJC HJW HLM HID HOX HOI HLT KW a0 a1 a2 a3 a4 a5 a6 a7 a8 a9; simp_all [saysMore])
      case rest =>
      obtain ⟨rfl, rfl⟩ := hcut
      have KX : Hid (Ext w wc) := HJW.out _ KW.out
      cases sm with
      | true =>
        rw [if_pos HSM.out] at HST
        go_wp2_with fail
        go_ret
        exact ⟨by rw [HST.out]; rfl, Only.of (by (repeat' (with_reducible first | exact KX.out | exact Below.refl _ _ | refine Ext.drewN ?_ _ | refine Below.drew ?_ | refine Below.setCell ?_ ?_ _ | refine Below.alloc ?_ ?_ _)) <;> (first | omega | (simp; done) | (simp; omega))), fun h => by rw [HST.out] at h; exact absurd h (by simp)⟩
      | false =>
        rw [if_neg (by rw [HSM.out]; decide)] at HST
        have hjc := (HJC.out _ KX.out).1
        have hlm := HLM.out _ KX.out (by rw [HID.out]; exact HX.out.2.1)
        go_upto_region 7 with fail
        have hl0 : w.heap.size < wc.heap.size := by have := KW.out.size; simp at this; omega
        have HKS : Hid (∀ W : World, Ext wc W → (W.cell? ⟨w.heap.size, 9, none⟩ = some (.int .i64 x.result) ∧ W.cell? ⟨w.heap.size, 0, none⟩ = some (.int .i64 x.time))) := fun W h => by
          obtain ⟨a0, a1, a2, a3, a4, a5, a6, a7, a8, a9⟩ := HBX.out _ (Ext.trans KW.out h)
          exact ⟨a9, a0⟩
        clear a0 a1 a2 a3 a4 a5 a6 a7 a8 a9 hlm hjc
        refine wp_region_held_drew (S := fun W => W.cell? ⟨w.heap.size, 9, none⟩ = some (.int .i64 x.result) ∧ W.cell? ⟨w.heap.size, 0, none⟩ = some (.int .i64 x.time)) (by kernel_rfl) (HKS.out _ (by (repeat' (with_reducible first | exact Below.refl _ _ | refine Ext.drewN ?_ _ | refine Below.drew ?_ | refine Below.setCell ?_ ?_ _ | refine Below.alloc ?_ ?_ _)) <;> (first | omega | (simp; done) | (simp; omega)))) (fun hHeld => ?_)
        refine' wpAnyH_take (i := 0) (oi := ?zoi0c) (v := ?zv0c) ?zhi0c (by kernel_rfl) (by kernel_rfl) (by kernel_rfl) ?zhQ0c (Or.inl ⟨?zhw0c, ?zhy0c⟩) (by assumption) ?zrest0c; (case zhi0c => simp only [List.getElem?_toArray, List.getElem?_cons_succ, List.getElem?_cons_zero]; exact rfl); (case zhQ0c => exact fun _ _ _ h => h); (case zhw0c => rfl); (case zhy0c => intro w hSw; (try dsimp only at hSw); go_simp; (try with_reducible rfl)); (try simp only [Act.put, List.setIfInBounds_toArray, List.set_cons_zero, List.set_cons_succ])
        refine' wpAnyH_take (i := 1) (oi := ?zoi1c) (v := ?zv1c) ?zhi1c (by kernel_rfl) (by kernel_rfl) (by kernel_rfl) ?zhQ1c (Or.inl ⟨?zhw1c, ?zhy1c⟩) (by assumption) ?zrest1c; (case zhi1c => simp only [List.getElem?_toArray, List.getElem?_cons_succ, List.getElem?_cons_zero]; exact rfl); (case zhQ1c => exact fun _ _ _ h => h); (case zhw1c => rfl); (case zhy1c => intro w hSw; (try dsimp only at hSw); go_simp; (try with_reducible rfl)); (try simp only [Act.put, List.setIfInBounds_toArray, List.set_cons_zero, List.set_cons_succ])
        refine' wpAnyH_take (i := 2) (oi := ?zoi2c) (v := ?zv2c) ?zhi2c (by kernel_rfl) (by kernel_rfl) (by kernel_rfl) ?zhQ2c (Or.inl ⟨?zhw2c, ?zhy2c⟩) (by assumption) ?zrest2c; (case zhi2c => simp only [List.getElem?_toArray, List.getElem?_cons_succ, List.getElem?_cons_zero]; exact rfl); (case zhQ2c => exact fun _ _ _ h => h); (case zhw2c => rfl); (case zhy2c => intro w hSw; (try dsimp only at hSw); go_simp; (try with_reducible rfl)); (try simp only [Act.put, List.setIfInBounds_toArray, List.set_cons_zero, List.set_cons_succ])
        refine' wpAnyH_take (i := 3) (oi := ?zoi3c) (v := ?zv3c) ?zhi3c (by kernel_rfl) (by kernel_rfl) (by kernel_rfl) ?zhQ3c (Or.inl ⟨?zhw3c, ?zhy3c⟩) (by assumption) ?zrest3c; (case zhi3c => simp only [List.getElem?_toArray, List.getElem?_cons_succ, List.getElem?_cons_zero]; exact rfl); (case zhQ3c => exact fun _ _ _ h => h); (case zhw3c => rfl); (case zhy3c => intro w hSw; (try dsimp only at hSw); go_simp; (try with_reducible rfl)); (try simp only [Act.put, List.setIfInBounds_toArray, List.set_cons_zero, List.set_cons_succ])
        refine' wpAnyH_take (i := 4) (oi := ?zoi4c) (v := ?zv4c) ?zhi4c (by kernel_rfl) (by kernel_rfl) (by kernel_rfl) ?zhQ4c (Or.inl ⟨?zhw4c, ?zhy4c⟩) (by assumption) ?zrest4c; (case zhi4c => simp only [List.getElem?_toArray, List.getElem?_cons_succ, List.getElem?_cons_zero]; exact rfl); (case zhQ4c => exact fun _ _ _ h => h); (case zhw4c => rfl); (case zhy4c => intro w hSw; (try dsimp only at hSw); go_simp; (try with_reducible rfl)); (try simp only [Act.put, List.setIfInBounds_toArray, List.set_cons_zero, List.set_cons_succ])
        refine wpAnyH_ready (rs := [5]) (by kernel_rfl) (by simp) ?_; refine AllReadyH.cons rfl (fun K hK => ?_) AllReadyH.nil; go_simp
        refine hK.out _ _ (HKS.out _ (by (repeat' (with_reducible first | exact Below.refl _ _ | refine Ext.drewN ?_ _ | refine Below.drew ?_ | refine Below.setCell ?_ ?_ _ | refine Below.alloc ?_ ?_ _)) <;> (first | omega | (simp; done) | (simp; omega)))) (fun hHeld => ?_)
        clear hK K
        (try simp only [Act.put, List.setIfInBounds_toArray, List.set_cons_zero, List.set_cons_succ])
        refine' wpAnyH_take (i := 6) (oi := ?zoi6c) (v := ?zv6c) ?zhi6c (by kernel_rfl) (by kernel_rfl) (by kernel_rfl) ?zhQ6c (Or.inl ⟨?zhw6c, ?zhy6c⟩) (by assumption) ?zrest6c; (case zhi6c => simp only [List.getElem?_toArray, List.getElem?_cons_succ, List.getElem?_cons_zero]; exact rfl); (case zhQ6c => exact fun _ _ _ h => h); (case zhw6c => rfl); (case zhy6c => intro w hSw; (try dsimp only at hSw); go_simp; (try with_reducible rfl)); (try simp only [Act.put, List.setIfInBounds_toArray, List.set_cons_zero, List.set_cons_succ])
        refine wpAnyH_ready (rs := [7]) (by kernel_rfl) (by simp) ?_; refine AllReadyH.cons rfl (fun K hK => ?_) AllReadyH.nil; go_simp
        refine hK.out _ _ (HKS.out _ (by (repeat' (with_reducible first | exact Below.refl _ _ | refine Ext.drewN ?_ _ | refine Below.drew ?_ | refine Below.setCell ?_ ?_ _ | refine Below.alloc ?_ ?_ _)) <;> (first | omega | (simp; done) | (simp; omega)))) (fun hHeld => ?_)
        clear hK K
        (try simp only [Act.put, List.setIfInBounds_toArray, List.set_cons_zero, List.set_cons_succ])
        refine' wpAnyH_take (i := 8) (oi := ?zoi8c) (v := ?zv8c) ?zhi8c (by kernel_rfl) (by kernel_rfl) (by kernel_rfl) ?zhQ8c (Or.inl ⟨?zhw8c, ?zhy8c⟩) (by assumption) ?zrest8c; (case zhi8c => simp only [List.getElem?_toArray, List.getElem?_cons_succ, List.getElem?_cons_zero]; exact rfl); (case zhQ8c => exact fun _ _ _ h => h); (case zhw8c => rfl); (case zhy8c => intro w hSw; (try dsimp only at hSw); go_simp; (try with_reducible rfl)); (try simp only [Act.put, List.setIfInBounds_toArray, List.set_cons_zero, List.set_cons_succ])
        refine wpAnyH_ready (rs := [9]) (by kernel_rfl) (by simp) ?_; refine AllReadyH.cons rfl (fun K hK => ?_) AllReadyH.nil; go_simp
        refine hK.out _ _ (HKS.out _ (by (repeat' (with_reducible first | exact Below.refl _ _ | refine Ext.drewN ?_ _ | refine Below.drew ?_ | refine Below.setCell ?_ ?_ _ | refine Below.alloc ?_ ?_ _)) <;> (first | omega | (simp; done) | (simp; omega)))) (fun hHeld => ?_)
        clear hK K
        (try simp only [Act.put, List.setIfInBounds_toArray, List.set_cons_zero, List.set_cons_succ])
        refine wpAnyH_done (by kernel_rfl) ?_ _
        clear hHeld HKS
        go_wp2_with fail
        obtain ⟨y, hy⟩ : ∃ y, answered o x = y := ⟨_, rfl⟩
        have HY1 : Hid (y.id = id ∧ y.proc = o.proc ∧ y.done = true ∧ y.result = x.result) := by rw [← hy]; exact ⟨HOI.out, rfl, rfl, rfl⟩
        have HKO : Hid (∀ W : World, Ext (wc.alloc (.cells #[.int .i64 o.id, .int .i64 o.proc, .int .i64 o.object, .int .i64 o.kind, .int .i64 o.method, .int .i64 o.arg, .int .i64 o.second, .bool true, .int .i64 x.result, .int .i64 o.invoke, .int .i64 x.time] 40)) W → At11 W wc.heap.size y) := fun W h => by
          have h1 : At11 W wc.heap.size (answered o x) := (At11.row (Row1.made wc 40 (answered o x).cells)).ext h (by simp)
          rw [hy] at h1
          exact h1
        have HKW : Hid (∀ W : World, Ext (wc.alloc (.cells #[.int .i64 o.id, .int .i64 o.proc, .int .i64 o.object, .int .i64 o.kind, .int .i64 o.method, .int .i64 o.arg, .int .i64 o.second, .bool true, .int .i64 x.result, .int .i64 o.invoke, .int .i64 x.time] 40)) W → Ext w W) := fun W h => Ext.trans KX.out (Ext.trans (Ext.alloc _ _) h)
        have HYV : Hid (Value.agg #[.int .i64 o.id, .int .i64 o.proc, .int .i64 o.object, .int .i64 o.kind, .int .i64 o.method, .int .i64 o.arg, .int .i64 o.second, .bool true, .int .i64 x.result, .int .i64 o.invoke, .int .i64 x.time] = y.val) := by unfold Hid; rw [← hy]; rfl
        rw [hy] at HST
        clear hy
        rw [HYV.out]
        refine (opCheck_any y _ (by rw [HY1.out.2.2.2]; exact HX.out.2.2)).mono ?_
        rintro e w3 ⟨rfl, hb3⟩
        rw [opChk_eq]
        have KB : Hid (Ext (wc.alloc (.cells #[.int .i64 o.id, .int .i64 o.proc, .int .i64 o.object, .int .i64 o.kind, .int .i64 o.method, .int .i64 o.arg, .int .i64 o.second, .bool true, .int .i64 x.result, .int .i64 o.invoke, .int .i64 x.time] 40)) w3) := Ext.trans (by (repeat' (with_reducible first | exact Below.refl _ _ | refine Ext.drewN ?_ _ | refine Below.drew ?_ | refine Below.setCell ?_ ?_ _ | refine Below.alloc ?_ ?_ _)) <;> (first | omega | (simp; done) | (simp; omega))) hb3
        have KB3 := Lib.hid (HKW.out _ KB.out)
        have hz3 := KB.out.size
        simp at hz3
        clear hb3
        obtain ⟨f, hf⟩ : ∃ f, chkL y = f := ⟨_, rfl⟩
        rw [hf] at HST
        rw [hf]
        clear hf
        by_cases hf : f = 0
        · subst hf
          have HJ3 := Lib.hid (HJ.out.ext KB3.out)
          have hj0 : ∀ W : World, Only (fun i => i = mo ∨ i = mq) w3 W → W.cell? ⟨j, 0, none⟩ = some (.map (some mo)) := fun W h => (h.cell HJ3.out.lt.1 (by have := HNE.out; omega)).trans (HJC.out w3 KB3.out).1
          have hj1 : ∀ W : World, Only (fun i => i = mo ∨ i = mq) w3 W → W.cell? ⟨j, 1, none⟩ = some (.map (some mq)) := fun W h => (h.cell HJ3.out.lt.1 (by have := HNE.out; omega)).trans (HJC.out w3 KB3.out).2
          have he1 : ∀ W : World, Only (fun i => i = mo ∨ i = mq) w3 W → W.cell? ⟨w.heap.size, 1, none⟩ = some (.int .i64 x.proc) := fun W h => (h.cell (by omega) (by have := HLT.out; omega)).trans (HBX.out w3 (Ext.trans (Ext.trans KW.out (Ext.alloc _ _)) KB.out)).2.1
          have hy11 : ∀ W : World, Only (fun i => i = mo ∨ i = mq) w3 W → At11 W wc.heap.size y := fun W h => by
            have c := fun i => h.cell (b := wc.heap.size) (o := i) (by omega) (by have := HLT.out; omega)
            obtain ⟨g0, g1, g2, g3, g4, g5, g6, g7, g8, g9, g10⟩ := HKO.out w3 KB.out
            exact ⟨(c 0).trans g0, (c 1).trans g1, (c 2).trans g2, (c 3).trans g3, (c 4).trans g4, (c 5).trans g5, (c 6).trans g6, (c 7).trans g7, (c 8).trans g8, (c 9).trans g9, (c 10).trans g10⟩
          have HKS : Hid (∀ W : World, Only (fun i => i = mo ∨ i = mq) w3 W → (W.cell? ⟨j, 0, none⟩ = some (.map (some mo)) ∧ (W.cell? ⟨wc.heap.size, 0, none⟩ = some (.int .i64 y.id) ∧ W.cell? ⟨wc.heap.size, 1, none⟩ = some (.int .i64 y.proc) ∧ W.cell? ⟨wc.heap.size, 2, none⟩ = some (.int .i64 y.object) ∧ W.cell? ⟨wc.heap.size, 3, none⟩ = some (.int .i64 y.kind) ∧ W.cell? ⟨wc.heap.size, 4, none⟩ = some (.int .i64 y.method) ∧ W.cell? ⟨wc.heap.size, 5, none⟩ = some (.int .i64 y.arg) ∧ W.cell? ⟨wc.heap.size, 6, none⟩ = some (.int .i64 y.second) ∧ W.cell? ⟨wc.heap.size, 7, none⟩ = some (.bool y.done) ∧ W.cell? ⟨wc.heap.size, 8, none⟩ = some (.int .i64 y.result) ∧ W.cell? ⟨wc.heap.size, 9, none⟩ = some (.int .i64 y.invoke) ∧ W.cell? ⟨wc.heap.size, 10, none⟩ = some (.int .i64 y.ret)))) := fun W h => ⟨hj0 W h, hy11 W h⟩
          have HKT : Hid (∀ W : World, Only (fun i => i = mo ∨ i = mq) w3 W → (W.cell? ⟨j, 1, none⟩ = some (.map (some mq)) ∧ W.cell? ⟨w.heap.size, 1, none⟩ = some (.int .i64 x.proc))) := fun W h => ⟨hj1 W h, he1 W h⟩
          have HWFI : Hid ((Lit.int .i64 id).wf = true) := by rw [HID.out]; exact HX.out.2.1
          clear hj0 hj1 he1 hy11
          go_upto_region 11 with fail
          refine wp_region_held_drew (S := fun W => W.cell? ⟨j, 0, none⟩ = some (.map (some mo)) ∧ (W.cell? ⟨wc.heap.size, 0, none⟩ = some (.int .i64 y.id) ∧ W.cell? ⟨wc.heap.size, 1, none⟩ = some (.int .i64 y.proc) ∧ W.cell? ⟨wc.heap.size, 2, none⟩ = some (.int .i64 y.object) ∧ W.cell? ⟨wc.heap.size, 3, none⟩ = some (.int .i64 y.kind) ∧ W.cell? ⟨wc.heap.size, 4, none⟩ = some (.int .i64 y.method) ∧ W.cell? ⟨wc.heap.size, 5, none⟩ = some (.int .i64 y.arg) ∧ W.cell? ⟨wc.heap.size, 6, none⟩ = some (.int .i64 y.second) ∧ W.cell? ⟨wc.heap.size, 7, none⟩ = some (.bool y.done) ∧ W.cell? ⟨wc.heap.size, 8, none⟩ = some (.int .i64 y.result) ∧ W.cell? ⟨wc.heap.size, 9, none⟩ = some (.int .i64 y.invoke) ∧ W.cell? ⟨wc.heap.size, 10, none⟩ = some (.int .i64 y.ret))) (by kernel_rfl) (HKS.out _ (Only.drew Only.refl)) (fun hHeld => ?_)
          refine' wpAnyH_take (i := 0) (oi := ?zoi0e) (v := ?zv0e) ?zhi0e (by kernel_rfl) (by kernel_rfl) (by kernel_rfl) ?zhQ0e (Or.inl ⟨?zhw0e, ?zhy0e⟩) (by assumption) ?zrest0e; (case zhi0e => simp only [List.getElem?_toArray, List.getElem?_cons_succ, List.getElem?_cons_zero]; exact rfl); (case zhQ0e => exact fun _ _ _ h => h); (case zhw0e => rfl); (case zhy0e => intro w hSw; (try dsimp only at hSw); go_simp; (try with_reducible rfl)); (try simp only [Act.put, List.setIfInBounds_toArray, List.set_cons_zero, List.set_cons_succ])
          refine' wpAnyH_take (i := 1) (oi := ?zoi1e) (v := ?zv1e) ?zhi1e (by kernel_rfl) (by kernel_rfl) (by kernel_rfl) ?zhQ1e (Or.inl ⟨?zhw1e, ?zhy1e⟩) (by assumption) ?zrest1e; (case zhi1e => simp only [List.getElem?_toArray, List.getElem?_cons_succ, List.getElem?_cons_zero]; exact rfl); (case zhQ1e => exact fun _ _ _ h => h); (case zhw1e => rfl); (case zhy1e => intro w hSw; (try dsimp only at hSw); go_simp; (try with_reducible rfl)); (try simp only [Act.put, List.setIfInBounds_toArray, List.set_cons_zero, List.set_cons_succ])
          refine' wpAnyH_take (i := 2) (oi := ?zoi2e) (v := ?zv2e) ?zhi2e (by kernel_rfl) (by kernel_rfl) (by kernel_rfl) ?zhQ2e (Or.inl ⟨?zhw2e, ?zhy2e⟩) (by assumption) ?zrest2e; (case zhi2e => simp only [List.getElem?_toArray, List.getElem?_cons_succ, List.getElem?_cons_zero]; exact rfl); (case zhQ2e => exact fun _ _ _ h => h); (case zhw2e => rfl); (case zhy2e => intro w hSw; (try dsimp only at hSw); go_simp; (try with_reducible rfl)); (try simp only [Act.put, List.setIfInBounds_toArray, List.set_cons_zero, List.set_cons_succ])
          refine' wpAnyH_take (i := 3) (oi := ?zoi3e) (v := ?zv3e) ?zhi3e (by kernel_rfl) (by kernel_rfl) (by kernel_rfl) ?zhQ3e (Or.inl ⟨?zhw3e, ?zhy3e⟩) (by assumption) ?zrest3e; (case zhi3e => simp only [List.getElem?_toArray, List.getElem?_cons_succ, List.getElem?_cons_zero]; exact rfl); (case zhQ3e => exact fun _ _ _ h => h); (case zhw3e => rfl); (case zhy3e => intro w hSw; (try dsimp only at hSw); go_simp; (try with_reducible rfl)); (try simp only [Act.put, List.setIfInBounds_toArray, List.set_cons_zero, List.set_cons_succ])
          refine' wpAnyH_take (i := 4) (oi := ?zoi4e) (v := ?zv4e) ?zhi4e (by kernel_rfl) (by kernel_rfl) (by kernel_rfl) ?zhQ4e (Or.inl ⟨?zhw4e, ?zhy4e⟩) (by assumption) ?zrest4e; (case zhi4e => simp only [List.getElem?_toArray, List.getElem?_cons_succ, List.getElem?_cons_zero]; exact rfl); (case zhQ4e => exact fun _ _ _ h => h); (case zhw4e => rfl); (case zhy4e => intro w hSw; (try dsimp only at hSw); go_simp; (try with_reducible rfl)); (try simp only [Act.put, List.setIfInBounds_toArray, List.set_cons_zero, List.set_cons_succ])
          refine' wpAnyH_take (i := 5) (oi := ?zoi5e) (v := ?zv5e) ?zhi5e (by kernel_rfl) (by kernel_rfl) (by kernel_rfl) ?zhQ5e (Or.inl ⟨?zhw5e, ?zhy5e⟩) (by assumption) ?zrest5e; (case zhi5e => simp only [List.getElem?_toArray, List.getElem?_cons_succ, List.getElem?_cons_zero]; exact rfl); (case zhQ5e => exact fun _ _ _ h => h); (case zhw5e => rfl); (case zhy5e => intro w hSw; (try dsimp only at hSw); go_simp; (try with_reducible rfl)); (try simp only [Act.put, List.setIfInBounds_toArray, List.set_cons_zero, List.set_cons_succ])
          obtain ⟨w6, hr6, hm6, ht6⟩ := MapI.store (w := w3.drew) (t := 51) (HJ3.out.ext (Below.drew (Ext.refl _))).2.1 Tryd.underlying3 Tryd.underlying51 (by omega) HWFI.out y rfl
          have HO6 : Hid (Only (fun i => i = mo ∨ i = mq) w3 w6) := Only.turn (Only.drew Only.refl) (mapTurned_but ht6) (.inl (.inl rfl))
          have HM6 := Lib.hid hm6
          have HQ6 : Hid (MapI w6 3 mq n (Value.int .i64) Q) := (HJ3.out.2.2.1).block (by have h := (mapTurned_but ht6).block mq HJ3.out.lt.2.2 (fun q => by injection q with q; exact HNE.out.2.2 q.symm); exact h)
          clear hm6 ht6
          refine wpAnyH_ready (rs := [6]) (by kernel_rfl) (by simp) ?_; refine AllReadyH.cons rfl (fun K hK => ?_) AllReadyH.nil; go_simp
          refine hK.out _ _ (HKS.out _ HO6.out) (fun hHeld => ?_)
          clear hK K
          (try simp only [Act.put, List.setIfInBounds_toArray, List.set_cons_zero, List.set_cons_succ])
          refine wpAnyH_done (by kernel_rfl) ?_ _
          clear hHeld hr6
          go_upto_region 12 with fail
          refine wp_region_held_drew (S := fun W => W.cell? ⟨j, 1, none⟩ = some (.map (some mq)) ∧ W.cell? ⟨w.heap.size, 1, none⟩ = some (.int .i64 x.proc)) (by kernel_rfl) (HKT.out _ (Only.drew HO6.out)) (fun hHeld => ?_)
          refine' wpAnyH_take (i := 0) (oi := ?zoi0g) (v := ?zv0g) ?zhi0g (by kernel_rfl) (by kernel_rfl) (by kernel_rfl) ?zhQ0g (Or.inl ⟨?zhw0g, ?zhy0g⟩) (by assumption) ?zrest0g; (case zhi0g => simp only [List.getElem?_toArray, List.getElem?_cons_succ, List.getElem?_cons_zero]; exact rfl); (case zhQ0g => exact fun _ _ _ h => h); (case zhw0g => rfl); (case zhy0g => intro w hSw; (try dsimp only at hSw); go_simp; (try with_reducible rfl)); (try simp only [Act.put, List.setIfInBounds_toArray, List.set_cons_zero, List.set_cons_succ])
          refine' wpAnyH_take (i := 1) (oi := ?zoi1g) (v := ?zv1g) ?zhi1g (by kernel_rfl) (by kernel_rfl) (by kernel_rfl) ?zhQ1g (Or.inl ⟨?zhw1g, ?zhy1g⟩) (by assumption) ?zrest1g; (case zhi1g => simp only [List.getElem?_toArray, List.getElem?_cons_succ, List.getElem?_cons_zero]; exact rfl); (case zhQ1g => exact fun _ _ _ h => h); (case zhw1g => rfl); (case zhy1g => intro w hSw; (try dsimp only at hSw); go_simp; (try with_reducible rfl)); (try simp only [Act.put, List.setIfInBounds_toArray, List.set_cons_zero, List.set_cons_succ])
          refine' wpAnyH_take (i := 2) (oi := ?zoi2g) (v := ?zv2g) ?zhi2g (by kernel_rfl) (by kernel_rfl) (by kernel_rfl) ?zhQ2g (Or.inl ⟨?zhw2g, ?zhy2g⟩) (by assumption) ?zrest2g; (case zhi2g => simp only [List.getElem?_toArray, List.getElem?_cons_succ, List.getElem?_cons_zero]; exact rfl); (case zhQ2g => exact fun _ _ _ h => h); (case zhw2g => rfl); (case zhy2g => intro w hSw; (try dsimp only at hSw); go_simp; (try with_reducible rfl)); (try simp only [Act.put, List.setIfInBounds_toArray, List.set_cons_zero, List.set_cons_succ])
          refine' wpAnyH_take (i := 3) (oi := ?zoi3g) (v := ?zv3g) ?zhi3g (by kernel_rfl) (by kernel_rfl) (by kernel_rfl) ?zhQ3g (Or.inl ⟨?zhw3g, ?zhy3g⟩) (by assumption) ?zrest3g; (case zhi3g => simp only [List.getElem?_toArray, List.getElem?_cons_succ, List.getElem?_cons_zero]; exact rfl); (case zhQ3g => exact fun _ _ _ h => h); (case zhw3g => rfl); (case zhy3g => intro w hSw; (try dsimp only at hSw); go_simp; (try with_reducible rfl)); (try simp only [Act.put, List.setIfInBounds_toArray, List.set_cons_zero, List.set_cons_succ])
          refine' wpAnyH_take (i := 4) (oi := ?zoi4g) (v := ?zv4g) ?zhi4g (by kernel_rfl) (by kernel_rfl) (by kernel_rfl) ?zhQ4g (Or.inl ⟨?zhw4g, ?zhy4g⟩) (by assumption) ?zrest4g; (case zhi4g => simp only [List.getElem?_toArray, List.getElem?_cons_succ, List.getElem?_cons_zero]; exact rfl); (case zhQ4g => exact fun _ _ _ h => h); (case zhw4g => rfl); (case zhy4g => intro w hSw; (try dsimp only at hSw); go_simp; (try with_reducible rfl)); (try simp only [Act.put, List.setIfInBounds_toArray, List.set_cons_zero, List.set_cons_succ])
          refine' wpAnyH_take (i := 5) (oi := ?zoi5g) (v := ?zv5g) ?zhi5g (by kernel_rfl) (by kernel_rfl) (by kernel_rfl) ?zhQ5g (Or.inl ⟨?zhw5g, ?zhy5g⟩) (by assumption) ?zrest5g; (case zhi5g => simp only [List.getElem?_toArray, List.getElem?_cons_succ, List.getElem?_cons_zero]; exact rfl); (case zhQ5g => exact fun _ _ _ h => h); (case zhw5g => rfl); (case zhy5g => intro w hSw; (try dsimp only at hSw); go_simp; (try with_reducible rfl)); (try simp only [Act.put, List.setIfInBounds_toArray, List.set_cons_zero, List.set_cons_succ])
          obtain ⟨w7, hr7, hm7, ht7⟩ := MapI.drop (w := w6.drew) (t := 52) (HQ6.out.ext (Below.drew (Ext.refl _))) Tryd.underlying3 Tryd.underlying52 HX.out.1 0
          have HO7 : Hid (Only (fun i => i = mo ∨ i = mq) w3 w7) := Only.turn (Only.drew HO6.out) (mapTurned_but ht7) (.inl (.inr rfl))
          have HM7 := Lib.hid hm7
          have HN7 : Hid (MapI w7 3 mo (n + 1) OpD.val (updI M id (some y))) := HM6.out.block (by have h := (mapTurned_but ht7).block mo (HM6.out.lt) (fun q => by injection q with q; exact HNE.out.2.2 q); exact h)
          clear hm7 ht7
          refine wpAnyH_ready (rs := [6]) (by kernel_rfl) (by simp) ?_; refine AllReadyH.cons rfl (fun K hK => ?_) AllReadyH.nil; go_simp
          refine hK.out _ _ (HKT.out _ HO7.out) (fun hHeld => ?_)
          clear hK K
          (try simp only [Act.put, List.setIfInBounds_toArray, List.set_cons_zero, List.set_cons_succ])
          refine wpAnyH_done (by kernel_rfl) ?_ _
          clear hHeld hr7
          go_wp2_with fail
          go_ret
          rw [HST.out]
          refine ⟨rfl, (Only.of KB3.out).trans HO7.out (fun i q => .inl (by unfold Jmay; omega)), fun _ => ⟨_, _, ⟨HO7.out.row HJ3.out.1 (by have := HNE.out; omega), HN7.out, HM7.out.mono (by omega), HNE.out.2.2⟩, HRN.out y HY1.out.1 HY1.out.2.1 HY1.out.2.2.1⟩⟩
        · have q1 : (f != 0) = true := by simpa using hf
          go_wp2_with fail
          go_ret
          exact ⟨by rw [HST.out]; rfl, Only.of (by (repeat' (with_reducible first | exact KB3.out | exact Below.refl _ _ | refine Ext.drewN ?_ _ | refine Below.drew ?_ | refine Below.setCell ?_ ?_ _ | refine Below.alloc ?_ ?_ _)) <;> (first | omega | (simp; done) | (simp; omega))), fun h => by rw [HST.out] at h; exact absurd h hf⟩
    · have q3 : (id != x.id) = true := by simpa using h1
      rw [if_neg (by rw [HOI.out]; exact h1)] at HST
      clear h1
      go_enter Tryd.func39, Tryd.ntmps39
      go_wp2_with fail
      refine wp_region_held_drew (S := fun W => W.cell? ⟨j, 1, none⟩ = some (.map (some mq)) ∧ W.cell? ⟨w.heap.size, 1, none⟩ = some (.int .i64 x.proc) ∧ (Instr.lookup 52 (.map (some mq)) (.int .i64 x.proc) true).run Tryd.prog W = .ok (.tuple #[.int .i64 id, .bool true]) W) (by kernel_rfl) (HKS.out _ (by (repeat' (with_reducible first | exact Below.refl _ _ | refine Ext.drewN ?_ _ | refine Below.drew ?_ | refine Below.setCell ?_ ?_ _ | refine Below.alloc ?_ ?_ _)) <;> (first | omega | (simp; done) | (simp; omega)))) (fun hHeld => ?_)
      refine' wpAnyH_take (i := 0) (oi := ?zoi0d) (v := ?zv0d) ?zhi0d (by kernel_rfl) (by kernel_rfl) (by kernel_rfl) ?zhQ0d (Or.inl ⟨?zhw0d, ?zhy0d⟩) (by assumption) ?zrest0d; (case zhi0d => simp only [List.getElem?_toArray, List.getElem?_cons_succ, List.getElem?_cons_zero]; exact rfl); (case zhQ0d => exact fun _ _ _ h => h); (case zhw0d => rfl); (case zhy0d => intro w hSw; (try dsimp only at hSw); go_simp; (try with_reducible rfl)); (try simp only [Act.put, List.setIfInBounds_toArray, List.set_cons_zero, List.set_cons_succ])
      refine' wpAnyH_take (i := 1) (oi := ?zoi1d) (v := ?zv1d) ?zhi1d (by kernel_rfl) (by kernel_rfl) (by kernel_rfl) ?zhQ1d (Or.inl ⟨?zhw1d, ?zhy1d⟩) (by assumption) ?zrest1d; (case zhi1d => simp only [List.getElem?_toArray, List.getElem?_cons_succ, List.getElem?_cons_zero]; exact rfl); (case zhQ1d => exact fun _ _ _ h => h); (case zhw1d => rfl); (case zhy1d => intro w hSw; (try dsimp only at hSw); go_simp; (try with_reducible rfl)); (try simp only [Act.put, List.setIfInBounds_toArray, List.set_cons_zero, List.set_cons_succ])
      refine' wpAnyH_take (i := 2) (oi := ?zoi2d) (v := ?zv2d) ?zhi2d (by kernel_rfl) (by kernel_rfl) (by kernel_rfl) ?zhQ2d (Or.inl ⟨?zhw2d, ?zhy2d⟩) (by assumption) ?zrest2d; (case zhi2d => simp only [List.getElem?_toArray, List.getElem?_cons_succ, List.getElem?_cons_zero]; exact rfl); (case zhQ2d => exact fun _ _ _ h => h); (case zhw2d => rfl); (case zhy2d => intro w hSw; (try dsimp only at hSw); go_simp; (try with_reducible rfl)); (try simp only [Act.put, List.setIfInBounds_toArray, List.set_cons_zero, List.set_cons_succ])
      refine' wpAnyH_take (i := 3) (oi := ?zoi3d) (v := ?zv3d) ?zhi3d (by kernel_rfl) (by kernel_rfl) (by kernel_rfl) ?zhQ3d (Or.inl ⟨?zhw3d, ?zhy3d⟩) (by assumption) ?zrest3d; (case zhi3d => simp only [List.getElem?_toArray, List.getElem?_cons_succ, List.getElem?_cons_zero]; exact rfl); (case zhQ3d => exact fun _ _ _ h => h); (case zhw3d => rfl); (case zhy3d => intro w hSw; (try dsimp only at hSw); go_simp; (try with_reducible rfl)); (try simp only [Act.put, List.setIfInBounds_toArray, List.set_cons_zero, List.set_cons_succ])
      refine' wpAnyH_take (i := 4) (oi := ?zoi4d) (v := ?zv4d) ?zhi4d (by kernel_rfl) (by kernel_rfl) (by kernel_rfl) ?zhQ4d (Or.inl ⟨?zhw4d, ?zhy4d⟩) (by assumption) ?zrest4d; (case zhi4d => simp only [List.getElem?_toArray, List.getElem?_cons_succ, List.getElem?_cons_zero]; exact rfl); (case zhQ4d => exact fun _ _ _ h => h); (case zhw4d => rfl); (case zhy4d => intro w hSw; (try dsimp only at hSw); go_simp; (try with_reducible rfl)); (try simp only [Act.put, List.setIfInBounds_toArray, List.set_cons_zero, List.set_cons_succ])
      refine' wpAnyH_take (i := 5) (oi := ?zoi5d) (v := ?zv5d) ?zhi5d (by kernel_rfl) (by kernel_rfl) (by kernel_rfl) ?zhQ5d (Or.inl ⟨?zhw5d, ?zhy5d⟩) (by assumption) ?zrest5d; (case zhi5d => simp only [List.getElem?_toArray, List.getElem?_cons_succ, List.getElem?_cons_zero]; exact rfl); (case zhQ5d => exact fun _ _ _ h => h); (case zhw5d => rfl); (case zhy5d => intro w hSw; (try dsimp only at hSw); go_simp; (try with_reducible rfl)); (try simp only [Act.put, List.setIfInBounds_toArray, List.set_cons_zero, List.set_cons_succ])
      refine' wpAnyH_take (i := 6) (oi := ?zoi6d) (v := ?zv6d) ?zhi6d (by kernel_rfl) (by kernel_rfl) (by kernel_rfl) ?zhQ6d (Or.inl ⟨?zhw6d, ?zhy6d⟩) (by assumption) ?zrest6d; (case zhi6d => simp only [List.getElem?_toArray, List.getElem?_cons_succ, List.getElem?_cons_zero]; exact rfl); (case zhQ6d => exact fun _ _ _ h => h); (case zhw6d => rfl); (case zhy6d => intro w hSw; (try dsimp only at hSw); go_simp; (try with_reducible rfl)); (try simp only [Act.put, List.setIfInBounds_toArray, List.set_cons_zero, List.set_cons_succ])
      refine' wpAnyH_take (i := 7) (oi := ?zoi7d) (v := ?zv7d) ?zhi7d (by kernel_rfl) (by kernel_rfl) (by kernel_rfl) ?zhQ7d (Or.inl ⟨?zhw7d, ?zhy7d⟩) (by assumption) ?zrest7d; (case zhi7d => simp only [List.getElem?_toArray, List.getElem?_cons_succ, List.getElem?_cons_zero]; exact rfl); (case zhQ7d => exact fun _ _ _ h => h); (case zhw7d => rfl); (case zhy7d => intro w hSw; (try dsimp only at hSw); go_simp; (try with_reducible rfl)); (try simp only [Act.put, List.setIfInBounds_toArray, List.set_cons_zero, List.set_cons_succ])
      refine' wpAnyH_take (i := 8) (oi := ?zoi8d) (v := ?zv8d) ?zhi8d (by kernel_rfl) (by kernel_rfl) (by kernel_rfl) ?zhQ8d (Or.inl ⟨?zhw8d, ?zhy8d⟩) (by assumption) ?zrest8d; (case zhi8d => simp only [List.getElem?_toArray, List.getElem?_cons_succ, List.getElem?_cons_zero]; exact rfl); (case zhQ8d => exact fun _ _ _ h => h); (case zhw8d => rfl); (case zhy8d => intro w hSw; (try dsimp only at hSw); go_simp; (try with_reducible rfl)); (try simp only [Act.put, List.setIfInBounds_toArray, List.set_cons_zero, List.set_cons_succ])
      refine' wpAnyH_take (i := 9) (oi := ?zoi9d) (v := ?zv9d) ?zhi9d (by kernel_rfl) (by kernel_rfl) (by kernel_rfl) ?zhQ9d (Or.inl ⟨?zhw9d, ?zhy9d⟩) (by assumption) ?zrest9d; (case zhi9d => simp only [List.getElem?_toArray, List.getElem?_cons_succ, List.getElem?_cons_zero]; exact rfl); (case zhQ9d => exact fun _ _ _ h => h); (case zhw9d => rfl); (case zhy9d => intro w hSw; (try dsimp only at hSw); go_simp; (try with_reducible rfl)); (try simp only [Act.put, List.setIfInBounds_toArray, List.set_cons_zero, List.set_cons_succ])
      refine' wpAnyH_take (i := 10) (oi := ?zoi10d) (v := ?zv10d) ?zhi10d (by kernel_rfl) (by kernel_rfl) (by kernel_rfl) ?zhQ10d (Or.inl ⟨?zhw10d, ?zhy10d⟩) (by assumption) ?zrest10d; (case zhi10d => simp only [List.getElem?_toArray, List.getElem?_cons_succ, List.getElem?_cons_zero]; exact rfl); (case zhQ10d => exact fun _ _ _ h => h); (case zhw10d => rfl); (case zhy10d => intro w hSw; (try dsimp only at hSw); go_simp; (try with_reducible rfl)); (try simp only [Act.put, List.setIfInBounds_toArray, List.set_cons_zero, List.set_cons_succ])
      refine' wpAnyH_take (i := 11) (oi := ?zoi11d) (v := ?zv11d) ?zhi11d (by kernel_rfl) (by kernel_rfl) (by kernel_rfl) ?zhQ11d (Or.inl ⟨?zhw11d, ?zhy11d⟩) (by assumption) ?zrest11d; (case zhi11d => simp only [List.getElem?_toArray, List.getElem?_cons_succ, List.getElem?_cons_zero]; exact rfl); (case zhQ11d => exact fun _ _ _ h => h); (case zhw11d => rfl); (case zhy11d => intro w hSw; (try dsimp only at hSw); go_simp; (try with_reducible rfl)); (try simp only [Act.put, List.setIfInBounds_toArray, List.set_cons_zero, List.set_cons_succ])
      refine wpAnyH_done (by kernel_rfl) ?_ _
      go_wp2_with fail
      go_ret
      rw [HST.out]
      exact ⟨rfl, Only.of (by (repeat' (with_reducible first | exact Below.refl _ _ | refine Ext.drewN ?_ _ | refine Below.drew ?_ | refine Below.setCell ?_ ?_ _ | refine Below.alloc ?_ ?_ _)) <;> (first | omega | (simp; done) | (simp; omega))), fun h => absurd h (by simp)⟩
end Go.Proofs.YtgpnockjonicpaaDoor
