/- Events joined: the document's answer, as plain data; ref26.step whole. Conditions: that all can be read, fewer than 10^8 operations. -/
/- ref26.Join. Conditions: that all can be read, fewer than 10^8 events. -/
import Derived.Test.YtgpnockjonicpaaGreatDoorStep2
import Derived.Test.YtgpnockjonicpaaGreatDoorHist5
import Derived.Test.YtgpnockjonicpaaGreatDoorWith2
namespace Go.Proofs.YtgpnockjonicpaaGreatDoor
set_option linter.unusedSimpArgs false
set_option linter.unusedVariables false
open Go.RowKit

/-- where a list of operations lies -/
theorem Sl.ops_at {w : World} {A : Option Addr} {n c : Nat} {l : List OpD} (h : Sl w 11 ROp (.slice A n c) l) (hp : 0 < l.length) :
    ∃ b off, A = some ⟨b, off, none⟩ ∧ b < w.heap.size ∧ ∀ (j : Nat) (hj : j < l.length) (W : World), Ext w W → (W.cell? ⟨b, off + j * 11, none⟩ = some (.int .i64 l[j].id) ∧ W.cell? ⟨b, off + j * 11 + 1, none⟩ = some (.int .i64 l[j].proc) ∧ W.cell? ⟨b, off + j * 11 + 2, none⟩ = some (.int .i64 l[j].object) ∧ W.cell? ⟨b, off + j * 11 + 3, none⟩ = some (.int .i64 l[j].kind) ∧ W.cell? ⟨b, off + j * 11 + 4, none⟩ = some (.int .i64 l[j].method) ∧ W.cell? ⟨b, off + j * 11 + 5, none⟩ = some (.int .i64 l[j].arg) ∧ W.cell? ⟨b, off + j * 11 + 6, none⟩ = some (.int .i64 l[j].second) ∧ W.cell? ⟨b, off + j * 11 + 7, none⟩ = some (.bool l[j].done) ∧ W.cell? ⟨b, off + j * 11 + 8, none⟩ = some (.int .i64 l[j].result) ∧ W.cell? ⟨b, off + j * 11 + 9, none⟩ = some (.int .i64 l[j].invoke) ∧ W.cell? ⟨b, off + j * 11 + 10, none⟩ = some (.int .i64 l[j].ret)) := by
  obtain ⟨_, _, _, hA⟩ := h.at
  obtain ⟨b, off, rfl, hbl, hcell⟩ := hA hp
  refine ⟨b, off, rfl, hbl, fun j hj W h => ?_⟩
  obtain ⟨cs, rfl, _, hcs⟩ := hcell j hj
  have hw := fun i u hu => (h.cell (p := ⟨b, off + j * 11 + i, none⟩) hbl).trans (hcs i u hu)
  exact ⟨hw 0 _ rfl, hw 1 _ rfl, hw 2 _ rfl, hw 3 _ rfl, hw 4 _ rfl, hw 5 _ rfl, hw 6 _ rfl, hw 7 _ rfl, hw 8 _ rfl, hw 9 _ rfl, hw 10 _ rfl⟩
theorem Sl.evs_at {w : World} {A : Option Addr} {n c : Nat} {l : List EvD} (h : Sl w 10 REv (.slice A n c) l) (hp : 0 < l.length) :
    ∃ b off, A = some ⟨b, off, none⟩ ∧ b < w.heap.size ∧ ∀ (j : Nat) (hj : j < l.length) (W : World), Ext w W → (W.cell? ⟨b, off + j * 10, none⟩ = some (.int .i64 l[j].time) ∧ W.cell? ⟨b, off + j * 10 + 1, none⟩ = some (.int .i64 l[j].proc) ∧ W.cell? ⟨b, off + j * 10 + 2, none⟩ = some (.bool l[j].answer) ∧ W.cell? ⟨b, off + j * 10 + 3, none⟩ = some (.int .i64 l[j].id) ∧ W.cell? ⟨b, off + j * 10 + 4, none⟩ = some (.int .i64 l[j].object) ∧ W.cell? ⟨b, off + j * 10 + 5, none⟩ = some (.int .i64 l[j].kind) ∧ W.cell? ⟨b, off + j * 10 + 6, none⟩ = some (.int .i64 l[j].method) ∧ W.cell? ⟨b, off + j * 10 + 7, none⟩ = some (.int .i64 l[j].arg) ∧ W.cell? ⟨b, off + j * 10 + 8, none⟩ = some (.int .i64 l[j].second) ∧ W.cell? ⟨b, off + j * 10 + 9, none⟩ = some (.int .i64 l[j].result)) := by
  obtain ⟨_, _, _, hA⟩ := h.at
  obtain ⟨b, off, rfl, hbl, hcell⟩ := hA hp
  refine ⟨b, off, rfl, hbl, fun j hj W h => ?_⟩
  obtain ⟨cs, rfl, _, hcs⟩ := hcell j hj
  have hw := fun i u hu => (h.cell (p := ⟨b, off + j * 10 + i, none⟩) hbl).trans (hcs i u hu)
  exact ⟨hw 0 _ rfl, hw 1 _ rfl, hw 2 _ rfl, hw 3 _ rfl, hw 4 _ rfl, hw 5 _ rfl, hw 6 _ rfl, hw 7 _ rfl, hw 8 _ rfl, hw 9 _ rfl⟩

def stepL (l : List OpD) (x : EvD) : List OpD × Int := if x.answer = true then stepAns l x else stepInv l x
theorem step_any (V : Value) (l : List OpD) (x : EvD) (w : World) (hs : Sl w 11 ROp V l) (hn : l.length ≤ 100000000) :
    Calls Tryz.prog 22 #[V, x.val] w fun e w' => (∃ v, e = .returned (.tuple #[v, .int .i64 (stepL l x).2]) ∧ Sl w' 11 ROp v (stepL l x).1) ∧ Ext w w' := by
  unfold stepL
  by_cases hx : x.answer = true
  · rw [if_pos hx]
    have e : x.val = .agg #[.int .i64 x.time, .int .i64 x.proc, .bool true, .int .i64 x.id, .int .i64 x.object, .int .i64 x.kind, .int .i64 x.method, .int .i64 x.arg, .int .i64 x.second, .int .i64 x.result] := by simp only [EvD.val, hx]
    rw [e]
    exact stepAns_lit V l x w hs hn hx
  · rw [if_neg hx]
    have hx' : x.answer = false := by simpa using hx
    have e : x.val = .agg #[.int .i64 x.time, .int .i64 x.proc, .bool false, .int .i64 x.id, .int .i64 x.object, .int .i64 x.kind, .int .i64 x.method, .int .i64 x.arg, .int .i64 x.second, .int .i64 x.result] := by simp only [EvD.val, hx']
    rw [e]
    exact stepInv_lit V l x w hs hn hx'

theorem stepL_len (l : List OpD) (x : EvD) : (stepL l x).1.length ≤ l.length + 1 := by
  unfold stepL
  split
  · unfold stepAns
    cases openL l x.proc with
    | negSucc _ => exact Nat.le_succ _
    | ofNat k =>
      show (stepAt l x l[k]?).1.length ≤ _
      cases l[k]? with
      | none => exact Nat.le_succ _
      | some o =>
        unfold stepAt
        dsimp only
        split
        · split
          · exact Nat.le_succ _
          · exact withL_len _ _
        · exact Nat.le_succ _
  · unfold stepInv
    split
    · exact Nat.le_succ _
    · split
      · exact Nat.le_succ _
      · exact withL_len _ _

/-- is an event not ahead of the last one? -/
def lateB (p : Option EvD) (x : EvD) : Bool := match p with | some q => !aheadE q x | none => false
def joinFrom : Nat → Option EvD → List OpD → List EvD → List OpD × Nat × Int
  | k, _, l, [] => (l, k, 0)
  | k, p, l, x :: r => if lateB p x = true then ([], k, 31) else if (stepL l x).2 ≠ 0 then ([], k, (stepL l x).2) else joinFrom (k + 1) (some x) (stepL l x).1 r
def joinEnd (n : Nat) (r : List OpD × Nat × Int) : List OpD × Nat × Int := if r.2.2 ≠ 0 then r else if histL r.1 ≠ 0 then ([], n, histL r.1) else (r.1, n, 0)
def joinL (xs : List EvD) : List OpD × Nat × Int := joinEnd xs.length (joinFrom 0 none [] xs)
def prevE (l : List EvD) (k : Nat) : Option EvD := if k = 0 then none else l[k - 1]?
theorem prevE_succ (l : List EvD) (k : Nat) (h : k < l.length) : prevE l (k + 1) = some l[k] := by simp [prevE, h]
theorem joinFrom_at (xs : List EvD) (l : List OpD) (k : Nat) (h : k < xs.length) : joinFrom k (prevE xs k) l (xs.drop k) =
    if lateB (prevE xs k) xs[k] = true then ([], k, 31) else if (stepL l xs[k]).2 ≠ 0 then ([], k, (stepL l xs[k]).2) else joinFrom (k + 1) (prevE xs (k + 1)) (stepL l xs[k]).1 (xs.drop (k + 1)) := by
  rw [List.drop_eq_getElem_cons h, joinFrom, prevE_succ xs k h]
end Go.Proofs.YtgpnockjonicpaaGreatDoor
namespace Go.Proofs.YtgpnockjonicpaaGreatDoor
set_option linter.unusedSimpArgs false
set_option linter.unusedVariables false
open Go.RowKit

set_option maxRecDepth 100000 in
set_option maxHeartbeats 4000000 in
theorem refJoin_any (V : Value) (xs : List EvD) (w : World) (hs : Sl w 10 REv V xs) (hn : xs.length ≤ 100000000) :
    Calls Tryz.prog 9 #[V] w fun e w' => (∃ v, e = .returned (.tuple #[v, .int .i64 (joinL xs).2.1, .int .i64 (joinL xs).2.2]) ∧ Sl w' 11 ROp v (joinL xs).1) ∧ Ext w w' := by
  obtain ⟨A, c, rfl⟩ := hs.form
  obtain ⟨_, hc1, hc2, _⟩ := hs.at
  have HS := Lib.hid hs
  have HV : Hid (joinL xs = joinEnd xs.length (joinFrom 0 (prevE xs 0) [] (xs.drop 0))) := rfl
  clear hs
  go_enter Tryz.func9, Tryz.ntmps9
  go_wp2_with fail
  go_loopw [5, 6] (fun v i wr => ∃ (k : Nat) (l : List OpD), k ≤ xs.length ∧ i = .int .i64 k ∧ Ext w wr ∧ Sl wr 11 ROp v l ∧ l.length ≤ k ∧ joinL xs = joinEnd xs.length (joinFrom k (prevE xs k) l (xs.drop k))) (fun _ i _ => xs.length - (intOf i).toNat)
  case atStart => exact ⟨0, [], by omega, rfl, Ext.refl _, Sl.nil _ _ _, by simp, HV.out⟩
  case round =>
    obtain ⟨k, l, hk, rfl, hb, hsl, hll, hseq⟩ := hrel
    have HB := Lib.hid hb
    have HF := Lib.hid hseq
    have HL := Lib.hid hsl
    obtain ⟨vA, vc, rfl⟩ := hsl.form
    clear hb hseq hsl
    by_cases hlt : k < xs.length
    · have hd : decide ((k : Int) < (xs.length : Int)) = true := by simp; omega
      obtain ⟨b, off, rfl, hbl, hcell⟩ := HS.out.evs_at (by omega)
      have HEJ := Lib.hid hcell
      have H31 : Hid (lateB (prevE xs k) xs[k] = true → joinL xs = ([], k, 31)) := fun h => by rw [HF.out, joinFrom_at xs l k hlt, if_pos h]; rfl
      have HSF : Hid (lateB (prevE xs k) xs[k] = false → (stepL l xs[k]).2 ≠ 0 → joinL xs = ([], k, (stepL l xs[k]).2)) := fun h h2 => by
        rw [HF.out, joinFrom_at xs l k hlt, if_neg (by simp [h]), if_pos h2]; unfold joinEnd; rw [if_pos h2]
      have HN : Hid (lateB (prevE xs k) xs[k] = false → (stepL l xs[k]).2 = 0 → joinL xs = joinEnd xs.length (joinFrom (k + 1) (prevE xs (k + 1)) (stepL l xs[k]).1 (xs.drop (k + 1)))) := fun h h2 => by
        rw [HF.out, joinFrom_at xs l k hlt, if_neg (by simp [h]), if_neg (by simpa using h2)]
      have HE := Lib.hid (HEJ.out k hlt)
      have HLN := Lib.hid (stepL_len l xs[k])
      have HPR : Hid (∀ m, k = m + 1 → ∃ p : EvD, prevE xs k = some p ∧ ∀ W : World, Ext w W → (W.cell? ⟨b, off + m * 10, none⟩ = some (.int .i64 p.time) ∧ W.cell? ⟨b, off + m * 10 + 1, none⟩ = some (.int .i64 p.proc) ∧ W.cell? ⟨b, off + m * 10 + 2, none⟩ = some (.bool p.answer) ∧ W.cell? ⟨b, off + m * 10 + 3, none⟩ = some (.int .i64 p.id) ∧ W.cell? ⟨b, off + m * 10 + 4, none⟩ = some (.int .i64 p.object) ∧ W.cell? ⟨b, off + m * 10 + 5, none⟩ = some (.int .i64 p.kind) ∧ W.cell? ⟨b, off + m * 10 + 6, none⟩ = some (.int .i64 p.method) ∧ W.cell? ⟨b, off + m * 10 + 7, none⟩ = some (.int .i64 p.arg) ∧ W.cell? ⟨b, off + m * 10 + 8, none⟩ = some (.int .i64 p.second) ∧ W.cell? ⟨b, off + m * 10 + 9, none⟩ = some (.int .i64 p.result))) := by
        intro m hm
        subst hm
        exact ⟨xs[m], prevE_succ xs m (by omega), fun W h => HEJ.out m (by omega) W h⟩
      have HP0 : Hid (k = 0 → prevE xs k = none) := fun h => by subst h; rfl
      clear hcell HEJ
      generalize xs[k] = x at *
      generalize prevE xs k = pv at *
      obtain ⟨late, hlate⟩ : ∃ b, lateB pv x = b := ⟨_, rfl⟩
      rw [hlate] at H31 HSF HN
      have HLT := Lib.hid hlate
      clear hlate
      go_upto_region 5 with fail
      go_cut [30] (fun s wx => s = .bool late ∧ Ext wr wx)
      case first =>
        cases k with
        | zero =>
          have HN3 : Hid (late = false) := by have := HLT.out; rw [HP0.out rfl] at this; exact this.symm
          have s0 : decide ((0 : Int) < 0) = false := by decide
          clear hd
          refine wp_region_held_drew (S := fun W => True) (by kernel_rfl) (trivial) (fun hHeld => ?_)
          refine' wpAnyH_take (i := 0) (oi := ?zoi0a) (v := ?zv0a) ?zhi0a (by kernel_rfl) (by kernel_rfl) (by kernel_rfl) ?zhQ0a (Or.inl ⟨?zhw0a, ?zhy0a⟩) (by assumption) ?zrest0a; (case zhi0a => simp only [List.getElem?_toArray, List.getElem?_cons_succ, List.getElem?_cons_zero]; exact rfl); (case zhQ0a => exact fun _ _ _ h => h); (case zhw0a => rfl); (case zhy0a => intro w hSw; (try dsimp only at hSw); go_simp; (try with_reducible rfl)); (try simp only [Act.put, List.setIfInBounds_toArray, List.set_cons_zero, List.set_cons_succ])
          refine' wpAnyH_take (i := 1) (oi := ?zoi1a) (v := ?zv1a) ?zhi1a (by kernel_rfl) (by kernel_rfl) (by kernel_rfl) ?zhQ1a (Or.inl ⟨?zhw1a, ?zhy1a⟩) (by assumption) ?zrest1a; (case zhi1a => simp only [List.getElem?_toArray, List.getElem?_cons_succ, List.getElem?_cons_zero]; exact rfl); (case zhQ1a => exact fun _ _ _ h => h); (case zhw1a => rfl); (case zhy1a => intro w hSw; (try dsimp only at hSw); go_simp; (try with_reducible rfl)); (try simp only [Act.put, List.setIfInBounds_toArray, List.set_cons_zero, List.set_cons_succ])
          refine' wpAnyH_take (i := 2) (oi := ?zoi2a) (v := ?zv2a) ?zhi2a (by kernel_rfl) (by kernel_rfl) (by kernel_rfl) ?zhQ2a (Or.inl ⟨?zhw2a, ?zhy2a⟩) (by assumption) ?zrest2a; (case zhi2a => simp only [List.getElem?_toArray, List.getElem?_cons_succ, List.getElem?_cons_zero]; exact rfl); (case zhQ2a => exact fun _ _ _ h => h); (case zhw2a => rfl); (case zhy2a => intro w hSw; (try dsimp only at hSw); go_simp; (try with_reducible rfl)); (try simp only [Act.put, List.setIfInBounds_toArray, List.set_cons_zero, List.set_cons_succ])
          refine' wpAnyH_take (i := 3) (oi := ?zoi3a) (v := undef) ?zhi3a (by kernel_rfl) (by kernel_rfl) (by kernel_rfl) ?zhQ3a (Or.inr ⟨?zhw3a, rfl⟩) (by assumption) ?zrest3a; (case zhi3a => simp only [List.getElem?_toArray, List.getElem?_cons_succ, List.getElem?_cons_zero]; exact rfl); (case zhQ3a => exact fun _ _ _ h => h); (case zhw3a => rfl); (try simp only [Act.put, List.setIfInBounds_toArray, List.set_cons_zero, List.set_cons_succ])
          refine' wpAnyH_take (i := 4) (oi := ?zoi4a) (v := undef) ?zhi4a (by kernel_rfl) (by kernel_rfl) (by kernel_rfl) ?zhQ4a (Or.inr ⟨?zhw4a, rfl⟩) (by assumption) ?zrest4a; (case zhi4a => simp only [List.getElem?_toArray, List.getElem?_cons_succ, List.getElem?_cons_zero]; exact rfl); (case zhQ4a => exact fun _ _ _ h => h); (case zhw4a => rfl); (try simp only [Act.put, List.setIfInBounds_toArray, List.set_cons_zero, List.set_cons_succ])
          refine' wpAnyH_take (i := 5) (oi := ?zoi5a) (v := undef) ?zhi5a (by kernel_rfl) (by kernel_rfl) (by kernel_rfl) ?zhQ5a (Or.inr ⟨?zhw5a, rfl⟩) (by assumption) ?zrest5a; (case zhi5a => simp only [List.getElem?_toArray, List.getElem?_cons_succ, List.getElem?_cons_zero]; exact rfl); (case zhQ5a => exact fun _ _ _ h => h); (case zhw5a => rfl); (try simp only [Act.put, List.setIfInBounds_toArray, List.set_cons_zero, List.set_cons_succ])
          refine' wpAnyH_take (i := 6) (oi := ?zoi6a) (v := undef) ?zhi6a (by kernel_rfl) (by kernel_rfl) (by kernel_rfl) ?zhQ6a (Or.inr ⟨?zhw6a, rfl⟩) (by assumption) ?zrest6a; (case zhi6a => simp only [List.getElem?_toArray, List.getElem?_cons_succ, List.getElem?_cons_zero]; exact rfl); (case zhQ6a => exact fun _ _ _ h => h); (case zhw6a => rfl); (try simp only [Act.put, List.setIfInBounds_toArray, List.set_cons_zero, List.set_cons_succ])
          refine' wpAnyH_take (i := 7) (oi := ?zoi7a) (v := undef) ?zhi7a (by kernel_rfl) (by kernel_rfl) (by kernel_rfl) ?zhQ7a (Or.inr ⟨?zhw7a, rfl⟩) (by assumption) ?zrest7a; (case zhi7a => simp only [List.getElem?_toArray, List.getElem?_cons_succ, List.getElem?_cons_zero]; exact rfl); (case zhQ7a => exact fun _ _ _ h => h); (case zhw7a => rfl); (try simp only [Act.put, List.setIfInBounds_toArray, List.set_cons_zero, List.set_cons_succ])
          refine' wpAnyH_take (i := 8) (oi := ?zoi8a) (v := undef) ?zhi8a (by kernel_rfl) (by kernel_rfl) (by kernel_rfl) ?zhQ8a (Or.inr ⟨?zhw8a, rfl⟩) (by assumption) ?zrest8a; (case zhi8a => simp only [List.getElem?_toArray, List.getElem?_cons_succ, List.getElem?_cons_zero]; exact rfl); (case zhQ8a => exact fun _ _ _ h => h); (case zhw8a => rfl); (try simp only [Act.put, List.setIfInBounds_toArray, List.set_cons_zero, List.set_cons_succ])
          refine' wpAnyH_take (i := 9) (oi := ?zoi9a) (v := undef) ?zhi9a (by kernel_rfl) (by kernel_rfl) (by kernel_rfl) ?zhQ9a (Or.inr ⟨?zhw9a, rfl⟩) (by assumption) ?zrest9a; (case zhi9a => simp only [List.getElem?_toArray, List.getElem?_cons_succ, List.getElem?_cons_zero]; exact rfl); (case zhQ9a => exact fun _ _ _ h => h); (case zhw9a => rfl); (try simp only [Act.put, List.setIfInBounds_toArray, List.set_cons_zero, List.set_cons_succ])
          refine' wpAnyH_take (i := 10) (oi := ?zoi10a) (v := undef) ?zhi10a (by kernel_rfl) (by kernel_rfl) (by kernel_rfl) ?zhQ10a (Or.inr ⟨?zhw10a, rfl⟩) (by assumption) ?zrest10a; (case zhi10a => simp only [List.getElem?_toArray, List.getElem?_cons_succ, List.getElem?_cons_zero]; exact rfl); (case zhQ10a => exact fun _ _ _ h => h); (case zhw10a => rfl); (try simp only [Act.put, List.setIfInBounds_toArray, List.set_cons_zero, List.set_cons_succ])
          refine' wpAnyH_take (i := 11) (oi := ?zoi11a) (v := undef) ?zhi11a (by kernel_rfl) (by kernel_rfl) (by kernel_rfl) ?zhQ11a (Or.inr ⟨?zhw11a, rfl⟩) (by assumption) ?zrest11a; (case zhi11a => simp only [List.getElem?_toArray, List.getElem?_cons_succ, List.getElem?_cons_zero]; exact rfl); (case zhQ11a => exact fun _ _ _ h => h); (case zhw11a => rfl); (try simp only [Act.put, List.setIfInBounds_toArray, List.set_cons_zero, List.set_cons_succ])
          refine' wpAnyH_take (i := 12) (oi := ?zoi12a) (v := undef) ?zhi12a (by kernel_rfl) (by kernel_rfl) (by kernel_rfl) ?zhQ12a (Or.inr ⟨?zhw12a, rfl⟩) (by assumption) ?zrest12a; (case zhi12a => simp only [List.getElem?_toArray, List.getElem?_cons_succ, List.getElem?_cons_zero]; exact rfl); (case zhQ12a => exact fun _ _ _ h => h); (case zhw12a => rfl); (try simp only [Act.put, List.setIfInBounds_toArray, List.set_cons_zero, List.set_cons_succ])
          refine' wpAnyH_take (i := 13) (oi := ?zoi13a) (v := undef) ?zhi13a (by kernel_rfl) (by kernel_rfl) (by kernel_rfl) ?zhQ13a (Or.inr ⟨?zhw13a, rfl⟩) (by assumption) ?zrest13a; (case zhi13a => simp only [List.getElem?_toArray, List.getElem?_cons_succ, List.getElem?_cons_zero]; exact rfl); (case zhQ13a => exact fun _ _ _ h => h); (case zhw13a => rfl); (try simp only [Act.put, List.setIfInBounds_toArray, List.set_cons_zero, List.set_cons_succ])
          refine' wpAnyH_take (i := 14) (oi := ?zoi14a) (v := ?zv14a) ?zhi14a (by kernel_rfl) (by kernel_rfl) (by kernel_rfl) ?zhQ14a (Or.inl ⟨?zhw14a, ?zhy14a⟩) (by assumption) ?zrest14a; (case zhi14a => simp only [List.getElem?_toArray, List.getElem?_cons_succ, List.getElem?_cons_zero]; exact rfl); (case zhQ14a => exact fun _ _ _ h => h); (case zhw14a => rfl); (case zhy14a => intro w hSw; (try dsimp only at hSw); go_simp; (try with_reducible rfl)); (try simp only [Act.put, List.setIfInBounds_toArray, List.set_cons_zero, List.set_cons_succ])
          refine wpAnyH_done (by kernel_rfl) ?_ _
          go_wp2_with fail
          go_meet
          exact ⟨by rw [HN3.out], by (repeat' (with_reducible first | exact Below.refl _ _ | refine Ext.drewN ?_ _ | refine Below.drew ?_ | refine Below.setCell ?_ ?_ _ | refine Below.alloc ?_ ?_ _)) <;> (first | omega | (simp; done) | (simp; omega))⟩
        | succ m =>
          obtain ⟨p, hp1, hp2⟩ := HPR.out m rfl
          have HPE := Lib.hid hp2
          have HLQ : Hid (late = !aheadE p x) := by have := HLT.out; rw [hp1] at this; exact this.symm
          have HKS : Hid (∀ W : World, Ext w W → ((W.cell? ⟨b, off + m * 10, none⟩ = some (.int .i64 p.time) ∧ W.cell? ⟨b, off + m * 10 + 1, none⟩ = some (.int .i64 p.proc) ∧ W.cell? ⟨b, off + m * 10 + 2, none⟩ = some (.bool p.answer) ∧ W.cell? ⟨b, off + m * 10 + 3, none⟩ = some (.int .i64 p.id) ∧ W.cell? ⟨b, off + m * 10 + 4, none⟩ = some (.int .i64 p.object) ∧ W.cell? ⟨b, off + m * 10 + 5, none⟩ = some (.int .i64 p.kind) ∧ W.cell? ⟨b, off + m * 10 + 6, none⟩ = some (.int .i64 p.method) ∧ W.cell? ⟨b, off + m * 10 + 7, none⟩ = some (.int .i64 p.arg) ∧ W.cell? ⟨b, off + m * 10 + 8, none⟩ = some (.int .i64 p.second) ∧ W.cell? ⟨b, off + m * 10 + 9, none⟩ = some (.int .i64 p.result)) ∧ (W.cell? ⟨b, off + (m + 1) * 10, none⟩ = some (.int .i64 x.time) ∧ W.cell? ⟨b, off + (m + 1) * 10 + 1, none⟩ = some (.int .i64 x.proc) ∧ W.cell? ⟨b, off + (m + 1) * 10 + 2, none⟩ = some (.bool x.answer) ∧ W.cell? ⟨b, off + (m + 1) * 10 + 3, none⟩ = some (.int .i64 x.id) ∧ W.cell? ⟨b, off + (m + 1) * 10 + 4, none⟩ = some (.int .i64 x.object) ∧ W.cell? ⟨b, off + (m + 1) * 10 + 5, none⟩ = some (.int .i64 x.kind) ∧ W.cell? ⟨b, off + (m + 1) * 10 + 6, none⟩ = some (.int .i64 x.method) ∧ W.cell? ⟨b, off + (m + 1) * 10 + 7, none⟩ = some (.int .i64 x.arg) ∧ W.cell? ⟨b, off + (m + 1) * 10 + 8, none⟩ = some (.int .i64 x.second) ∧ W.cell? ⟨b, off + (m + 1) * 10 + 9, none⟩ = some (.int .i64 x.result)))) := fun W h => ⟨hp2 W h, HE.out W h⟩
          clear hp1 hp2 HPR HP0
          have s1 : IntKind.i64.wrap (m : Int) = (m : Int) := IntWalk.i64_in _ (by omega)
          have s2 : (0 : Int) ≤ (m : Int) := by omega
          have s3 : (m : Int) < (xs.length : Int) := by omega
          have s5 : (m : Int) + 1 < (xs.length : Int) := by omega
          have s6 : (0 : Int) ≤ (m : Int) + 1 := by omega
          have s4 : decide ((0 : Int) < ((m + 1 : Nat) : Int)) = true := (by first | (simp; done) | (simp; omega) | omega)
          refine wp_region_held_drew (S := fun W => (W.cell? ⟨b, off + m * 10, none⟩ = some (.int .i64 p.time) ∧ W.cell? ⟨b, off + m * 10 + 1, none⟩ = some (.int .i64 p.proc) ∧ W.cell? ⟨b, off + m * 10 + 2, none⟩ = some (.bool p.answer) ∧ W.cell? ⟨b, off + m * 10 + 3, none⟩ = some (.int .i64 p.id) ∧ W.cell? ⟨b, off + m * 10 + 4, none⟩ = some (.int .i64 p.object) ∧ W.cell? ⟨b, off + m * 10 + 5, none⟩ = some (.int .i64 p.kind) ∧ W.cell? ⟨b, off + m * 10 + 6, none⟩ = some (.int .i64 p.method) ∧ W.cell? ⟨b, off + m * 10 + 7, none⟩ = some (.int .i64 p.arg) ∧ W.cell? ⟨b, off + m * 10 + 8, none⟩ = some (.int .i64 p.second) ∧ W.cell? ⟨b, off + m * 10 + 9, none⟩ = some (.int .i64 p.result)) ∧ (W.cell? ⟨b, off + (m + 1) * 10, none⟩ = some (.int .i64 x.time) ∧ W.cell? ⟨b, off + (m + 1) * 10 + 1, none⟩ = some (.int .i64 x.proc) ∧ W.cell? ⟨b, off + (m + 1) * 10 + 2, none⟩ = some (.bool x.answer) ∧ W.cell? ⟨b, off + (m + 1) * 10 + 3, none⟩ = some (.int .i64 x.id) ∧ W.cell? ⟨b, off + (m + 1) * 10 + 4, none⟩ = some (.int .i64 x.object) ∧ W.cell? ⟨b, off + (m + 1) * 10 + 5, none⟩ = some (.int .i64 x.kind) ∧ W.cell? ⟨b, off + (m + 1) * 10 + 6, none⟩ = some (.int .i64 x.method) ∧ W.cell? ⟨b, off + (m + 1) * 10 + 7, none⟩ = some (.int .i64 x.arg) ∧ W.cell? ⟨b, off + (m + 1) * 10 + 8, none⟩ = some (.int .i64 x.second) ∧ W.cell? ⟨b, off + (m + 1) * 10 + 9, none⟩ = some (.int .i64 x.result))) (by kernel_rfl) (HKS.out _ (by (repeat' (with_reducible first | exact HB.out | exact Below.refl _ _ | refine Ext.drewN ?_ _ | refine Below.drew ?_ | refine Below.setCell ?_ ?_ _ | refine Below.alloc ?_ ?_ _)) <;> (first | omega | (simp; done) | (simp; omega)))) (fun hHeld => ?_)
          refine' wpAnyH_take (i := 0) (oi := ?zoi0b) (v := ?zv0b) ?zhi0b (by kernel_rfl) (by kernel_rfl) (by kernel_rfl) ?zhQ0b (Or.inl ⟨?zhw0b, ?zhy0b⟩) (by assumption) ?zrest0b; (case zhi0b => simp only [List.getElem?_toArray, List.getElem?_cons_succ, List.getElem?_cons_zero]; exact rfl); (case zhQ0b => exact fun _ _ _ h => h); (case zhw0b => rfl); (case zhy0b => intro w hSw; (try dsimp only at hSw); go_simp; (try with_reducible rfl)); (try simp only [Act.put, List.setIfInBounds_toArray, List.set_cons_zero, List.set_cons_succ])
          refine' wpAnyH_take (i := 1) (oi := ?zoi1b) (v := ?zv1b) ?zhi1b (by kernel_rfl) (by kernel_rfl) (by kernel_rfl) ?zhQ1b (Or.inl ⟨?zhw1b, ?zhy1b⟩) (by assumption) ?zrest1b; (case zhi1b => simp only [List.getElem?_toArray, List.getElem?_cons_succ, List.getElem?_cons_zero]; exact rfl); (case zhQ1b => exact fun _ _ _ h => h); (case zhw1b => rfl); (case zhy1b => intro w hSw; (try dsimp only at hSw); go_simp; (try with_reducible rfl)); (try simp only [Act.put, List.setIfInBounds_toArray, List.set_cons_zero, List.set_cons_succ])
          refine' wpAnyH_take (i := 2) (oi := ?zoi2b) (v := ?zv2b) ?zhi2b (by kernel_rfl) (by kernel_rfl) (by kernel_rfl) ?zhQ2b (Or.inl ⟨?zhw2b, ?zhy2b⟩) (by assumption) ?zrest2b; (case zhi2b => simp only [List.getElem?_toArray, List.getElem?_cons_succ, List.getElem?_cons_zero]; exact rfl); (case zhQ2b => exact fun _ _ _ h => h); (case zhw2b => rfl); (case zhy2b => intro w hSw; (try dsimp only at hSw); go_simp; (try with_reducible rfl)); (try simp only [Act.put, List.setIfInBounds_toArray, List.set_cons_zero, List.set_cons_succ])
          refine' wpAnyH_take (i := 3) (oi := ?zoi3b) (v := ?zv3b) ?zhi3b (by kernel_rfl) (by kernel_rfl) (by kernel_rfl) ?zhQ3b (Or.inl ⟨?zhw3b, ?zhy3b⟩) (by assumption) ?zrest3b; (case zhi3b => simp only [List.getElem?_toArray, List.getElem?_cons_succ, List.getElem?_cons_zero]; exact rfl); (case zhQ3b => exact fun _ _ _ h => h); (case zhw3b => rfl); (case zhy3b => intro w hSw; (try dsimp only at hSw); go_simp; (try with_reducible rfl)); (try simp only [Act.put, List.setIfInBounds_toArray, List.set_cons_zero, List.set_cons_succ])
          refine' wpAnyH_take (i := 4) (oi := ?zoi4b) (v := ?zv4b) ?zhi4b (by kernel_rfl) (by kernel_rfl) (by kernel_rfl) ?zhQ4b (Or.inl ⟨?zhw4b, ?zhy4b⟩) (by assumption) ?zrest4b; (case zhi4b => simp only [List.getElem?_toArray, List.getElem?_cons_succ, List.getElem?_cons_zero]; exact rfl); (case zhQ4b => exact fun _ _ _ h => h); (case zhw4b => rfl); (case zhy4b => intro w hSw; (try dsimp only at hSw); go_simp; (try with_reducible rfl)); (try simp only [Act.put, List.setIfInBounds_toArray, List.set_cons_zero, List.set_cons_succ])
          refine' wpAnyH_take (i := 5) (oi := ?zoi5b) (v := ?zv5b) ?zhi5b (by kernel_rfl) (by kernel_rfl) (by kernel_rfl) ?zhQ5b (Or.inl ⟨?zhw5b, ?zhy5b⟩) (by assumption) ?zrest5b; (case zhi5b => simp only [List.getElem?_toArray, List.getElem?_cons_succ, List.getElem?_cons_zero]; exact rfl); (case zhQ5b => exact fun _ _ _ h => h); (case zhw5b => rfl); (case zhy5b => intro w hSw; (try dsimp only at hSw); go_simp; (try with_reducible rfl)); (try simp only [Act.put, List.setIfInBounds_toArray, List.set_cons_zero, List.set_cons_succ])
          refine' wpAnyH_take (i := 6) (oi := ?zoi6b) (v := ?zv6b) ?zhi6b (by kernel_rfl) (by kernel_rfl) (by kernel_rfl) ?zhQ6b (Or.inl ⟨?zhw6b, ?zhy6b⟩) (by assumption) ?zrest6b; (case zhi6b => simp only [List.getElem?_toArray, List.getElem?_cons_succ, List.getElem?_cons_zero]; exact rfl); (case zhQ6b => exact fun _ _ _ h => h); (case zhw6b => rfl); (case zhy6b => intro w hSw; (try dsimp only at hSw); go_simp; (try with_reducible rfl)); (try simp only [Act.put, List.setIfInBounds_toArray, List.set_cons_zero, List.set_cons_succ])
          refine' wpAnyH_take (i := 7) (oi := ?zoi7b) (v := ?zv7b) ?zhi7b (by kernel_rfl) (by kernel_rfl) (by kernel_rfl) ?zhQ7b (Or.inl ⟨?zhw7b, ?zhy7b⟩) (by assumption) ?zrest7b; (case zhi7b => simp only [List.getElem?_toArray, List.getElem?_cons_succ, List.getElem?_cons_zero]; exact rfl); (case zhQ7b => exact fun _ _ _ h => h); (case zhw7b => rfl); (case zhy7b => intro w hSw; (try dsimp only at hSw); go_simp; (try with_reducible rfl)); (try simp only [Act.put, List.setIfInBounds_toArray, List.set_cons_zero, List.set_cons_succ])
          refine' wpAnyH_take (i := 8) (oi := ?zoi8b) (v := ?zv8b) ?zhi8b (by kernel_rfl) (by kernel_rfl) (by kernel_rfl) ?zhQ8b (Or.inl ⟨?zhw8b, ?zhy8b⟩) (by assumption) ?zrest8b; (case zhi8b => simp only [List.getElem?_toArray, List.getElem?_cons_succ, List.getElem?_cons_zero]; exact rfl); (case zhQ8b => exact fun _ _ _ h => h); (case zhw8b => rfl); (case zhy8b => intro w hSw; (try dsimp only at hSw); go_simp; (try with_reducible rfl)); (try simp only [Act.put, List.setIfInBounds_toArray, List.set_cons_zero, List.set_cons_succ])
          refine' wpAnyH_take (i := 9) (oi := ?zoi9b) (v := ?zv9b) ?zhi9b (by kernel_rfl) (by kernel_rfl) (by kernel_rfl) ?zhQ9b (Or.inl ⟨?zhw9b, ?zhy9b⟩) (by assumption) ?zrest9b; (case zhi9b => simp only [List.getElem?_toArray, List.getElem?_cons_succ, List.getElem?_cons_zero]; exact rfl); (case zhQ9b => exact fun _ _ _ h => h); (case zhw9b => rfl); (case zhy9b => intro w hSw; (try dsimp only at hSw); go_simp; (try with_reducible rfl)); (try simp only [Act.put, List.setIfInBounds_toArray, List.set_cons_zero, List.set_cons_succ])
          refine' wpAnyH_take (i := 10) (oi := ?zoi10b) (v := ?zv10b) ?zhi10b (by kernel_rfl) (by kernel_rfl) (by kernel_rfl) ?zhQ10b (Or.inl ⟨?zhw10b, ?zhy10b⟩) (by assumption) ?zrest10b; (case zhi10b => simp only [List.getElem?_toArray, List.getElem?_cons_succ, List.getElem?_cons_zero]; exact rfl); (case zhQ10b => exact fun _ _ _ h => h); (case zhw10b => rfl); (case zhy10b => intro w hSw; (try dsimp only at hSw); go_simp; (try with_reducible rfl)); (try simp only [Act.put, List.setIfInBounds_toArray, List.set_cons_zero, List.set_cons_succ])
          refine' wpAnyH_take (i := 11) (oi := ?zoi11b) (v := ?zv11b) ?zhi11b (by kernel_rfl) (by kernel_rfl) (by kernel_rfl) ?zhQ11b (Or.inl ⟨?zhw11b, ?zhy11b⟩) (by assumption) ?zrest11b; (case zhi11b => simp only [List.getElem?_toArray, List.getElem?_cons_succ, List.getElem?_cons_zero]; exact rfl); (case zhQ11b => exact fun _ _ _ h => h); (case zhw11b => rfl); (case zhy11b => intro w hSw; (try dsimp only at hSw); go_simp; (try with_reducible rfl)); (try simp only [Act.put, List.setIfInBounds_toArray, List.set_cons_zero, List.set_cons_succ])
          refine wpAnyH_ready (rs := [12]) (by kernel_rfl) (by simp) ?_; refine AllReadyH.cons rfl (fun K hK => ?_) AllReadyH.nil; go_simp
          refine (refAheadE_any p x _).mono ?_
          rintro e w1 ⟨rfl, hb1⟩
          have HB1 := Lib.hid (Ext.trans (by (repeat' (with_reducible first | exact Below.refl _ _ | refine Ext.drewN ?_ _ | refine Below.drew ?_ | refine Below.setCell ?_ ?_ _ | refine Below.alloc ?_ ?_ _)) <;> (first | omega | (simp; done) | (simp; omega)) : Ext wr _) hb1)
          clear hb1
          (try dsimp only)
          (try go_simp)
          refine hK.out _ _ (HKS.out _ (Ext.trans HB.out HB1.out)) (fun hHeld => ?_)
          clear hK K
          (try simp only [Act.put, List.setIfInBounds_toArray, List.set_cons_zero, List.set_cons_succ])
          refine' wpAnyH_take (i := 13) (oi := ?zoi13b) (v := ?zv13b) ?zhi13b (by kernel_rfl) (by kernel_rfl) (by kernel_rfl) ?zhQ13b (Or.inl ⟨?zhw13b, ?zhy13b⟩) (by assumption) ?zrest13b; (case zhi13b => simp only [List.getElem?_toArray, List.getElem?_cons_succ, List.getElem?_cons_zero]; exact rfl); (case zhQ13b => exact fun _ _ _ h => h); (case zhw13b => rfl); (case zhy13b => intro w hSw; (try dsimp only at hSw); go_simp; (try with_reducible rfl)); (try simp only [Act.put, List.setIfInBounds_toArray, List.set_cons_zero, List.set_cons_succ])
          refine' wpAnyH_take (i := 14) (oi := ?zoi14b) (v := ?zv14b) ?zhi14b (by kernel_rfl) (by kernel_rfl) (by kernel_rfl) ?zhQ14b (Or.inl ⟨?zhw14b, ?zhy14b⟩) (by assumption) ?zrest14b; (case zhi14b => simp only [List.getElem?_toArray, List.getElem?_cons_succ, List.getElem?_cons_zero]; exact rfl); (case zhQ14b => exact fun _ _ _ h => h); (case zhw14b => rfl); (case zhy14b => intro w hSw; (try dsimp only at hSw); go_simp; (try with_reducible rfl)); (try simp only [Act.put, List.setIfInBounds_toArray, List.set_cons_zero, List.set_cons_succ])
          refine wpAnyH_done (by kernel_rfl) ?_ _
          go_wp2_with fail
          go_meet
          exact ⟨by rw [HLQ.out], HB1.out⟩
      case rest =>
      obtain ⟨rfl, hbc⟩ := hcut
      have HBR := Lib.hid hbc
      have HBC := Lib.hid (Ext.trans HB.out hbc)
      clear hbc
      cases late with
      | true =>
        have HD := Lib.hid (H31.out rfl)
        go_wp2_with fail
        go_ret3
        exact ⟨⟨_, by rw [HD.out]; rfl, by rw [HD.out]; exact Sl.nil _ _ _⟩, by (repeat' (with_reducible first | exact HBC.out | exact Below.refl _ _ | refine Ext.drewN ?_ _ | refine Below.drew ?_ | refine Below.setCell ?_ ?_ _ | refine Below.alloc ?_ ?_ _)) <;> (first | omega | (simp; done) | (simp; omega))⟩
      | false =>
        obtain ⟨e0, e1, e2, e3, e4, e5, e6, e7, e8, e9⟩ := HE.out wc HBC.out
        have hbw := Nat.lt_of_lt_of_le hbl HBC.out.size
        have HLC := Lib.hid (HL.out.ext HBR.out)
        go_wp2_with fail
        refine (step_any _ l x _ (HLC.out.ext (by (repeat' (with_reducible first | exact Below.refl _ _ | refine Ext.drewN ?_ _ | refine Below.drew ?_ | refine Below.setCell ?_ ?_ _ | refine Below.alloc ?_ ?_ _)) <;> (first | omega | (simp; done) | (simp; omega)))) (by omega)).mono ?_
        rintro e w2 ⟨⟨v2, rfl, hs2⟩, hb2⟩
        have HB2 := Lib.hid (Ext.trans (by (repeat' (with_reducible first | exact HBC.out | exact Below.refl _ _ | refine Ext.drewN ?_ _ | refine Below.drew ?_ | refine Below.setCell ?_ ?_ _ | refine Below.alloc ?_ ?_ _)) <;> (first | omega | (simp; done) | (simp; omega)) : Ext w _) hb2)
        have HS2 := Lib.hid hs2
        obtain ⟨wA, wcap, rfl⟩ := hs2.form
        clear hs2 hb2 e0 e1 e2 e3 e4 e5 e6 e7 e8 e9
        have HSF2 := Lib.hid (HSF.out (by simp))
        have HN2 := Lib.hid (HN.out (by simp))
        clear HSF HN H31
        generalize stepL l x = st at *
        obtain ⟨l2, f⟩ := st
        dsimp only at HSF2 HN2 HS2 HLN ⊢
        by_cases hf : f = 0
        · have q1 : (f != 0) = false := by simpa using hf
          have HN3 := Lib.hid (HN2.out hf)
          have HLN2 := HLN.out
          clear hf
          go_wp2_with fail
          go_roundw
          case measure => simp [intOf]; omega
          case rel => exact ⟨k + 1, l2, by omega, by go_num, by (repeat' (with_reducible first | exact HB2.out | exact Below.refl _ _ | refine Ext.drewN ?_ _ | refine Below.drew ?_ | refine Below.setCell ?_ ?_ _ | refine Below.alloc ?_ ?_ _)) <;> (first | omega | (simp; done) | (simp; omega)), HS2.out.ext (by (repeat' (with_reducible first | exact Below.refl _ _ | refine Ext.drewN ?_ _ | refine Below.drew ?_ | refine Below.setCell ?_ ?_ _ | refine Below.alloc ?_ ?_ _)) <;> (first | omega | (simp; done) | (simp; omega))), by omega, HN3.out⟩
        · have q1 : (f != 0) = true := by simpa using hf
          have HN3 := Lib.hid (HSF2.out hf)
          clear hf
          go_wp2_with fail
          go_ret3
          exact ⟨⟨_, by rw [HN3.out]; rfl, by rw [HN3.out]; exact Sl.nil _ _ _⟩, by (repeat' (with_reducible first | exact HB2.out | exact Below.refl _ _ | refine Ext.drewN ?_ _ | refine Below.drew ?_ | refine Below.setCell ?_ ?_ _ | refine Below.alloc ?_ ?_ _)) <;> (first | omega | (simp; done) | (simp; omega))⟩
    · obtain rfl : k = xs.length := by omega
      have hd : decide ((xs.length : Int) < (xs.length : Int)) = false := by simp
      have HD : Hid (joinL xs = joinEnd xs.length (l, xs.length, 0)) := by unfold Hid; rw [HF.out, List.drop_length]; rfl
      clear HF
      go_wp2_with fail
      refine (refHist_any _ l _ (HL.out.ext (by (repeat' (with_reducible first | exact Below.refl _ _ | refine Ext.drewN ?_ _ | refine Below.drew ?_ | refine Below.setCell ?_ ?_ _ | refine Below.alloc ?_ ?_ _)) <;> (first | omega | (simp; done) | (simp; omega))))).mono ?_
      rintro e w1 ⟨rfl, hb1⟩
      have HB1 := Lib.hid (Ext.trans (by (repeat' (with_reducible first | exact HB.out | exact Below.refl _ _ | refine Ext.drewN ?_ _ | refine Below.drew ?_ | refine Below.setCell ?_ ?_ _ | refine Below.alloc ?_ ?_ _)) <;> (first | omega | (simp; done) | (simp; omega)) : Ext w _) hb1)
      have HL1 := Lib.hid (HL.out.ext (Ext.trans (by (repeat' (with_reducible first | exact Below.refl _ _ | refine Ext.drewN ?_ _ | refine Below.drew ?_ | refine Below.setCell ?_ ?_ _ | refine Below.alloc ?_ ?_ _)) <;> (first | omega | (simp; done) | (simp; omega))) hb1))
      clear hb1
      by_cases hf : histL l = 0
      · have HD2 : Hid (joinL xs = (l, xs.length, 0)) := by unfold Hid; rw [HD.out]; unfold joinEnd; rw [if_neg (by simp), if_neg (by simpa using hf)]
        have q1 : (histL l != 0) = false := by simpa using hf
        clear hf
        go_wp2_with fail
        go_ret3
        exact ⟨⟨_, by rw [HD2.out]; rfl, by rw [HD2.out]; exact HL1.out.ext (by (repeat' (with_reducible first | exact Below.refl _ _ | refine Ext.drewN ?_ _ | refine Below.drew ?_ | refine Below.setCell ?_ ?_ _ | refine Below.alloc ?_ ?_ _)) <;> (first | omega | (simp; done) | (simp; omega)))⟩, by (repeat' (with_reducible first | exact HB1.out | exact Below.refl _ _ | refine Ext.drewN ?_ _ | refine Below.drew ?_ | refine Below.setCell ?_ ?_ _ | refine Below.alloc ?_ ?_ _)) <;> (first | omega | (simp; done) | (simp; omega))⟩
      · have HD2 : Hid (joinL xs = ([], xs.length, histL l)) := by unfold Hid; rw [HD.out]; unfold joinEnd; rw [if_neg (by simp), if_pos (by simpa using hf)]
        have q1 : (histL l != 0) = true := by simpa using hf
        clear hf
        go_wp2_with fail
        go_ret3
        exact ⟨⟨_, by rw [HD2.out]; rfl, by rw [HD2.out]; exact Sl.nil _ _ _⟩, by (repeat' (with_reducible first | exact HB1.out | exact Below.refl _ _ | refine Ext.drewN ?_ _ | refine Below.drew ?_ | refine Below.setCell ?_ ?_ _ | refine Below.alloc ?_ ?_ _)) <;> (first | omega | (simp; done) | (simp; omega))⟩
end Go.Proofs.YtgpnockjonicpaaGreatDoor
