/- Events joined: the document's answer, as plain data; ref26.step whole. Conditions: that all can be read, fewer than 10^8 operations. -/
/- ref26.Join. Conditions: that all can be read, fewer than 10^8 events. -/
import Derived.Test.YtgpnockjonicpaaDoorStep2
import Derived.Test.YtgpnockjonicpaaDoorHist5
import Derived.Test.YtgpnockjonicpaaDoorWith2
namespace Go.Proofs.YtgpnockjonicpaaDoor
set_option linter.unusedSimpArgs false
set_option linter.unusedVariables false
open Go.RowKit

/-- where a list of operations lies -/
theorem Sl.ops_at {w : World} {A : Option Addr} {n c : Nat} {l : List OpD} (h : Sl w 11 ROp (.slice A n c) l) (hp : 0 < l.length) :
    ∃ b off, A = some ⟨b, off, none⟩ ∧ b < w.heap.size ∧ ∀ (j : Nat) (hj : j < l.length) (W : World), Ext w W → (W.cell? ⟨b, off + j * 11, none⟩ = some (.int .i64 l[j].id) ∧ W.cell? ⟨b, off + j * 11 + 1, none⟩ = some (.int .i64 l[j].proc) ∧ W.cell? ⟨b, off + j * 11 + 2, none⟩ = some (.int .i64 l[j].object) ∧ W.cell? ⟨b, off + j * 11 + 3, none⟩ = some (.int .i64 l[j].kind) ∧ W.cell? ⟨b, off + j * 11 + 4, none⟩ = some (.int .i64 l[j].method) ∧ W.cell? ⟨b, off + j * 11 + 5, none⟩ = some (.int .i64 l[j].arg) ∧ W.cell? ⟨b, off + j * 11 + 6, none⟩ = some (.int .i64 l[j].second) ∧ W.cell? ⟨b, off + j * 11 + 7, none⟩ = some (.bool l[j].done) ∧ W.cell? ⟨b, off + j * 11 + 8, none⟩ = some (.int .i64 l[j].result) ∧ W.cell? ⟨b, off + j * 11 + 9, none⟩ = some (.int .i64 l[j].invoke) ∧ W.cell? ⟨b, off + j * 11 + 10, none⟩ = some (.int .i64 l[j].ret)) := by
  obtain ⟨_, _, _, hA⟩ := h.at
  obtain ⟨b, off, rfl, hbl, hcell⟩ := hA hp
  refine ⟨b, off, rfl, hbl, fun j hj W h => ?_⟩
  obtain ⟨cs, rfl, _, hcs⟩ := hcell j hj
  have hw := fun i u hu => (h.cell (p := ⟨b, off + j * 11 + i, none⟩) hbl).trans (hcs i u hu)
  exact ⟨hw 0 _ rfl, hw 1 _ rfl, hw 2 _ rfl, hw 3 _ rfl, hw 4 _ rfl, hw 5 _ rfl, hw 6 _ rfl, hw 7 _ rfl, hw 8 _ rfl, hw 9 _ rfl, hw 10 _ rfl⟩
theorem Sl.evs_at {w : World} {A : Option Addr} {n c : Nat} {l : List EvD} (h : Sl w 10 REv (.slice A n c) l) (hp : 0 < l.length) :
    ∃ b off, A = some ⟨b, off, none⟩ ∧ b < w.heap.size ∧ ∀ (j : Nat) (hj : j < l.length) (W : World), Ext w W → (W.cell? ⟨b, off + j * 10, none⟩ = some (.int .i64 l[j].time) ∧ W.cell? ⟨b, off + j * 10 + 1, none⟩ = some (.int .i64 l[j].proc) ∧ W.cell? ⟨b, off + j * 10 + 2, none⟩ = some (.bool l[j].answer) ∧ W.cell? ⟨b, off + j * 10 + 3, none⟩ = some (.int .i64 l[j].id) ∧ W.cell? ⟨b, off + j * 10 + 4, none⟩ = some (.int .i64 l[j].object) ∧ W.cell? ⟨b, off + j * 10 + 5, none⟩ = some (.int .i64 l[j].kind) ∧ W.cell? ⟨b, off + j * 10 + 6, none⟩ = some (.int .i64 l[j].method) ∧ W.cell? ⟨b, off + j * 10 + 7, none⟩ = some (.int .i64 l[j].arg) ∧ W.cell? ⟨b, off + j * 10 + 8, none⟩ = some (.int .i64 l[j].second) ∧ W.cell? ⟨b, off + j * 10 + 9, none⟩ = some (.int .i64 l[j].result)) := by
  obtain ⟨_, _, _, hA⟩ := h.at
  obtain ⟨b, off, rfl, hbl, hcell⟩ := hA hp
  refine ⟨b, off, rfl, hbl, fun j hj W h => ?_⟩
  obtain ⟨cs, rfl, _, hcs⟩ := hcell j hj
  have hw := fun i u hu => (h.cell (p := ⟨b, off + j * 10 + i, none⟩) hbl).trans (hcs i u hu)
  exact ⟨hw 0 _ rfl, hw 1 _ rfl, hw 2 _ rfl, hw 3 _ rfl, hw 4 _ rfl, hw 5 _ rfl, hw 6 _ rfl, hw 7 _ rfl, hw 8 _ rfl, hw 9 _ rfl⟩

def stepL (l : List OpD) (x : EvD) : List OpD × Int := if x.answer = true then stepAns l x else stepInv l x
theorem stepL_len (l : List OpD) (x : EvD) : (stepL l x).1.length ≤ l.length + 1 := by
  unfold stepL
  split
  · unfold stepAns
    cases openL l x.proc with
    | negSucc _ => exact Nat.le_succ _
    | ofNat k =>
      show (stepAt l x l[k]?).1.length ≤ _
      cases l[k]? with
      | none => exact Nat.le_succ _
      | some o =>
        unfold stepAt
        dsimp only
        split
        · split
          · exact Nat.le_succ _
          · exact withL_len _ _
        · exact Nat.le_succ _
  · unfold stepInv
    split
    · exact Nat.le_succ _
    · split
      · exact Nat.le_succ _
      · exact withL_len _ _

/-- is an event not ahead of the last one? -/
def lateB (p : Option EvD) (x : EvD) : Bool := match p with | some q => !aheadE q x | none => false
def joinFrom : Nat → Option EvD → List OpD → List EvD → List OpD × Nat × Int
  | k, _, l, [] => (l, k, 0)
  | k, p, l, x :: r => if lateB p x = true then ([], k, 31) else if (stepL l x).2 ≠ 0 then ([], k, (stepL l x).2) else joinFrom (k + 1) (some x) (stepL l x).1 r
def joinEnd (n : Nat) (r : List OpD × Nat × Int) : List OpD × Nat × Int := if r.2.2 ≠ 0 then r else if histL r.1 ≠ 0 then ([], n, histL r.1) else (r.1, n, 0)
def joinL (xs : List EvD) : List OpD × Nat × Int := joinEnd xs.length (joinFrom 0 none [] xs)
def prevE (l : List EvD) (k : Nat) : Option EvD := if k = 0 then none else l[k - 1]?
theorem prevE_succ (l : List EvD) (k : Nat) (h : k < l.length) : prevE l (k + 1) = some l[k] := by simp [prevE, h]
theorem joinFrom_at (xs : List EvD) (l : List OpD) (k : Nat) (h : k < xs.length) : joinFrom k (prevE xs k) l (xs.drop k) =
    if lateB (prevE xs k) xs[k] = true then ([], k, 31) else if (stepL l xs[k]).2 ≠ 0 then ([], k, (stepL l xs[k]).2) else joinFrom (k + 1) (prevE xs (k + 1)) (stepL l xs[k]).1 (xs.drop (k + 1)) := by
  rw [List.drop_eq_getElem_cons h, joinFrom, prevE_succ xs k h]
end Go.Proofs.YtgpnockjonicpaaDoor
namespace Go.Proofs.YtgpnockjonicpaaDoor
set_option linter.unusedSimpArgs false
set_option linter.unusedVariables false
open Go.RowKit

end Go.Proofs.YtgpnockjonicpaaDoor
