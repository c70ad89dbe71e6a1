/- ref26.Parse. No conditions. -/
/- law26.of, law26.all. Conditions: fewer than 10^8 events. -/
import Derived.Test.YtgpnockjonicpaaDoorPLaw2
import Derived.Test.YtgpnockjonicpaaDoorJoin2
namespace Go.Proofs.YtgpnockjonicpaaDoor
set_option linter.unusedSimpArgs false
set_option linter.unusedVariables false
open Go.RowKit

theorem Tryd.infoREv : (Tryd.prog.info? 44).map (fun i => (i.zero, i.size, i.bytes)) = some (some evZero.val, 10, 80) := by kernel_rfl
theorem elREv : Elem Tryd.prog 27 44 10 80 := Elem.of Tryd.underlying27 Tryd.infoREv rfl (by decide)
theorem acc_none (t : ByteArray) (h : t = ⟨#[]⟩ ∨ ¬ lineL (refReadW (splitS t 32)) = t) : accP (splitS t 32) = none := by
  cases q : accP (splitS t 32) with
  | none => rfl
  | some v =>
    obtain ⟨h1, h2, _⟩ := acc_line t v q
    rcases h with h | h
    · exact absurd h h1
    · exact absurd h2 h
theorem hd_get (ls : List ByteArray) (k : Nat) (h : k < ls.length) : hd ls k = ls[k] := by
  unfold hd sHead
  rw [List.drop_eq_getElem_cons h]
  rfl
end Go.Proofs.YtgpnockjonicpaaDoor
namespace Go.Proofs.YtgpnockjonicpaaDoor
set_option linter.unusedSimpArgs false
set_option linter.unusedVariables false
open Go.RowKit

set_option maxRecDepth 100000 in
set_option maxHeartbeats 4000000 in
theorem lawOf_any (x : EvD) (w : World) : Calls Tryd.prog 15 #[x.val] w fun e w' => e = .returned x.val ∧ Ext w w' := by
  go_enter Tryd.func15, Tryd.ntmps15
  go_wp2_with fail
  generalize hwf : World.alloc _ _ = wf
  have HF : Row1 wf (w.heap.size + 1) 42 x.cells := by
    subst hwf
    exact Row1.made' (by simp) 42 x.cells
  have HX : Ext w wf := by
    subst hwf
    (repeat' (with_reducible first | exact Below.refl _ _ | refine Ext.drewN ?_ _ | refine Below.drew ?_ | refine Below.setCell ?_ ?_ _ | refine Below.alloc ?_ ?_ _)) <;> (first | omega | (simp; done) | (simp; omega))
  obtain ⟨s0, s1, s2, s3, s4, s5, s6, s7, s8, s9⟩ := At10.row HF
  clear hwf
  exact bodyPost_ret (v := .agg #[.int .i64 x.time, .int .i64 x.proc, .bool x.answer, .int .i64 x.id, .int .i64 x.object, .int .i64 x.kind, .int .i64 x.method, .int .i64 x.arg, .int .i64 x.second, .int .i64 x.result]) (by simp [results, Tryd.results15, go_sem, s0, s1, s2, s3, s4, s5, s6, s7, s8, s9]) rfl ⟨rfl, HX⟩
end Go.Proofs.YtgpnockjonicpaaDoor
