/- Arguments that are read: slices, operations' and queries' nodes, out of the reading that a row gives. No conditions. -/
import Derived.Test.YtgpnockjonicpaaDoorBase
import Derived.ProofKit
namespace Go.Proofs.YtgpnockjonicpaaDoor
set_option linter.unusedSimpArgs false
set_option linter.unusedVariables false
open Go.ChangeShapes Go.WideShapes Go.ChangeAt Go.RowKit

section
variable {H : Type} {enc : TypeId × Value → H} {w : World} {spare : Nat → Bool} {held : Bool}

theorem open_sl {P : Program} {t e sz fuel : Nat} {cs : List Value} {x : DataW H × List MemPlace} {α : Type} (R : α → List Value → Prop) (ht : P.underlying t = some (.slice e)) (hc : P.cellsOf e = sz) (hsz : 0 < sz)
    (hR : ∀ n cs x, fuel = n + 1 → DataW.trod enc P w 0 spare held n e cs = some x → ∃ a, R a cs) (h : DataW.trod enc P w 0 spare held fuel t cs = some x) : ∃ v xs, cs = [v] ∧ Sl w sz R v xs := by
  rcases DataW.trod_slice ht h with ⟨rfl, _⟩ | ⟨a, len, cap, elems, rest, n, hf, rfl, _, _, hl, hm, hlen, hel, _, _⟩
  · exact ⟨_, [], rfl, Sl.nil _ _ _⟩
  · rw [hc] at hel
    have one : ∀ i, i < len → ∃ cs' a', R a' cs' ∧ cs'.length = sz ∧ ∀ j, j < sz → w.cell? ((a.add (i * sz)).add j) = cs'[j]? := by
      intro i hi
      have h1 := hel i hi
      have h2 : elems[i]? = some elems[i] := List.getElem?_eq_getElem (by omega)
      rw [h2, Option.bind_eq_some_iff] at h1
      obtain ⟨cs', hcs, htr⟩ := h1
      obtain ⟨_, hcl, hat⟩ := World.cells?_some hcs
      obtain ⟨a', ha'⟩ := hR n cs' _ hf htr
      exact ⟨cs', a', ha', hcl, hat⟩
    have adr : 0 < len → ∃ b off, a = ⟨b, off, none⟩ ∧ b < w.heap.size := by
      intro h0
      obtain ⟨cs', _, _, hcl, hat⟩ := one 0 h0
      have h1 := hat 0 hsz
      have h2 : cs'[0]? = some cs'[0] := List.getElem?_eq_getElem (by omega)
      rw [h2] at h1
      obtain ⟨b, off, spot⟩ := a
      have hs : spot = none := by simpa [Addr.add] using World.cell?_spot h1
      subst hs
      have hb := World.block_lt_of_cell? w _ h1
      exact ⟨b, off, rfl, by simpa [Addr.add] using hb⟩
    have all : ∀ m, m ≤ len → ∃ xs : List α, xs.length = m ∧ ∀ i x, xs[i]? = some x → ∃ cs', R x cs' ∧ cs'.length = sz ∧ ∀ j, j < sz → w.cell? ((a.add (i * sz)).add j) = cs'[j]? := by
      intro m
      induction m with
      | zero => intro _; exact ⟨[], rfl, fun i x hx => by simp at hx⟩
      | succ m ih =>
        intro hm'
        obtain ⟨xs, hxl, hx⟩ := ih (by omega)
        obtain ⟨cs', a', h1, h2, h3⟩ := one m (by omega)
        refine ⟨xs ++ [a'], by simp [hxl], fun i x hi => ?_⟩
        rcases Nat.lt_or_ge i m with hlt | hge
        · rw [List.getElem?_append_left (by omega)] at hi
          exact hx i x hi
        · rw [List.getElem?_append_right (by omega)] at hi
          have h0 : i - xs.length = 0 := by
            have := (List.getElem?_eq_some_iff.1 hi).1
            simp at this; omega
          rw [h0] at hi
          obtain rfl : a' = x := by simpa using hi
          obtain rfl : i = m := by omega
          exact ⟨cs', h1, h2, h3⟩
    obtain ⟨xs, hxl, hx⟩ := all len (Nat.le_refl _)
    refine ⟨_, xs, rfl, some a, cap, by rw [hxl], by omega, hm, fun h0 => ?_⟩
    obtain ⟨b, off, rfl, hb⟩ := adr (by omega)
    refine ⟨b, off, rfl, hb, fun i x hi => ?_⟩
    obtain ⟨cs', h1, h2, h3⟩ := hx i x hi
    refine ⟨cs', h1, h2, fun j u hu => ?_⟩
    have h4 := h3 j (by have := (List.getElem?_eq_some_iff.1 hu).1; omega)
    rw [hu, Addr.add_lit, Addr.add_lit] at h4
    exact h4

theorem bounds64 {n : Int} (h : (Lit.int .i64 n).wf = true) : -9223372036854775808 ≤ n ∧ n ≤ 9223372036854775807 := by
  simpa [Lit.wf, IntKind.min, IntKind.max, IntKind.signed, IntKind.bits] using h

theorem Tryd.cInt : Tryd.prog.cellsOf 3 = 1 := by kernel_rfl
theorem Tryd.cStr : Tryd.prog.cellsOf 9 = 1 := by kernel_rfl
end
end Go.Proofs.YtgpnockjonicpaaDoor
