/- slices.ContainsFunc at conditions' kids, by any closure that tells a bool of each. Conditions: that all can be read. -/
import Derived.Test.YtcilkdohpcmbgaaNode
namespace Go.Proofs.Ytcilkdohpcmbgaa
set_option linter.unusedSimpArgs false
set_option linter.unusedVariables false
open Go.RowKit

section
variable (fid : FuncId) (pr : ND → Bool) (d : Nat) (pa po : Value) (KA : Option Addr) (Kc : Nat) (ks : List NCell) (kids : List ND)
set_option maxHeartbeats 800000 in
theorem nodeIndex_any (efid : ∀ args w, (callFunc fid args).run Try.prog w = .ok (.enter fid args) w) (w : World) (hcl : ∀ (x : ND) (n : NCell) (W : World), Ext w W → RN n n.cells → Nd W d x n → Calls Try.prog fid #[.agg #[.int .i64 n.kind, n.kids, .string n.field, .string n.sign, .int .i64 n.value], pa, po] W fun e w' => e = .returned (.bool (pr x)) ∧ Ext W w')
    (hks : Sl w 5 RN (.slice KA ks.length Kc) ks) (hlen : ks.length = kids.length) (hnd : ∀ (i : Nat) (x : ND) (y : NCell), kids[i]? = some x → ks[i]? = some y → Nd w d x y) :
    Calls Try.prog 67 #[.slice KA ks.length Kc, .func (.func fid) #[] #[pa, po]] w fun e w' => (∃ r : Int, e = .returned (.int .i64 r) ∧ decide (0 ≤ r) = kids.any pr) ∧ Ext w w' := by
  have HCL := Lib.hid hcl
  have HND := Lib.hid hnd
  have HLEN := Lib.hid hlen
  obtain ⟨_, hc1, hc2, hA⟩ := hks.at
  have HA := Lib.hid hA
  clear hcl hnd hlen hks hA
  go_enter Try.func67, Try.ntmps67
  go_wp2_with fail
  go_loopw [8] (fun i wr => ∃ j : Nat, j ≤ ks.length ∧ i = .int .i64 j ∧ Ext w wr ∧ ∀ (m : Nat) (x : ND), m < j → kids[m]? = some x → pr x = false)
    (fun i _ => ks.length - (intOf i).toNat)
  case atStart => exact ⟨0, by omega, rfl, Ext.refl _, fun m x h => absurd h (by omega)⟩
  case round =>
    obtain ⟨j, hj, rfl, hb, hall⟩ := hrel
    have HB := Lib.hid hb
    have HF := Lib.hid hall
    clear hb hall
    by_cases hlt : j < ks.length
    · have hd : decide ((j : Int) < (ks.length : Int)) = true := by simp; omega
      obtain ⟨x, hx⟩ : ∃ x, kids[j]? = some x := ⟨_, List.getElem?_eq_getElem (by have := HLEN.out; omega)⟩
      have HX := Lib.hid hx
      have HY := Lib.hid (HND.out j x ks[j] hx (List.getElem?_eq_getElem hlt))
      clear hx
      obtain ⟨b, off, rfl, hbl, hcell⟩ := HA.out (by omega)
      obtain ⟨cs, ⟨rfl, hrn⟩, _, hcs⟩ := hcell j hlt
      have HRN := Lib.hid (show RN ks[j] ks[j].cells from ⟨rfl, hrn⟩)
      have hw := fun j' u hu => (HB.out.cell (p := ⟨b, off + j * 5 + j', none⟩) hbl).trans (hcs j' u hu)
      have k0 := hw 0 _ rfl
      have k1 := hw 1 _ rfl
      have k2 := hw 2 _ rfl
      have k3 := hw 3 _ rfl
      have k4 := hw 4 _ rfl
      simp only [Nat.add_zero] at k0
      clear hcell hcs hrn hw
      obtain ⟨kA, kn, kc, hkk⟩ := HRN.out.2.2.2
      generalize ks[j] = n at *
      obtain ⟨nk, nkids, nf, ns, nv⟩ := n
      dsimp only at *
      subst hkk
      go_wp2_with fail
      refine (HCL.out x ⟨nk, .slice kA kn kc, nf, ns, nv⟩ _ HB.out HRN.out (HY.out.ext HB.out)).mono ?_
      rintro e w1 ⟨rfl, hb1⟩
      have HB1 := Lib.hid (Ext.trans HB.out hb1)
      clear hb1 k0 k1 k2 k3 k4
      cases hv : pr x with
      | true =>
        have HV : Hid (kids.any pr = true) := List.any_eq_true.2 ⟨x, List.mem_of_getElem? HX.out, hv⟩
        clear hv
        go_wp2_with fail
        go_ret
        exact ⟨⟨_, rfl, by rw [HV.out]; simp⟩, HB1.out⟩
      | false =>
        have HV := Lib.hid hv
        clear hv
        go_wp2_with fail
        go_roundw
        case rel =>
          refine ⟨j + 1, by omega, by go_num, HB1.out, fun m y hm hy => ?_⟩
          by_cases e : m = j
          · subst e
            have e2 := hy.symm.trans HX.out
            injection e2 with e2
            subst e2
            exact HV.out
          · exact HF.out m y (by omega) hy
        case measure => simp [intOf]; omega
    · have hd : decide ((j : Int) < (ks.length : Int)) = false := by simp; omega
      have HV : Hid (kids.any pr = false) := by
        refine List.any_eq_false.2 (fun x hx => ?_)
        obtain ⟨i, hi, rfl⟩ := List.mem_iff_getElem.1 hx
        have := HF.out i _ (by have := HLEN.out; omega) (List.getElem?_eq_getElem hi)
        simp [this]
      go_wp2_with fail
      go_ret
      exact ⟨⟨_, rfl, by rw [HV.out]; simp⟩, HB.out⟩
theorem nodeContains_any (efid : ∀ args w, (callFunc fid args).run Try.prog w = .ok (.enter fid args) w) (w : World) (hcl : ∀ (x : ND) (n : NCell) (W : World), Ext w W → RN n n.cells → Nd W d x n → Calls Try.prog fid #[.agg #[.int .i64 n.kind, n.kids, .string n.field, .string n.sign, .int .i64 n.value], pa, po] W fun e w' => e = .returned (.bool (pr x)) ∧ Ext W w')
    (hks : Sl w 5 RN (.slice KA ks.length Kc) ks) (hlen : ks.length = kids.length) (hnd : ∀ (i : Nat) (x : ND) (y : NCell), kids[i]? = some x → ks[i]? = some y → Nd w d x y) :
    Calls Try.prog 57 #[.slice KA ks.length Kc, .func (.func fid) #[] #[pa, po]] w fun e w' => e = .returned (.bool (kids.any pr)) ∧ Ext w w' := by
  have HI := Lib.hid (nodeIndex_any fid pr d pa po KA Kc ks kids efid w hcl hks hlen hnd)
  clear hcl hks hlen hnd efid
  go_enter Try.func57, Try.ntmps57
  go_wp2_with fail
  refine HI.out.mono ?_
  rintro e w1 ⟨⟨r, rfl, hr⟩, hb1⟩
  have HB1 := Lib.hid hb1
  clear hb1
  go_wp2_with fail
  go_ret
  exact ⟨rfl, HB1.out⟩
end
end Go.Proofs.Ytcilkdohpcmbgaa
