/- ref20.True at conditions with kids ('or', 'and'). Conditions: that all can be read. Printed by true2.py. -/
import Derived.Test.YtcilkdohpcmbgaaTrue
namespace Go.Proofs.Ytcilkdohpcmbgaa
set_option linter.unusedSimpArgs false
set_option linter.unusedVariables false
open Go.RowKit

section
variable (A : Option Addr) (c : Nat) (l : List OpD) (o : OpD) (t : ND) (field sign : ByteArray) (value : Int) (w : World)

set_option maxRecDepth 100000 in
set_option maxHeartbeats 2000000 in
theorem true_or (d : Nat) (ih : TrueAt (.slice A l.length c) l o d) (hs : Sl w 11 ROp (.slice A l.length c) l) (ht : t.kind = 1) (KA : Option Addr) (Kc : Nat) (ks : List NCell) (hks : Sl w 5 RN (.slice KA ks.length Kc) ks) (hlen : ks.length = t.kids.length)
    (hnd : ∀ (i : Nat) (x : ND) (y : NCell), t.kids[i]? = some x → ks[i]? = some y → Nd w d x y) :
    Calls Try.prog 21 #[.slice A l.length c, .agg #[.int .i64 1, .slice KA ks.length Kc, .string field, .string sign, .int .i64 value], o.val] w fun e w' => e = .returned (.bool (trueT l o t)) ∧ Ext w w' := by
  have HIT := Lib.hid (fun k x hx h => kids_hit l o t false (by simp [ht]) k x hx h)
  have HALL := Lib.hid (kids_all l o t false (by simp [ht]))
  have IH := Lib.hid ih
  have HS := Lib.hid hs
  have HND := Lib.hid hnd
  have HLEN := Lib.hid hlen
  obtain ⟨_, hc1, hc2, hA⟩ := hks.at
  have HA := Lib.hid hA
  have HB0 := Lib.hid (At11.row (Row1.made' (w := w.alloc (.cells #[.int .i64 1, .slice KA ks.length Kc, .string field, .string sign, .int .i64 value] 24)) (n := w.heap.size + 1) (by simp) 58 o.cells))
  have HKS : Hid (∀ W : World, Ext ((w.alloc (.cells #[.int .i64 1, .slice KA ks.length Kc, .string field, .string sign, .int .i64 value] 24)).alloc (.cells #[.int .i64 o.id, .int .i64 o.proc, .int .i64 o.object, .int .i64 o.kind, .int .i64 o.method, .int .i64 o.arg, .int .i64 o.second, .bool o.done, .int .i64 o.result, .int .i64 o.invoke, .int .i64 o.ret] 58)) W → W.cell? ⟨w.heap.size, 1, none⟩ = some (.slice KA ks.length Kc) ∧ At11 W (w.heap.size + 1) o) :=
    fun W hb => ⟨by rw [hb.cell (by simp; omega)]; go_simp, HB0.out.ext hb (by simp)⟩
  have HQ : Hid (Ext w ((w.alloc (.cells #[.int .i64 1, .slice KA ks.length Kc, .string field, .string sign, .int .i64 value] 24)).alloc (.cells #[.int .i64 o.id, .int .i64 o.proc, .int .i64 o.object, .int .i64 o.kind, .int .i64 o.method, .int .i64 o.arg, .int .i64 o.second, .bool o.done, .int .i64 o.result, .int .i64 o.invoke, .int .i64 o.ret] 58))) := by unfold Hid; (repeat' (with_reducible first | exact Below.refl _ _ | refine Ext.drewN ?_ _ | refine Below.drew ?_ | refine Below.setCell ?_ ?_ _ | refine Below.alloc ?_ ?_ _)) <;> (first | omega | (simp; done) | (simp; omega))
  clear ih hs hnd hlen hks hA HB0 ht
  go_enter Try.func21, Try.ntmps21
  go_wp2_with fail
  go_loopw [8] (fun i wr => ∃ j : Nat, j ≤ ks.length ∧ i = .int .i64 j ∧ Ext ((w.alloc (.cells #[.int .i64 1, .slice KA ks.length Kc, .string field, .string sign, .int .i64 value] 24)).alloc (.cells #[.int .i64 o.id, .int .i64 o.proc, .int .i64 o.object, .int .i64 o.kind, .int .i64 o.method, .int .i64 o.arg, .int .i64 o.second, .bool o.done, .int .i64 o.result, .int .i64 o.invoke, .int .i64 o.ret] 58)) wr ∧ ∀ (m : Nat) (x : ND), m < j → t.kids[m]? = some x → trueT l o x = false)
    (fun i _ => ks.length - (intOf i).toNat)
  case atStart => exact ⟨0, by omega, rfl, Ext.refl _, fun m x h => absurd h (by omega)⟩
  case round =>
    obtain ⟨j, hj, rfl, hb, hall⟩ := hrel
    have HB := Lib.hid hb
    have HF := Lib.hid hall
    have hzr := hb.size
    simp at hzr
    clear hb hall
    by_cases hlt : j < ks.length
    · have hd : decide ((j : Int) < (ks.length : Int)) = true := by simp; omega
      obtain ⟨x, hx⟩ : ∃ x, t.kids[j]? = some x := ⟨_, List.getElem?_eq_getElem (by have := HLEN.out; omega)⟩
      have HX := Lib.hid hx
      have HY := Lib.hid (HND.out j x ks[j] hx (List.getElem?_eq_getElem hlt))
      clear hx
      obtain ⟨b, off, rfl, hbl, hcell⟩ := HA.out (by omega)
      obtain ⟨cs, ⟨rfl, hrn⟩, _, hcs⟩ := hcell j hlt
      have HRN := Lib.hid (show RN ks[j] ks[j].cells from ⟨rfl, hrn⟩)
      have HKID : Hid (∀ W : World, Ext w W → W.cell? ⟨b, off + j * 5, none⟩ = some (.int .i64 ks[j].kind) ∧ W.cell? ⟨b, off + j * 5 + 1, none⟩ = some ks[j].kids ∧ W.cell? ⟨b, off + j * 5 + 2, none⟩ = some (.string ks[j].field) ∧ W.cell? ⟨b, off + j * 5 + 3, none⟩ = some (.string ks[j].sign) ∧ W.cell? ⟨b, off + j * 5 + 4, none⟩ = some (.int .i64 ks[j].value)) :=
        fun W hb => ⟨(hb.cell (p := ⟨b, off + j * 5, none⟩) hbl).trans (hcs 0 _ rfl), (hb.cell (p := ⟨b, off + j * 5 + 1, none⟩) hbl).trans (hcs 1 _ rfl), (hb.cell (p := ⟨b, off + j * 5 + 2, none⟩) hbl).trans (hcs 2 _ rfl), (hb.cell (p := ⟨b, off + j * 5 + 3, none⟩) hbl).trans (hcs 3 _ rfl), (hb.cell (p := ⟨b, off + j * 5 + 4, none⟩) hbl).trans (hcs 4 _ rfl)⟩
      clear hcell hcs hrn
      obtain ⟨kA, kn, kc, hkk⟩ := HRN.out.2.2.2
      generalize ks[j] = n at *
      obtain ⟨nk, nkids, nf, ns, nv⟩ := n
      dsimp only at *
      subst hkk
      obtain ⟨k0, k1, k2, k3, k4⟩ := HKID.out wr (Ext.trans HQ.out HB.out)
      obtain ⟨b1, a0, a1, a2, a3, a4, a5, a6, a7, a8, a9, a10⟩ := HKS.out wr HB.out
      have HKK : Hid (∀ W : World, Ext wr W → (W.cell? ⟨w.heap.size, 1, none⟩ = some (.slice (some ⟨b, off, none⟩) ks.length Kc) ∧ W.cell? ⟨b, off + j * 5, none⟩ = some (.int .i64 nk) ∧ W.cell? ⟨b, off + j * 5 + 1, none⟩ = some (.slice kA kn kc) ∧ W.cell? ⟨b, off + j * 5 + 2, none⟩ = some (.string nf) ∧ W.cell? ⟨b, off + j * 5 + 3, none⟩ = some (.string ns) ∧ W.cell? ⟨b, off + j * 5 + 4, none⟩ = some (.int .i64 nv) ∧ (W.cell? ⟨(w.heap.size + 1), 0, none⟩ = some (.int .i64 o.id) ∧ W.cell? ⟨(w.heap.size + 1), 1, none⟩ = some (.int .i64 o.proc) ∧ W.cell? ⟨(w.heap.size + 1), 2, none⟩ = some (.int .i64 o.object) ∧ W.cell? ⟨(w.heap.size + 1), 3, none⟩ = some (.int .i64 o.kind) ∧ W.cell? ⟨(w.heap.size + 1), 4, none⟩ = some (.int .i64 o.method) ∧ W.cell? ⟨(w.heap.size + 1), 5, none⟩ = some (.int .i64 o.arg) ∧ W.cell? ⟨(w.heap.size + 1), 6, none⟩ = some (.int .i64 o.second) ∧ W.cell? ⟨(w.heap.size + 1), 7, none⟩ = some (.bool o.done) ∧ W.cell? ⟨(w.heap.size + 1), 8, none⟩ = some (.int .i64 o.result) ∧ W.cell? ⟨(w.heap.size + 1), 9, none⟩ = some (.int .i64 o.invoke) ∧ W.cell? ⟨(w.heap.size + 1), 10, none⟩ = some (.int .i64 o.ret)))) :=
        fun W hb => by
          obtain ⟨x0, x1, x2, x3, x4⟩ := HKID.out W (Ext.trans (Ext.trans HQ.out HB.out) hb)
          obtain ⟨y0, y1⟩ := HKS.out W (Ext.trans HB.out hb)
          exact ⟨y0, x0, x1, x2, x3, x4, y1⟩
      go_wp2_with fail
      go_region_held3 (fun w' => (w'.cell? ⟨w.heap.size, 1, none⟩ = some (.slice (some ⟨b, off, none⟩) ks.length Kc) ∧ w'.cell? ⟨b, off + j * 5, none⟩ = some (.int .i64 nk) ∧ w'.cell? ⟨b, off + j * 5 + 1, none⟩ = some (.slice kA kn kc) ∧ w'.cell? ⟨b, off + j * 5 + 2, none⟩ = some (.string nf) ∧ w'.cell? ⟨b, off + j * 5 + 3, none⟩ = some (.string ns) ∧ w'.cell? ⟨b, off + j * 5 + 4, none⟩ = some (.int .i64 nv) ∧ (w'.cell? ⟨(w.heap.size + 1), 0, none⟩ = some (.int .i64 o.id) ∧ w'.cell? ⟨(w.heap.size + 1), 1, none⟩ = some (.int .i64 o.proc) ∧ w'.cell? ⟨(w.heap.size + 1), 2, none⟩ = some (.int .i64 o.object) ∧ w'.cell? ⟨(w.heap.size + 1), 3, none⟩ = some (.int .i64 o.kind) ∧ w'.cell? ⟨(w.heap.size + 1), 4, none⟩ = some (.int .i64 o.method) ∧ w'.cell? ⟨(w.heap.size + 1), 5, none⟩ = some (.int .i64 o.arg) ∧ w'.cell? ⟨(w.heap.size + 1), 6, none⟩ = some (.int .i64 o.second) ∧ w'.cell? ⟨(w.heap.size + 1), 7, none⟩ = some (.bool o.done) ∧ w'.cell? ⟨(w.heap.size + 1), 8, none⟩ = some (.int .i64 o.result) ∧ w'.cell? ⟨(w.heap.size + 1), 9, none⟩ = some (.int .i64 o.invoke) ∧ w'.cell? ⟨(w.heap.size + 1), 10, none⟩ = some (.int .i64 o.ret))))
        (first | (refine HKK.out _ ?_; ((repeat' (with_reducible first | exact K1.out | exact Below.refl _ _ | refine Ext.drewN ?_ _ | refine Below.drew ?_ | refine Below.setCell ?_ ?_ _ | refine Below.alloc ?_ ?_ _)) <;> (first | omega | (simp; done) | (simp; omega))); done) | (refine HKK.out _ ?_; ((repeat' (with_reducible first | exact Ext.refl _ | exact Below.refl _ _ | refine Ext.drewN ?_ _ | refine Below.drew ?_ | refine Below.setCell ?_ ?_ _ | refine Below.alloc ?_ ?_ _)) <;> (first | omega | (simp; done) | (simp; omega))); done))
        ((go_at_call 21; refine (IH.out x ⟨nk, .slice kA kn kc, nf, ns, nv⟩ _ HRN.out (HY.out.ext (Ext.trans (Ext.trans HQ.out HB.out) (by (repeat' (with_reducible first | exact Ext.refl _ | exact Below.refl _ _ | refine Ext.drewN ?_ _ | refine Below.drew ?_ | refine Below.setCell ?_ ?_ _ | refine Below.alloc ?_ ?_ _)) <;> (first | omega | (simp; done) | (simp; omega))))) (HS.out.ext (Ext.trans (Ext.trans HQ.out HB.out) (by (repeat' (with_reducible first | exact Ext.refl _ | exact Below.refl _ _ | refine Ext.drewN ?_ _ | refine Below.drew ?_ | refine Below.setCell ?_ ?_ _ | refine Below.alloc ?_ ?_ _)) <;> (first | omega | (simp; done) | (simp; omega)))))).mono ?_; rintro e w1 ⟨rfl, hb1⟩; have K1 := Lib.hid (Ext.trans (by (repeat' (with_reducible first | exact Ext.refl _ | exact Below.refl _ _ | refine Ext.drewN ?_ _ | refine Below.drew ?_ | refine Below.setCell ?_ ?_ _ | refine Below.alloc ?_ ?_ _)) <;> (first | omega | (simp; done) | (simp; omega)) : Ext wr _) hb1); clear hb1))
      all_goals
        clear k0 k1 k2 k3 k4 b1 a0 a1 a2 a3 a4 a5 a6 a7 a8 a9 a10
        cases hv : trueT l o x with
        | true =>
          have HV := Lib.hid (HIT.out j x HX.out hv)
          clear hv
          go_wp2_with fail
          go_ret
          exact ⟨by rw [HV.out]; rfl, Ext.trans HQ.out (Ext.trans HB.out (by (repeat' (with_reducible first | exact K1.out | exact Below.refl _ _ | refine Ext.drewN ?_ _ | refine Below.drew ?_ | refine Below.setCell ?_ ?_ _ | refine Below.alloc ?_ ?_ _)) <;> (first | omega | (simp; done) | (simp; omega))))⟩
        | false =>
          have HV := Lib.hid hv
          clear hv
          go_wp2_with fail
          go_roundw
          case rel =>
            refine ⟨j + 1, by omega, by go_num, Ext.trans HB.out (by (repeat' (with_reducible first | exact K1.out | exact Below.refl _ _ | refine Ext.drewN ?_ _ | refine Below.drew ?_ | refine Below.setCell ?_ ?_ _ | refine Below.alloc ?_ ?_ _)) <;> (first | omega | (simp; done) | (simp; omega))), fun m y hm hy => ?_⟩
            by_cases e : m = j
            · subst e
              have e2 := hy.symm.trans HX.out
              injection e2 with e2
              subst e2
              exact HV.out
            · exact HF.out m y (by omega) hy
          case measure => simp [intOf]; omega
    · have hd : decide ((j : Int) < (ks.length : Int)) = false := by simp; omega
      have HV := Lib.hid (HALL.out (fun m x hx => HF.out m x (by have := (List.getElem?_eq_some_iff.1 hx).1; have := HLEN.out; omega) hx))
      obtain ⟨b1, _⟩ := HKS.out wr HB.out
      go_wp2_with fail
      go_ret
      exact ⟨by rw [HV.out]; rfl, Ext.trans HQ.out HB.out⟩

set_option maxRecDepth 100000 in
set_option maxHeartbeats 2000000 in
theorem true_and (d : Nat) (ih : TrueAt (.slice A l.length c) l o d) (hs : Sl w 11 ROp (.slice A l.length c) l) (ht : t.kind = 2) (KA : Option Addr) (Kc : Nat) (ks : List NCell) (hks : Sl w 5 RN (.slice KA ks.length Kc) ks) (hlen : ks.length = t.kids.length)
    (hnd : ∀ (i : Nat) (x : ND) (y : NCell), t.kids[i]? = some x → ks[i]? = some y → Nd w d x y) :
    Calls Try.prog 21 #[.slice A l.length c, .agg #[.int .i64 2, .slice KA ks.length Kc, .string field, .string sign, .int .i64 value], o.val] w fun e w' => e = .returned (.bool (trueT l o t)) ∧ Ext w w' := by
  have HIT := Lib.hid (fun k x hx h => kids_hit l o t true (by simp [ht]) k x hx h)
  have HALL := Lib.hid (kids_all l o t true (by simp [ht]))
  have IH := Lib.hid ih
  have HS := Lib.hid hs
  have HND := Lib.hid hnd
  have HLEN := Lib.hid hlen
  obtain ⟨_, hc1, hc2, hA⟩ := hks.at
  have HA := Lib.hid hA
  have HB0 := Lib.hid (At11.row (Row1.made' (w := w.alloc (.cells #[.int .i64 2, .slice KA ks.length Kc, .string field, .string sign, .int .i64 value] 24)) (n := w.heap.size + 1) (by simp) 58 o.cells))
  have HKS : Hid (∀ W : World, Ext ((w.alloc (.cells #[.int .i64 2, .slice KA ks.length Kc, .string field, .string sign, .int .i64 value] 24)).alloc (.cells #[.int .i64 o.id, .int .i64 o.proc, .int .i64 o.object, .int .i64 o.kind, .int .i64 o.method, .int .i64 o.arg, .int .i64 o.second, .bool o.done, .int .i64 o.result, .int .i64 o.invoke, .int .i64 o.ret] 58)) W → W.cell? ⟨w.heap.size, 1, none⟩ = some (.slice KA ks.length Kc) ∧ At11 W (w.heap.size + 1) o) :=
    fun W hb => ⟨by rw [hb.cell (by simp; omega)]; go_simp, HB0.out.ext hb (by simp)⟩
  have HQ : Hid (Ext w ((w.alloc (.cells #[.int .i64 2, .slice KA ks.length Kc, .string field, .string sign, .int .i64 value] 24)).alloc (.cells #[.int .i64 o.id, .int .i64 o.proc, .int .i64 o.object, .int .i64 o.kind, .int .i64 o.method, .int .i64 o.arg, .int .i64 o.second, .bool o.done, .int .i64 o.result, .int .i64 o.invoke, .int .i64 o.ret] 58))) := by unfold Hid; (repeat' (with_reducible first | exact Below.refl _ _ | refine Ext.drewN ?_ _ | refine Below.drew ?_ | refine Below.setCell ?_ ?_ _ | refine Below.alloc ?_ ?_ _)) <;> (first | omega | (simp; done) | (simp; omega))
  clear ih hs hnd hlen hks hA HB0 ht
  go_enter Try.func21, Try.ntmps21
  go_wp2_with fail
  go_loopw [8] (fun i wr => ∃ j : Nat, j ≤ ks.length ∧ i = .int .i64 j ∧ Ext ((w.alloc (.cells #[.int .i64 2, .slice KA ks.length Kc, .string field, .string sign, .int .i64 value] 24)).alloc (.cells #[.int .i64 o.id, .int .i64 o.proc, .int .i64 o.object, .int .i64 o.kind, .int .i64 o.method, .int .i64 o.arg, .int .i64 o.second, .bool o.done, .int .i64 o.result, .int .i64 o.invoke, .int .i64 o.ret] 58)) wr ∧ ∀ (m : Nat) (x : ND), m < j → t.kids[m]? = some x → trueT l o x = true)
    (fun i _ => ks.length - (intOf i).toNat)
  case atStart => exact ⟨0, by omega, rfl, Ext.refl _, fun m x h => absurd h (by omega)⟩
  case round =>
    obtain ⟨j, hj, rfl, hb, hall⟩ := hrel
    have HB := Lib.hid hb
    have HF := Lib.hid hall
    have hzr := hb.size
    simp at hzr
    clear hb hall
    by_cases hlt : j < ks.length
    · have hd : decide ((j : Int) < (ks.length : Int)) = true := by simp; omega
      obtain ⟨x, hx⟩ : ∃ x, t.kids[j]? = some x := ⟨_, List.getElem?_eq_getElem (by have := HLEN.out; omega)⟩
      have HX := Lib.hid hx
      have HY := Lib.hid (HND.out j x ks[j] hx (List.getElem?_eq_getElem hlt))
      clear hx
      obtain ⟨b, off, rfl, hbl, hcell⟩ := HA.out (by omega)
      obtain ⟨cs, ⟨rfl, hrn⟩, _, hcs⟩ := hcell j hlt
      have HRN := Lib.hid (show RN ks[j] ks[j].cells from ⟨rfl, hrn⟩)
      have HKID : Hid (∀ W : World, Ext w W → W.cell? ⟨b, off + j * 5, none⟩ = some (.int .i64 ks[j].kind) ∧ W.cell? ⟨b, off + j * 5 + 1, none⟩ = some ks[j].kids ∧ W.cell? ⟨b, off + j * 5 + 2, none⟩ = some (.string ks[j].field) ∧ W.cell? ⟨b, off + j * 5 + 3, none⟩ = some (.string ks[j].sign) ∧ W.cell? ⟨b, off + j * 5 + 4, none⟩ = some (.int .i64 ks[j].value)) :=
        fun W hb => ⟨(hb.cell (p := ⟨b, off + j * 5, none⟩) hbl).trans (hcs 0 _ rfl), (hb.cell (p := ⟨b, off + j * 5 + 1, none⟩) hbl).trans (hcs 1 _ rfl), (hb.cell (p := ⟨b, off + j * 5 + 2, none⟩) hbl).trans (hcs 2 _ rfl), (hb.cell (p := ⟨b, off + j * 5 + 3, none⟩) hbl).trans (hcs 3 _ rfl), (hb.cell (p := ⟨b, off + j * 5 + 4, none⟩) hbl).trans (hcs 4 _ rfl)⟩
      clear hcell hcs hrn
      obtain ⟨kA, kn, kc, hkk⟩ := HRN.out.2.2.2
      generalize ks[j] = n at *
      obtain ⟨nk, nkids, nf, ns, nv⟩ := n
      dsimp only at *
      subst hkk
      obtain ⟨k0, k1, k2, k3, k4⟩ := HKID.out wr (Ext.trans HQ.out HB.out)
      obtain ⟨b1, a0, a1, a2, a3, a4, a5, a6, a7, a8, a9, a10⟩ := HKS.out wr HB.out
      have HKK : Hid (∀ W : World, Ext wr W → (W.cell? ⟨w.heap.size, 1, none⟩ = some (.slice (some ⟨b, off, none⟩) ks.length Kc) ∧ W.cell? ⟨b, off + j * 5, none⟩ = some (.int .i64 nk) ∧ W.cell? ⟨b, off + j * 5 + 1, none⟩ = some (.slice kA kn kc) ∧ W.cell? ⟨b, off + j * 5 + 2, none⟩ = some (.string nf) ∧ W.cell? ⟨b, off + j * 5 + 3, none⟩ = some (.string ns) ∧ W.cell? ⟨b, off + j * 5 + 4, none⟩ = some (.int .i64 nv) ∧ (W.cell? ⟨(w.heap.size + 1), 0, none⟩ = some (.int .i64 o.id) ∧ W.cell? ⟨(w.heap.size + 1), 1, none⟩ = some (.int .i64 o.proc) ∧ W.cell? ⟨(w.heap.size + 1), 2, none⟩ = some (.int .i64 o.object) ∧ W.cell? ⟨(w.heap.size + 1), 3, none⟩ = some (.int .i64 o.kind) ∧ W.cell? ⟨(w.heap.size + 1), 4, none⟩ = some (.int .i64 o.method) ∧ W.cell? ⟨(w.heap.size + 1), 5, none⟩ = some (.int .i64 o.arg) ∧ W.cell? ⟨(w.heap.size + 1), 6, none⟩ = some (.int .i64 o.second) ∧ W.cell? ⟨(w.heap.size + 1), 7, none⟩ = some (.bool o.done) ∧ W.cell? ⟨(w.heap.size + 1), 8, none⟩ = some (.int .i64 o.result) ∧ W.cell? ⟨(w.heap.size + 1), 9, none⟩ = some (.int .i64 o.invoke) ∧ W.cell? ⟨(w.heap.size + 1), 10, none⟩ = some (.int .i64 o.ret)))) :=
        fun W hb => by
          obtain ⟨x0, x1, x2, x3, x4⟩ := HKID.out W (Ext.trans (Ext.trans HQ.out HB.out) hb)
          obtain ⟨y0, y1⟩ := HKS.out W (Ext.trans HB.out hb)
          exact ⟨y0, x0, x1, x2, x3, x4, y1⟩
      go_wp2_with fail
      go_region_held3 (fun w' => (w'.cell? ⟨w.heap.size, 1, none⟩ = some (.slice (some ⟨b, off, none⟩) ks.length Kc) ∧ w'.cell? ⟨b, off + j * 5, none⟩ = some (.int .i64 nk) ∧ w'.cell? ⟨b, off + j * 5 + 1, none⟩ = some (.slice kA kn kc) ∧ w'.cell? ⟨b, off + j * 5 + 2, none⟩ = some (.string nf) ∧ w'.cell? ⟨b, off + j * 5 + 3, none⟩ = some (.string ns) ∧ w'.cell? ⟨b, off + j * 5 + 4, none⟩ = some (.int .i64 nv) ∧ (w'.cell? ⟨(w.heap.size + 1), 0, none⟩ = some (.int .i64 o.id) ∧ w'.cell? ⟨(w.heap.size + 1), 1, none⟩ = some (.int .i64 o.proc) ∧ w'.cell? ⟨(w.heap.size + 1), 2, none⟩ = some (.int .i64 o.object) ∧ w'.cell? ⟨(w.heap.size + 1), 3, none⟩ = some (.int .i64 o.kind) ∧ w'.cell? ⟨(w.heap.size + 1), 4, none⟩ = some (.int .i64 o.method) ∧ w'.cell? ⟨(w.heap.size + 1), 5, none⟩ = some (.int .i64 o.arg) ∧ w'.cell? ⟨(w.heap.size + 1), 6, none⟩ = some (.int .i64 o.second) ∧ w'.cell? ⟨(w.heap.size + 1), 7, none⟩ = some (.bool o.done) ∧ w'.cell? ⟨(w.heap.size + 1), 8, none⟩ = some (.int .i64 o.result) ∧ w'.cell? ⟨(w.heap.size + 1), 9, none⟩ = some (.int .i64 o.invoke) ∧ w'.cell? ⟨(w.heap.size + 1), 10, none⟩ = some (.int .i64 o.ret))))
        (first | (refine HKK.out _ ?_; ((repeat' (with_reducible first | exact K1.out | exact Below.refl _ _ | refine Ext.drewN ?_ _ | refine Below.drew ?_ | refine Below.setCell ?_ ?_ _ | refine Below.alloc ?_ ?_ _)) <;> (first | omega | (simp; done) | (simp; omega))); done) | (refine HKK.out _ ?_; ((repeat' (with_reducible first | exact Ext.refl _ | exact Below.refl _ _ | refine Ext.drewN ?_ _ | refine Below.drew ?_ | refine Below.setCell ?_ ?_ _ | refine Below.alloc ?_ ?_ _)) <;> (first | omega | (simp; done) | (simp; omega))); done))
        ((go_at_call 21; refine (IH.out x ⟨nk, .slice kA kn kc, nf, ns, nv⟩ _ HRN.out (HY.out.ext (Ext.trans (Ext.trans HQ.out HB.out) (by (repeat' (with_reducible first | exact Ext.refl _ | exact Below.refl _ _ | refine Ext.drewN ?_ _ | refine Below.drew ?_ | refine Below.setCell ?_ ?_ _ | refine Below.alloc ?_ ?_ _)) <;> (first | omega | (simp; done) | (simp; omega))))) (HS.out.ext (Ext.trans (Ext.trans HQ.out HB.out) (by (repeat' (with_reducible first | exact Ext.refl _ | exact Below.refl _ _ | refine Ext.drewN ?_ _ | refine Below.drew ?_ | refine Below.setCell ?_ ?_ _ | refine Below.alloc ?_ ?_ _)) <;> (first | omega | (simp; done) | (simp; omega)))))).mono ?_; rintro e w1 ⟨rfl, hb1⟩; have K1 := Lib.hid (Ext.trans (by (repeat' (with_reducible first | exact Ext.refl _ | exact Below.refl _ _ | refine Ext.drewN ?_ _ | refine Below.drew ?_ | refine Below.setCell ?_ ?_ _ | refine Below.alloc ?_ ?_ _)) <;> (first | omega | (simp; done) | (simp; omega)) : Ext wr _) hb1); clear hb1))
      all_goals
        clear k0 k1 k2 k3 k4 b1 a0 a1 a2 a3 a4 a5 a6 a7 a8 a9 a10
        cases hv : trueT l o x with
        | false =>
          have HV := Lib.hid (HIT.out j x HX.out hv)
          clear hv
          go_wp2_with fail
          go_ret
          exact ⟨by rw [HV.out]; rfl, Ext.trans HQ.out (Ext.trans HB.out (by (repeat' (with_reducible first | exact K1.out | exact Below.refl _ _ | refine Ext.drewN ?_ _ | refine Below.drew ?_ | refine Below.setCell ?_ ?_ _ | refine Below.alloc ?_ ?_ _)) <;> (first | omega | (simp; done) | (simp; omega))))⟩
        | true =>
          have HV := Lib.hid hv
          clear hv
          go_wp2_with fail
          go_roundw
          case rel =>
            refine ⟨j + 1, by omega, by go_num, Ext.trans HB.out (by (repeat' (with_reducible first | exact K1.out | exact Below.refl _ _ | refine Ext.drewN ?_ _ | refine Below.drew ?_ | refine Below.setCell ?_ ?_ _ | refine Below.alloc ?_ ?_ _)) <;> (first | omega | (simp; done) | (simp; omega))), fun m y hm hy => ?_⟩
            by_cases e : m = j
            · subst e
              have e2 := hy.symm.trans HX.out
              injection e2 with e2
              subst e2
              exact HV.out
            · exact HF.out m y (by omega) hy
          case measure => simp [intOf]; omega
    · have hd : decide ((j : Int) < (ks.length : Int)) = false := by simp; omega
      have HV := Lib.hid (HALL.out (fun m x hx => HF.out m x (by have := (List.getElem?_eq_some_iff.1 hx).1; have := HLEN.out; omega) hx))
      obtain ⟨b1, _⟩ := HKS.out wr HB.out
      go_wp2_with fail
      go_ret
      exact ⟨by rw [HV.out]; rfl, Ext.trans HQ.out HB.out⟩

end
end Go.Proofs.Ytcilkdohpcmbgaa
