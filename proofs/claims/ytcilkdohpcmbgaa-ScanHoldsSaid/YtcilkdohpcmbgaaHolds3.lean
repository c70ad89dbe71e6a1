/- find's asker.holds, whole. Conditions: that all can be read. -/
import Derived.Test.YtcilkdohpcmbgaaHolds2
namespace Go.Proofs.Ytcilkdohpcmbgaa
set_option linter.unusedSimpArgs false
set_option linter.unusedVariables false
open Go.RowKit

section
variable (g : FuncId) (cp : Value) (l : List OpD) (o : OpD) (t : ND) (kids : Value) (field sign : ByteArray) (value : Int) (w : World)
set_option maxRecDepth 100000 in
set_option maxHeartbeats 2000000 in
theorem holds_not (d : Nat) (ih : HoldsAt g cp l o d) (hg : GetAt g cp l w) (ht : t.kind = 3) (KA : Option Addr) (Kc : Nat) (ks : List NCell) (hks : Sl w 5 RN (.slice KA ks.length Kc) ks) (hlen : ks.length = t.kids.length)
    (hnd : ∀ (i : Nat) (x : ND) (y : NCell), t.kids[i]? = some x → ks[i]? = some y → Nd w d x y) :
    Calls Try.prog 40 #[.agg #[.func (.func g) #[] #[cp]], .agg #[.int .i64 3, .slice KA ks.length Kc, .string field, .string sign, .int .i64 value], o.val] w fun e w' => e = .returned (.bool (trueT l o t)) ∧ Ext w w' := by
  have HQ : Hid (Ext w (((w.alloc (.cells #[.func (.func g) #[] #[cp]] 88)).alloc (.cells #[.int .i64 3, .slice KA ks.length Kc, .string field, .string sign, .int .i64 value] 24)).alloc (.cells #[.int .i64 o.id, .int .i64 o.proc, .int .i64 o.object, .int .i64 o.kind, .int .i64 o.method, .int .i64 o.arg, .int .i64 o.second, .bool o.done, .int .i64 o.result, .int .i64 o.invoke, .int .i64 o.ret] 58))) := by unfold Hid; (repeat' (with_reducible first | exact Below.refl _ _ | refine Ext.drewN ?_ _ | refine Below.drew ?_ | refine Below.setCell ?_ ?_ _ | refine Below.alloc ?_ ?_ _)) <;> (first | omega | (simp; done) | (simp; omega))
  by_cases h1 : ks.length = 1
  · obtain ⟨x, hx⟩ : ∃ x, t.kids = [x] := by
      have h2 : t.kids.length = 1 := by omega
      match hk : t.kids, h2 with
      | [x], _ => exact ⟨x, rfl⟩
    have HT := Lib.hid (trueT_not l o t ht x hx)
    have IH := Lib.hid ih
    have HG := Lib.hid hg
    obtain ⟨_, hc1, hc2, hA⟩ := hks.at
    obtain ⟨b, off, rfl, hbl, hcell⟩ := hA (by omega)
    obtain ⟨cs, ⟨rfl, hrn⟩, _, hcs⟩ := hcell 0 (by omega)
    have HY := Lib.hid (hnd 0 x ks[0] (by rw [hx]; rfl) (List.getElem?_eq_getElem (by omega)))
    have HRN := Lib.hid (show RN ks[0] ks[0].cells from ⟨rfl, hrn⟩)
    have HKID : Hid (∀ W : World, Ext w W → W.cell? ⟨b, off, none⟩ = some (.int .i64 ks[0].kind) ∧ W.cell? ⟨b, off + 1, none⟩ = some ks[0].kids ∧ W.cell? ⟨b, off + 2, none⟩ = some (.string ks[0].field) ∧ W.cell? ⟨b, off + 3, none⟩ = some (.string ks[0].sign) ∧ W.cell? ⟨b, off + 4, none⟩ = some (.int .i64 ks[0].value)) := by
      intro W hb
      have g := fun j u hu => (hb.cell (p := ⟨b, off + 0 * 5 + j, none⟩) hbl).trans (hcs j u hu)
      have g0 := g 0 _ rfl
      have g1 := g 1 _ rfl
      have g2 := g 2 _ rfl
      have g3 := g 3 _ rfl
      have g4 := g 4 _ rfl
      simp only [Nat.zero_mul, Nat.add_zero] at g0 g1 g2 g3 g4
      exact ⟨g0, g1, g2, g3, g4⟩
    obtain ⟨kA, kn, kc, hkk⟩ := HRN.out.2.2.2
    clear hcell hcs hrn hA hks hnd hg ih ht hx
    generalize ks[0] = n at *
    obtain ⟨nk, nkids, nf, ns, nv⟩ := n
    dsimp only at *
    subst hkk
    rw [h1]
    rw [h1] at HQ
    clear h1 hlen
    have HB0 := Lib.hid (At11.row (Row1.made' (w := (w.alloc (.cells #[.func (.func g) #[] #[cp]] 88)).alloc (.cells #[.int .i64 3, .slice (some ⟨b, off, none⟩) 1 Kc, .string field, .string sign, .int .i64 value] 24)) (n := w.heap.size + 1 + 1) (by simp) 58 o.cells))
    have HKK : Hid (∀ W : World, Ext (((w.alloc (.cells #[.func (.func g) #[] #[cp]] 88)).alloc (.cells #[.int .i64 3, .slice (some ⟨b, off, none⟩) 1 Kc, .string field, .string sign, .int .i64 value] 24)).alloc (.cells #[.int .i64 o.id, .int .i64 o.proc, .int .i64 o.object, .int .i64 o.kind, .int .i64 o.method, .int .i64 o.arg, .int .i64 o.second, .bool o.done, .int .i64 o.result, .int .i64 o.invoke, .int .i64 o.ret] 58)) W → (W.cell? ⟨w.heap.size, 0, none⟩ = some (.func (.func g) #[] #[cp]) ∧ W.cell? ⟨w.heap.size + 1, 1, none⟩ = some (.slice (some ⟨b, off, none⟩) 1 Kc) ∧ W.cell? ⟨b, off, none⟩ = some (.int .i64 nk) ∧ W.cell? ⟨b, off + 1, none⟩ = some (.slice kA kn kc) ∧ W.cell? ⟨b, off + 2, none⟩ = some (.string nf) ∧ W.cell? ⟨b, off + 3, none⟩ = some (.string ns) ∧ W.cell? ⟨b, off + 4, none⟩ = some (.int .i64 nv) ∧ (W.cell? ⟨(w.heap.size + 1 + 1), 0, none⟩ = some (.int .i64 o.id) ∧ W.cell? ⟨(w.heap.size + 1 + 1), 1, none⟩ = some (.int .i64 o.proc) ∧ W.cell? ⟨(w.heap.size + 1 + 1), 2, none⟩ = some (.int .i64 o.object) ∧ W.cell? ⟨(w.heap.size + 1 + 1), 3, none⟩ = some (.int .i64 o.kind) ∧ W.cell? ⟨(w.heap.size + 1 + 1), 4, none⟩ = some (.int .i64 o.method) ∧ W.cell? ⟨(w.heap.size + 1 + 1), 5, none⟩ = some (.int .i64 o.arg) ∧ W.cell? ⟨(w.heap.size + 1 + 1), 6, none⟩ = some (.int .i64 o.second) ∧ W.cell? ⟨(w.heap.size + 1 + 1), 7, none⟩ = some (.bool o.done) ∧ W.cell? ⟨(w.heap.size + 1 + 1), 8, none⟩ = some (.int .i64 o.result) ∧ W.cell? ⟨(w.heap.size + 1 + 1), 9, none⟩ = some (.int .i64 o.invoke) ∧ W.cell? ⟨(w.heap.size + 1 + 1), 10, none⟩ = some (.int .i64 o.ret)))) :=
      fun W hb => by
        obtain ⟨x0, x1, x2, x3, x4⟩ := HKID.out W (Ext.trans HQ.out hb)
        exact ⟨by rw [hb.cell (by first | (simp; done) | (simp; omega) | omega)]; go_simp, by rw [hb.cell (by first | (simp; done) | (simp; omega) | omega)]; go_simp, x0, x1, x2, x3, x4, HB0.out.ext hb (by simp)⟩
    clear HB0
    have hbw : b < w.heap.size + 1 := by omega
    have hbw1 : b < w.heap.size + 1 + 1 := by omega
    obtain ⟨k0, k1, k2, k3, k4⟩ := HKID.out w (Ext.refl _)
    go_enter Try.func40, Try.ntmps40
    go_wp2_with fail
    go_region_held3 (fun w' => (w'.cell? ⟨w.heap.size, 0, none⟩ = some (.func (.func g) #[] #[cp]) ∧ w'.cell? ⟨w.heap.size + 1, 1, none⟩ = some (.slice (some ⟨b, off, none⟩) 1 Kc) ∧ w'.cell? ⟨b, off, none⟩ = some (.int .i64 nk) ∧ w'.cell? ⟨b, off + 1, none⟩ = some (.slice kA kn kc) ∧ w'.cell? ⟨b, off + 2, none⟩ = some (.string nf) ∧ w'.cell? ⟨b, off + 3, none⟩ = some (.string ns) ∧ w'.cell? ⟨b, off + 4, none⟩ = some (.int .i64 nv) ∧ (w'.cell? ⟨(w.heap.size + 1 + 1), 0, none⟩ = some (.int .i64 o.id) ∧ w'.cell? ⟨(w.heap.size + 1 + 1), 1, none⟩ = some (.int .i64 o.proc) ∧ w'.cell? ⟨(w.heap.size + 1 + 1), 2, none⟩ = some (.int .i64 o.object) ∧ w'.cell? ⟨(w.heap.size + 1 + 1), 3, none⟩ = some (.int .i64 o.kind) ∧ w'.cell? ⟨(w.heap.size + 1 + 1), 4, none⟩ = some (.int .i64 o.method) ∧ w'.cell? ⟨(w.heap.size + 1 + 1), 5, none⟩ = some (.int .i64 o.arg) ∧ w'.cell? ⟨(w.heap.size + 1 + 1), 6, none⟩ = some (.int .i64 o.second) ∧ w'.cell? ⟨(w.heap.size + 1 + 1), 7, none⟩ = some (.bool o.done) ∧ w'.cell? ⟨(w.heap.size + 1 + 1), 8, none⟩ = some (.int .i64 o.result) ∧ w'.cell? ⟨(w.heap.size + 1 + 1), 9, none⟩ = some (.int .i64 o.invoke) ∧ w'.cell? ⟨(w.heap.size + 1 + 1), 10, none⟩ = some (.int .i64 o.ret))))
      (first | (refine HKK.out _ ?_; ((repeat' (with_reducible first | exact K1.out | exact Below.refl _ _ | refine Ext.drewN ?_ _ | refine Below.drew ?_ | refine Below.setCell ?_ ?_ _ | refine Below.alloc ?_ ?_ _)) <;> (first | omega | (simp; done) | (simp; omega))); done) | (refine HKK.out _ ?_; ((repeat' (with_reducible first | exact Ext.refl _ | exact Below.refl _ _ | refine Ext.drewN ?_ _ | refine Below.drew ?_ | refine Below.setCell ?_ ?_ _ | refine Below.alloc ?_ ?_ _)) <;> (first | omega | (simp; done) | (simp; omega))); done))
      ((go_at_call 40; refine (IH.out x ⟨nk, .slice kA kn kc, nf, ns, nv⟩ _ HRN.out (HY.out.ext (Ext.trans HQ.out (by (repeat' (with_reducible first | exact Ext.refl _ | exact Below.refl _ _ | refine Ext.drewN ?_ _ | refine Below.drew ?_ | refine Below.setCell ?_ ?_ _ | refine Below.alloc ?_ ?_ _)) <;> (first | omega | (simp; done) | (simp; omega))))) (fun id W' hb' => HG.out id W' (Ext.trans HQ.out (Ext.trans (by (repeat' (with_reducible first | exact Ext.refl _ | exact Below.refl _ _ | refine Ext.drewN ?_ _ | refine Below.drew ?_ | refine Below.setCell ?_ ?_ _ | refine Below.alloc ?_ ?_ _)) <;> (first | omega | (simp; done) | (simp; omega))) hb')))).mono ?_; rintro e w1 ⟨rfl, hb1⟩; have K1 := Lib.hid (Ext.trans (by (repeat' (with_reducible first | exact Ext.refl _ | exact Below.refl _ _ | refine Ext.drewN ?_ _ | refine Below.drew ?_ | refine Below.setCell ?_ ?_ _ | refine Below.alloc ?_ ?_ _)) <;> (first | omega | (simp; done) | (simp; omega)) : Ext (((w.alloc (.cells #[.func (.func g) #[] #[cp]] 88)).alloc (.cells #[.int .i64 3, .slice (some ⟨b, off, none⟩) 1 Kc, .string field, .string sign, .int .i64 value] 24)).alloc (.cells #[.int .i64 o.id, .int .i64 o.proc, .int .i64 o.object, .int .i64 o.kind, .int .i64 o.method, .int .i64 o.arg, .int .i64 o.second, .bool o.done, .int .i64 o.result, .int .i64 o.invoke, .int .i64 o.ret] 58)) _) hb1); clear hb1))
    all_goals
      go_wp2_with fail
      go_ret
      exact ⟨by rw [HT.out]; rfl, Ext.trans HQ.out (by (repeat' (with_reducible first | exact K1.out | exact Below.refl _ _ | refine Ext.drewN ?_ _ | refine Below.drew ?_ | refine Below.setCell ?_ ?_ _ | refine Below.alloc ?_ ?_ _)) <;> (first | omega | (simp; done) | (simp; omega)))⟩
  · have HT := Lib.hid (trueT_not1 l o t ht (by omega))
    have q1 : ((ks.length : Int) == 1) = false := by simp; omega
    clear ih hg hks hnd hlen h1
    go_enter Try.func40, Try.ntmps40
    go_wp2_with fail
    all_goals (try go_quiet (fail))
    all_goals (try go_wp2_with fail)
    go_ret
    exact ⟨by rw [HT.out]; rfl, by (repeat' (with_reducible first | exact HQ.out | exact Below.refl _ _ | refine Ext.drewN ?_ _ | refine Below.drew ?_ | refine Below.setCell ?_ ?_ _ | refine Below.alloc ?_ ?_ _)) <;> (first | omega | (simp; done) | (simp; omega))⟩

theorem holds_near (eg : ∀ args w, (callFunc g args).run Try.prog w = .ok (.enter g args) w) (hg : GetAt g cp l w) (ht : t.kind = 5) (hf : t.field = field) (hv : t.value = value) :
    Calls Try.prog 40 #[.agg #[.func (.func g) #[] #[cp]], .agg #[.int .i64 5, kids, .string field, .string sign, .int .i64 value], o.val] w fun e w' => e = .returned (.bool (trueT l o t)) ∧ Ext w w' := by
  have HT := Lib.hid (trueT_near l o t ht)
  rw [hf, hv] at HT
  have HC : Hid (nearL l o field.toList value = (match getL l value with | some p => nearB o p field.toList | none => false)) := rfl
  have HG := Lib.hid hg
  clear hg ht hf hv
  have HA := Lib.hid (At11.row (Row1.made' (w := (w.alloc (.cells #[.func (.func g) #[] #[cp]] 88)).alloc (.cells #[.int .i64 5, kids, .string field, .string sign, .int .i64 value] 24)) (n := w.heap.size + 1 + 1) (by simp) 58 o.cells))
  have HKS : Hid (∀ W : World, Ext (((w.alloc (.cells #[.func (.func g) #[] #[cp]] 88)).alloc (.cells #[.int .i64 5, kids, .string field, .string sign, .int .i64 value] 24)).alloc (.cells #[.int .i64 o.id, .int .i64 o.proc, .int .i64 o.object, .int .i64 o.kind, .int .i64 o.method, .int .i64 o.arg, .int .i64 o.second, .bool o.done, .int .i64 o.result, .int .i64 o.invoke, .int .i64 o.ret] 58)) W → At11 W (w.heap.size + 1 + 1) o ∧ W.cell? ⟨w.heap.size + 1, 2, none⟩ = some (.string field)) :=
    fun W hb => ⟨HA.out.ext hb (by simp), by rw [hb.cell (by first | (simp; done) | (simp; omega) | omega)]; go_simp⟩
  have HQ : Hid (Ext w (((w.alloc (.cells #[.func (.func g) #[] #[cp]] 88)).alloc (.cells #[.int .i64 5, kids, .string field, .string sign, .int .i64 value] 24)).alloc (.cells #[.int .i64 o.id, .int .i64 o.proc, .int .i64 o.object, .int .i64 o.kind, .int .i64 o.method, .int .i64 o.arg, .int .i64 o.second, .bool o.done, .int .i64 o.result, .int .i64 o.invoke, .int .i64 o.ret] 58))) := by unfold Hid; (repeat' (with_reducible first | exact Below.refl _ _ | refine Ext.drewN ?_ _ | refine Below.drew ?_ | refine Below.setCell ?_ ?_ _ | refine Below.alloc ?_ ?_ _)) <;> (first | omega | (simp; done) | (simp; omega))
  clear HA
  go_enter Try.func40, Try.ntmps40
  go_wp2_with fail
  refine (HG.out value _ HQ.out).mono ?_
  rintro e w1 ⟨⟨p, rfl, hp⟩, hb1⟩
  obtain ⟨⟨a0, a1, a2, a3, a4, a5, a6, a7, a8, a9, a10⟩, b2⟩ := HKS.out _ hb1
  have hz1 := hb1.size
  simp at hz1
  have hlt0 : w.heap.size < w1.heap.size := by omega
  have hlt1 : w.heap.size + 1 < w1.heap.size := by omega
  have hlt2 : w.heap.size + 1 + 1 < w1.heap.size := by omega
  have hb := Lib.hid (Ext.trans HQ.out hb1)
  have HP := Lib.hid hp
  clear hb1 HG HKS hp
  cases hgl : getL l value with
  | none =>
    have HV := Lib.hid hgl
    have HN : Hid (trueT l o t = false) := by unfold Hid; rw [HT.out, HC.out]; simp [HV.out]
    simp only [Option.isSome_none]
    clear hgl HT HC HV HP
    by_cases f1 : field.toList = [98, 101, 102, 111, 114, 101]
    · go_wp2_with fail
      go_ret
      exact ⟨by rw [HN.out]; rfl, by (repeat' (with_reducible first | exact hb.out | exact Below.refl _ _ | refine Ext.drewN ?_ _ | refine Below.drew ?_ | refine Below.setCell ?_ ?_ _ | refine Below.alloc ?_ ?_ _)) <;> (first | omega | (simp; done) | (simp; omega))⟩
    · have g1 : (field.toList == [98, 101, 102, 111, 114, 101]) = false := by simpa using f1
      clear f1
      by_cases f2 : field.toList = [97, 102, 116, 101, 114]
      · go_wp2_with fail
        go_ret
        exact ⟨by rw [HN.out]; rfl, by (repeat' (with_reducible first | exact hb.out | exact Below.refl _ _ | refine Ext.drewN ?_ _ | refine Below.drew ?_ | refine Below.setCell ?_ ?_ _ | refine Below.alloc ?_ ?_ _)) <;> (first | omega | (simp; done) | (simp; omega))⟩
      · have g2 : (field.toList == [97, 102, 116, 101, 114]) = false := by simpa using f2
        clear f2
        by_cases f3 : field.toList = [111, 118, 101, 114, 108, 97, 112, 115]
        · go_wp2_with fail
          go_ret
          exact ⟨by rw [HN.out]; rfl, by (repeat' (with_reducible first | exact hb.out | exact Below.refl _ _ | refine Ext.drewN ?_ _ | refine Below.drew ?_ | refine Below.setCell ?_ ?_ _ | refine Below.alloc ?_ ?_ _)) <;> (first | omega | (simp; done) | (simp; omega))⟩
        · have g3 : (field.toList == [111, 118, 101, 114, 108, 97, 112, 115]) = false := by simpa using f3
          clear f3
          go_wp2_with fail
          go_ret
          exact ⟨by rw [HN.out]; rfl, by (repeat' (with_reducible first | exact hb.out | exact Below.refl _ _ | refine Ext.drewN ?_ _ | refine Below.drew ?_ | refine Below.setCell ?_ ?_ _ | refine Below.alloc ?_ ?_ _)) <;> (first | omega | (simp; done) | (simp; omega))⟩
  | some q =>
    obtain rfl := HP.out q hgl
    have HV := Lib.hid hgl
    have HN : Hid (trueT l o t = nearB o p field.toList) := by unfold Hid; rw [HT.out, HC.out]; simp [HV.out]
    simp only [Option.isSome_some]
    clear hgl HT HC HV HP
    by_cases f1 : field.toList = [98, 101, 102, 111, 114, 101]
    · have HF : Hid (nearB o p field.toList = beforeL o p) := by unfold Hid nearB; rw [if_pos f1]
      go_wp2_with fail
      refine (opBefore_any o p _).mono ?_
      rintro e w2 ⟨rfl, hb2⟩
      have hb2' := Lib.hid (Ext.trans (by (repeat' (with_reducible first | exact hb.out | exact Below.refl _ _ | refine Ext.drewN ?_ _ | refine Below.drew ?_ | refine Below.setCell ?_ ?_ _ | refine Below.alloc ?_ ?_ _)) <;> (first | omega | (simp; done) | (simp; omega)) : Ext w _) hb2)
      clear hb2
      go_wp2_with fail
      go_ret
      exact ⟨by rw [HN.out, HF.out]; rfl, hb2'.out⟩
    · have g1 : (field.toList == [98, 101, 102, 111, 114, 101]) = false := by simpa using f1
      by_cases f2 : field.toList = [97, 102, 116, 101, 114]
      · have HF : Hid (nearB o p field.toList = beforeL p o) := by unfold Hid nearB; rw [if_neg f1, if_pos f2]
        go_wp2_with fail
        refine (opBefore_any p o _).mono ?_
        rintro e w2 ⟨rfl, hb2⟩
        have hb2' := Lib.hid (Ext.trans (by (repeat' (with_reducible first | exact hb.out | exact Below.refl _ _ | refine Ext.drewN ?_ _ | refine Below.drew ?_ | refine Below.setCell ?_ ?_ _ | refine Below.alloc ?_ ?_ _)) <;> (first | omega | (simp; done) | (simp; omega)) : Ext w _) hb2)
        clear hb2
        go_wp2_with fail
        go_ret
        exact ⟨by rw [HN.out, HF.out]; rfl, hb2'.out⟩
      · have g2 : (field.toList == [97, 102, 116, 101, 114]) = false := by simpa using f2
        by_cases f3 : field.toList = [111, 118, 101, 114, 108, 97, 112, 115]
        · have HF : Hid (nearB o p field.toList = (!beforeL o p && !beforeL p o)) := by unfold Hid nearB; rw [if_neg f1, if_neg f2, if_pos f3]
          go_wp2_with fail
          refine (opOverlap_any o p _).mono ?_
          rintro e w2 ⟨rfl, hb2⟩
          have hb2' := Lib.hid (Ext.trans (by (repeat' (with_reducible first | exact hb.out | exact Below.refl _ _ | refine Ext.drewN ?_ _ | refine Below.drew ?_ | refine Below.setCell ?_ ?_ _ | refine Below.alloc ?_ ?_ _)) <;> (first | omega | (simp; done) | (simp; omega)) : Ext w _) hb2)
          clear hb2
          go_wp2_with fail
          go_ret
          exact ⟨by rw [HN.out, HF.out]; rfl, hb2'.out⟩
        · have HF : Hid (nearB o p field.toList = false) := by unfold Hid nearB; rw [if_neg f1, if_neg f2, if_neg f3]
          have g3 : (field.toList == [111, 118, 101, 114, 108, 97, 112, 115]) = false := by simpa using f3
          clear f1 f2 f3
          go_wp2_with fail
          go_ret
          exact ⟨by rw [HN.out, HF.out]; rfl, by (repeat' (with_reducible first | exact hb.out | exact Below.refl _ _ | refine Ext.drewN ?_ _ | refine Below.drew ?_ | refine Below.setCell ?_ ?_ _ | refine Below.alloc ?_ ?_ _)) <;> (first | omega | (simp; done) | (simp; omega))⟩
end

theorem askHolds_any (g : FuncId) (eg : ∀ args w, (callFunc g args).run Try.prog w = .ok (.enter g args) w) (cp : Value) (l : List OpD) (o : OpD) (d : Nat) : HoldsAt g cp l o d := by
  induction d with
  | zero => intro _ _ _ _ h; exact h.elim
  | succ d ih =>
    intro t n w hn hd hg
    obtain ⟨h1, h2, h3, h4, ks, h5, h6, h7⟩ := hd
    obtain ⟨nk, nkids, nf, ns, nv⟩ := n
    dsimp only at *
    obtain ⟨kA, kc, rfl⟩ := h5.form
    by_cases e1 : nk = 1
    · subst e1; exact holds_or g cp l o t nf ns nv w d ih hg h1.symm kA kc ks h5 h6 h7
    by_cases e2 : nk = 2
    · subst e2; exact holds_and g cp l o t nf ns nv w d ih hg h1.symm kA kc ks h5 h6 h7
    by_cases e3 : nk = 3
    · subst e3; exact holds_not g cp l o t nf ns nv w d ih hg h1.symm kA kc ks h5 h6 h7
    by_cases e4 : nk = 4
    · subst e4; exact holds_cmp g cp l o t _ nf ns nv w h1.symm h2.symm h3.symm h4.symm
    by_cases e5 : nk = 5
    · subst e5; exact holds_near g cp l o t _ nf ns nv w eg hg h1.symm h2.symm h4.symm
    exact holds_else g cp l o t _ nf ns nv w nk e1 e2 e3 e4 e5 h1.symm

/-- find.Holds -/
theorem findHolds_any (g : FuncId) (eg : ∀ args w, (callFunc g args).run Try.prog w = .ok (.enter g args) w) (cp : Value) (l : List OpD) (o : OpD) (d : Nat) (t : ND) (n : NCell) (w : World) (hn : RN n n.cells) (hd : Nd w d t n) (hg : GetAt g cp l w) :
    Calls Try.prog 20 #[.agg #[.int .i64 n.kind, n.kids, .string n.field, .string n.sign, .int .i64 n.value], o.val, .func (.func g) #[] #[cp]] w fun e w' => e = .returned (.bool (trueT l o t)) ∧ Ext w w' := by
  have HI := Lib.hid (askHolds_any g eg cp l o d)
  obtain ⟨kA, kn, kc, hkk⟩ := hn.2.2.2
  have HRN := Lib.hid hn
  have HD := Lib.hid hd
  have HG := Lib.hid hg
  clear hn hd hg eg
  obtain ⟨nk, nkids, nf, ns, nv⟩ := n
  dsimp only at *
  subst hkk
  go_enter Try.func20, Try.ntmps20
  go_wp2_with fail
  refine (HI.out t ⟨nk, .slice kA kn kc, nf, ns, nv⟩ _ HRN.out (HD.out.ext (by (repeat' (with_reducible first | exact Below.refl _ _ | refine Ext.drewN ?_ _ | refine Below.drew ?_ | refine Below.setCell ?_ ?_ _ | refine Below.alloc ?_ ?_ _)) <;> (first | omega | (simp; done) | (simp; omega)))) (fun id W' hb => HG.out id W' (Ext.trans (by (repeat' (with_reducible first | exact Below.refl _ _ | refine Ext.drewN ?_ _ | refine Below.drew ?_ | refine Below.setCell ?_ ?_ _ | refine Below.alloc ?_ ?_ _)) <;> (first | omega | (simp; done) | (simp; omega))) hb))).mono ?_
  rintro e w1 ⟨rfl, hb1⟩
  have K1 := Lib.hid (Ext.trans (by (repeat' (with_reducible first | exact Below.refl _ _ | refine Ext.drewN ?_ _ | refine Below.drew ?_ | refine Below.setCell ?_ ?_ _ | refine Below.alloc ?_ ?_ _)) <;> (first | omega | (simp; done) | (simp; omega)) : Ext w _) hb1)
  clear hb1
  go_wp2_with fail
  go_ret
  exact ⟨rfl, K1.out⟩
end Go.Proofs.Ytcilkdohpcmbgaa
