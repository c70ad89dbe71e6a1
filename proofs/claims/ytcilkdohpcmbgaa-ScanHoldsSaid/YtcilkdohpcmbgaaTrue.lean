/- ref20.True: of an operation of a list, is a condition true? Conditions: that all can be read. -/
import Derived.Test.YtcilkdohpcmbgaaNode
namespace Go.Proofs.Ytcilkdohpcmbgaa
set_option linter.unusedSimpArgs false
set_option linter.unusedVariables false
open Go.RowKit

/-- what is proved of ref20.True at conditions so deep -/
def TrueAt (V : Value) (l : List OpD) (o : OpD) (d : Nat) : Prop := ∀ (t : ND) (n : NCell) (w : World), RN n n.cells → Nd w d t n → Sl w 11 ROp V l →
  Calls Try.prog 21 #[V, .agg #[.int .i64 n.kind, n.kids, .string n.field, .string n.sign, .int .i64 n.value], o.val] w fun e w' => e = .returned (.bool (trueT l o t)) ∧ Ext w w'

section
variable (A : Option Addr) (c : Nat) (l : List OpD) (o : OpD) (t : ND) (kids : Value) (field sign : ByteArray) (value : Int) (w : World)

theorem true_cmp (hs : Sl w 11 ROp (.slice A l.length c) l) (ht : t.kind = 4) (hf : t.field = field) (hg : t.sign = sign) (hv : t.value = value) :
    Calls Try.prog 21 #[.slice A l.length c, .agg #[.int .i64 4, kids, .string field, .string sign, .int .i64 value], o.val] w fun e w' => e = .returned (.bool (trueT l o t)) ∧ Ext w w' := by
  have HT := Lib.hid (trueT_cmp l o t ht)
  rw [hf, hg, hv] at HT
  have HC : Hid (cmpF o field sign.toList value = (match valueL o field with | some x => soL x sign.toList value | none => false)) := rfl
  clear hs ht hf hg hv
  cases hvl : valueL o field with
  | none =>
    have HV := Lib.hid hvl
    go_enter Try.func21, Try.ntmps21
    go_wp2_with fail
    refine (refValue_any o field _).mono ?_
    rintro e w1 ⟨rfl, hb1⟩
    rw [HV.out]
    have hb := Lib.hid (Ext.trans (by (repeat' (with_reducible first | exact Below.refl _ _ | refine Ext.drewN ?_ _ | refine Below.drew ?_ | refine Below.setCell ?_ ?_ _ | refine Below.alloc ?_ ?_ _)) <;> (first | omega | (simp; done) | (simp; omega)) : Ext w _) hb1)
    clear hb1
    go_wp2_with fail
    go_ret
    exact ⟨by rw [HT.out, HC.out]; simp [HV.out], hb.out⟩
  | some x =>
    have HV := Lib.hid hvl
    go_enter Try.func21, Try.ntmps21
    go_wp2_with fail
    refine (refValue_any o field _).mono ?_
    rintro e w1 ⟨rfl, hb1⟩
    rw [HV.out]
    have c3 : w1.cell? ⟨w.heap.size, 3, none⟩ = some (.string sign) := by rw [hb1.cell (by simp; omega)]; go_simp
    have c4 : w1.cell? ⟨w.heap.size, 4, none⟩ = some (.int .i64 value) := by rw [hb1.cell (by simp; omega)]; go_simp
    have hb := Lib.hid (Ext.trans (by (repeat' (with_reducible first | exact Below.refl _ _ | refine Ext.drewN ?_ _ | refine Below.drew ?_ | refine Below.setCell ?_ ?_ _ | refine Below.alloc ?_ ?_ _)) <;> (first | omega | (simp; done) | (simp; omega)) : Ext w _) hb1)
    clear hb1
    go_wp2_with fail
    refine (refSo_any x value sign _).mono ?_
    rintro e w2 ⟨rfl, hb2⟩
    have hb' := Lib.hid (Ext.trans hb.out hb2)
    clear hb2
    go_wp2_with fail
    go_ret
    exact ⟨by rw [HT.out, HC.out]; simp [HV.out], hb'.out⟩
theorem true_else (k : Int) (h1 : k ≠ 1) (h2 : k ≠ 2) (h3 : k ≠ 3) (h4 : k ≠ 4) (h5 : k ≠ 5) (ht : t.kind = k) :
    Calls Try.prog 21 #[.slice A l.length c, .agg #[.int .i64 k, kids, .string field, .string sign, .int .i64 value], o.val] w fun e w' => e = .returned (.bool (trueT l o t)) ∧ Ext w w' := by
  have HT := Lib.hid (trueT_else l o t (by rw [ht]; exact h1) (by rw [ht]; exact h2) (by rw [ht]; exact h3) (by rw [ht]; exact h4) (by rw [ht]; exact h5))
  rw [ht] at HT
  have q1 : (k == 1) = false := by simpa using h1
  have q2 : (k == 2) = false := by simpa using h2
  have q3 : (k == 3) = false := by simpa using h3
  have q4 : (k == 4) = false := by simpa using h4
  have q5 : (k == 5) = false := by simpa using h5
  have q5' : (k != 5) = true := by simpa using h5
  clear ht h1 h2 h3 h4 h5
  cases hq6 : decide (k = 6) with
  | true =>
    have q6 : (k == 6) = true := by simpa using hq6
    rw [hq6] at HT
    clear hq6
    go_enter Try.func21, Try.ntmps21
    go_wp2_with fail
    go_ret
    exact ⟨by rw [HT.out]; rfl, by (repeat' (with_reducible first | exact Below.refl _ _ | refine Ext.drewN ?_ _ | refine Below.drew ?_ | refine Below.setCell ?_ ?_ _ | refine Below.alloc ?_ ?_ _)) <;> (first | omega | (simp; done) | (simp; omega))⟩
  | false =>
    have q6 : (k == 6) = false := by simpa using hq6
    rw [hq6] at HT
    clear hq6
    go_enter Try.func21, Try.ntmps21
    go_wp2_with fail
    go_ret
    exact ⟨by rw [HT.out]; rfl, by (repeat' (with_reducible first | exact Below.refl _ _ | refine Ext.drewN ?_ _ | refine Below.drew ?_ | refine Below.setCell ?_ ?_ _ | refine Below.alloc ?_ ?_ _)) <;> (first | omega | (simp; done) | (simp; omega))⟩

theorem true_near (hs : Sl w 11 ROp (.slice A l.length c) l) (ht : t.kind = 5) (hf : t.field = field) (hv : t.value = value) :
    Calls Try.prog 21 #[.slice A l.length c, .agg #[.int .i64 5, kids, .string field, .string sign, .int .i64 value], o.val] w fun e w' => e = .returned (.bool (trueT l o t)) ∧ Ext w w' := by
  have HT := Lib.hid (trueT_near l o t ht)
  rw [hf, hv] at HT
  have HC : Hid (nearL l o field.toList value = (match getL l value with | some p => nearB o p field.toList | none => false)) := rfl
  have HS := Lib.hid hs
  clear hs ht hf hv
  have HA := Lib.hid (At11.row (Row1.made' (w := w.alloc (.cells #[.int .i64 5, kids, .string field, .string sign, .int .i64 value] 24)) (n := w.heap.size + 1) (by simp) 58 o.cells))
  have HKS : Hid (∀ W : World, Ext ((w.alloc (.cells #[.int .i64 5, kids, .string field, .string sign, .int .i64 value] 24)).alloc (.cells #[.int .i64 o.id, .int .i64 o.proc, .int .i64 o.object, .int .i64 o.kind, .int .i64 o.method, .int .i64 o.arg, .int .i64 o.second, .bool o.done, .int .i64 o.result, .int .i64 o.invoke, .int .i64 o.ret] 58)) W → At11 W (w.heap.size + 1) o ∧ W.cell? ⟨w.heap.size, 2, none⟩ = some (.string field)) :=
    fun W hb => ⟨HA.out.ext hb (by simp), by rw [hb.cell (by simp; omega)]; go_simp⟩
  clear HA
  cases hg : getL l value with
  | none =>
    have HV := Lib.hid hg
    go_enter Try.func21, Try.ntmps21
    go_wp2_with fail
    refine (refGet_any _ l value _ (HS.out.ext (by (repeat' (with_reducible first | exact Below.refl _ _ | refine Ext.drewN ?_ _ | refine Below.drew ?_ | refine Below.setCell ?_ ?_ _ | refine Below.alloc ?_ ?_ _)) <;> (first | omega | (simp; done) | (simp; omega))))).mono ?_
    rintro e w1 ⟨rfl, hb1⟩
    rw [HV.out]
    have hb := Lib.hid (Ext.trans (by (repeat' (with_reducible first | exact Below.refl _ _ | refine Ext.drewN ?_ _ | refine Below.drew ?_ | refine Below.setCell ?_ ?_ _ | refine Below.alloc ?_ ?_ _)) <;> (first | omega | (simp; done) | (simp; omega)) : Ext w _) hb1)
    have hz1 := hb1.size
    simp at hz1
    clear hb1
    simp only [Option.getD_none, Option.isSome_none]
    unfold opZero
    dsimp only [OpD.val]
    go_wp2_with fail
    go_ret
    exact ⟨by rw [HT.out, HC.out]; simp [HV.out], by (repeat' (with_reducible first | exact hb.out | exact Below.refl _ _ | refine Ext.drewN ?_ _ | refine Below.drew ?_ | refine Below.setCell ?_ ?_ _ | refine Below.alloc ?_ ?_ _)) <;> (first | omega | (simp; done) | (simp; omega))⟩
  | some p =>
    have HV := Lib.hid hg
    have HN : Hid (trueT l o t = nearB o p field.toList) := by unfold Hid; rw [HT.out, HC.out]; simp [HV.out]
    go_enter Try.func21, Try.ntmps21
    go_wp2_with fail
    refine (refGet_any _ l value _ (HS.out.ext (by (repeat' (with_reducible first | exact Below.refl _ _ | refine Ext.drewN ?_ _ | refine Below.drew ?_ | refine Below.setCell ?_ ?_ _ | refine Below.alloc ?_ ?_ _)) <;> (first | omega | (simp; done) | (simp; omega))))).mono ?_
    rintro e w1 ⟨rfl, hb1⟩
    rw [HV.out]
    simp only [Option.getD_some, Option.isSome_some]
    obtain ⟨⟨a0, a1, a2, a3, a4, a5, a6, a7, a8, a9, a10⟩, b2⟩ := HKS.out _ hb1
    have hz1 := hb1.size
    simp at hz1
    have hlt0 : w.heap.size < w1.heap.size := by omega
    have hlt1 : w.heap.size + 1 < w1.heap.size := by omega
    have HKS1 : Hid (∀ W : World, Ext w1 W → At11 W (w.heap.size + 1) o) := fun W hb => (HKS.out W (Ext.trans hb1 hb)).1
    have hb := Lib.hid (Ext.trans (by (repeat' (with_reducible first | exact Below.refl _ _ | refine Ext.drewN ?_ _ | refine Below.drew ?_ | refine Below.setCell ?_ ?_ _ | refine Below.alloc ?_ ?_ _)) <;> (first | omega | (simp; done) | (simp; omega)) : Ext w _) hb1)
    clear hb1 hg HS HC HT HV HKS
    have HP : Hid (∀ W : World, Ext (w1.alloc (.cells #[.int .i64 p.id, .int .i64 p.proc, .int .i64 p.object, .int .i64 p.kind, .int .i64 p.method, .int .i64 p.arg, .int .i64 p.second, .bool p.done, .int .i64 p.result, .int .i64 p.invoke, .int .i64 p.ret] 58)) W → At11 W w1.heap.size p) := fun W hb => (At11.row (Row1.made w1 58 p.cells)).ext hb (by simp)
    by_cases f1 : field.toList = [98, 101, 102, 111, 114, 101]
    · have HF : Hid (nearB o p field.toList = beforeL o p) := by unfold Hid nearB; rw [if_pos f1]
      go_wp2_with fail
      refine (refBefore_any o p _).mono ?_
      rintro e w2 ⟨rfl, hb2⟩
      have hb2' := Lib.hid (Ext.trans (by (repeat' (with_reducible first | exact hb.out | exact Below.refl _ _ | refine Ext.drewN ?_ _ | refine Below.drew ?_ | refine Below.setCell ?_ ?_ _ | refine Below.alloc ?_ ?_ _)) <;> (first | omega | (simp; done) | (simp; omega)) : Ext w _) hb2)
      clear hb2
      go_wp2_with fail
      go_ret
      exact ⟨by rw [HN.out, HF.out]; rfl, hb2'.out⟩
    · by_cases f2 : field.toList = [97, 102, 116, 101, 114]
      · have HF : Hid (nearB o p field.toList = beforeL p o) := by unfold Hid nearB; rw [if_neg f1, if_pos f2]
        go_wp2_with fail
        refine (refBefore_any p o _).mono ?_
        rintro e w2 ⟨rfl, hb2⟩
        have hb2' := Lib.hid (Ext.trans (by (repeat' (with_reducible first | exact hb.out | exact Below.refl _ _ | refine Ext.drewN ?_ _ | refine Below.drew ?_ | refine Below.setCell ?_ ?_ _ | refine Below.alloc ?_ ?_ _)) <;> (first | omega | (simp; done) | (simp; omega)) : Ext w _) hb2)
        clear hb2
        go_wp2_with fail
        go_ret
        exact ⟨by rw [HN.out, HF.out]; rfl, hb2'.out⟩
      · by_cases f3 : field.toList = [111, 118, 101, 114, 108, 97, 112, 115]
        · have HF : Hid (nearB o p field.toList = (!beforeL o p && !beforeL p o)) := by unfold Hid nearB; rw [if_neg f1, if_neg f2, if_pos f3]
          go_wp2_with fail
          refine (refBefore_any o p _).mono ?_
          rintro e w2 ⟨rfl, hb2⟩
          have hb2' := Lib.hid (Ext.trans (by (repeat' (with_reducible first | exact hb.out | exact Below.refl _ _ | refine Ext.drewN ?_ _ | refine Below.drew ?_ | refine Below.setCell ?_ ?_ _ | refine Below.alloc ?_ ?_ _)) <;> (first | omega | (simp; done) | (simp; omega)) : Ext w _) hb2)
          obtain ⟨p0, p1, p2, p3, p4, p5, p6, p7, p8, p9, p10⟩ := HP.out _ hb2
          clear a0 a1 a2 a3 a4 a5 a6 a7 a8 a9 a10
          obtain ⟨a0, a1, a2, a3, a4, a5, a6, a7, a8, a9, a10⟩ := HKS1.out _ (Ext.trans (Ext.alloc _ _) hb2)
          clear hb2
          cases hq : beforeL o p with
          | true =>
            rw [hq] at HF
            go_wp2_with fail
            go_ret
            exact ⟨by rw [HN.out, HF.out]; rfl, hb2'.out⟩
          | false =>
            rw [hq] at HF
            go_wp2_with fail
            refine (refBefore_any p o _).mono ?_
            rintro e w3 ⟨rfl, hb3⟩
            have hb3' := Lib.hid (Ext.trans hb2'.out hb3)
            clear hb3
            go_wp2_with fail
            go_ret
            exact ⟨by rw [HN.out, HF.out]; rfl, hb3'.out⟩
        · have HF : Hid (nearB o p field.toList = false) := by unfold Hid nearB; rw [if_neg f1, if_neg f2, if_neg f3]
          have g1 : (field.toList == [98, 101, 102, 111, 114, 101]) = false := by simpa using f1
          have g2 : (field.toList == [97, 102, 116, 101, 114]) = false := by simpa using f2
          have g3 : (field.toList == [111, 118, 101, 114, 108, 97, 112, 115]) = false := by simpa using f3
          clear f1 f2 f3
          go_wp2_with fail
          go_ret
          exact ⟨by rw [HN.out, HF.out]; rfl, by (repeat' (with_reducible first | exact hb.out | exact Below.refl _ _ | refine Ext.drewN ?_ _ | refine Below.drew ?_ | refine Below.setCell ?_ ?_ _ | refine Below.alloc ?_ ?_ _)) <;> (first | omega | (simp; done) | (simp; omega))⟩
end
end Go.Proofs.Ytcilkdohpcmbgaa
