/- find's asker.holds, first half: closures, 'or', 'and', comparisons. Conditions: that all can be read. Printed by holds2.py. -/
import Derived.Test.YtcilkdohpcmbgaaHolds1
import Derived.Shelf.Abstract
namespace Go.Proofs.Ytcilkdohpcmbgaa
set_option linter.unusedSimpArgs false
set_option linter.unusedVariables false
open Go.RowKit

/-- what is asked of the closure by which other operations are known -/
def GetAt (g : FuncId) (cp : Value) (l : List OpD) (w : World) : Prop := ∀ (id : Int) (W : World), Ext w W →
  Calls Try.prog g #[.int .i64 id, cp] W fun e w' => (∃ p : OpD, e = .returned (.tuple #[p.val, .bool (getL l id).isSome]) ∧ ∀ q, getL l id = some q → p = q) ∧ Ext W w'
/-- what is proved of asker.holds at conditions so deep -/
def HoldsAt (g : FuncId) (cp : Value) (l : List OpD) (o : OpD) (d : Nat) : Prop := ∀ (t : ND) (n : NCell) (w : World), RN n n.cells → Nd w d t n → GetAt g cp l w →
  Calls Try.prog 40 #[.agg #[.func (.func g) #[] #[cp]], .agg #[.int .i64 n.kind, n.kids, .string n.field, .string n.sign, .int .i64 n.value], o.val] w fun e w' => e = .returned (.bool (trueT l o t)) ∧ Ext w w'

section
variable (g : FuncId) (cp : Value) (l : List OpD) (o : OpD) (t : ND) (kids : Value) (field sign : ByteArray) (value : Int) (w : World)

set_option maxHeartbeats 800000 in
theorem clo_or (d : Nat) (ih : HoldsAt g cp l o d) (x : ND) (n : NCell) (W : World) (hn : RN n n.cells) (hd : Nd W d x n) (hg : GetAt g cp l W) (ba bo : Nat) (hc : W.cell? ⟨ba, 0, none⟩ = some (.func (.func g) #[] #[cp])) (ho : At11 W bo o) :
    Calls Try.prog 58 #[.agg #[.int .i64 n.kind, n.kids, .string n.field, .string n.sign, .int .i64 n.value], .pointer (some ⟨ba, 0, none⟩), .pointer (some ⟨bo, 0, none⟩)] W fun e w' => e = .returned (.bool (trueT l o x)) ∧ Ext W w' := by
  obtain ⟨kA, kn, kc, hkk⟩ := hn.2.2.2
  have HRN := Lib.hid hn
  have HD := Lib.hid hd
  have HG := Lib.hid hg
  have IH := Lib.hid ih
  have l0 := World.block_lt_of_cell? _ _ hc
  have l1 := World.block_lt_of_cell? _ _ ho.1
  simp only [] at l0 l1
  clear hn hd hg ih
  obtain ⟨nk, nkids, nf, ns, nv⟩ := n
  dsimp only at *
  subst hkk
  obtain ⟨a0, a1, a2, a3, a4, a5, a6, a7, a8, a9, a10⟩ := ho
  go_enter Try.func58, Try.ntmps58
  go_wp2_with fail
  refine (IH.out x ⟨nk, .slice kA kn kc, nf, ns, nv⟩ _ HRN.out (HD.out.ext (by (repeat' (with_reducible first | exact Below.refl _ _ | refine Ext.drewN ?_ _ | refine Below.drew ?_ | refine Below.setCell ?_ ?_ _ | refine Below.alloc ?_ ?_ _)) <;> (first | omega | (simp; done) | (simp; omega)))) (fun id W' hb => HG.out id W' (Ext.trans (by (repeat' (with_reducible first | exact Below.refl _ _ | refine Ext.drewN ?_ _ | refine Below.drew ?_ | refine Below.setCell ?_ ?_ _ | refine Below.alloc ?_ ?_ _)) <;> (first | omega | (simp; done) | (simp; omega))) hb))).mono ?_
  rintro e w1 ⟨rfl, hb1⟩
  have K1 := Lib.hid (Ext.trans (by (repeat' (with_reducible first | exact Below.refl _ _ | refine Ext.drewN ?_ _ | refine Below.drew ?_ | refine Below.setCell ?_ ?_ _ | refine Below.alloc ?_ ?_ _)) <;> (first | omega | (simp; done) | (simp; omega)) : Ext W _) hb1)
  clear hb1
  go_wp2_with fail
  go_ret
  exact ⟨rfl, K1.out⟩

set_option maxHeartbeats 800000 in
theorem clo_and (d : Nat) (ih : HoldsAt g cp l o d) (x : ND) (n : NCell) (W : World) (hn : RN n n.cells) (hd : Nd W d x n) (hg : GetAt g cp l W) (ba bo : Nat) (hc : W.cell? ⟨ba, 0, none⟩ = some (.func (.func g) #[] #[cp])) (ho : At11 W bo o) :
    Calls Try.prog 59 #[.agg #[.int .i64 n.kind, n.kids, .string n.field, .string n.sign, .int .i64 n.value], .pointer (some ⟨ba, 0, none⟩), .pointer (some ⟨bo, 0, none⟩)] W fun e w' => e = .returned (.bool (!trueT l o x)) ∧ Ext W w' := by
  obtain ⟨kA, kn, kc, hkk⟩ := hn.2.2.2
  have HRN := Lib.hid hn
  have HD := Lib.hid hd
  have HG := Lib.hid hg
  have IH := Lib.hid ih
  have l0 := World.block_lt_of_cell? _ _ hc
  have l1 := World.block_lt_of_cell? _ _ ho.1
  simp only [] at l0 l1
  clear hn hd hg ih
  obtain ⟨nk, nkids, nf, ns, nv⟩ := n
  dsimp only at *
  subst hkk
  obtain ⟨a0, a1, a2, a3, a4, a5, a6, a7, a8, a9, a10⟩ := ho
  go_enter Try.func59, Try.ntmps59
  go_wp2_with fail
  refine (IH.out x ⟨nk, .slice kA kn kc, nf, ns, nv⟩ _ HRN.out (HD.out.ext (by (repeat' (with_reducible first | exact Below.refl _ _ | refine Ext.drewN ?_ _ | refine Below.drew ?_ | refine Below.setCell ?_ ?_ _ | refine Below.alloc ?_ ?_ _)) <;> (first | omega | (simp; done) | (simp; omega)))) (fun id W' hb => HG.out id W' (Ext.trans (by (repeat' (with_reducible first | exact Below.refl _ _ | refine Ext.drewN ?_ _ | refine Below.drew ?_ | refine Below.setCell ?_ ?_ _ | refine Below.alloc ?_ ?_ _)) <;> (first | omega | (simp; done) | (simp; omega))) hb))).mono ?_
  rintro e w1 ⟨rfl, hb1⟩
  have K1 := Lib.hid (Ext.trans (by (repeat' (with_reducible first | exact Below.refl _ _ | refine Ext.drewN ?_ _ | refine Below.drew ?_ | refine Below.setCell ?_ ?_ _ | refine Below.alloc ?_ ?_ _)) <;> (first | omega | (simp; done) | (simp; omega)) : Ext W _) hb1)
  clear hb1
  go_wp2_with fail
  go_ret
  exact ⟨rfl, K1.out⟩

set_option maxRecDepth 100000 in
set_option maxHeartbeats 2000000 in
theorem holds_or (d : Nat) (ih : HoldsAt g cp l o d) (hg : GetAt g cp l w) (ht : t.kind = 1) (KA : Option Addr) (Kc : Nat) (ks : List NCell) (hks : Sl w 5 RN (.slice KA ks.length Kc) ks) (hlen : ks.length = t.kids.length)
    (hnd : ∀ (i : Nat) (x : ND) (y : NCell), t.kids[i]? = some x → ks[i]? = some y → Nd w d x y) :
    Calls Try.prog 40 #[.agg #[.func (.func g) #[] #[cp]], .agg #[.int .i64 1, .slice KA ks.length Kc, .string field, .string sign, .int .i64 value], o.val] w fun e w' => e = .returned (.bool (trueT l o t)) ∧ Ext w w' := by
  have HT : Hid (trueT l o t = t.kids.any (fun x => trueT l o x)) := by unfold Hid; rw [trueT_or l o t ht]
  have hmf : ∀ (fn : Fn) (first cap : Array Value) (w : World), (Instr.makeFunc fn first cap).run Try.prog w = .ok (.func fn first cap) w := fun _ _ _ _ => rfl
  have HQ : Hid (Ext w (((w.alloc (.cells #[.func (.func g) #[] #[cp]] 88)).alloc (.cells #[.int .i64 1, .slice KA ks.length Kc, .string field, .string sign, .int .i64 value] 24)).alloc (.cells #[.int .i64 o.id, .int .i64 o.proc, .int .i64 o.object, .int .i64 o.kind, .int .i64 o.method, .int .i64 o.arg, .int .i64 o.second, .bool o.done, .int .i64 o.result, .int .i64 o.invoke, .int .i64 o.ret] 58))) := by unfold Hid; (repeat' (with_reducible first | exact Below.refl _ _ | refine Ext.drewN ?_ _ | refine Below.drew ?_ | refine Below.setCell ?_ ?_ _ | refine Below.alloc ?_ ?_ _)) <;> (first | omega | (simp; done) | (simp; omega))
  have HB0 := Lib.hid (At11.row (Row1.made' (w := (w.alloc (.cells #[.func (.func g) #[] #[cp]] 88)).alloc (.cells #[.int .i64 1, .slice KA ks.length Kc, .string field, .string sign, .int .i64 value] 24)) (n := w.heap.size + 1 + 1) (by simp) 58 o.cells))
  have HCL : Hid (∀ (x : ND) (n : NCell) (W : World), Ext (((w.alloc (.cells #[.func (.func g) #[] #[cp]] 88)).alloc (.cells #[.int .i64 1, .slice KA ks.length Kc, .string field, .string sign, .int .i64 value] 24)).alloc (.cells #[.int .i64 o.id, .int .i64 o.proc, .int .i64 o.object, .int .i64 o.kind, .int .i64 o.method, .int .i64 o.arg, .int .i64 o.second, .bool o.done, .int .i64 o.result, .int .i64 o.invoke, .int .i64 o.ret] 58)) W → RN n n.cells → Nd W d x n → Calls Try.prog 58 #[.agg #[.int .i64 n.kind, n.kids, .string n.field, .string n.sign, .int .i64 n.value], .pointer (some ⟨w.heap.size, 0, none⟩), .pointer (some ⟨w.heap.size + 1 + 1, 0, none⟩)] W fun e w' => e = .returned (.bool (trueT l o x)) ∧ Ext W w') :=
    fun x n W hb hn hd => clo_or g cp l o d ih x n W hn hd (fun id W' hb' => hg id W' (Ext.trans HQ.out (Ext.trans hb hb'))) _ _ (by rw [hb.cell (by first | (simp; done) | (simp; omega) | omega)]; go_simp) (HB0.out.ext hb (by simp))
  have HKS := Lib.hid (hks.ext HQ.out)
  have HND : Hid (∀ (i : Nat) (x : ND) (y : NCell), t.kids[i]? = some x → ks[i]? = some y → Nd (((w.alloc (.cells #[.func (.func g) #[] #[cp]] 88)).alloc (.cells #[.int .i64 1, .slice KA ks.length Kc, .string field, .string sign, .int .i64 value] 24)).alloc (.cells #[.int .i64 o.id, .int .i64 o.proc, .int .i64 o.object, .int .i64 o.kind, .int .i64 o.method, .int .i64 o.arg, .int .i64 o.second, .bool o.done, .int .i64 o.result, .int .i64 o.invoke, .int .i64 o.ret] 58)) d x y) := fun i x y h1 h2 => (hnd i x y h1 h2).ext HQ.out
  have HLEN := Lib.hid hlen
  clear ih hg ht hks hlen hnd HB0
  go_enter Try.func40, Try.ntmps40
  go_wp2_with fail
  refine (nodeContains_any 58 (fun x => (trueT l o x)) d _ _ KA Kc ks t.kids (Go.Proofs.enters_of Try.func58 (by kernel_rfl) rfl) _ HCL.out HKS.out HLEN.out HND.out).mono ?_
  rintro e w1 ⟨rfl, hb1⟩
  have K1 := Lib.hid (Ext.trans HQ.out hb1)
  clear hb1
  go_wp2_with fail
  go_ret
  exact ⟨by rw [HT.out]; rfl, K1.out⟩

set_option maxRecDepth 100000 in
set_option maxHeartbeats 2000000 in
theorem holds_and (d : Nat) (ih : HoldsAt g cp l o d) (hg : GetAt g cp l w) (ht : t.kind = 2) (KA : Option Addr) (Kc : Nat) (ks : List NCell) (hks : Sl w 5 RN (.slice KA ks.length Kc) ks) (hlen : ks.length = t.kids.length)
    (hnd : ∀ (i : Nat) (x : ND) (y : NCell), t.kids[i]? = some x → ks[i]? = some y → Nd w d x y) :
    Calls Try.prog 40 #[.agg #[.func (.func g) #[] #[cp]], .agg #[.int .i64 2, .slice KA ks.length Kc, .string field, .string sign, .int .i64 value], o.val] w fun e w' => e = .returned (.bool (trueT l o t)) ∧ Ext w w' := by
  have HT : Hid (trueT l o t = !t.kids.any (fun x => !trueT l o x)) := by unfold Hid; rw [trueT_and l o t ht, List.all_eq_not_any_not]
  have hmf : ∀ (fn : Fn) (first cap : Array Value) (w : World), (Instr.makeFunc fn first cap).run Try.prog w = .ok (.func fn first cap) w := fun _ _ _ _ => rfl
  have HQ : Hid (Ext w (((w.alloc (.cells #[.func (.func g) #[] #[cp]] 88)).alloc (.cells #[.int .i64 2, .slice KA ks.length Kc, .string field, .string sign, .int .i64 value] 24)).alloc (.cells #[.int .i64 o.id, .int .i64 o.proc, .int .i64 o.object, .int .i64 o.kind, .int .i64 o.method, .int .i64 o.arg, .int .i64 o.second, .bool o.done, .int .i64 o.result, .int .i64 o.invoke, .int .i64 o.ret] 58))) := by unfold Hid; (repeat' (with_reducible first | exact Below.refl _ _ | refine Ext.drewN ?_ _ | refine Below.drew ?_ | refine Below.setCell ?_ ?_ _ | refine Below.alloc ?_ ?_ _)) <;> (first | omega | (simp; done) | (simp; omega))
  have HB0 := Lib.hid (At11.row (Row1.made' (w := (w.alloc (.cells #[.func (.func g) #[] #[cp]] 88)).alloc (.cells #[.int .i64 2, .slice KA ks.length Kc, .string field, .string sign, .int .i64 value] 24)) (n := w.heap.size + 1 + 1) (by simp) 58 o.cells))
  have HCL : Hid (∀ (x : ND) (n : NCell) (W : World), Ext (((w.alloc (.cells #[.func (.func g) #[] #[cp]] 88)).alloc (.cells #[.int .i64 2, .slice KA ks.length Kc, .string field, .string sign, .int .i64 value] 24)).alloc (.cells #[.int .i64 o.id, .int .i64 o.proc, .int .i64 o.object, .int .i64 o.kind, .int .i64 o.method, .int .i64 o.arg, .int .i64 o.second, .bool o.done, .int .i64 o.result, .int .i64 o.invoke, .int .i64 o.ret] 58)) W → RN n n.cells → Nd W d x n → Calls Try.prog 59 #[.agg #[.int .i64 n.kind, n.kids, .string n.field, .string n.sign, .int .i64 n.value], .pointer (some ⟨w.heap.size, 0, none⟩), .pointer (some ⟨w.heap.size + 1 + 1, 0, none⟩)] W fun e w' => e = .returned (.bool (!trueT l o x)) ∧ Ext W w') :=
    fun x n W hb hn hd => clo_and g cp l o d ih x n W hn hd (fun id W' hb' => hg id W' (Ext.trans HQ.out (Ext.trans hb hb'))) _ _ (by rw [hb.cell (by first | (simp; done) | (simp; omega) | omega)]; go_simp) (HB0.out.ext hb (by simp))
  have HKS := Lib.hid (hks.ext HQ.out)
  have HND : Hid (∀ (i : Nat) (x : ND) (y : NCell), t.kids[i]? = some x → ks[i]? = some y → Nd (((w.alloc (.cells #[.func (.func g) #[] #[cp]] 88)).alloc (.cells #[.int .i64 2, .slice KA ks.length Kc, .string field, .string sign, .int .i64 value] 24)).alloc (.cells #[.int .i64 o.id, .int .i64 o.proc, .int .i64 o.object, .int .i64 o.kind, .int .i64 o.method, .int .i64 o.arg, .int .i64 o.second, .bool o.done, .int .i64 o.result, .int .i64 o.invoke, .int .i64 o.ret] 58)) d x y) := fun i x y h1 h2 => (hnd i x y h1 h2).ext HQ.out
  have HLEN := Lib.hid hlen
  clear ih hg ht hks hlen hnd HB0
  go_enter Try.func40, Try.ntmps40
  go_wp2_with fail
  refine (nodeContains_any 59 (fun x => (!trueT l o x)) d _ _ KA Kc ks t.kids (Go.Proofs.enters_of Try.func59 (by kernel_rfl) rfl) _ HCL.out HKS.out HLEN.out HND.out).mono ?_
  rintro e w1 ⟨rfl, hb1⟩
  have K1 := Lib.hid (Ext.trans HQ.out hb1)
  clear hb1
  go_wp2_with fail
  go_ret
  exact ⟨by rw [HT.out]; rfl, K1.out⟩

theorem holds_cmp (ht : t.kind = 4) (hf : t.field = field) (hg : t.sign = sign) (hv : t.value = value) :
    Calls Try.prog 40 #[.agg #[.func (.func g) #[] #[cp]], .agg #[.int .i64 4, kids, .string field, .string sign, .int .i64 value], o.val] w fun e w' => e = .returned (.bool (trueT l o t)) ∧ Ext w w' := by
  have HT := Lib.hid (trueT_cmp l o t ht)
  rw [hf, hg, hv] at HT
  have HC : Hid (cmpF o field sign.toList value = (match valueL o field with | some x => soL x sign.toList value | none => false)) := rfl
  clear ht hf hg hv
  cases hvl : valueL o field with
  | none =>
    have HV := Lib.hid hvl
    go_enter Try.func40, Try.ntmps40
    go_wp2_with fail
    refine (findValue_any o field _).mono ?_
    rintro e w1 ⟨rfl, hb1⟩
    rw [HV.out]
    have hb := Lib.hid (Ext.trans (by (repeat' (with_reducible first | exact Below.refl _ _ | refine Ext.drewN ?_ _ | refine Below.drew ?_ | refine Below.setCell ?_ ?_ _ | refine Below.alloc ?_ ?_ _)) <;> (first | omega | (simp; done) | (simp; omega)) : Ext w _) hb1)
    clear hb1
    go_wp2_with fail
    go_ret
    exact ⟨by rw [HT.out, HC.out]; simp [HV.out], hb.out⟩
  | some x =>
    have HV := Lib.hid hvl
    go_enter Try.func40, Try.ntmps40
    go_wp2_with fail
    refine (findValue_any o field _).mono ?_
    rintro e w1 ⟨rfl, hb1⟩
    rw [HV.out]
    have c3 : w1.cell? ⟨w.heap.size + 1, 3, none⟩ = some (.string sign) := by rw [hb1.cell (by first | (simp; done) | (simp; omega) | omega)]; go_simp
    have c4 : w1.cell? ⟨w.heap.size + 1, 4, none⟩ = some (.int .i64 value) := by rw [hb1.cell (by first | (simp; done) | (simp; omega) | omega)]; go_simp
    have hb := Lib.hid (Ext.trans (by (repeat' (with_reducible first | exact Below.refl _ _ | refine Ext.drewN ?_ _ | refine Below.drew ?_ | refine Below.setCell ?_ ?_ _ | refine Below.alloc ?_ ?_ _)) <;> (first | omega | (simp; done) | (simp; omega)) : Ext w _) hb1)
    clear hb1
    go_wp2_with fail
    refine (findCompare_any x value sign _).mono ?_
    rintro e w2 ⟨rfl, hb2⟩
    have hb' := Lib.hid (Ext.trans hb.out hb2)
    clear hb2
    go_wp2_with fail
    go_ret
    exact ⟨by rw [HT.out, HC.out]; simp [HV.out], hb'.out⟩
theorem holds_else (k : Int) (h1 : k ≠ 1) (h2 : k ≠ 2) (h3 : k ≠ 3) (h4 : k ≠ 4) (h5 : k ≠ 5) (ht : t.kind = k) :
    Calls Try.prog 40 #[.agg #[.func (.func g) #[] #[cp]], .agg #[.int .i64 k, kids, .string field, .string sign, .int .i64 value], o.val] w fun e w' => e = .returned (.bool (trueT l o t)) ∧ Ext w w' := by
  have HT := Lib.hid (trueT_else l o t (by rw [ht]; exact h1) (by rw [ht]; exact h2) (by rw [ht]; exact h3) (by rw [ht]; exact h4) (by rw [ht]; exact h5))
  rw [ht] at HT
  have q1 : (k == 1) = false := by simpa using h1
  have q2 : (k == 2) = false := by simpa using h2
  have q3 : (k == 3) = false := by simpa using h3
  have q4 : (k == 4) = false := by simpa using h4
  have q5 : (k == 5) = false := by simpa using h5
  clear ht h1 h2 h3 h4 h5
  cases hq6 : decide (k = 6) with
  | true =>
    have q6 : (k == 6) = true := by simpa using hq6
    rw [hq6] at HT
    clear hq6
    go_enter Try.func40, Try.ntmps40
    go_wp2_with fail
    go_ret
    exact ⟨by rw [HT.out]; rfl, by (repeat' (with_reducible first | exact Below.refl _ _ | refine Ext.drewN ?_ _ | refine Below.drew ?_ | refine Below.setCell ?_ ?_ _ | refine Below.alloc ?_ ?_ _)) <;> (first | omega | (simp; done) | (simp; omega))⟩
  | false =>
    have q6 : (k == 6) = false := by simpa using hq6
    rw [hq6] at HT
    clear hq6
    go_enter Try.func40, Try.ntmps40
    go_wp2_with fail
    go_ret
    exact ⟨by rw [HT.out]; rfl, by (repeat' (with_reducible first | exact Below.refl _ _ | refine Ext.drewN ?_ _ | refine Below.drew ?_ | refine Below.setCell ?_ ?_ _ | refine Below.alloc ?_ ?_ _)) <;> (first | omega | (simp; done) | (simp; omega))⟩
end
end Go.Proofs.Ytcilkdohpcmbgaa

