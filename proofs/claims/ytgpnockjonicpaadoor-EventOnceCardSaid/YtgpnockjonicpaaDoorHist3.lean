/- Which operation was answered ahead of which (op.Before, ref10.Before, op.Overlap). No conditions. -/
/- slices.ContainsFunc at operations, by any closure that tells a bool of each; hist.beside's closures. Conditions: that all can be read. -/
/- hist.beside, ref12.beside: what is wrong with an operation beside others. Conditions: that all can be read. -/
/- ref12.beside. Conditions: that all can be read. -/
import Derived.Test.YtgpnockjonicpaaDoorOps2
import Derived.Test.YtgpnockjonicpaaDoorOwnL
import Derived.Shelf.Abstract
namespace Go.Proofs.YtgpnockjonicpaaDoor
set_option linter.unusedSimpArgs false
set_option linter.unusedVariables false
open Go.RowKit

def beforeL (a b : OpD) : Bool := a.done && decide (a.ret < b.invoke)
theorem opBefore_any (a b : OpD) (w : World) :
    Calls Tryd.prog 90 #[a.val, b.val] w fun e w' => e = .returned (.bool (beforeL a b)) ∧ Ext w w' := by
  cases hd : a.done with
  | true =>
    go_enter Tryd.func90, Tryd.ntmps90
    go_wp2
    go_ret
    exact ⟨by simp [beforeL, hd], by (repeat' (with_reducible first | exact Below.refl _ _ | refine Ext.drewN ?_ _ | refine Below.drew ?_ | refine Below.setCell ?_ ?_ _ | refine Below.alloc ?_ ?_ _)) <;> (first | omega | (simp; done) | (simp; omega))⟩
  | false =>
    go_enter Tryd.func90, Tryd.ntmps90
    go_wp2
    go_ret
    exact ⟨by simp [beforeL, hd], by (repeat' (with_reducible first | exact Below.refl _ _ | refine Ext.drewN ?_ _ | refine Below.drew ?_ | refine Below.setCell ?_ ?_ _ | refine Below.alloc ?_ ?_ _)) <;> (first | omega | (simp; done) | (simp; omega))⟩
theorem refBefore_any (a b : OpD) (w : World) :
    Calls Tryd.prog 38 #[a.val, b.val] w fun e w' => e = .returned (.bool (beforeL a b)) ∧ Ext w w' := by
  cases hd : a.done with
  | true =>
    go_enter Tryd.func38, Tryd.ntmps38
    go_wp2
    go_ret
    exact ⟨by simp [beforeL, hd], by (repeat' (with_reducible first | exact Below.refl _ _ | refine Ext.drewN ?_ _ | refine Below.drew ?_ | refine Below.setCell ?_ ?_ _ | refine Below.alloc ?_ ?_ _)) <;> (first | omega | (simp; done) | (simp; omega))⟩
  | false =>
    go_enter Tryd.func38, Tryd.ntmps38
    go_wp2
    go_ret
    exact ⟨by simp [beforeL, hd], by (repeat' (with_reducible first | exact Below.refl _ _ | refine Ext.drewN ?_ _ | refine Below.drew ?_ | refine Below.setCell ?_ ?_ _ | refine Below.alloc ?_ ?_ _)) <;> (first | omega | (simp; done) | (simp; omega))⟩
theorem opOverlap_any (a b : OpD) (w : World) :
    Calls Tryd.prog 75 #[a.val, b.val] w fun e w' => e = .returned (.bool (!beforeL a b && !beforeL b a)) ∧ Ext w w' := by
  have HA := Lib.hid (At11.row ((Row1.made w 40 a.cells).alloc (.cells b.cells.toArray 40)))
  have HB := Lib.hid (At11.row (Row1.made' (w := w.alloc (.cells a.cells.toArray 40)) (n := w.heap.size + 1) (by simp) 40 b.cells))
  have HKS : Hid (∀ W : World, Ext ((w.alloc (.cells a.cells.toArray 40)).alloc (.cells b.cells.toArray 40)) W → At11 W w.heap.size a ∧ At11 W (w.heap.size + 1) b) := fun W hb => ⟨HA.out.ext hb (by simp; omega), HB.out.ext hb (by simp)⟩
  have HQ : Hid (Ext w ((w.alloc (.cells a.cells.toArray 40)).alloc (.cells b.cells.toArray 40))) := by unfold Hid; (repeat' (with_reducible first | exact Below.refl _ _ | refine Ext.drewN ?_ _ | refine Below.drew ?_ | refine Below.setCell ?_ ?_ _ | refine Below.alloc ?_ ?_ _)) <;> (first | omega | (simp; done) | (simp; omega))
  simp only [OpD.cells] at HKS HQ
  clear HA HB
  go_enter Tryd.func75, Tryd.ntmps75
  go_wp2_with fail
  refine (opBefore_any a b _).mono ?_
  rintro e w1 ⟨rfl, hb1⟩
  have K1 := Lib.hid hb1
  obtain ⟨⟨a0, a1, a2, a3, a4, a5, a6, a7, a8, a9, a10⟩, ⟨b0, b1, b2, b3, b4, b5, b6, b7, b8, b9, b10⟩⟩ := HKS.out _ hb1
  clear hb1
  have hz1 := K1.out.size
  cases hq : beforeL a b with
  | true =>
    go_wp2_with fail
    go_ret
    exact ⟨by simp [hq], HQ.out.trans K1.out⟩
  | false =>
    go_wp2_with fail
    refine (opBefore_any b a _).mono ?_
    rintro e w2 ⟨rfl, hb2⟩
    have K2 := Lib.hid (Ext.trans K1.out hb2)
    clear hb2
    go_wp2_with fail
    go_ret
    exact ⟨by simp [hq], HQ.out.trans K2.out⟩
end Go.Proofs.YtgpnockjonicpaaDoor
namespace Go.Proofs.YtgpnockjonicpaaDoor
set_option linter.unusedSimpArgs false
set_option linter.unusedVariables false
open Go.RowKit

section
variable (fid : FuncId) (pr : OpD → Bool) (pa po : Value) (A : Option Addr) (c : Nat) (l : List OpD)
set_option maxRecDepth 100000 in
set_option maxHeartbeats 800000 in
theorem opsIndex_any (efid : ∀ args w, (callFunc fid args).run Tryd.prog w = .ok (.enter fid args) w) (w : World) (hcl : ∀ (x : OpD) (W : World), Ext w W → Calls Tryd.prog fid #[x.val, pa, po] W fun e w' => e = .returned (.bool (pr x)) ∧ Ext W w')
    (hs : Sl w 11 ROp (.slice A l.length c) l) :
    Calls Tryd.prog 89 #[.slice A l.length c, .func (.func fid) #[] #[pa, po]] w fun e w' => (∃ r : Int, e = .returned (.int .i64 r) ∧ decide (0 ≤ r) = l.any pr) ∧ Ext w w' := by
  have HCL := Lib.hid hcl
  obtain ⟨_, hc1, hc2, hA⟩ := hs.at
  have HA := Lib.hid hA
  clear hcl hs hA
  go_enter Tryd.func89, Tryd.ntmps89
  go_wp2_with fail
  go_loopw [8] (fun i wr => ∃ j : Nat, j ≤ l.length ∧ i = .int .i64 j ∧ Ext w wr ∧ ∀ (m : Nat) (hm : m < l.length), m < j → pr l[m] = false)
    (fun i _ => l.length - (intOf i).toNat)
  case atStart => exact ⟨0, by omega, rfl, Ext.refl _, fun m _ h => absurd h (by omega)⟩
  case round =>
    obtain ⟨j, hj, rfl, hb, hall⟩ := hrel
    have HB := Lib.hid hb
    have HF := Lib.hid hall
    clear hb hall
    by_cases hlt : j < l.length
    · have hd : decide ((j : Int) < (l.length : Int)) = true := by simp; omega
      obtain ⟨b, off, rfl, hbl, hcell⟩ := HA.out (by omega)
      obtain ⟨cs, rfl, _, hcs⟩ := hcell j hlt
      have HE : Hid (wr.cell? ⟨b, off + j * 11, none⟩ = some (.int .i64 l[j].id) ∧ wr.cell? ⟨b, off + j * 11 + 1, none⟩ = some (.int .i64 l[j].proc) ∧ wr.cell? ⟨b, off + j * 11 + 2, none⟩ = some (.int .i64 l[j].object) ∧ wr.cell? ⟨b, off + j * 11 + 3, none⟩ = some (.int .i64 l[j].kind) ∧ wr.cell? ⟨b, off + j * 11 + 4, none⟩ = some (.int .i64 l[j].method) ∧ wr.cell? ⟨b, off + j * 11 + 5, none⟩ = some (.int .i64 l[j].arg) ∧ wr.cell? ⟨b, off + j * 11 + 6, none⟩ = some (.int .i64 l[j].second) ∧ wr.cell? ⟨b, off + j * 11 + 7, none⟩ = some (.bool l[j].done) ∧ wr.cell? ⟨b, off + j * 11 + 8, none⟩ = some (.int .i64 l[j].result) ∧ wr.cell? ⟨b, off + j * 11 + 9, none⟩ = some (.int .i64 l[j].invoke) ∧ wr.cell? ⟨b, off + j * 11 + 10, none⟩ = some (.int .i64 l[j].ret)) := by
        have hw := fun i u hu => (HB.out.cell (p := ⟨b, off + j * 11 + i, none⟩) hbl).trans (hcs i u hu)
        exact ⟨hw 0 _ rfl, hw 1 _ rfl, hw 2 _ rfl, hw 3 _ rfl, hw 4 _ rfl, hw 5 _ rfl, hw 6 _ rfl, hw 7 _ rfl, hw 8 _ rfl, hw 9 _ rfl, hw 10 _ rfl⟩
      have HT : Hid (pr l[j] = true → l.any pr = true) := fun h => List.any_eq_true.2 ⟨l[j], List.getElem_mem hlt, h⟩
      have HF2 : Hid (pr l[j] = false → ∀ (m : Nat) (hm : m < l.length), m < j + 1 → pr l[m] = false) := by
        intro h m hm hmj
        by_cases e : m = j
        · subst e; exact h
        · exact HF.out m hm (by omega)
      clear hcell hcs
      generalize l[j] = x at *
      obtain ⟨e0, e1, e2, e3, e4, e5, e6, e7, e8, e9, e10⟩ := HE.out
      go_wp2_with fail
      refine (HCL.out x _ HB.out).mono ?_
      rintro e w1 ⟨rfl, hb1⟩
      have HB1 := Lib.hid (Ext.trans HB.out hb1)
      clear hb1 e0 e1 e2 e3 e4 e5 e6 e7 e8 e9 e10
      cases hv : pr x with
      | true =>
        have HV := Lib.hid (HT.out hv)
        clear hv
        go_wp2_with fail
        go_ret
        exact ⟨⟨_, rfl, by rw [HV.out]; simp⟩, HB1.out⟩
      | false =>
        have HV := Lib.hid (HF2.out hv)
        clear hv
        go_wp2_with fail
        go_roundw
        case rel => exact ⟨j + 1, by omega, by go_num, HB1.out, HV.out⟩
        case measure => simp [intOf]; omega
    · have hd : decide ((j : Int) < (l.length : Int)) = false := by simp; omega
      have HV : Hid (l.any pr = false) := by
        refine List.any_eq_false.2 (fun x hx => ?_)
        obtain ⟨i, hi, rfl⟩ := List.mem_iff_getElem.1 hx
        simp [HF.out i hi (by omega)]
      go_wp2_with fail
      go_ret
      exact ⟨⟨_, rfl, by rw [HV.out]; simp⟩, HB.out⟩
theorem opsContains_any (efid : ∀ args w, (callFunc fid args).run Tryd.prog w = .ok (.enter fid args) w) (w : World) (hcl : ∀ (x : OpD) (W : World), Ext w W → Calls Tryd.prog fid #[x.val, pa, po] W fun e w' => e = .returned (.bool (pr x)) ∧ Ext W w')
    (hs : Sl w 11 ROp (.slice A l.length c) l) :
    Calls Tryd.prog 71 #[.slice A l.length c, .func (.func fid) #[] #[pa, po]] w fun e w' => e = .returned (.bool (l.any pr)) ∧ Ext w w' := by
  have HI := Lib.hid (opsIndex_any fid pr pa po A c l efid w hcl hs)
  clear hcl hs efid
  go_enter Tryd.func71, Tryd.ntmps71
  go_wp2_with fail
  refine HI.out.mono ?_
  rintro e w1 ⟨⟨r, rfl, hr⟩, hb1⟩
  have HB1 := Lib.hid hb1
  clear hb1
  go_wp2_with fail
  go_ret
  exact ⟨rfl, HB1.out⟩
end

section
variable (g : FuncId) (f : OpD → Bool) (o : OpD) (bo : Nat)
set_option maxRecDepth 100000 in
theorem otherClo_any (eg : ∀ args w, (callFunc g args).run Tryd.prog w = .ok (.enter g args) w) (p : OpD) (bb : Nat) (w : World) (ho : At11 w bo o) (hb : w.cell? ⟨bb, 0, none⟩ = some (.func (.func g) #[] #[.pointer (some ⟨bo, 0, none⟩)]))
    (hg : ∀ (x : OpD) (W : World), Ext w W → Calls Tryd.prog g #[x.val, .pointer (some ⟨bo, 0, none⟩)] W fun e w' => e = .returned (.bool (f x)) ∧ Ext W w') :
    Calls Tryd.prog 72 #[p.val, .pointer (some ⟨bo, 0, none⟩), .pointer (some ⟨bb, 0, none⟩)] w fun e w' => e = .returned (.bool (p.id != o.id && f p)) ∧ Ext w w' := by
  have HG := Lib.hid hg
  have l0 := World.block_lt_of_cell? _ _ ho.1
  have l1 := World.block_lt_of_cell? _ _ hb
  simp only [] at l0 l1
  obtain ⟨a0, _⟩ := ho
  clear hg
  cases hq : (p.id != o.id) with
  | false =>
    go_enter Tryd.func72, Tryd.ntmps72
    go_wp2_with fail
    go_ret
    exact ⟨rfl, by (repeat' (with_reducible first | exact Below.refl _ _ | refine Ext.drewN ?_ _ | refine Below.drew ?_ | refine Below.setCell ?_ ?_ _ | refine Below.alloc ?_ ?_ _)) <;> (first | omega | (simp; done) | (simp; omega))⟩
  | true =>
    go_enter Tryd.func72, Tryd.ntmps72
    go_wp2_with fail
    refine (HG.out p _ (by (repeat' (with_reducible first | exact Below.refl _ _ | refine Ext.drewN ?_ _ | refine Below.drew ?_ | refine Below.setCell ?_ ?_ _ | refine Below.alloc ?_ ?_ _)) <;> (first | omega | (simp; done) | (simp; omega)))).mono ?_
    rintro e w1 ⟨rfl, hb1⟩
    have K1 := Lib.hid (Ext.trans (by (repeat' (with_reducible first | exact Below.refl _ _ | refine Ext.drewN ?_ _ | refine Below.drew ?_ | refine Below.setCell ?_ ?_ _ | refine Below.alloc ?_ ?_ _)) <;> (first | omega | (simp; done) | (simp; omega)) : Ext w _) hb1)
    clear hb1
    go_wp2_with fail
    go_ret
    exact ⟨rfl, K1.out⟩
theorem others_any (eg : ∀ args w, (callFunc g args).run Tryd.prog w = .ok (.enter g args) w) (V : Value) (l : List OpD) (bl : Nat) (w : World) (ho : At11 w bo o) (hl : w.cell? ⟨bl, 0, none⟩ = some V) (hs : Sl w 11 ROp V l)
    (hg : ∀ (x : OpD) (W : World), Ext w W → Calls Tryd.prog g #[x.val, .pointer (some ⟨bo, 0, none⟩)] W fun e w' => e = .returned (.bool (f x)) ∧ Ext W w') :
    Calls Tryd.prog 70 #[.func (.func g) #[] #[.pointer (some ⟨bo, 0, none⟩)], .pointer (some ⟨bl, 0, none⟩), .pointer (some ⟨bo, 0, none⟩)] w fun e w' => e = .returned (.bool (l.any fun p => p.id != o.id && f p)) ∧ Ext w w' := by
  obtain ⟨A, c, rfl⟩ := hs.form
  have hmf : ∀ (fn : Fn) (first cap : Array Value) (w : World), (Instr.makeFunc fn first cap).run Tryd.prog w = .ok (.func fn first cap) w := fun _ _ _ _ => rfl
  have l0 := World.block_lt_of_cell? _ _ ho.1
  have l1 := World.block_lt_of_cell? _ _ hl
  simp only [] at l0 l1
  have HX : Hid (Ext w (w.alloc (.cells #[.func (.func g) #[] #[.pointer (some ⟨bo, 0, none⟩)]] 108))) := Ext.alloc _ _
  have HS := Lib.hid (hs.ext HX.out)
  have HCL : Hid (∀ (x : OpD) (W : World), Ext (w.alloc (.cells #[.func (.func g) #[] #[.pointer (some ⟨bo, 0, none⟩)]] 108)) W → Calls Tryd.prog 72 #[x.val, .pointer (some ⟨bo, 0, none⟩), .pointer (some ⟨w.heap.size, 0, none⟩)] W fun e w' => e = .returned (.bool (x.id != o.id && f x)) ∧ Ext W w') :=
    fun x W hb => otherClo_any g f o bo eg x w.heap.size W (ho.ext (HX.out.trans hb) l0) (by rw [hb.cell (by first | (simp; done) | (simp; omega) | omega)]; go_simp) (fun y W' hb' => hg y W' (HX.out.trans (hb.trans hb')))
  clear hs ho hg eg
  go_enter Tryd.func70, Tryd.ntmps70
  go_wp2_with fail
  refine (opsContains_any 72 (fun p => p.id != o.id && f p) _ _ A c l (Go.Proofs.enters_of Tryd.func72 (by kernel_rfl) rfl) _ HCL.out HS.out).mono ?_
  rintro e w1 ⟨rfl, hb1⟩
  have K1 := Lib.hid (Ext.trans HX.out hb1)
  clear hb1
  go_wp2_with fail
  go_ret
  exact ⟨rfl, K1.out⟩
end
end Go.Proofs.YtgpnockjonicpaaDoor
namespace Go.Proofs.YtgpnockjonicpaaDoor
set_option linter.unusedSimpArgs false
set_option linter.unusedVariables false
open Go.RowKit

def badKind (o p : OpD) : Bool := p.object == o.object && p.kind != o.kind
def badProc (o p : OpD) : Bool := p.proc == o.proc && (!beforeL p o && !beforeL o p)
def besideL (l : List OpD) (o : OpD) : Int := if (l.any fun p => p.id != o.id && badKind o p) = true then 33 else if (l.any fun p => p.id != o.id && badProc o p) = true then 32 else 0

set_option maxRecDepth 100000 in
theorem badKind_any (o p : OpD) (bo : Nat) (w : World) (ho : At11 w bo o) : Calls Tryd.prog 73 #[p.val, .pointer (some ⟨bo, 0, none⟩)] w fun e w' => e = .returned (.bool (badKind o p)) ∧ Ext w w' := by
  have HV : Hid (badKind o p = (p.object == o.object && p.kind != o.kind)) := rfl
  have l0 := World.block_lt_of_cell? _ _ ho.1
  simp only [] at l0
  obtain ⟨a0, a1, a2, a3, a4, a5, a6, a7, a8, a9, a10⟩ := ho
  cases hq : (p.object == o.object) with
  | false =>
    rw [hq] at HV
    go_enter Tryd.func73, Tryd.ntmps73
    go_wp2_with fail
    go_ret
    exact ⟨by rw [HV.out]; rfl, by (repeat' (with_reducible first | exact Below.refl _ _ | refine Ext.drewN ?_ _ | refine Below.drew ?_ | refine Below.setCell ?_ ?_ _ | refine Below.alloc ?_ ?_ _)) <;> (first | omega | (simp; done) | (simp; omega))⟩
  | true =>
    rw [hq] at HV
    go_enter Tryd.func73, Tryd.ntmps73
    go_wp2_with fail
    go_ret
    exact ⟨by rw [HV.out]; rfl, by (repeat' (with_reducible first | exact Below.refl _ _ | refine Ext.drewN ?_ _ | refine Below.drew ?_ | refine Below.setCell ?_ ?_ _ | refine Below.alloc ?_ ?_ _)) <;> (first | omega | (simp; done) | (simp; omega))⟩
set_option maxRecDepth 100000 in
theorem badProc_any (o p : OpD) (bo : Nat) (w : World) (ho : At11 w bo o) : Calls Tryd.prog 74 #[p.val, .pointer (some ⟨bo, 0, none⟩)] w fun e w' => e = .returned (.bool (badProc o p)) ∧ Ext w w' := by
  have HV : Hid (badProc o p = (p.proc == o.proc && (!beforeL p o && !beforeL o p))) := rfl
  have l0 := World.block_lt_of_cell? _ _ ho.1
  simp only [] at l0
  obtain ⟨a0, a1, a2, a3, a4, a5, a6, a7, a8, a9, a10⟩ := ho
  cases hq : (p.proc == o.proc) with
  | false =>
    rw [hq] at HV
    go_enter Tryd.func74, Tryd.ntmps74
    go_wp2_with fail
    go_ret
    exact ⟨by rw [HV.out]; rfl, by (repeat' (with_reducible first | exact Below.refl _ _ | refine Ext.drewN ?_ _ | refine Below.drew ?_ | refine Below.setCell ?_ ?_ _ | refine Below.alloc ?_ ?_ _)) <;> (first | omega | (simp; done) | (simp; omega))⟩
  | true =>
    rw [hq] at HV
    go_enter Tryd.func74, Tryd.ntmps74
    go_wp2_with fail
    refine (opOverlap_any p o _).mono ?_
    rintro e w1 ⟨rfl, hb1⟩
    have K1 := Lib.hid (Ext.trans (by (repeat' (with_reducible first | exact Below.refl _ _ | refine Ext.drewN ?_ _ | refine Below.drew ?_ | refine Below.setCell ?_ ?_ _ | refine Below.alloc ?_ ?_ _)) <;> (first | omega | (simp; done) | (simp; omega)) : Ext w _) hb1)
    clear hb1
    generalize (!beforeL p o && !beforeL o p) = b at *
    go_wp2_with fail
    go_ret
    exact ⟨by rw [HV.out]; rfl, K1.out⟩

set_option maxRecDepth 100000 in
set_option maxHeartbeats 2000000 in
theorem histBeside_any (V : Value) (l : List OpD) (o : OpD) (w : World) (hs : Sl w 11 ROp V l) :
    Calls Tryd.prog 44 #[V, o.val] w fun e w' => e = .returned (.int .i64 (besideL l o)) ∧ Ext w w' := by
  obtain ⟨A, c, rfl⟩ := hs.form
  have hmf : ∀ (fn : Fn) (first cap : Array Value) (w : World), (Instr.makeFunc fn first cap).run Tryd.prog w = .ok (.func fn first cap) w := fun _ _ _ _ => rfl
  have HX : Hid (Ext w ((w.alloc (.cells #[.slice A l.length c] 22)).alloc (.cells #[.int .i64 o.id, .int .i64 o.proc, .int .i64 o.object, .int .i64 o.kind, .int .i64 o.method, .int .i64 o.arg, .int .i64 o.second, .bool o.done, .int .i64 o.result, .int .i64 o.invoke, .int .i64 o.ret] 40))) := by unfold Hid; (repeat' (with_reducible first | exact Below.refl _ _ | refine Ext.drewN ?_ _ | refine Below.drew ?_ | refine Below.setCell ?_ ?_ _ | refine Below.alloc ?_ ?_ _)) <;> (first | omega | (simp; done) | (simp; omega))
  have HS := Lib.hid (hs.ext HX.out)
  have HB0 := Lib.hid (At11.row (Row1.made' (w := w.alloc (.cells #[.slice A l.length c] 22)) (n := w.heap.size + 1) (by simp) 40 o.cells))
  have HO : Hid (∀ W : World, Ext ((w.alloc (.cells #[.slice A l.length c] 22)).alloc (.cells #[.int .i64 o.id, .int .i64 o.proc, .int .i64 o.object, .int .i64 o.kind, .int .i64 o.method, .int .i64 o.arg, .int .i64 o.second, .bool o.done, .int .i64 o.result, .int .i64 o.invoke, .int .i64 o.ret] 40)) W → At11 W (w.heap.size + 1) o ∧ W.cell? ⟨w.heap.size, 0, none⟩ = some (.slice A l.length c)) :=
    fun W hb => ⟨HB0.out.ext hb (by simp), by rw [hb.cell (by first | (simp; done) | (simp; omega) | omega)]; go_simp⟩
  have HV : Hid (besideL l o = if (l.any fun p => p.id != o.id && badKind o p) = true then 33 else if (l.any fun p => p.id != o.id && badProc o p) = true then 32 else 0) := rfl
  have E2 : Hid (∀ args w, (callFunc 73 args).run Tryd.prog w = .ok (.enter 73 args) w) := Go.Proofs.enters_of Tryd.func73 (by kernel_rfl) rfl
  have E3 : Hid (∀ args w, (callFunc 74 args).run Tryd.prog w = .ok (.enter 74 args) w) := Go.Proofs.enters_of Tryd.func74 (by kernel_rfl) rfl
  have HC1 : Hid (∀ W : World, Ext ((w.alloc (.cells #[.slice A l.length c] 22)).alloc (.cells #[.int .i64 o.id, .int .i64 o.proc, .int .i64 o.object, .int .i64 o.kind, .int .i64 o.method, .int .i64 o.arg, .int .i64 o.second, .bool o.done, .int .i64 o.result, .int .i64 o.invoke, .int .i64 o.ret] 40)) W → Calls Tryd.prog 70 #[.func (.func 73) #[] #[.pointer (some ⟨w.heap.size + 1, 0, none⟩)], .pointer (some ⟨w.heap.size, 0, none⟩), .pointer (some ⟨w.heap.size + 1, 0, none⟩)] W fun e w' => e = .returned (.bool (l.any fun p => p.id != o.id && badKind o p)) ∧ Ext W w') :=
    fun W hb => others_any 73 (badKind o) o (w.heap.size + 1) E2.out _ l w.heap.size W (HO.out W hb).1 (HO.out W hb).2 (HS.out.ext hb) (fun x W' hb' => badKind_any o x _ W' (HO.out W' (hb.trans hb')).1)
  have HC2 : Hid (∀ W : World, Ext ((w.alloc (.cells #[.slice A l.length c] 22)).alloc (.cells #[.int .i64 o.id, .int .i64 o.proc, .int .i64 o.object, .int .i64 o.kind, .int .i64 o.method, .int .i64 o.arg, .int .i64 o.second, .bool o.done, .int .i64 o.result, .int .i64 o.invoke, .int .i64 o.ret] 40)) W → Calls Tryd.prog 70 #[.func (.func 74) #[] #[.pointer (some ⟨w.heap.size + 1, 0, none⟩)], .pointer (some ⟨w.heap.size, 0, none⟩), .pointer (some ⟨w.heap.size + 1, 0, none⟩)] W fun e w' => e = .returned (.bool (l.any fun p => p.id != o.id && badProc o p)) ∧ Ext W w') :=
    fun W hb => others_any 74 (badProc o) o (w.heap.size + 1) E3.out _ l w.heap.size W (HO.out W hb).1 (HO.out W hb).2 (HS.out.ext hb) (fun x W' hb' => badProc_any o x _ W' (HO.out W' (hb.trans hb')).1)
  generalize (l.any fun p => p.id != o.id && badKind o p) = b1 at *
  generalize (l.any fun p => p.id != o.id && badProc o p) = b2 at *
  clear hs HB0
  go_enter Tryd.func44, Tryd.ntmps44
  go_wp2_with fail
  refine (HC1.out _ (Ext.refl _)).mono ?_
  rintro e w1 ⟨rfl, hb1⟩
  have K1 := Lib.hid hb1
  clear hb1
  cases b1 with
  | true =>
    rw [if_pos rfl] at HV
    go_wp2_with fail
    go_ret
    exact ⟨by rw [HV.out]; rfl, Ext.trans HX.out K1.out⟩
  | false =>
    rw [if_neg (by decide)] at HV
    go_wp2_with fail
    refine (HC2.out _ K1.out).mono ?_
    rintro e w2 ⟨rfl, hb2⟩
    have K2 := Lib.hid (Ext.trans K1.out hb2)
    clear hb2
    cases b2 with
    | true =>
      rw [if_pos rfl] at HV
      go_wp2_with fail
      go_ret
      exact ⟨by rw [HV.out]; rfl, Ext.trans HX.out K2.out⟩
    | false =>
      rw [if_neg (by decide)] at HV
      go_wp2_with fail
      go_ret
      exact ⟨by rw [HV.out]; rfl, Ext.trans HX.out K2.out⟩
end Go.Proofs.YtgpnockjonicpaaDoor
namespace Go.Proofs.YtgpnockjonicpaaDoor
set_option linter.unusedSimpArgs false
set_option linter.unusedVariables false
open Go.RowKit

theorem beside_any1 {l : List OpD} {f : OpD → Bool} (k : Nat) (h : k < l.length) (hk : f l[k] = true) : l.any f = true := List.any_eq_true.2 ⟨l[k], List.getElem_mem h, hk⟩
theorem beside_all1 {l : List OpD} {f : OpD → Bool} (h : ∀ m (hm : m < l.length), f l[m] = false) : l.any f = false := by
  refine List.any_eq_false.2 (fun x hx => ?_)
  obtain ⟨i, hi, rfl⟩ := List.mem_iff_getElem.1 hx
  simp [h i hi]

set_option maxRecDepth 100000 in
set_option maxHeartbeats 4000000 in
theorem refBeside_any (V : Value) (l : List OpD) (o : OpD) (w : World) (hs : Sl w 11 ROp V l) :
    Calls Tryd.prog 20 #[V, o.val] w fun e w' => e = .returned (.int .i64 (besideL l o)) ∧ Ext w w' := by
  obtain ⟨A, c, rfl⟩ := hs.form
  obtain ⟨_, hc1, hc2, hA⟩ := hs.at
  have HA := Lib.hid hA
  have HBX : Hid (∀ W : World, Ext (w.alloc (.cells #[.int .i64 o.id, .int .i64 o.proc, .int .i64 o.object, .int .i64 o.kind, .int .i64 o.method, .int .i64 o.arg, .int .i64 o.second, .bool o.done, .int .i64 o.result, .int .i64 o.invoke, .int .i64 o.ret] 40)) W → At11 W w.heap.size o) := fun W h => (At11.row (Row1.made w 40 o.cells)).ext h (by simp)
  have HV : Hid (besideL l o = if (l.any fun p => p.id != o.id && badKind o p) = true then 33 else if (l.any fun p => p.id != o.id && badProc o p) = true then 32 else 0) := rfl
  have HBK : Hid (∀ p, badKind o p = (p.object == o.object && p.kind != o.kind)) := fun _ => rfl
  have HBP : Hid (∀ p, badProc o p = (p.proc == o.proc && (!beforeL p o && !beforeL o p))) := fun _ => rfl
  clear hs hA
  go_enter Tryd.func20, Tryd.ntmps20
  go_wp2_with fail
  go_loopw [5] (fun i wr => ∃ k : Nat, k ≤ l.length ∧ i = .int .i64 k ∧ Ext (w.alloc (.cells #[.int .i64 o.id, .int .i64 o.proc, .int .i64 o.object, .int .i64 o.kind, .int .i64 o.method, .int .i64 o.arg, .int .i64 o.second, .bool o.done, .int .i64 o.result, .int .i64 o.invoke, .int .i64 o.ret] 40)) wr ∧ ∀ m (hm : m < l.length), m < k → (l[m].id != o.id && badKind o l[m]) = false) (fun i _ => l.length - (intOf i).toNat)
  case atStart => exact ⟨0, by omega, rfl, Ext.refl _, fun m _ h => absurd h (by omega)⟩
  case round =>
    obtain ⟨k, hk, rfl, hb, hall⟩ := hrel
    have HB := Lib.hid hb
    have HF := Lib.hid hall
    have hzr := hb.size
    simp at hzr
    clear hb hall
    by_cases hlt : k < l.length
    · have hd : decide ((k : Int) < (l.length : Int)) = true := by simp; omega
      obtain ⟨b, off, rfl, hbl, hcell⟩ := HA.out (by omega)
      obtain ⟨cs, rfl, _, hcs⟩ := hcell k hlt
      have HE : Hid (∀ W : World, Ext w W → (W.cell? ⟨b, off + k * 11, none⟩ = some (.int .i64 l[k].id) ∧ W.cell? ⟨b, off + k * 11 + 1, none⟩ = some (.int .i64 l[k].proc) ∧ W.cell? ⟨b, off + k * 11 + 2, none⟩ = some (.int .i64 l[k].object) ∧ W.cell? ⟨b, off + k * 11 + 3, none⟩ = some (.int .i64 l[k].kind) ∧ W.cell? ⟨b, off + k * 11 + 4, none⟩ = some (.int .i64 l[k].method) ∧ W.cell? ⟨b, off + k * 11 + 5, none⟩ = some (.int .i64 l[k].arg) ∧ W.cell? ⟨b, off + k * 11 + 6, none⟩ = some (.int .i64 l[k].second) ∧ W.cell? ⟨b, off + k * 11 + 7, none⟩ = some (.bool l[k].done) ∧ W.cell? ⟨b, off + k * 11 + 8, none⟩ = some (.int .i64 l[k].result) ∧ W.cell? ⟨b, off + k * 11 + 9, none⟩ = some (.int .i64 l[k].invoke) ∧ W.cell? ⟨b, off + k * 11 + 10, none⟩ = some (.int .i64 l[k].ret))) := by
        intro W h
        have hw := fun j u hu => (h.cell (p := ⟨b, off + k * 11 + j, none⟩) hbl).trans (hcs j u hu)
        exact ⟨hw 0 _ rfl, hw 1 _ rfl, hw 2 _ rfl, hw 3 _ rfl, hw 4 _ rfl, hw 5 _ rfl, hw 6 _ rfl, hw 7 _ rfl, hw 8 _ rfl, hw 9 _ rfl, hw 10 _ rfl⟩
      have HT : Hid ((l[k].id != o.id && badKind o l[k]) = true → besideL l o = 33) := fun h => by
        have h1 : (l.any fun p => p.id != o.id && badKind o p) = true := beside_any1 k hlt h
        rw [HV.out, if_pos h1]
      have HF2 : Hid ((l[k].id != o.id && badKind o l[k]) = false → ∀ m (hm : m < l.length), m < k + 1 → (l[m].id != o.id && badKind o l[m]) = false) := by
        intro h m hm hmk
        by_cases e : m = k
        · subst e; exact h
        · exact HF.out m hm (by omega)
      clear hcell hcs
      generalize l[k] = x at *
      have hbw := Nat.lt_of_lt_of_le hbl (Ext.trans (Ext.alloc _ _) HB.out : Ext w wr).size
      obtain ⟨e0, e1, e2, e3, e4, e5, e6, e7, e8, e9, e10⟩ := HE.out wr (Ext.trans (Ext.alloc _ _) HB.out)
      obtain ⟨a0, a1, a2, a3, a4, a5, a6, a7, a8, a9, a10⟩ := HBX.out wr HB.out
      go_wp2_with fail
      cases q1 : (x.id != o.id) with
      | false =>
        have HN := Lib.hid (HF2.out (by rw [q1]; rfl))
        go_quiet (fail)
        go_wp2_with fail
        go_roundw
        case measure => simp [intOf]; omega
        case rel => exact ⟨k + 1, by omega, by go_num, by (repeat' (with_reducible first | exact HB.out | exact Below.refl _ _ | refine Ext.drewN ?_ _ | refine Below.drew ?_ | refine Below.setCell ?_ ?_ _ | refine Below.alloc ?_ ?_ _)) <;> (first | omega | (simp; done) | (simp; omega)), HN.out⟩
      | true =>
        cases q2 : (x.object == o.object) with
        | false =>
          have HN := Lib.hid (HF2.out (by rw [q1, HBK.out, q2]; rfl))
          go_quiet (fail)
          go_wp2_with fail
          go_roundw
          case measure => simp [intOf]; omega
          case rel => exact ⟨k + 1, by omega, by go_num, by (repeat' (with_reducible first | exact HB.out | exact Below.refl _ _ | refine Ext.drewN ?_ _ | refine Below.drew ?_ | refine Below.setCell ?_ ?_ _ | refine Below.alloc ?_ ?_ _)) <;> (first | omega | (simp; done) | (simp; omega)), HN.out⟩
        | true =>
          cases q3 : (x.kind != o.kind) with
          | false =>
            have HN := Lib.hid (HF2.out (by rw [q1, HBK.out, q2, q3]; rfl))
            go_quiet (fail)
            go_wp2_with fail
            go_roundw
            case measure => simp [intOf]; omega
            case rel => exact ⟨k + 1, by omega, by go_num, by (repeat' (with_reducible first | exact HB.out | exact Below.refl _ _ | refine Ext.drewN ?_ _ | refine Below.drew ?_ | refine Below.setCell ?_ ?_ _ | refine Below.alloc ?_ ?_ _)) <;> (first | omega | (simp; done) | (simp; omega)), HN.out⟩
          | true =>
            have HN := Lib.hid (HT.out (by rw [q1, HBK.out, q2, q3]; rfl))
            go_quiet (fail)
            go_wp2_with fail
            go_ret
            exact ⟨by rw [HN.out]; rfl, Ext.trans (Ext.alloc _ _) (by (repeat' (with_reducible first | exact HB.out | exact Below.refl _ _ | refine Ext.drewN ?_ _ | refine Below.drew ?_ | refine Below.setCell ?_ ?_ _ | refine Below.alloc ?_ ?_ _)) <;> (first | omega | (simp; done) | (simp; omega)))⟩
    · obtain ⟨wo, rfl⟩ : ∃ wo, wo = wr := ⟨_, rfl⟩
      have hd : decide ((k : Int) < (l.length : Int)) = false := by simp; omega
      have HK0 : Hid ((l.any fun p => p.id != o.id && badKind o p) = false) := beside_all1 (fun m hm => HF.out m hm (by omega))
      have HV2 : Hid (besideL l o = if (l.any fun p => p.id != o.id && badProc o p) = true then 32 else 0) := by unfold Hid; rw [HV.out, HK0.out]; rfl
      clear HF HV HK0
      go_wp2_with fail
      go_loopw [6] (fun i wr => ∃ k : Nat, k ≤ l.length ∧ i = .int .i64 k ∧ Ext wo wr ∧ ∀ m (hm : m < l.length), m < k → (l[m].id != o.id && badProc o l[m]) = false) (fun i _ => l.length - (intOf i).toNat)
      case atStart => exact ⟨0, by omega, rfl, Ext.refl _, fun m _ h => absurd h (by omega)⟩
      case round =>
        obtain ⟨j, hj, rfl, hbz, hall⟩ := hrel
        obtain ⟨wz, rfl⟩ : ∃ wz, wz = wr := ⟨_, rfl⟩
        have HZ := Lib.hid hbz
        have HBZ := Lib.hid (Ext.trans HB.out hbz)
        have HF := Lib.hid hall
        have hzz := HBZ.out.size
        simp at hzz
        clear hbz hall
        by_cases hlt2 : j < l.length
        · have hd2 : decide ((j : Int) < (l.length : Int)) = true := by simp; omega
          obtain ⟨b, off, rfl, hbl, hcell⟩ := HA.out (by omega)
          obtain ⟨cs, rfl, _, hcs⟩ := hcell j hlt2
          have HE : Hid (∀ W : World, Ext w W → (W.cell? ⟨b, off + j * 11, none⟩ = some (.int .i64 l[j].id) ∧ W.cell? ⟨b, off + j * 11 + 1, none⟩ = some (.int .i64 l[j].proc) ∧ W.cell? ⟨b, off + j * 11 + 2, none⟩ = some (.int .i64 l[j].object) ∧ W.cell? ⟨b, off + j * 11 + 3, none⟩ = some (.int .i64 l[j].kind) ∧ W.cell? ⟨b, off + j * 11 + 4, none⟩ = some (.int .i64 l[j].method) ∧ W.cell? ⟨b, off + j * 11 + 5, none⟩ = some (.int .i64 l[j].arg) ∧ W.cell? ⟨b, off + j * 11 + 6, none⟩ = some (.int .i64 l[j].second) ∧ W.cell? ⟨b, off + j * 11 + 7, none⟩ = some (.bool l[j].done) ∧ W.cell? ⟨b, off + j * 11 + 8, none⟩ = some (.int .i64 l[j].result) ∧ W.cell? ⟨b, off + j * 11 + 9, none⟩ = some (.int .i64 l[j].invoke) ∧ W.cell? ⟨b, off + j * 11 + 10, none⟩ = some (.int .i64 l[j].ret))) := by
            intro W h
            have hw := fun i u hu => (h.cell (p := ⟨b, off + j * 11 + i, none⟩) hbl).trans (hcs i u hu)
            exact ⟨hw 0 _ rfl, hw 1 _ rfl, hw 2 _ rfl, hw 3 _ rfl, hw 4 _ rfl, hw 5 _ rfl, hw 6 _ rfl, hw 7 _ rfl, hw 8 _ rfl, hw 9 _ rfl, hw 10 _ rfl⟩
          have HT : Hid ((l[j].id != o.id && badProc o l[j]) = true → besideL l o = 32) := fun h => by
            have h1 : (l.any fun p => p.id != o.id && badProc o p) = true := beside_any1 j hlt2 h
            rw [HV2.out, if_pos h1]
          have HF2 : Hid ((l[j].id != o.id && badProc o l[j]) = false → ∀ m (hm : m < l.length), m < j + 1 → (l[m].id != o.id && badProc o l[m]) = false) := by
            intro h m hm hmk
            by_cases e : m = j
            · subst e; exact h
            · exact HF.out m hm (by omega)
          clear hcell hcs
          generalize l[j] = x at *
          have hbw := Nat.lt_of_lt_of_le hbl (Ext.trans (Ext.alloc _ _) HBZ.out : Ext w wz).size
          have HKK : Hid (∀ W : World, Ext wz W → ((W.cell? ⟨b, off + j * 11, none⟩ = some (.int .i64 x.id) ∧ W.cell? ⟨b, off + j * 11 + 1, none⟩ = some (.int .i64 x.proc) ∧ W.cell? ⟨b, off + j * 11 + 2, none⟩ = some (.int .i64 x.object) ∧ W.cell? ⟨b, off + j * 11 + 3, none⟩ = some (.int .i64 x.kind) ∧ W.cell? ⟨b, off + j * 11 + 4, none⟩ = some (.int .i64 x.method) ∧ W.cell? ⟨b, off + j * 11 + 5, none⟩ = some (.int .i64 x.arg) ∧ W.cell? ⟨b, off + j * 11 + 6, none⟩ = some (.int .i64 x.second) ∧ W.cell? ⟨b, off + j * 11 + 7, none⟩ = some (.bool x.done) ∧ W.cell? ⟨b, off + j * 11 + 8, none⟩ = some (.int .i64 x.result) ∧ W.cell? ⟨b, off + j * 11 + 9, none⟩ = some (.int .i64 x.invoke) ∧ W.cell? ⟨b, off + j * 11 + 10, none⟩ = some (.int .i64 x.ret)) ∧ (W.cell? ⟨w.heap.size, 0, none⟩ = some (.int .i64 o.id) ∧ W.cell? ⟨w.heap.size, 1, none⟩ = some (.int .i64 o.proc) ∧ W.cell? ⟨w.heap.size, 2, none⟩ = some (.int .i64 o.object) ∧ W.cell? ⟨w.heap.size, 3, none⟩ = some (.int .i64 o.kind) ∧ W.cell? ⟨w.heap.size, 4, none⟩ = some (.int .i64 o.method) ∧ W.cell? ⟨w.heap.size, 5, none⟩ = some (.int .i64 o.arg) ∧ W.cell? ⟨w.heap.size, 6, none⟩ = some (.int .i64 o.second) ∧ W.cell? ⟨w.heap.size, 7, none⟩ = some (.bool o.done) ∧ W.cell? ⟨w.heap.size, 8, none⟩ = some (.int .i64 o.result) ∧ W.cell? ⟨w.heap.size, 9, none⟩ = some (.int .i64 o.invoke) ∧ W.cell? ⟨w.heap.size, 10, none⟩ = some (.int .i64 o.ret)))) := fun W h => ⟨HE.out W (Ext.trans (Ext.trans (Ext.alloc _ _) HBZ.out) h), HBX.out W (Ext.trans HBZ.out h)⟩
          obtain ⟨⟨e0, e1, e2, e3, e4, e5, e6, e7, e8, e9, e10⟩, a0, a1, a2, a3, a4, a5, a6, a7, a8, a9, a10⟩ := HKK.out wz (Ext.refl _)
          go_wp2_with fail
          cases q1 : (x.id != o.id) with
          | false =>
            have HN := Lib.hid (HF2.out (by rw [q1]; rfl))
            go_quiet (fail)
            go_wp2_with fail
            go_roundw
            case measure => simp [intOf]; omega
            case rel => exact ⟨j + 1, by omega, by go_num, by (repeat' (with_reducible first | exact HZ.out | exact Below.refl _ _ | refine Ext.drewN ?_ _ | refine Below.drew ?_ | refine Below.setCell ?_ ?_ _ | refine Below.alloc ?_ ?_ _)) <;> (first | omega | (simp; done) | (simp; omega)), HN.out⟩
          | true =>
            cases q2 : (x.proc == o.proc) with
            | false =>
              have HN := Lib.hid (HF2.out (by rw [q1, HBP.out, q2]; rfl))
              go_quiet (fail)
              go_wp2_with fail
              go_roundw
              case measure => simp [intOf]; omega
              case rel => exact ⟨j + 1, by omega, by go_num, by (repeat' (with_reducible first | exact HZ.out | exact Below.refl _ _ | refine Ext.drewN ?_ _ | refine Below.drew ?_ | refine Below.setCell ?_ ?_ _ | refine Below.alloc ?_ ?_ _)) <;> (first | omega | (simp; done) | (simp; omega)), HN.out⟩
            | true =>
              cases p1 : beforeL x o with
              | true =>
                have HP1 := Lib.hid p1
                have HN := Lib.hid (HF2.out (by rw [q1, HBP.out, q2, p1]; rfl))
                clear p1
                refine wp_region_held_drew (S := fun w' => ((w'.cell? ⟨b, off + j * 11, none⟩ = some (.int .i64 x.id) ∧ w'.cell? ⟨b, off + j * 11 + 1, none⟩ = some (.int .i64 x.proc) ∧ w'.cell? ⟨b, off + j * 11 + 2, none⟩ = some (.int .i64 x.object) ∧ w'.cell? ⟨b, off + j * 11 + 3, none⟩ = some (.int .i64 x.kind) ∧ w'.cell? ⟨b, off + j * 11 + 4, none⟩ = some (.int .i64 x.method) ∧ w'.cell? ⟨b, off + j * 11 + 5, none⟩ = some (.int .i64 x.arg) ∧ w'.cell? ⟨b, off + j * 11 + 6, none⟩ = some (.int .i64 x.second) ∧ w'.cell? ⟨b, off + j * 11 + 7, none⟩ = some (.bool x.done) ∧ w'.cell? ⟨b, off + j * 11 + 8, none⟩ = some (.int .i64 x.result) ∧ w'.cell? ⟨b, off + j * 11 + 9, none⟩ = some (.int .i64 x.invoke) ∧ w'.cell? ⟨b, off + j * 11 + 10, none⟩ = some (.int .i64 x.ret)) ∧ (w'.cell? ⟨w.heap.size, 0, none⟩ = some (.int .i64 o.id) ∧ w'.cell? ⟨w.heap.size, 1, none⟩ = some (.int .i64 o.proc) ∧ w'.cell? ⟨w.heap.size, 2, none⟩ = some (.int .i64 o.object) ∧ w'.cell? ⟨w.heap.size, 3, none⟩ = some (.int .i64 o.kind) ∧ w'.cell? ⟨w.heap.size, 4, none⟩ = some (.int .i64 o.method) ∧ w'.cell? ⟨w.heap.size, 5, none⟩ = some (.int .i64 o.arg) ∧ w'.cell? ⟨w.heap.size, 6, none⟩ = some (.int .i64 o.second) ∧ w'.cell? ⟨w.heap.size, 7, none⟩ = some (.bool o.done) ∧ w'.cell? ⟨w.heap.size, 8, none⟩ = some (.int .i64 o.result) ∧ w'.cell? ⟨w.heap.size, 9, none⟩ = some (.int .i64 o.invoke) ∧ w'.cell? ⟨w.heap.size, 10, none⟩ = some (.int .i64 o.ret)))) (by kernel_rfl) (HKK.out _ (by (repeat' (with_reducible first | exact Ext.refl _ | exact Below.refl _ _ | refine Ext.drewN ?_ _ | refine Below.drew ?_ | refine Below.setCell ?_ ?_ _ | refine Below.alloc ?_ ?_ _)) <;> (first | omega | (simp; done) | (simp; omega)))) (fun hHeld => ?_)
                refine' wpAnyH_take (i := 0) (oi := ?zoi0a) (v := ?zv0a) ?zhi0a (by kernel_rfl) (by kernel_rfl) (by kernel_rfl) ?zhQ0a (Or.inl ⟨?zhw0a, ?zhy0a⟩) (by assumption) ?zrest0a; (case zhi0a => simp only [List.getElem?_toArray, List.getElem?_cons_succ, List.getElem?_cons_zero]; exact rfl); (case zhQ0a => exact fun _ _ _ h => h); (case zhw0a => rfl); (case zhy0a => intro w hSw; (try dsimp only at hSw); go_simp; (try with_reducible rfl)); (try simp only [Act.put, List.setIfInBounds_toArray, List.set_cons_zero, List.set_cons_succ])
                refine' wpAnyH_take (i := 1) (oi := ?zoi1a) (v := ?zv1a) ?zhi1a (by kernel_rfl) (by kernel_rfl) (by kernel_rfl) ?zhQ1a (Or.inl ⟨?zhw1a, ?zhy1a⟩) (by assumption) ?zrest1a; (case zhi1a => simp only [List.getElem?_toArray, List.getElem?_cons_succ, List.getElem?_cons_zero]; exact rfl); (case zhQ1a => exact fun _ _ _ h => h); (case zhw1a => rfl); (case zhy1a => intro w hSw; (try dsimp only at hSw); go_simp; (try with_reducible rfl)); (try simp only [Act.put, List.setIfInBounds_toArray, List.set_cons_zero, List.set_cons_succ])
                refine' wpAnyH_take (i := 2) (oi := ?zoi2a) (v := ?zv2a) ?zhi2a (by kernel_rfl) (by kernel_rfl) (by kernel_rfl) ?zhQ2a (Or.inl ⟨?zhw2a, ?zhy2a⟩) (by assumption) ?zrest2a; (case zhi2a => simp only [List.getElem?_toArray, List.getElem?_cons_succ, List.getElem?_cons_zero]; exact rfl); (case zhQ2a => exact fun _ _ _ h => h); (case zhw2a => rfl); (case zhy2a => intro w hSw; (try dsimp only at hSw); go_simp; (try with_reducible rfl)); (try simp only [Act.put, List.setIfInBounds_toArray, List.set_cons_zero, List.set_cons_succ])
                refine' wpAnyH_take (i := 3) (oi := ?zoi3a) (v := ?zv3a) ?zhi3a (by kernel_rfl) (by kernel_rfl) (by kernel_rfl) ?zhQ3a (Or.inl ⟨?zhw3a, ?zhy3a⟩) (by assumption) ?zrest3a; (case zhi3a => simp only [List.getElem?_toArray, List.getElem?_cons_succ, List.getElem?_cons_zero]; exact rfl); (case zhQ3a => exact fun _ _ _ h => h); (case zhw3a => rfl); (case zhy3a => intro w hSw; (try dsimp only at hSw); go_simp; (try with_reducible rfl)); (try simp only [Act.put, List.setIfInBounds_toArray, List.set_cons_zero, List.set_cons_succ])
                refine' wpAnyH_take (i := 4) (oi := ?zoi4a) (v := ?zv4a) ?zhi4a (by kernel_rfl) (by kernel_rfl) (by kernel_rfl) ?zhQ4a (Or.inl ⟨?zhw4a, ?zhy4a⟩) (by assumption) ?zrest4a; (case zhi4a => simp only [List.getElem?_toArray, List.getElem?_cons_succ, List.getElem?_cons_zero]; exact rfl); (case zhQ4a => exact fun _ _ _ h => h); (case zhw4a => rfl); (case zhy4a => intro w hSw; (try dsimp only at hSw); go_simp; (try with_reducible rfl)); (try simp only [Act.put, List.setIfInBounds_toArray, List.set_cons_zero, List.set_cons_succ])
                refine' wpAnyH_take (i := 5) (oi := ?zoi5a) (v := ?zv5a) ?zhi5a (by kernel_rfl) (by kernel_rfl) (by kernel_rfl) ?zhQ5a (Or.inl ⟨?zhw5a, ?zhy5a⟩) (by assumption) ?zrest5a; (case zhi5a => simp only [List.getElem?_toArray, List.getElem?_cons_succ, List.getElem?_cons_zero]; exact rfl); (case zhQ5a => exact fun _ _ _ h => h); (case zhw5a => rfl); (case zhy5a => intro w hSw; (try dsimp only at hSw); go_simp; (try with_reducible rfl)); (try simp only [Act.put, List.setIfInBounds_toArray, List.set_cons_zero, List.set_cons_succ])
                refine' wpAnyH_take (i := 6) (oi := ?zoi6a) (v := ?zv6a) ?zhi6a (by kernel_rfl) (by kernel_rfl) (by kernel_rfl) ?zhQ6a (Or.inl ⟨?zhw6a, ?zhy6a⟩) (by assumption) ?zrest6a; (case zhi6a => simp only [List.getElem?_toArray, List.getElem?_cons_succ, List.getElem?_cons_zero]; exact rfl); (case zhQ6a => exact fun _ _ _ h => h); (case zhw6a => rfl); (case zhy6a => intro w hSw; (try dsimp only at hSw); go_simp; (try with_reducible rfl)); (try simp only [Act.put, List.setIfInBounds_toArray, List.set_cons_zero, List.set_cons_succ])
                refine' wpAnyH_take (i := 7) (oi := ?zoi7a) (v := ?zv7a) ?zhi7a (by kernel_rfl) (by kernel_rfl) (by kernel_rfl) ?zhQ7a (Or.inl ⟨?zhw7a, ?zhy7a⟩) (by assumption) ?zrest7a; (case zhi7a => simp only [List.getElem?_toArray, List.getElem?_cons_succ, List.getElem?_cons_zero]; exact rfl); (case zhQ7a => exact fun _ _ _ h => h); (case zhw7a => rfl); (case zhy7a => intro w hSw; (try dsimp only at hSw); go_simp; (try with_reducible rfl)); (try simp only [Act.put, List.setIfInBounds_toArray, List.set_cons_zero, List.set_cons_succ])
                refine' wpAnyH_take (i := 8) (oi := ?zoi8a) (v := ?zv8a) ?zhi8a (by kernel_rfl) (by kernel_rfl) (by kernel_rfl) ?zhQ8a (Or.inl ⟨?zhw8a, ?zhy8a⟩) (by assumption) ?zrest8a; (case zhi8a => simp only [List.getElem?_toArray, List.getElem?_cons_succ, List.getElem?_cons_zero]; exact rfl); (case zhQ8a => exact fun _ _ _ h => h); (case zhw8a => rfl); (case zhy8a => intro w hSw; (try dsimp only at hSw); go_simp; (try with_reducible rfl)); (try simp only [Act.put, List.setIfInBounds_toArray, List.set_cons_zero, List.set_cons_succ])
                refine' wpAnyH_take (i := 9) (oi := ?zoi9a) (v := ?zv9a) ?zhi9a (by kernel_rfl) (by kernel_rfl) (by kernel_rfl) ?zhQ9a (Or.inl ⟨?zhw9a, ?zhy9a⟩) (by assumption) ?zrest9a; (case zhi9a => simp only [List.getElem?_toArray, List.getElem?_cons_succ, List.getElem?_cons_zero]; exact rfl); (case zhQ9a => exact fun _ _ _ h => h); (case zhw9a => rfl); (case zhy9a => intro w hSw; (try dsimp only at hSw); go_simp; (try with_reducible rfl)); (try simp only [Act.put, List.setIfInBounds_toArray, List.set_cons_zero, List.set_cons_succ])
                refine' wpAnyH_take (i := 10) (oi := ?zoi10a) (v := ?zv10a) ?zhi10a (by kernel_rfl) (by kernel_rfl) (by kernel_rfl) ?zhQ10a (Or.inl ⟨?zhw10a, ?zhy10a⟩) (by assumption) ?zrest10a; (case zhi10a => simp only [List.getElem?_toArray, List.getElem?_cons_succ, List.getElem?_cons_zero]; exact rfl); (case zhQ10a => exact fun _ _ _ h => h); (case zhw10a => rfl); (case zhy10a => intro w hSw; (try dsimp only at hSw); go_simp; (try with_reducible rfl)); (try simp only [Act.put, List.setIfInBounds_toArray, List.set_cons_zero, List.set_cons_succ])
                refine' wpAnyH_take (i := 11) (oi := ?zoi11a) (v := ?zv11a) ?zhi11a (by kernel_rfl) (by kernel_rfl) (by kernel_rfl) ?zhQ11a (Or.inl ⟨?zhw11a, ?zhy11a⟩) (by assumption) ?zrest11a; (case zhi11a => simp only [List.getElem?_toArray, List.getElem?_cons_succ, List.getElem?_cons_zero]; exact rfl); (case zhQ11a => exact fun _ _ _ h => h); (case zhw11a => rfl); (case zhy11a => intro w hSw; (try dsimp only at hSw); go_simp; (try with_reducible rfl)); (try simp only [Act.put, List.setIfInBounds_toArray, List.set_cons_zero, List.set_cons_succ])
                refine' wpAnyH_take (i := 12) (oi := ?zoi12a) (v := ?zv12a) ?zhi12a (by kernel_rfl) (by kernel_rfl) (by kernel_rfl) ?zhQ12a (Or.inl ⟨?zhw12a, ?zhy12a⟩) (by assumption) ?zrest12a; (case zhi12a => simp only [List.getElem?_toArray, List.getElem?_cons_succ, List.getElem?_cons_zero]; exact rfl); (case zhQ12a => exact fun _ _ _ h => h); (case zhw12a => rfl); (case zhy12a => intro w hSw; (try dsimp only at hSw); go_simp; (try with_reducible rfl)); (try simp only [Act.put, List.setIfInBounds_toArray, List.set_cons_zero, List.set_cons_succ])
                refine' wpAnyH_take (i := 13) (oi := ?zoi13a) (v := ?zv13a) ?zhi13a (by kernel_rfl) (by kernel_rfl) (by kernel_rfl) ?zhQ13a (Or.inl ⟨?zhw13a, ?zhy13a⟩) (by assumption) ?zrest13a; (case zhi13a => simp only [List.getElem?_toArray, List.getElem?_cons_succ, List.getElem?_cons_zero]; exact rfl); (case zhQ13a => exact fun _ _ _ h => h); (case zhw13a => rfl); (case zhy13a => intro w hSw; (try dsimp only at hSw); go_simp; (try with_reducible rfl)); (try simp only [Act.put, List.setIfInBounds_toArray, List.set_cons_zero, List.set_cons_succ])
                refine' wpAnyH_take (i := 14) (oi := ?zoi14a) (v := ?zv14a) ?zhi14a (by kernel_rfl) (by kernel_rfl) (by kernel_rfl) ?zhQ14a (Or.inl ⟨?zhw14a, ?zhy14a⟩) (by assumption) ?zrest14a; (case zhi14a => simp only [List.getElem?_toArray, List.getElem?_cons_succ, List.getElem?_cons_zero]; exact rfl); (case zhQ14a => exact fun _ _ _ h => h); (case zhw14a => rfl); (case zhy14a => intro w hSw; (try dsimp only at hSw); go_simp; (try with_reducible rfl)); (try simp only [Act.put, List.setIfInBounds_toArray, List.set_cons_zero, List.set_cons_succ])
                refine' wpAnyH_take (i := 15) (oi := ?zoi15a) (v := ?zv15a) ?zhi15a (by kernel_rfl) (by kernel_rfl) (by kernel_rfl) ?zhQ15a (Or.inl ⟨?zhw15a, ?zhy15a⟩) (by assumption) ?zrest15a; (case zhi15a => simp only [List.getElem?_toArray, List.getElem?_cons_succ, List.getElem?_cons_zero]; exact rfl); (case zhQ15a => exact fun _ _ _ h => h); (case zhw15a => rfl); (case zhy15a => intro w hSw; (try dsimp only at hSw); go_simp; (try with_reducible rfl)); (try simp only [Act.put, List.setIfInBounds_toArray, List.set_cons_zero, List.set_cons_succ])
                refine' wpAnyH_take (i := 16) (oi := ?zoi16a) (v := ?zv16a) ?zhi16a (by kernel_rfl) (by kernel_rfl) (by kernel_rfl) ?zhQ16a (Or.inl ⟨?zhw16a, ?zhy16a⟩) (by assumption) ?zrest16a; (case zhi16a => simp only [List.getElem?_toArray, List.getElem?_cons_succ, List.getElem?_cons_zero]; exact rfl); (case zhQ16a => exact fun _ _ _ h => h); (case zhw16a => rfl); (case zhy16a => intro w hSw; (try dsimp only at hSw); go_simp; (try with_reducible rfl)); (try simp only [Act.put, List.setIfInBounds_toArray, List.set_cons_zero, List.set_cons_succ])
                refine' wpAnyH_take (i := 17) (oi := ?zoi17a) (v := ?zv17a) ?zhi17a (by kernel_rfl) (by kernel_rfl) (by kernel_rfl) ?zhQ17a (Or.inl ⟨?zhw17a, ?zhy17a⟩) (by assumption) ?zrest17a; (case zhi17a => simp only [List.getElem?_toArray, List.getElem?_cons_succ, List.getElem?_cons_zero]; exact rfl); (case zhQ17a => exact fun _ _ _ h => h); (case zhw17a => rfl); (case zhy17a => intro w hSw; (try dsimp only at hSw); go_simp; (try with_reducible rfl)); (try simp only [Act.put, List.setIfInBounds_toArray, List.set_cons_zero, List.set_cons_succ])
                refine' wpAnyH_take (i := 18) (oi := ?zoi18a) (v := ?zv18a) ?zhi18a (by kernel_rfl) (by kernel_rfl) (by kernel_rfl) ?zhQ18a (Or.inl ⟨?zhw18a, ?zhy18a⟩) (by assumption) ?zrest18a; (case zhi18a => simp only [List.getElem?_toArray, List.getElem?_cons_succ, List.getElem?_cons_zero]; exact rfl); (case zhQ18a => exact fun _ _ _ h => h); (case zhw18a => rfl); (case zhy18a => intro w hSw; (try dsimp only at hSw); go_simp; (try with_reducible rfl)); (try simp only [Act.put, List.setIfInBounds_toArray, List.set_cons_zero, List.set_cons_succ])
                refine' wpAnyH_take (i := 19) (oi := ?zoi19a) (v := ?zv19a) ?zhi19a (by kernel_rfl) (by kernel_rfl) (by kernel_rfl) ?zhQ19a (Or.inl ⟨?zhw19a, ?zhy19a⟩) (by assumption) ?zrest19a; (case zhi19a => simp only [List.getElem?_toArray, List.getElem?_cons_succ, List.getElem?_cons_zero]; exact rfl); (case zhQ19a => exact fun _ _ _ h => h); (case zhw19a => rfl); (case zhy19a => intro w hSw; (try dsimp only at hSw); go_simp; (try with_reducible rfl)); (try simp only [Act.put, List.setIfInBounds_toArray, List.set_cons_zero, List.set_cons_succ])
                refine' wpAnyH_take (i := 20) (oi := ?zoi20a) (v := ?zv20a) ?zhi20a (by kernel_rfl) (by kernel_rfl) (by kernel_rfl) ?zhQ20a (Or.inl ⟨?zhw20a, ?zhy20a⟩) (by assumption) ?zrest20a; (case zhi20a => simp only [List.getElem?_toArray, List.getElem?_cons_succ, List.getElem?_cons_zero]; exact rfl); (case zhQ20a => exact fun _ _ _ h => h); (case zhw20a => rfl); (case zhy20a => intro w hSw; (try dsimp only at hSw); go_simp; (try with_reducible rfl)); (try simp only [Act.put, List.setIfInBounds_toArray, List.set_cons_zero, List.set_cons_succ])
                refine' wpAnyH_take (i := 21) (oi := ?zoi21a) (v := ?zv21a) ?zhi21a (by kernel_rfl) (by kernel_rfl) (by kernel_rfl) ?zhQ21a (Or.inl ⟨?zhw21a, ?zhy21a⟩) (by assumption) ?zrest21a; (case zhi21a => simp only [List.getElem?_toArray, List.getElem?_cons_succ, List.getElem?_cons_zero]; exact rfl); (case zhQ21a => exact fun _ _ _ h => h); (case zhw21a => rfl); (case zhy21a => intro w hSw; (try dsimp only at hSw); go_simp; (try with_reducible rfl)); (try simp only [Act.put, List.setIfInBounds_toArray, List.set_cons_zero, List.set_cons_succ])
                refine' wpAnyH_take (i := 22) (oi := ?zoi22a) (v := ?zv22a) ?zhi22a (by kernel_rfl) (by kernel_rfl) (by kernel_rfl) ?zhQ22a (Or.inl ⟨?zhw22a, ?zhy22a⟩) (by assumption) ?zrest22a; (case zhi22a => simp only [List.getElem?_toArray, List.getElem?_cons_succ, List.getElem?_cons_zero]; exact rfl); (case zhQ22a => exact fun _ _ _ h => h); (case zhw22a => rfl); (case zhy22a => intro w hSw; (try dsimp only at hSw); go_simp; (try with_reducible rfl)); (try simp only [Act.put, List.setIfInBounds_toArray, List.set_cons_zero, List.set_cons_succ])
                refine' wpAnyH_take (i := 23) (oi := ?zoi23a) (v := ?zv23a) ?zhi23a (by kernel_rfl) (by kernel_rfl) (by kernel_rfl) ?zhQ23a (Or.inl ⟨?zhw23a, ?zhy23a⟩) (by assumption) ?zrest23a; (case zhi23a => simp only [List.getElem?_toArray, List.getElem?_cons_succ, List.getElem?_cons_zero]; exact rfl); (case zhQ23a => exact fun _ _ _ h => h); (case zhw23a => rfl); (case zhy23a => intro w hSw; (try dsimp only at hSw); go_simp; (try with_reducible rfl)); (try simp only [Act.put, List.setIfInBounds_toArray, List.set_cons_zero, List.set_cons_succ])
                refine wpAnyH_ready (rs := [24]) (by kernel_rfl) (by simp) ?_; refine AllReadyH.cons rfl (fun K hK => ?_) AllReadyH.nil; go_simp
                refine (refBefore_any x o _).mono ?_
                rintro e w1 ⟨rfl, hb1⟩
                rw [HP1.out]
                have K1 := Lib.hid (Ext.trans (by (repeat' (with_reducible first | exact Ext.refl _ | exact Below.refl _ _ | refine Ext.drewN ?_ _ | refine Below.drew ?_ | refine Below.setCell ?_ ?_ _ | refine Below.alloc ?_ ?_ _)) <;> (first | omega | (simp; done) | (simp; omega)) : Ext wz _) hb1)
                clear hb1
                (try dsimp only)
                (try go_simp)
                refine hK.out _ _ (HKK.out _ K1.out) (fun hHeld => ?_)
                clear hK K
                (try simp only [Act.put, List.setIfInBounds_toArray, List.set_cons_zero, List.set_cons_succ])
                refine' wpAnyH_take (i := 25) (oi := ?zoi25a) (v := ?zv25a) ?zhi25a (by kernel_rfl) (by kernel_rfl) (by kernel_rfl) ?zhQ25a (Or.inl ⟨?zhw25a, ?zhy25a⟩) (by assumption) ?zrest25a; (case zhi25a => simp only [List.getElem?_toArray, List.getElem?_cons_succ, List.getElem?_cons_zero]; exact rfl); (case zhQ25a => exact fun _ _ _ h => h); (case zhw25a => rfl); (case zhy25a => intro w hSw; (try dsimp only at hSw); go_simp; (try with_reducible rfl)); (try simp only [Act.put, List.setIfInBounds_toArray, List.set_cons_zero, List.set_cons_succ])
                refine' wpAnyH_take (i := 26) (oi := ?zoi26a) (v := ?zv26a) ?zhi26a (by kernel_rfl) (by kernel_rfl) (by kernel_rfl) ?zhQ26a (Or.inl ⟨?zhw26a, ?zhy26a⟩) (by assumption) ?zrest26a; (case zhi26a => simp only [List.getElem?_toArray, List.getElem?_cons_succ, List.getElem?_cons_zero]; exact rfl); (case zhQ26a => exact fun _ _ _ h => h); (case zhw26a => rfl); (case zhy26a => intro w hSw; (try dsimp only at hSw); go_simp; (try with_reducible rfl)); (try simp only [Act.put, List.setIfInBounds_toArray, List.set_cons_zero, List.set_cons_succ])
                refine' wpAnyH_take (i := 27) (oi := ?zoi27a) (v := ?zv27a) ?zhi27a (by kernel_rfl) (by kernel_rfl) (by kernel_rfl) ?zhQ27a (Or.inl ⟨?zhw27a, ?zhy27a⟩) (by assumption) ?zrest27a; (case zhi27a => simp only [List.getElem?_toArray, List.getElem?_cons_succ, List.getElem?_cons_zero]; exact rfl); (case zhQ27a => exact fun _ _ _ h => h); (case zhw27a => rfl); (case zhy27a => intro w hSw; (try dsimp only at hSw); go_simp; (try with_reducible rfl)); (try simp only [Act.put, List.setIfInBounds_toArray, List.set_cons_zero, List.set_cons_succ])
                refine' wpAnyH_take (i := 28) (oi := ?zoi28a) (v := undef) ?zhi28a (by kernel_rfl) (by kernel_rfl) (by kernel_rfl) ?zhQ28a (Or.inr ⟨?zhw28a, rfl⟩) (by assumption) ?zrest28a; (case zhi28a => simp only [List.getElem?_toArray, List.getElem?_cons_succ, List.getElem?_cons_zero]; exact rfl); (case zhQ28a => exact fun _ _ _ h => h); (case zhw28a => rfl); (try simp only [Act.put, List.setIfInBounds_toArray, List.set_cons_zero, List.set_cons_succ])
                refine' wpAnyH_take (i := 29) (oi := ?zoi29a) (v := undef) ?zhi29a (by kernel_rfl) (by kernel_rfl) (by kernel_rfl) ?zhQ29a (Or.inr ⟨?zhw29a, rfl⟩) (by assumption) ?zrest29a; (case zhi29a => simp only [List.getElem?_toArray, List.getElem?_cons_succ, List.getElem?_cons_zero]; exact rfl); (case zhQ29a => exact fun _ _ _ h => h); (case zhw29a => rfl); (try simp only [Act.put, List.setIfInBounds_toArray, List.set_cons_zero, List.set_cons_succ])
                refine' wpAnyH_take (i := 30) (oi := ?zoi30a) (v := undef) ?zhi30a (by kernel_rfl) (by kernel_rfl) (by kernel_rfl) ?zhQ30a (Or.inr ⟨?zhw30a, rfl⟩) (by assumption) ?zrest30a; (case zhi30a => simp only [List.getElem?_toArray, List.getElem?_cons_succ, List.getElem?_cons_zero]; exact rfl); (case zhQ30a => exact fun _ _ _ h => h); (case zhw30a => rfl); (try simp only [Act.put, List.setIfInBounds_toArray, List.set_cons_zero, List.set_cons_succ])
                refine' wpAnyH_take (i := 31) (oi := ?zoi31a) (v := undef) ?zhi31a (by kernel_rfl) (by kernel_rfl) (by kernel_rfl) ?zhQ31a (Or.inr ⟨?zhw31a, rfl⟩) (by assumption) ?zrest31a; (case zhi31a => simp only [List.getElem?_toArray, List.getElem?_cons_succ, List.getElem?_cons_zero]; exact rfl); (case zhQ31a => exact fun _ _ _ h => h); (case zhw31a => rfl); (try simp only [Act.put, List.setIfInBounds_toArray, List.set_cons_zero, List.set_cons_succ])
                refine' wpAnyH_take (i := 32) (oi := ?zoi32a) (v := undef) ?zhi32a (by kernel_rfl) (by kernel_rfl) (by kernel_rfl) ?zhQ32a (Or.inr ⟨?zhw32a, rfl⟩) (by assumption) ?zrest32a; (case zhi32a => simp only [List.getElem?_toArray, List.getElem?_cons_succ, List.getElem?_cons_zero]; exact rfl); (case zhQ32a => exact fun _ _ _ h => h); (case zhw32a => rfl); (try simp only [Act.put, List.setIfInBounds_toArray, List.set_cons_zero, List.set_cons_succ])
                refine' wpAnyH_take (i := 33) (oi := ?zoi33a) (v := undef) ?zhi33a (by kernel_rfl) (by kernel_rfl) (by kernel_rfl) ?zhQ33a (Or.inr ⟨?zhw33a, rfl⟩) (by assumption) ?zrest33a; (case zhi33a => simp only [List.getElem?_toArray, List.getElem?_cons_succ, List.getElem?_cons_zero]; exact rfl); (case zhQ33a => exact fun _ _ _ h => h); (case zhw33a => rfl); (try simp only [Act.put, List.setIfInBounds_toArray, List.set_cons_zero, List.set_cons_succ])
                refine' wpAnyH_take (i := 34) (oi := ?zoi34a) (v := undef) ?zhi34a (by kernel_rfl) (by kernel_rfl) (by kernel_rfl) ?zhQ34a (Or.inr ⟨?zhw34a, rfl⟩) (by assumption) ?zrest34a; (case zhi34a => simp only [List.getElem?_toArray, List.getElem?_cons_succ, List.getElem?_cons_zero]; exact rfl); (case zhQ34a => exact fun _ _ _ h => h); (case zhw34a => rfl); (try simp only [Act.put, List.setIfInBounds_toArray, List.set_cons_zero, List.set_cons_succ])
                refine' wpAnyH_take (i := 35) (oi := ?zoi35a) (v := ?zv35a) ?zhi35a (by kernel_rfl) (by kernel_rfl) (by kernel_rfl) ?zhQ35a (Or.inl ⟨?zhw35a, ?zhy35a⟩) (by assumption) ?zrest35a; (case zhi35a => simp only [List.getElem?_toArray, List.getElem?_cons_succ, List.getElem?_cons_zero]; exact rfl); (case zhQ35a => exact fun _ _ _ h => h); (case zhw35a => rfl); (case zhy35a => intro w hSw; (try dsimp only at hSw); go_simp; (try with_reducible rfl)); (try simp only [Act.put, List.setIfInBounds_toArray, List.set_cons_zero, List.set_cons_succ])
                refine wpAnyH_done (by kernel_rfl) ?_ _
                go_wp2_with fail
                go_roundw
                case measure => simp [intOf]; omega
                case rel => exact ⟨j + 1, by omega, by go_num, Ext.trans HZ.out (by (repeat' (with_reducible first | exact K1.out | exact Below.refl _ _ | refine Ext.drewN ?_ _ | refine Below.drew ?_ | refine Below.setCell ?_ ?_ _ | refine Below.alloc ?_ ?_ _)) <;> (first | omega | (simp; done) | (simp; omega))), HN.out⟩
              | false =>
                have HP1 := Lib.hid p1
                obtain ⟨p2, hp2⟩ : ∃ p2, beforeL o x = p2 := ⟨_, rfl⟩
                have HP2 := Lib.hid hp2
                have HBB : Hid ((x.id != o.id && badProc o x) = !p2) := by unfold Hid; rw [q1, HBP.out, q2, p1, hp2]; rfl
                clear p1 hp2
                cases p2 with
                | true =>
                  have HN := Lib.hid (HF2.out HBB.out)
                  refine wp_region_held_drew (S := fun w' => ((w'.cell? ⟨b, off + j * 11, none⟩ = some (.int .i64 x.id) ∧ w'.cell? ⟨b, off + j * 11 + 1, none⟩ = some (.int .i64 x.proc) ∧ w'.cell? ⟨b, off + j * 11 + 2, none⟩ = some (.int .i64 x.object) ∧ w'.cell? ⟨b, off + j * 11 + 3, none⟩ = some (.int .i64 x.kind) ∧ w'.cell? ⟨b, off + j * 11 + 4, none⟩ = some (.int .i64 x.method) ∧ w'.cell? ⟨b, off + j * 11 + 5, none⟩ = some (.int .i64 x.arg) ∧ w'.cell? ⟨b, off + j * 11 + 6, none⟩ = some (.int .i64 x.second) ∧ w'.cell? ⟨b, off + j * 11 + 7, none⟩ = some (.bool x.done) ∧ w'.cell? ⟨b, off + j * 11 + 8, none⟩ = some (.int .i64 x.result) ∧ w'.cell? ⟨b, off + j * 11 + 9, none⟩ = some (.int .i64 x.invoke) ∧ w'.cell? ⟨b, off + j * 11 + 10, none⟩ = some (.int .i64 x.ret)) ∧ (w'.cell? ⟨w.heap.size, 0, none⟩ = some (.int .i64 o.id) ∧ w'.cell? ⟨w.heap.size, 1, none⟩ = some (.int .i64 o.proc) ∧ w'.cell? ⟨w.heap.size, 2, none⟩ = some (.int .i64 o.object) ∧ w'.cell? ⟨w.heap.size, 3, none⟩ = some (.int .i64 o.kind) ∧ w'.cell? ⟨w.heap.size, 4, none⟩ = some (.int .i64 o.method) ∧ w'.cell? ⟨w.heap.size, 5, none⟩ = some (.int .i64 o.arg) ∧ w'.cell? ⟨w.heap.size, 6, none⟩ = some (.int .i64 o.second) ∧ w'.cell? ⟨w.heap.size, 7, none⟩ = some (.bool o.done) ∧ w'.cell? ⟨w.heap.size, 8, none⟩ = some (.int .i64 o.result) ∧ w'.cell? ⟨w.heap.size, 9, none⟩ = some (.int .i64 o.invoke) ∧ w'.cell? ⟨w.heap.size, 10, none⟩ = some (.int .i64 o.ret)))) (by kernel_rfl) (HKK.out _ (by (repeat' (with_reducible first | exact Ext.refl _ | exact Below.refl _ _ | refine Ext.drewN ?_ _ | refine Below.drew ?_ | refine Below.setCell ?_ ?_ _ | refine Below.alloc ?_ ?_ _)) <;> (first | omega | (simp; done) | (simp; omega)))) (fun hHeld => ?_)
                  refine' wpAnyH_take (i := 0) (oi := ?zoi0b) (v := ?zv0b) ?zhi0b (by kernel_rfl) (by kernel_rfl) (by kernel_rfl) ?zhQ0b (Or.inl ⟨?zhw0b, ?zhy0b⟩) (by assumption) ?zrest0b; (case zhi0b => simp only [List.getElem?_toArray, List.getElem?_cons_succ, List.getElem?_cons_zero]; exact rfl); (case zhQ0b => exact fun _ _ _ h => h); (case zhw0b => rfl); (case zhy0b => intro w hSw; (try dsimp only at hSw); go_simp; (try with_reducible rfl)); (try simp only [Act.put, List.setIfInBounds_toArray, List.set_cons_zero, List.set_cons_succ])
                  refine' wpAnyH_take (i := 1) (oi := ?zoi1b) (v := ?zv1b) ?zhi1b (by kernel_rfl) (by kernel_rfl) (by kernel_rfl) ?zhQ1b (Or.inl ⟨?zhw1b, ?zhy1b⟩) (by assumption) ?zrest1b; (case zhi1b => simp only [List.getElem?_toArray, List.getElem?_cons_succ, List.getElem?_cons_zero]; exact rfl); (case zhQ1b => exact fun _ _ _ h => h); (case zhw1b => rfl); (case zhy1b => intro w hSw; (try dsimp only at hSw); go_simp; (try with_reducible rfl)); (try simp only [Act.put, List.setIfInBounds_toArray, List.set_cons_zero, List.set_cons_succ])
                  refine' wpAnyH_take (i := 2) (oi := ?zoi2b) (v := ?zv2b) ?zhi2b (by kernel_rfl) (by kernel_rfl) (by kernel_rfl) ?zhQ2b (Or.inl ⟨?zhw2b, ?zhy2b⟩) (by assumption) ?zrest2b; (case zhi2b => simp only [List.getElem?_toArray, List.getElem?_cons_succ, List.getElem?_cons_zero]; exact rfl); (case zhQ2b => exact fun _ _ _ h => h); (case zhw2b => rfl); (case zhy2b => intro w hSw; (try dsimp only at hSw); go_simp; (try with_reducible rfl)); (try simp only [Act.put, List.setIfInBounds_toArray, List.set_cons_zero, List.set_cons_succ])
                  refine' wpAnyH_take (i := 3) (oi := ?zoi3b) (v := ?zv3b) ?zhi3b (by kernel_rfl) (by kernel_rfl) (by kernel_rfl) ?zhQ3b (Or.inl ⟨?zhw3b, ?zhy3b⟩) (by assumption) ?zrest3b; (case zhi3b => simp only [List.getElem?_toArray, List.getElem?_cons_succ, List.getElem?_cons_zero]; exact rfl); (case zhQ3b => exact fun _ _ _ h => h); (case zhw3b => rfl); (case zhy3b => intro w hSw; (try dsimp only at hSw); go_simp; (try with_reducible rfl)); (try simp only [Act.put, List.setIfInBounds_toArray, List.set_cons_zero, List.set_cons_succ])
                  refine' wpAnyH_take (i := 4) (oi := ?zoi4b) (v := ?zv4b) ?zhi4b (by kernel_rfl) (by kernel_rfl) (by kernel_rfl) ?zhQ4b (Or.inl ⟨?zhw4b, ?zhy4b⟩) (by assumption) ?zrest4b; (case zhi4b => simp only [List.getElem?_toArray, List.getElem?_cons_succ, List.getElem?_cons_zero]; exact rfl); (case zhQ4b => exact fun _ _ _ h => h); (case zhw4b => rfl); (case zhy4b => intro w hSw; (try dsimp only at hSw); go_simp; (try with_reducible rfl)); (try simp only [Act.put, List.setIfInBounds_toArray, List.set_cons_zero, List.set_cons_succ])
                  refine' wpAnyH_take (i := 5) (oi := ?zoi5b) (v := ?zv5b) ?zhi5b (by kernel_rfl) (by kernel_rfl) (by kernel_rfl) ?zhQ5b (Or.inl ⟨?zhw5b, ?zhy5b⟩) (by assumption) ?zrest5b; (case zhi5b => simp only [List.getElem?_toArray, List.getElem?_cons_succ, List.getElem?_cons_zero]; exact rfl); (case zhQ5b => exact fun _ _ _ h => h); (case zhw5b => rfl); (case zhy5b => intro w hSw; (try dsimp only at hSw); go_simp; (try with_reducible rfl)); (try simp only [Act.put, List.setIfInBounds_toArray, List.set_cons_zero, List.set_cons_succ])
                  refine' wpAnyH_take (i := 6) (oi := ?zoi6b) (v := ?zv6b) ?zhi6b (by kernel_rfl) (by kernel_rfl) (by kernel_rfl) ?zhQ6b (Or.inl ⟨?zhw6b, ?zhy6b⟩) (by assumption) ?zrest6b; (case zhi6b => simp only [List.getElem?_toArray, List.getElem?_cons_succ, List.getElem?_cons_zero]; exact rfl); (case zhQ6b => exact fun _ _ _ h => h); (case zhw6b => rfl); (case zhy6b => intro w hSw; (try dsimp only at hSw); go_simp; (try with_reducible rfl)); (try simp only [Act.put, List.setIfInBounds_toArray, List.set_cons_zero, List.set_cons_succ])
                  refine' wpAnyH_take (i := 7) (oi := ?zoi7b) (v := ?zv7b) ?zhi7b (by kernel_rfl) (by kernel_rfl) (by kernel_rfl) ?zhQ7b (Or.inl ⟨?zhw7b, ?zhy7b⟩) (by assumption) ?zrest7b; (case zhi7b => simp only [List.getElem?_toArray, List.getElem?_cons_succ, List.getElem?_cons_zero]; exact rfl); (case zhQ7b => exact fun _ _ _ h => h); (case zhw7b => rfl); (case zhy7b => intro w hSw; (try dsimp only at hSw); go_simp; (try with_reducible rfl)); (try simp only [Act.put, List.setIfInBounds_toArray, List.set_cons_zero, List.set_cons_succ])
                  refine' wpAnyH_take (i := 8) (oi := ?zoi8b) (v := ?zv8b) ?zhi8b (by kernel_rfl) (by kernel_rfl) (by kernel_rfl) ?zhQ8b (Or.inl ⟨?zhw8b, ?zhy8b⟩) (by assumption) ?zrest8b; (case zhi8b => simp only [List.getElem?_toArray, List.getElem?_cons_succ, List.getElem?_cons_zero]; exact rfl); (case zhQ8b => exact fun _ _ _ h => h); (case zhw8b => rfl); (case zhy8b => intro w hSw; (try dsimp only at hSw); go_simp; (try with_reducible rfl)); (try simp only [Act.put, List.setIfInBounds_toArray, List.set_cons_zero, List.set_cons_succ])
                  refine' wpAnyH_take (i := 9) (oi := ?zoi9b) (v := ?zv9b) ?zhi9b (by kernel_rfl) (by kernel_rfl) (by kernel_rfl) ?zhQ9b (Or.inl ⟨?zhw9b, ?zhy9b⟩) (by assumption) ?zrest9b; (case zhi9b => simp only [List.getElem?_toArray, List.getElem?_cons_succ, List.getElem?_cons_zero]; exact rfl); (case zhQ9b => exact fun _ _ _ h => h); (case zhw9b => rfl); (case zhy9b => intro w hSw; (try dsimp only at hSw); go_simp; (try with_reducible rfl)); (try simp only [Act.put, List.setIfInBounds_toArray, List.set_cons_zero, List.set_cons_succ])
                  refine' wpAnyH_take (i := 10) (oi := ?zoi10b) (v := ?zv10b) ?zhi10b (by kernel_rfl) (by kernel_rfl) (by kernel_rfl) ?zhQ10b (Or.inl ⟨?zhw10b, ?zhy10b⟩) (by assumption) ?zrest10b; (case zhi10b => simp only [List.getElem?_toArray, List.getElem?_cons_succ, List.getElem?_cons_zero]; exact rfl); (case zhQ10b => exact fun _ _ _ h => h); (case zhw10b => rfl); (case zhy10b => intro w hSw; (try dsimp only at hSw); go_simp; (try with_reducible rfl)); (try simp only [Act.put, List.setIfInBounds_toArray, List.set_cons_zero, List.set_cons_succ])
                  refine' wpAnyH_take (i := 11) (oi := ?zoi11b) (v := ?zv11b) ?zhi11b (by kernel_rfl) (by kernel_rfl) (by kernel_rfl) ?zhQ11b (Or.inl ⟨?zhw11b, ?zhy11b⟩) (by assumption) ?zrest11b; (case zhi11b => simp only [List.getElem?_toArray, List.getElem?_cons_succ, List.getElem?_cons_zero]; exact rfl); (case zhQ11b => exact fun _ _ _ h => h); (case zhw11b => rfl); (case zhy11b => intro w hSw; (try dsimp only at hSw); go_simp; (try with_reducible rfl)); (try simp only [Act.put, List.setIfInBounds_toArray, List.set_cons_zero, List.set_cons_succ])
                  refine' wpAnyH_take (i := 12) (oi := ?zoi12b) (v := ?zv12b) ?zhi12b (by kernel_rfl) (by kernel_rfl) (by kernel_rfl) ?zhQ12b (Or.inl ⟨?zhw12b, ?zhy12b⟩) (by assumption) ?zrest12b; (case zhi12b => simp only [List.getElem?_toArray, List.getElem?_cons_succ, List.getElem?_cons_zero]; exact rfl); (case zhQ12b => exact fun _ _ _ h => h); (case zhw12b => rfl); (case zhy12b => intro w hSw; (try dsimp only at hSw); go_simp; (try with_reducible rfl)); (try simp only [Act.put, List.setIfInBounds_toArray, List.set_cons_zero, List.set_cons_succ])
                  refine' wpAnyH_take (i := 13) (oi := ?zoi13b) (v := ?zv13b) ?zhi13b (by kernel_rfl) (by kernel_rfl) (by kernel_rfl) ?zhQ13b (Or.inl ⟨?zhw13b, ?zhy13b⟩) (by assumption) ?zrest13b; (case zhi13b => simp only [List.getElem?_toArray, List.getElem?_cons_succ, List.getElem?_cons_zero]; exact rfl); (case zhQ13b => exact fun _ _ _ h => h); (case zhw13b => rfl); (case zhy13b => intro w hSw; (try dsimp only at hSw); go_simp; (try with_reducible rfl)); (try simp only [Act.put, List.setIfInBounds_toArray, List.set_cons_zero, List.set_cons_succ])
                  refine' wpAnyH_take (i := 14) (oi := ?zoi14b) (v := ?zv14b) ?zhi14b (by kernel_rfl) (by kernel_rfl) (by kernel_rfl) ?zhQ14b (Or.inl ⟨?zhw14b, ?zhy14b⟩) (by assumption) ?zrest14b; (case zhi14b => simp only [List.getElem?_toArray, List.getElem?_cons_succ, List.getElem?_cons_zero]; exact rfl); (case zhQ14b => exact fun _ _ _ h => h); (case zhw14b => rfl); (case zhy14b => intro w hSw; (try dsimp only at hSw); go_simp; (try with_reducible rfl)); (try simp only [Act.put, List.setIfInBounds_toArray, List.set_cons_zero, List.set_cons_succ])
                  refine' wpAnyH_take (i := 15) (oi := ?zoi15b) (v := ?zv15b) ?zhi15b (by kernel_rfl) (by kernel_rfl) (by kernel_rfl) ?zhQ15b (Or.inl ⟨?zhw15b, ?zhy15b⟩) (by assumption) ?zrest15b; (case zhi15b => simp only [List.getElem?_toArray, List.getElem?_cons_succ, List.getElem?_cons_zero]; exact rfl); (case zhQ15b => exact fun _ _ _ h => h); (case zhw15b => rfl); (case zhy15b => intro w hSw; (try dsimp only at hSw); go_simp; (try with_reducible rfl)); (try simp only [Act.put, List.setIfInBounds_toArray, List.set_cons_zero, List.set_cons_succ])
                  refine' wpAnyH_take (i := 16) (oi := ?zoi16b) (v := ?zv16b) ?zhi16b (by kernel_rfl) (by kernel_rfl) (by kernel_rfl) ?zhQ16b (Or.inl ⟨?zhw16b, ?zhy16b⟩) (by assumption) ?zrest16b; (case zhi16b => simp only [List.getElem?_toArray, List.getElem?_cons_succ, List.getElem?_cons_zero]; exact rfl); (case zhQ16b => exact fun _ _ _ h => h); (case zhw16b => rfl); (case zhy16b => intro w hSw; (try dsimp only at hSw); go_simp; (try with_reducible rfl)); (try simp only [Act.put, List.setIfInBounds_toArray, List.set_cons_zero, List.set_cons_succ])
                  refine' wpAnyH_take (i := 17) (oi := ?zoi17b) (v := ?zv17b) ?zhi17b (by kernel_rfl) (by kernel_rfl) (by kernel_rfl) ?zhQ17b (Or.inl ⟨?zhw17b, ?zhy17b⟩) (by assumption) ?zrest17b; (case zhi17b => simp only [List.getElem?_toArray, List.getElem?_cons_succ, List.getElem?_cons_zero]; exact rfl); (case zhQ17b => exact fun _ _ _ h => h); (case zhw17b => rfl); (case zhy17b => intro w hSw; (try dsimp only at hSw); go_simp; (try with_reducible rfl)); (try simp only [Act.put, List.setIfInBounds_toArray, List.set_cons_zero, List.set_cons_succ])
                  refine' wpAnyH_take (i := 18) (oi := ?zoi18b) (v := ?zv18b) ?zhi18b (by kernel_rfl) (by kernel_rfl) (by kernel_rfl) ?zhQ18b (Or.inl ⟨?zhw18b, ?zhy18b⟩) (by assumption) ?zrest18b; (case zhi18b => simp only [List.getElem?_toArray, List.getElem?_cons_succ, List.getElem?_cons_zero]; exact rfl); (case zhQ18b => exact fun _ _ _ h => h); (case zhw18b => rfl); (case zhy18b => intro w hSw; (try dsimp only at hSw); go_simp; (try with_reducible rfl)); (try simp only [Act.put, List.setIfInBounds_toArray, List.set_cons_zero, List.set_cons_succ])
                  refine' wpAnyH_take (i := 19) (oi := ?zoi19b) (v := ?zv19b) ?zhi19b (by kernel_rfl) (by kernel_rfl) (by kernel_rfl) ?zhQ19b (Or.inl ⟨?zhw19b, ?zhy19b⟩) (by assumption) ?zrest19b; (case zhi19b => simp only [List.getElem?_toArray, List.getElem?_cons_succ, List.getElem?_cons_zero]; exact rfl); (case zhQ19b => exact fun _ _ _ h => h); (case zhw19b => rfl); (case zhy19b => intro w hSw; (try dsimp only at hSw); go_simp; (try with_reducible rfl)); (try simp only [Act.put, List.setIfInBounds_toArray, List.set_cons_zero, List.set_cons_succ])
                  refine' wpAnyH_take (i := 20) (oi := ?zoi20b) (v := ?zv20b) ?zhi20b (by kernel_rfl) (by kernel_rfl) (by kernel_rfl) ?zhQ20b (Or.inl ⟨?zhw20b, ?zhy20b⟩) (by assumption) ?zrest20b; (case zhi20b => simp only [List.getElem?_toArray, List.getElem?_cons_succ, List.getElem?_cons_zero]; exact rfl); (case zhQ20b => exact fun _ _ _ h => h); (case zhw20b => rfl); (case zhy20b => intro w hSw; (try dsimp only at hSw); go_simp; (try with_reducible rfl)); (try simp only [Act.put, List.setIfInBounds_toArray, List.set_cons_zero, List.set_cons_succ])
                  refine' wpAnyH_take (i := 21) (oi := ?zoi21b) (v := ?zv21b) ?zhi21b (by kernel_rfl) (by kernel_rfl) (by kernel_rfl) ?zhQ21b (Or.inl ⟨?zhw21b, ?zhy21b⟩) (by assumption) ?zrest21b; (case zhi21b => simp only [List.getElem?_toArray, List.getElem?_cons_succ, List.getElem?_cons_zero]; exact rfl); (case zhQ21b => exact fun _ _ _ h => h); (case zhw21b => rfl); (case zhy21b => intro w hSw; (try dsimp only at hSw); go_simp; (try with_reducible rfl)); (try simp only [Act.put, List.setIfInBounds_toArray, List.set_cons_zero, List.set_cons_succ])
                  refine' wpAnyH_take (i := 22) (oi := ?zoi22b) (v := ?zv22b) ?zhi22b (by kernel_rfl) (by kernel_rfl) (by kernel_rfl) ?zhQ22b (Or.inl ⟨?zhw22b, ?zhy22b⟩) (by assumption) ?zrest22b; (case zhi22b => simp only [List.getElem?_toArray, List.getElem?_cons_succ, List.getElem?_cons_zero]; exact rfl); (case zhQ22b => exact fun _ _ _ h => h); (case zhw22b => rfl); (case zhy22b => intro w hSw; (try dsimp only at hSw); go_simp; (try with_reducible rfl)); (try simp only [Act.put, List.setIfInBounds_toArray, List.set_cons_zero, List.set_cons_succ])
                  refine' wpAnyH_take (i := 23) (oi := ?zoi23b) (v := ?zv23b) ?zhi23b (by kernel_rfl) (by kernel_rfl) (by kernel_rfl) ?zhQ23b (Or.inl ⟨?zhw23b, ?zhy23b⟩) (by assumption) ?zrest23b; (case zhi23b => simp only [List.getElem?_toArray, List.getElem?_cons_succ, List.getElem?_cons_zero]; exact rfl); (case zhQ23b => exact fun _ _ _ h => h); (case zhw23b => rfl); (case zhy23b => intro w hSw; (try dsimp only at hSw); go_simp; (try with_reducible rfl)); (try simp only [Act.put, List.setIfInBounds_toArray, List.set_cons_zero, List.set_cons_succ])
                  refine wpAnyH_ready (rs := [24]) (by kernel_rfl) (by simp) ?_; refine AllReadyH.cons rfl (fun K hK => ?_) AllReadyH.nil; go_simp
                  refine (refBefore_any x o _).mono ?_
                  rintro e w1 ⟨rfl, hb1⟩
                  rw [HP1.out]
                  have K1 := Lib.hid (Ext.trans (by (repeat' (with_reducible first | exact Ext.refl _ | exact Below.refl _ _ | refine Ext.drewN ?_ _ | refine Below.drew ?_ | refine Below.setCell ?_ ?_ _ | refine Below.alloc ?_ ?_ _)) <;> (first | omega | (simp; done) | (simp; omega)) : Ext wz _) hb1)
                  clear hb1
                  (try dsimp only)
                  (try go_simp)
                  refine hK.out _ _ (HKK.out _ K1.out) (fun hHeld => ?_)
                  clear hK K
                  (try simp only [Act.put, List.setIfInBounds_toArray, List.set_cons_zero, List.set_cons_succ])
                  refine' wpAnyH_take (i := 25) (oi := ?zoi25b) (v := ?zv25b) ?zhi25b (by kernel_rfl) (by kernel_rfl) (by kernel_rfl) ?zhQ25b (Or.inl ⟨?zhw25b, ?zhy25b⟩) (by assumption) ?zrest25b; (case zhi25b => simp only [List.getElem?_toArray, List.getElem?_cons_succ, List.getElem?_cons_zero]; exact rfl); (case zhQ25b => exact fun _ _ _ h => h); (case zhw25b => rfl); (case zhy25b => intro w hSw; (try dsimp only at hSw); go_simp; (try with_reducible rfl)); (try simp only [Act.put, List.setIfInBounds_toArray, List.set_cons_zero, List.set_cons_succ])
                  refine' wpAnyH_take (i := 26) (oi := ?zoi26b) (v := ?zv26b) ?zhi26b (by kernel_rfl) (by kernel_rfl) (by kernel_rfl) ?zhQ26b (Or.inl ⟨?zhw26b, ?zhy26b⟩) (by assumption) ?zrest26b; (case zhi26b => simp only [List.getElem?_toArray, List.getElem?_cons_succ, List.getElem?_cons_zero]; exact rfl); (case zhQ26b => exact fun _ _ _ h => h); (case zhw26b => rfl); (case zhy26b => intro w hSw; (try dsimp only at hSw); go_simp; (try with_reducible rfl)); (try simp only [Act.put, List.setIfInBounds_toArray, List.set_cons_zero, List.set_cons_succ])
                  refine' wpAnyH_take (i := 27) (oi := ?zoi27b) (v := ?zv27b) ?zhi27b (by kernel_rfl) (by kernel_rfl) (by kernel_rfl) ?zhQ27b (Or.inl ⟨?zhw27b, ?zhy27b⟩) (by assumption) ?zrest27b; (case zhi27b => simp only [List.getElem?_toArray, List.getElem?_cons_succ, List.getElem?_cons_zero]; exact rfl); (case zhQ27b => exact fun _ _ _ h => h); (case zhw27b => rfl); (case zhy27b => intro w hSw; (try dsimp only at hSw); go_simp; (try with_reducible rfl)); (try simp only [Act.put, List.setIfInBounds_toArray, List.set_cons_zero, List.set_cons_succ])
                  refine' wpAnyH_take (i := 28) (oi := ?zoi28b) (v := ?zv28b) ?zhi28b (by kernel_rfl) (by kernel_rfl) (by kernel_rfl) ?zhQ28b (Or.inl ⟨?zhw28b, ?zhy28b⟩) (by assumption) ?zrest28b; (case zhi28b => simp only [List.getElem?_toArray, List.getElem?_cons_succ, List.getElem?_cons_zero]; exact rfl); (case zhQ28b => exact fun _ _ _ h => h); (case zhw28b => rfl); (case zhy28b => intro w hSw; (try dsimp only at hSw); go_simp; (try with_reducible rfl)); (try simp only [Act.put, List.setIfInBounds_toArray, List.set_cons_zero, List.set_cons_succ])
                  refine' wpAnyH_take (i := 29) (oi := ?zoi29b) (v := ?zv29b) ?zhi29b (by kernel_rfl) (by kernel_rfl) (by kernel_rfl) ?zhQ29b (Or.inl ⟨?zhw29b, ?zhy29b⟩) (by assumption) ?zrest29b; (case zhi29b => simp only [List.getElem?_toArray, List.getElem?_cons_succ, List.getElem?_cons_zero]; exact rfl); (case zhQ29b => exact fun _ _ _ h => h); (case zhw29b => rfl); (case zhy29b => intro w hSw; (try dsimp only at hSw); go_simp; (try with_reducible rfl)); (try simp only [Act.put, List.setIfInBounds_toArray, List.set_cons_zero, List.set_cons_succ])
                  refine' wpAnyH_take (i := 30) (oi := ?zoi30b) (v := ?zv30b) ?zhi30b (by kernel_rfl) (by kernel_rfl) (by kernel_rfl) ?zhQ30b (Or.inl ⟨?zhw30b, ?zhy30b⟩) (by assumption) ?zrest30b; (case zhi30b => simp only [List.getElem?_toArray, List.getElem?_cons_succ, List.getElem?_cons_zero]; exact rfl); (case zhQ30b => exact fun _ _ _ h => h); (case zhw30b => rfl); (case zhy30b => intro w hSw; (try dsimp only at hSw); go_simp; (try with_reducible rfl)); (try simp only [Act.put, List.setIfInBounds_toArray, List.set_cons_zero, List.set_cons_succ])
                  refine' wpAnyH_take (i := 31) (oi := ?zoi31b) (v := ?zv31b) ?zhi31b (by kernel_rfl) (by kernel_rfl) (by kernel_rfl) ?zhQ31b (Or.inl ⟨?zhw31b, ?zhy31b⟩) (by assumption) ?zrest31b; (case zhi31b => simp only [List.getElem?_toArray, List.getElem?_cons_succ, List.getElem?_cons_zero]; exact rfl); (case zhQ31b => exact fun _ _ _ h => h); (case zhw31b => rfl); (case zhy31b => intro w hSw; (try dsimp only at hSw); go_simp; (try with_reducible rfl)); (try simp only [Act.put, List.setIfInBounds_toArray, List.set_cons_zero, List.set_cons_succ])
                  refine' wpAnyH_take (i := 32) (oi := ?zoi32b) (v := ?zv32b) ?zhi32b (by kernel_rfl) (by kernel_rfl) (by kernel_rfl) ?zhQ32b (Or.inl ⟨?zhw32b, ?zhy32b⟩) (by assumption) ?zrest32b; (case zhi32b => simp only [List.getElem?_toArray, List.getElem?_cons_succ, List.getElem?_cons_zero]; exact rfl); (case zhQ32b => exact fun _ _ _ h => h); (case zhw32b => rfl); (case zhy32b => intro w hSw; (try dsimp only at hSw); go_simp; (try with_reducible rfl)); (try simp only [Act.put, List.setIfInBounds_toArray, List.set_cons_zero, List.set_cons_succ])
                  refine wpAnyH_ready (rs := [33]) (by kernel_rfl) (by simp) ?_; refine AllReadyH.cons rfl (fun K hK => ?_) AllReadyH.nil; go_simp
                  refine (refBefore_any o x _).mono ?_
                  rintro e w2 ⟨rfl, hb2⟩
                  rw [HP2.out]
                  have K2 := Lib.hid (Ext.trans K1.out hb2)
                  clear hb2
                  (try dsimp only)
                  (try go_simp)
                  refine hK.out _ _ (HKK.out _ K2.out) (fun hHeld => ?_)
                  clear hK K
                  (try simp only [Act.put, List.setIfInBounds_toArray, List.set_cons_zero, List.set_cons_succ])
                  refine' wpAnyH_take (i := 34) (oi := ?zoi34b) (v := ?zv34b) ?zhi34b (by kernel_rfl) (by kernel_rfl) (by kernel_rfl) ?zhQ34b (Or.inl ⟨?zhw34b, ?zhy34b⟩) (by assumption) ?zrest34b; (case zhi34b => simp only [List.getElem?_toArray, List.getElem?_cons_succ, List.getElem?_cons_zero]; exact rfl); (case zhQ34b => exact fun _ _ _ h => h); (case zhw34b => rfl); (case zhy34b => intro w hSw; (try dsimp only at hSw); go_simp; (try with_reducible rfl)); (try simp only [Act.put, List.setIfInBounds_toArray, List.set_cons_zero, List.set_cons_succ])
                  refine' wpAnyH_take (i := 35) (oi := ?zoi35b) (v := ?zv35b) ?zhi35b (by kernel_rfl) (by kernel_rfl) (by kernel_rfl) ?zhQ35b (Or.inl ⟨?zhw35b, ?zhy35b⟩) (by assumption) ?zrest35b; (case zhi35b => simp only [List.getElem?_toArray, List.getElem?_cons_succ, List.getElem?_cons_zero]; exact rfl); (case zhQ35b => exact fun _ _ _ h => h); (case zhw35b => rfl); (case zhy35b => intro w hSw; (try dsimp only at hSw); go_simp; (try with_reducible rfl)); (try simp only [Act.put, List.setIfInBounds_toArray, List.set_cons_zero, List.set_cons_succ])
                  refine wpAnyH_done (by kernel_rfl) ?_ _
                  go_wp2_with fail
                  go_roundw
                  case measure => simp [intOf]; omega
                  case rel => exact ⟨j + 1, by omega, by go_num, Ext.trans HZ.out (by (repeat' (with_reducible first | exact K2.out | exact Below.refl _ _ | refine Ext.drewN ?_ _ | refine Below.drew ?_ | refine Below.setCell ?_ ?_ _ | refine Below.alloc ?_ ?_ _)) <;> (first | omega | (simp; done) | (simp; omega))), HN.out⟩
                | false =>
                  have HN := Lib.hid (HT.out HBB.out)
                  refine wp_region_held_drew (S := fun w' => ((w'.cell? ⟨b, off + j * 11, none⟩ = some (.int .i64 x.id) ∧ w'.cell? ⟨b, off + j * 11 + 1, none⟩ = some (.int .i64 x.proc) ∧ w'.cell? ⟨b, off + j * 11 + 2, none⟩ = some (.int .i64 x.object) ∧ w'.cell? ⟨b, off + j * 11 + 3, none⟩ = some (.int .i64 x.kind) ∧ w'.cell? ⟨b, off + j * 11 + 4, none⟩ = some (.int .i64 x.method) ∧ w'.cell? ⟨b, off + j * 11 + 5, none⟩ = some (.int .i64 x.arg) ∧ w'.cell? ⟨b, off + j * 11 + 6, none⟩ = some (.int .i64 x.second) ∧ w'.cell? ⟨b, off + j * 11 + 7, none⟩ = some (.bool x.done) ∧ w'.cell? ⟨b, off + j * 11 + 8, none⟩ = some (.int .i64 x.result) ∧ w'.cell? ⟨b, off + j * 11 + 9, none⟩ = some (.int .i64 x.invoke) ∧ w'.cell? ⟨b, off + j * 11 + 10, none⟩ = some (.int .i64 x.ret)) ∧ (w'.cell? ⟨w.heap.size, 0, none⟩ = some (.int .i64 o.id) ∧ w'.cell? ⟨w.heap.size, 1, none⟩ = some (.int .i64 o.proc) ∧ w'.cell? ⟨w.heap.size, 2, none⟩ = some (.int .i64 o.object) ∧ w'.cell? ⟨w.heap.size, 3, none⟩ = some (.int .i64 o.kind) ∧ w'.cell? ⟨w.heap.size, 4, none⟩ = some (.int .i64 o.method) ∧ w'.cell? ⟨w.heap.size, 5, none⟩ = some (.int .i64 o.arg) ∧ w'.cell? ⟨w.heap.size, 6, none⟩ = some (.int .i64 o.second) ∧ w'.cell? ⟨w.heap.size, 7, none⟩ = some (.bool o.done) ∧ w'.cell? ⟨w.heap.size, 8, none⟩ = some (.int .i64 o.result) ∧ w'.cell? ⟨w.heap.size, 9, none⟩ = some (.int .i64 o.invoke) ∧ w'.cell? ⟨w.heap.size, 10, none⟩ = some (.int .i64 o.ret)))) (by kernel_rfl) (HKK.out _ (by (repeat' (with_reducible first | exact Ext.refl _ | exact Below.refl _ _ | refine Ext.drewN ?_ _ | refine Below.drew ?_ | refine Below.setCell ?_ ?_ _ | refine Below.alloc ?_ ?_ _)) <;> (first | omega | (simp; done) | (simp; omega)))) (fun hHeld => ?_)
                  refine' wpAnyH_take (i := 0) (oi := ?zoi0c) (v := ?zv0c) ?zhi0c (by kernel_rfl) (by kernel_rfl) (by kernel_rfl) ?zhQ0c (Or.inl ⟨?zhw0c, ?zhy0c⟩) (by assumption) ?zrest0c; (case zhi0c => simp only [List.getElem?_toArray, List.getElem?_cons_succ, List.getElem?_cons_zero]; exact rfl); (case zhQ0c => exact fun _ _ _ h => h); (case zhw0c => rfl); (case zhy0c => intro w hSw; (try dsimp only at hSw); go_simp; (try with_reducible rfl)); (try simp only [Act.put, List.setIfInBounds_toArray, List.set_cons_zero, List.set_cons_succ])
                  refine' wpAnyH_take (i := 1) (oi := ?zoi1c) (v := ?zv1c) ?zhi1c (by kernel_rfl) (by kernel_rfl) (by kernel_rfl) ?zhQ1c (Or.inl ⟨?zhw1c, ?zhy1c⟩) (by assumption) ?zrest1c; (case zhi1c => simp only [List.getElem?_toArray, List.getElem?_cons_succ, List.getElem?_cons_zero]; exact rfl); (case zhQ1c => exact fun _ _ _ h => h); (case zhw1c => rfl); (case zhy1c => intro w hSw; (try dsimp only at hSw); go_simp; (try with_reducible rfl)); (try simp only [Act.put, List.setIfInBounds_toArray, List.set_cons_zero, List.set_cons_succ])
                  refine' wpAnyH_take (i := 2) (oi := ?zoi2c) (v := ?zv2c) ?zhi2c (by kernel_rfl) (by kernel_rfl) (by kernel_rfl) ?zhQ2c (Or.inl ⟨?zhw2c, ?zhy2c⟩) (by assumption) ?zrest2c; (case zhi2c => simp only [List.getElem?_toArray, List.getElem?_cons_succ, List.getElem?_cons_zero]; exact rfl); (case zhQ2c => exact fun _ _ _ h => h); (case zhw2c => rfl); (case zhy2c => intro w hSw; (try dsimp only at hSw); go_simp; (try with_reducible rfl)); (try simp only [Act.put, List.setIfInBounds_toArray, List.set_cons_zero, List.set_cons_succ])
                  refine' wpAnyH_take (i := 3) (oi := ?zoi3c) (v := ?zv3c) ?zhi3c (by kernel_rfl) (by kernel_rfl) (by kernel_rfl) ?zhQ3c (Or.inl ⟨?zhw3c, ?zhy3c⟩) (by assumption) ?zrest3c; (case zhi3c => simp only [List.getElem?_toArray, List.getElem?_cons_succ, List.getElem?_cons_zero]; exact rfl); (case zhQ3c => exact fun _ _ _ h => h); (case zhw3c => rfl); (case zhy3c => intro w hSw; (try dsimp only at hSw); go_simp; (try with_reducible rfl)); (try simp only [Act.put, List.setIfInBounds_toArray, List.set_cons_zero, List.set_cons_succ])
                  refine' wpAnyH_take (i := 4) (oi := ?zoi4c) (v := ?zv4c) ?zhi4c (by kernel_rfl) (by kernel_rfl) (by kernel_rfl) ?zhQ4c (Or.inl ⟨?zhw4c, ?zhy4c⟩) (by assumption) ?zrest4c; (case zhi4c => simp only [List.getElem?_toArray, List.getElem?_cons_succ, List.getElem?_cons_zero]; exact rfl); (case zhQ4c => exact fun _ _ _ h => h); (case zhw4c => rfl); (case zhy4c => intro w hSw; (try dsimp only at hSw); go_simp; (try with_reducible rfl)); (try simp only [Act.put, List.setIfInBounds_toArray, List.set_cons_zero, List.set_cons_succ])
                  refine' wpAnyH_take (i := 5) (oi := ?zoi5c) (v := ?zv5c) ?zhi5c (by kernel_rfl) (by kernel_rfl) (by kernel_rfl) ?zhQ5c (Or.inl ⟨?zhw5c, ?zhy5c⟩) (by assumption) ?zrest5c; (case zhi5c => simp only [List.getElem?_toArray, List.getElem?_cons_succ, List.getElem?_cons_zero]; exact rfl); (case zhQ5c => exact fun _ _ _ h => h); (case zhw5c => rfl); (case zhy5c => intro w hSw; (try dsimp only at hSw); go_simp; (try with_reducible rfl)); (try simp only [Act.put, List.setIfInBounds_toArray, List.set_cons_zero, List.set_cons_succ])
                  refine' wpAnyH_take (i := 6) (oi := ?zoi6c) (v := ?zv6c) ?zhi6c (by kernel_rfl) (by kernel_rfl) (by kernel_rfl) ?zhQ6c (Or.inl ⟨?zhw6c, ?zhy6c⟩) (by assumption) ?zrest6c; (case zhi6c => simp only [List.getElem?_toArray, List.getElem?_cons_succ, List.getElem?_cons_zero]; exact rfl); (case zhQ6c => exact fun _ _ _ h => h); (case zhw6c => rfl); (case zhy6c => intro w hSw; (try dsimp only at hSw); go_simp; (try with_reducible rfl)); (try simp only [Act.put, List.setIfInBounds_toArray, List.set_cons_zero, List.set_cons_succ])
                  refine' wpAnyH_take (i := 7) (oi := ?zoi7c) (v := ?zv7c) ?zhi7c (by kernel_rfl) (by kernel_rfl) (by kernel_rfl) ?zhQ7c (Or.inl ⟨?zhw7c, ?zhy7c⟩) (by assumption) ?zrest7c; (case zhi7c => simp only [List.getElem?_toArray, List.getElem?_cons_succ, List.getElem?_cons_zero]; exact rfl); (case zhQ7c => exact fun _ _ _ h => h); (case zhw7c => rfl); (case zhy7c => intro w hSw; (try dsimp only at hSw); go_simp; (try with_reducible rfl)); (try simp only [Act.put, List.setIfInBounds_toArray, List.set_cons_zero, List.set_cons_succ])
                  refine' wpAnyH_take (i := 8) (oi := ?zoi8c) (v := ?zv8c) ?zhi8c (by kernel_rfl) (by kernel_rfl) (by kernel_rfl) ?zhQ8c (Or.inl ⟨?zhw8c, ?zhy8c⟩) (by assumption) ?zrest8c; (case zhi8c => simp only [List.getElem?_toArray, List.getElem?_cons_succ, List.getElem?_cons_zero]; exact rfl); (case zhQ8c => exact fun _ _ _ h => h); (case zhw8c => rfl); (case zhy8c => intro w hSw; (try dsimp only at hSw); go_simp; (try with_reducible rfl)); (try simp only [Act.put, List.setIfInBounds_toArray, List.set_cons_zero, List.set_cons_succ])
                  refine' wpAnyH_take (i := 9) (oi := ?zoi9c) (v := ?zv9c) ?zhi9c (by kernel_rfl) (by kernel_rfl) (by kernel_rfl) ?zhQ9c (Or.inl ⟨?zhw9c, ?zhy9c⟩) (by assumption) ?zrest9c; (case zhi9c => simp only [List.getElem?_toArray, List.getElem?_cons_succ, List.getElem?_cons_zero]; exact rfl); (case zhQ9c => exact fun _ _ _ h => h); (case zhw9c => rfl); (case zhy9c => intro w hSw; (try dsimp only at hSw); go_simp; (try with_reducible rfl)); (try simp only [Act.put, List.setIfInBounds_toArray, List.set_cons_zero, List.set_cons_succ])
                  refine' wpAnyH_take (i := 10) (oi := ?zoi10c) (v := ?zv10c) ?zhi10c (by kernel_rfl) (by kernel_rfl) (by kernel_rfl) ?zhQ10c (Or.inl ⟨?zhw10c, ?zhy10c⟩) (by assumption) ?zrest10c; (case zhi10c => simp only [List.getElem?_toArray, List.getElem?_cons_succ, List.getElem?_cons_zero]; exact rfl); (case zhQ10c => exact fun _ _ _ h => h); (case zhw10c => rfl); (case zhy10c => intro w hSw; (try dsimp only at hSw); go_simp; (try with_reducible rfl)); (try simp only [Act.put, List.setIfInBounds_toArray, List.set_cons_zero, List.set_cons_succ])
                  refine' wpAnyH_take (i := 11) (oi := ?zoi11c) (v := ?zv11c) ?zhi11c (by kernel_rfl) (by kernel_rfl) (by kernel_rfl) ?zhQ11c (Or.inl ⟨?zhw11c, ?zhy11c⟩) (by assumption) ?zrest11c; (case zhi11c => simp only [List.getElem?_toArray, List.getElem?_cons_succ, List.getElem?_cons_zero]; exact rfl); (case zhQ11c => exact fun _ _ _ h => h); (case zhw11c => rfl); (case zhy11c => intro w hSw; (try dsimp only at hSw); go_simp; (try with_reducible rfl)); (try simp only [Act.put, List.setIfInBounds_toArray, List.set_cons_zero, List.set_cons_succ])
                  refine' wpAnyH_take (i := 12) (oi := ?zoi12c) (v := ?zv12c) ?zhi12c (by kernel_rfl) (by kernel_rfl) (by kernel_rfl) ?zhQ12c (Or.inl ⟨?zhw12c, ?zhy12c⟩) (by assumption) ?zrest12c; (case zhi12c => simp only [List.getElem?_toArray, List.getElem?_cons_succ, List.getElem?_cons_zero]; exact rfl); (case zhQ12c => exact fun _ _ _ h => h); (case zhw12c => rfl); (case zhy12c => intro w hSw; (try dsimp only at hSw); go_simp; (try with_reducible rfl)); (try simp only [Act.put, List.setIfInBounds_toArray, List.set_cons_zero, List.set_cons_succ])
                  refine' wpAnyH_take (i := 13) (oi := ?zoi13c) (v := ?zv13c) ?zhi13c (by kernel_rfl) (by kernel_rfl) (by kernel_rfl) ?zhQ13c (Or.inl ⟨?zhw13c, ?zhy13c⟩) (by assumption) ?zrest13c; (case zhi13c => simp only [List.getElem?_toArray, List.getElem?_cons_succ, List.getElem?_cons_zero]; exact rfl); (case zhQ13c => exact fun _ _ _ h => h); (case zhw13c => rfl); (case zhy13c => intro w hSw; (try dsimp only at hSw); go_simp; (try with_reducible rfl)); (try simp only [Act.put, List.setIfInBounds_toArray, List.set_cons_zero, List.set_cons_succ])
                  refine' wpAnyH_take (i := 14) (oi := ?zoi14c) (v := ?zv14c) ?zhi14c (by kernel_rfl) (by kernel_rfl) (by kernel_rfl) ?zhQ14c (Or.inl ⟨?zhw14c, ?zhy14c⟩) (by assumption) ?zrest14c; (case zhi14c => simp only [List.getElem?_toArray, List.getElem?_cons_succ, List.getElem?_cons_zero]; exact rfl); (case zhQ14c => exact fun _ _ _ h => h); (case zhw14c => rfl); (case zhy14c => intro w hSw; (try dsimp only at hSw); go_simp; (try with_reducible rfl)); (try simp only [Act.put, List.setIfInBounds_toArray, List.set_cons_zero, List.set_cons_succ])
                  refine' wpAnyH_take (i := 15) (oi := ?zoi15c) (v := ?zv15c) ?zhi15c (by kernel_rfl) (by kernel_rfl) (by kernel_rfl) ?zhQ15c (Or.inl ⟨?zhw15c, ?zhy15c⟩) (by assumption) ?zrest15c; (case zhi15c => simp only [List.getElem?_toArray, List.getElem?_cons_succ, List.getElem?_cons_zero]; exact rfl); (case zhQ15c => exact fun _ _ _ h => h); (case zhw15c => rfl); (case zhy15c => intro w hSw; (try dsimp only at hSw); go_simp; (try with_reducible rfl)); (try simp only [Act.put, List.setIfInBounds_toArray, List.set_cons_zero, List.set_cons_succ])
                  refine' wpAnyH_take (i := 16) (oi := ?zoi16c) (v := ?zv16c) ?zhi16c (by kernel_rfl) (by kernel_rfl) (by kernel_rfl) ?zhQ16c (Or.inl ⟨?zhw16c, ?zhy16c⟩) (by assumption) ?zrest16c; (case zhi16c => simp only [List.getElem?_toArray, List.getElem?_cons_succ, List.getElem?_cons_zero]; exact rfl); (case zhQ16c => exact fun _ _ _ h => h); (case zhw16c => rfl); (case zhy16c => intro w hSw; (try dsimp only at hSw); go_simp; (try with_reducible rfl)); (try simp only [Act.put, List.setIfInBounds_toArray, List.set_cons_zero, List.set_cons_succ])
                  refine' wpAnyH_take (i := 17) (oi := ?zoi17c) (v := ?zv17c) ?zhi17c (by kernel_rfl) (by kernel_rfl) (by kernel_rfl) ?zhQ17c (Or.inl ⟨?zhw17c, ?zhy17c⟩) (by assumption) ?zrest17c; (case zhi17c => simp only [List.getElem?_toArray, List.getElem?_cons_succ, List.getElem?_cons_zero]; exact rfl); (case zhQ17c => exact fun _ _ _ h => h); (case zhw17c => rfl); (case zhy17c => intro w hSw; (try dsimp only at hSw); go_simp; (try with_reducible rfl)); (try simp only [Act.put, List.setIfInBounds_toArray, List.set_cons_zero, List.set_cons_succ])
                  refine' wpAnyH_take (i := 18) (oi := ?zoi18c) (v := ?zv18c) ?zhi18c (by kernel_rfl) (by kernel_rfl) (by kernel_rfl) ?zhQ18c (Or.inl ⟨?zhw18c, ?zhy18c⟩) (by assumption) ?zrest18c; (case zhi18c => simp only [List.getElem?_toArray, List.getElem?_cons_succ, List.getElem?_cons_zero]; exact rfl); (case zhQ18c => exact fun _ _ _ h => h); (case zhw18c => rfl); (case zhy18c => intro w hSw; (try dsimp only at hSw); go_simp; (try with_reducible rfl)); (try simp only [Act.put, List.setIfInBounds_toArray, List.set_cons_zero, List.set_cons_succ])
                  refine' wpAnyH_take (i := 19) (oi := ?zoi19c) (v := ?zv19c) ?zhi19c (by kernel_rfl) (by kernel_rfl) (by kernel_rfl) ?zhQ19c (Or.inl ⟨?zhw19c, ?zhy19c⟩) (by assumption) ?zrest19c; (case zhi19c => simp only [List.getElem?_toArray, List.getElem?_cons_succ, List.getElem?_cons_zero]; exact rfl); (case zhQ19c => exact fun _ _ _ h => h); (case zhw19c => rfl); (case zhy19c => intro w hSw; (try dsimp only at hSw); go_simp; (try with_reducible rfl)); (try simp only [Act.put, List.setIfInBounds_toArray, List.set_cons_zero, List.set_cons_succ])
                  refine' wpAnyH_take (i := 20) (oi := ?zoi20c) (v := ?zv20c) ?zhi20c (by kernel_rfl) (by kernel_rfl) (by kernel_rfl) ?zhQ20c (Or.inl ⟨?zhw20c, ?zhy20c⟩) (by assumption) ?zrest20c; (case zhi20c => simp only [List.getElem?_toArray, List.getElem?_cons_succ, List.getElem?_cons_zero]; exact rfl); (case zhQ20c => exact fun _ _ _ h => h); (case zhw20c => rfl); (case zhy20c => intro w hSw; (try dsimp only at hSw); go_simp; (try with_reducible rfl)); (try simp only [Act.put, List.setIfInBounds_toArray, List.set_cons_zero, List.set_cons_succ])
                  refine' wpAnyH_take (i := 21) (oi := ?zoi21c) (v := ?zv21c) ?zhi21c (by kernel_rfl) (by kernel_rfl) (by kernel_rfl) ?zhQ21c (Or.inl ⟨?zhw21c, ?zhy21c⟩) (by assumption) ?zrest21c; (case zhi21c => simp only [List.getElem?_toArray, List.getElem?_cons_succ, List.getElem?_cons_zero]; exact rfl); (case zhQ21c => exact fun _ _ _ h => h); (case zhw21c => rfl); (case zhy21c => intro w hSw; (try dsimp only at hSw); go_simp; (try with_reducible rfl)); (try simp only [Act.put, List.setIfInBounds_toArray, List.set_cons_zero, List.set_cons_succ])
                  refine' wpAnyH_take (i := 22) (oi := ?zoi22c) (v := ?zv22c) ?zhi22c (by kernel_rfl) (by kernel_rfl) (by kernel_rfl) ?zhQ22c (Or.inl ⟨?zhw22c, ?zhy22c⟩) (by assumption) ?zrest22c; (case zhi22c => simp only [List.getElem?_toArray, List.getElem?_cons_succ, List.getElem?_cons_zero]; exact rfl); (case zhQ22c => exact fun _ _ _ h => h); (case zhw22c => rfl); (case zhy22c => intro w hSw; (try dsimp only at hSw); go_simp; (try with_reducible rfl)); (try simp only [Act.put, List.setIfInBounds_toArray, List.set_cons_zero, List.set_cons_succ])
                  refine' wpAnyH_take (i := 23) (oi := ?zoi23c) (v := ?zv23c) ?zhi23c (by kernel_rfl) (by kernel_rfl) (by kernel_rfl) ?zhQ23c (Or.inl ⟨?zhw23c, ?zhy23c⟩) (by assumption) ?zrest23c; (case zhi23c => simp only [List.getElem?_toArray, List.getElem?_cons_succ, List.getElem?_cons_zero]; exact rfl); (case zhQ23c => exact fun _ _ _ h => h); (case zhw23c => rfl); (case zhy23c => intro w hSw; (try dsimp only at hSw); go_simp; (try with_reducible rfl)); (try simp only [Act.put, List.setIfInBounds_toArray, List.set_cons_zero, List.set_cons_succ])
                  refine wpAnyH_ready (rs := [24]) (by kernel_rfl) (by simp) ?_; refine AllReadyH.cons rfl (fun K hK => ?_) AllReadyH.nil; go_simp
                  refine (refBefore_any x o _).mono ?_
                  rintro e w1 ⟨rfl, hb1⟩
                  rw [HP1.out]
                  have K1 := Lib.hid (Ext.trans (by (repeat' (with_reducible first | exact Ext.refl _ | exact Below.refl _ _ | refine Ext.drewN ?_ _ | refine Below.drew ?_ | refine Below.setCell ?_ ?_ _ | refine Below.alloc ?_ ?_ _)) <;> (first | omega | (simp; done) | (simp; omega)) : Ext wz _) hb1)
                  clear hb1
                  (try dsimp only)
                  (try go_simp)
                  refine hK.out _ _ (HKK.out _ K1.out) (fun hHeld => ?_)
                  clear hK K
                  (try simp only [Act.put, List.setIfInBounds_toArray, List.set_cons_zero, List.set_cons_succ])
                  refine' wpAnyH_take (i := 25) (oi := ?zoi25c) (v := ?zv25c) ?zhi25c (by kernel_rfl) (by kernel_rfl) (by kernel_rfl) ?zhQ25c (Or.inl ⟨?zhw25c, ?zhy25c⟩) (by assumption) ?zrest25c; (case zhi25c => simp only [List.getElem?_toArray, List.getElem?_cons_succ, List.getElem?_cons_zero]; exact rfl); (case zhQ25c => exact fun _ _ _ h => h); (case zhw25c => rfl); (case zhy25c => intro w hSw; (try dsimp only at hSw); go_simp; (try with_reducible rfl)); (try simp only [Act.put, List.setIfInBounds_toArray, List.set_cons_zero, List.set_cons_succ])
                  refine' wpAnyH_take (i := 26) (oi := ?zoi26c) (v := ?zv26c) ?zhi26c (by kernel_rfl) (by kernel_rfl) (by kernel_rfl) ?zhQ26c (Or.inl ⟨?zhw26c, ?zhy26c⟩) (by assumption) ?zrest26c; (case zhi26c => simp only [List.getElem?_toArray, List.getElem?_cons_succ, List.getElem?_cons_zero]; exact rfl); (case zhQ26c => exact fun _ _ _ h => h); (case zhw26c => rfl); (case zhy26c => intro w hSw; (try dsimp only at hSw); go_simp; (try with_reducible rfl)); (try simp only [Act.put, List.setIfInBounds_toArray, List.set_cons_zero, List.set_cons_succ])
                  refine' wpAnyH_take (i := 27) (oi := ?zoi27c) (v := ?zv27c) ?zhi27c (by kernel_rfl) (by kernel_rfl) (by kernel_rfl) ?zhQ27c (Or.inl ⟨?zhw27c, ?zhy27c⟩) (by assumption) ?zrest27c; (case zhi27c => simp only [List.getElem?_toArray, List.getElem?_cons_succ, List.getElem?_cons_zero]; exact rfl); (case zhQ27c => exact fun _ _ _ h => h); (case zhw27c => rfl); (case zhy27c => intro w hSw; (try dsimp only at hSw); go_simp; (try with_reducible rfl)); (try simp only [Act.put, List.setIfInBounds_toArray, List.set_cons_zero, List.set_cons_succ])
                  refine' wpAnyH_take (i := 28) (oi := ?zoi28c) (v := ?zv28c) ?zhi28c (by kernel_rfl) (by kernel_rfl) (by kernel_rfl) ?zhQ28c (Or.inl ⟨?zhw28c, ?zhy28c⟩) (by assumption) ?zrest28c; (case zhi28c => simp only [List.getElem?_toArray, List.getElem?_cons_succ, List.getElem?_cons_zero]; exact rfl); (case zhQ28c => exact fun _ _ _ h => h); (case zhw28c => rfl); (case zhy28c => intro w hSw; (try dsimp only at hSw); go_simp; (try with_reducible rfl)); (try simp only [Act.put, List.setIfInBounds_toArray, List.set_cons_zero, List.set_cons_succ])
                  refine' wpAnyH_take (i := 29) (oi := ?zoi29c) (v := ?zv29c) ?zhi29c (by kernel_rfl) (by kernel_rfl) (by kernel_rfl) ?zhQ29c (Or.inl ⟨?zhw29c, ?zhy29c⟩) (by assumption) ?zrest29c; (case zhi29c => simp only [List.getElem?_toArray, List.getElem?_cons_succ, List.getElem?_cons_zero]; exact rfl); (case zhQ29c => exact fun _ _ _ h => h); (case zhw29c => rfl); (case zhy29c => intro w hSw; (try dsimp only at hSw); go_simp; (try with_reducible rfl)); (try simp only [Act.put, List.setIfInBounds_toArray, List.set_cons_zero, List.set_cons_succ])
                  refine' wpAnyH_take (i := 30) (oi := ?zoi30c) (v := ?zv30c) ?zhi30c (by kernel_rfl) (by kernel_rfl) (by kernel_rfl) ?zhQ30c (Or.inl ⟨?zhw30c, ?zhy30c⟩) (by assumption) ?zrest30c; (case zhi30c => simp only [List.getElem?_toArray, List.getElem?_cons_succ, List.getElem?_cons_zero]; exact rfl); (case zhQ30c => exact fun _ _ _ h => h); (case zhw30c => rfl); (case zhy30c => intro w hSw; (try dsimp only at hSw); go_simp; (try with_reducible rfl)); (try simp only [Act.put, List.setIfInBounds_toArray, List.set_cons_zero, List.set_cons_succ])
                  refine' wpAnyH_take (i := 31) (oi := ?zoi31c) (v := ?zv31c) ?zhi31c (by kernel_rfl) (by kernel_rfl) (by kernel_rfl) ?zhQ31c (Or.inl ⟨?zhw31c, ?zhy31c⟩) (by assumption) ?zrest31c; (case zhi31c => simp only [List.getElem?_toArray, List.getElem?_cons_succ, List.getElem?_cons_zero]; exact rfl); (case zhQ31c => exact fun _ _ _ h => h); (case zhw31c => rfl); (case zhy31c => intro w hSw; (try dsimp only at hSw); go_simp; (try with_reducible rfl)); (try simp only [Act.put, List.setIfInBounds_toArray, List.set_cons_zero, List.set_cons_succ])
                  refine' wpAnyH_take (i := 32) (oi := ?zoi32c) (v := ?zv32c) ?zhi32c (by kernel_rfl) (by kernel_rfl) (by kernel_rfl) ?zhQ32c (Or.inl ⟨?zhw32c, ?zhy32c⟩) (by assumption) ?zrest32c; (case zhi32c => simp only [List.getElem?_toArray, List.getElem?_cons_succ, List.getElem?_cons_zero]; exact rfl); (case zhQ32c => exact fun _ _ _ h => h); (case zhw32c => rfl); (case zhy32c => intro w hSw; (try dsimp only at hSw); go_simp; (try with_reducible rfl)); (try simp only [Act.put, List.setIfInBounds_toArray, List.set_cons_zero, List.set_cons_succ])
                  refine wpAnyH_ready (rs := [33]) (by kernel_rfl) (by simp) ?_; refine AllReadyH.cons rfl (fun K hK => ?_) AllReadyH.nil; go_simp
                  refine (refBefore_any o x _).mono ?_
                  rintro e w2 ⟨rfl, hb2⟩
                  rw [HP2.out]
                  have K2 := Lib.hid (Ext.trans K1.out hb2)
                  clear hb2
                  (try dsimp only)
                  (try go_simp)
                  refine hK.out _ _ (HKK.out _ K2.out) (fun hHeld => ?_)
                  clear hK K
                  (try simp only [Act.put, List.setIfInBounds_toArray, List.set_cons_zero, List.set_cons_succ])
                  refine' wpAnyH_take (i := 34) (oi := ?zoi34c) (v := ?zv34c) ?zhi34c (by kernel_rfl) (by kernel_rfl) (by kernel_rfl) ?zhQ34c (Or.inl ⟨?zhw34c, ?zhy34c⟩) (by assumption) ?zrest34c; (case zhi34c => simp only [List.getElem?_toArray, List.getElem?_cons_succ, List.getElem?_cons_zero]; exact rfl); (case zhQ34c => exact fun _ _ _ h => h); (case zhw34c => rfl); (case zhy34c => intro w hSw; (try dsimp only at hSw); go_simp; (try with_reducible rfl)); (try simp only [Act.put, List.setIfInBounds_toArray, List.set_cons_zero, List.set_cons_succ])
                  refine' wpAnyH_take (i := 35) (oi := ?zoi35c) (v := ?zv35c) ?zhi35c (by kernel_rfl) (by kernel_rfl) (by kernel_rfl) ?zhQ35c (Or.inl ⟨?zhw35c, ?zhy35c⟩) (by assumption) ?zrest35c; (case zhi35c => simp only [List.getElem?_toArray, List.getElem?_cons_succ, List.getElem?_cons_zero]; exact rfl); (case zhQ35c => exact fun _ _ _ h => h); (case zhw35c => rfl); (case zhy35c => intro w hSw; (try dsimp only at hSw); go_simp; (try with_reducible rfl)); (try simp only [Act.put, List.setIfInBounds_toArray, List.set_cons_zero, List.set_cons_succ])
                  refine wpAnyH_done (by kernel_rfl) ?_ _
                  go_wp2_with fail
                  go_ret
                  exact ⟨by rw [HN.out]; rfl, Ext.trans (Ext.alloc _ _) (Ext.trans HBZ.out (by (repeat' (with_reducible first | exact K2.out | exact Below.refl _ _ | refine Ext.drewN ?_ _ | refine Below.drew ?_ | refine Below.setCell ?_ ?_ _ | refine Below.alloc ?_ ?_ _)) <;> (first | omega | (simp; done) | (simp; omega))))⟩
        · have hd2 : decide ((j : Int) < (l.length : Int)) = false := by simp; omega
          have HK0 : Hid ((l.any fun p => p.id != o.id && badProc o p) = false) := beside_all1 (fun m hm => HF.out m hm (by omega))
          have HV3 : Hid (besideL l o = 0) := by unfold Hid; rw [HV2.out, HK0.out]; rfl
          go_wp2_with fail
          go_ret
          exact ⟨by rw [HV3.out]; rfl, Ext.trans (Ext.alloc _ _) HBZ.out⟩
end Go.Proofs.YtgpnockjonicpaaDoor
