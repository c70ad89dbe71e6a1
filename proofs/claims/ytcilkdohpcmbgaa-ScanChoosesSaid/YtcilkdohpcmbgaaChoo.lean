/- The law ScanChooses answers true for all operations and bounds that can be read. Conditions: what a list's reading gives. -/
import Derived.Test.YtcilkdohpcmbgaaScan9
import Derived.Test.YtcilkdohpcmbgaaGrp6
import Derived.Test.YtcilkdohpcmbgaaMeas
import Derived.Deep.AppendLies
namespace Go.Proofs.Ytcilkdohpcmbgaa
set_option linter.unusedSimpArgs false
set_option linter.unusedVariables false
open Go.RowKit

theorem Try.infoBoundS : (Try.prog.info? 44).map (fun i => (i.zero, i.size, i.bytes)) = some (some (.agg #[.string ByteArray.empty, .int .i64 0, .int .i64 0]), 3, 32) := by kernel_rfl

/-- what lies in memory behind both Measures -/
structure LawSt (W : World) (g5 g6 : Nat) (ops : Int) (OV PV MV OU PU MU : Value) (og pg mg : List Grp) : Prop where
  r5 : Row1 W g5 36 [.int .i64 ops, OV, PV, MV]
  r6 : Row1 W g6 40 [.int .i64 ops, OU, PU, MU]
  ov : Sl W 2 RG OV og
  pv : Sl W 2 RG PV pg
  mv : Sl W 2 RG MV mg
  ou : Sl W 2 RG OU og
  pu : Sl W 2 RG PU pg
  mu : Sl W 2 RG MU mg
theorem LawSt.ext {W W' : World} {g5 g6 : Nat} {ops : Int} {OV PV MV OU PU MU : Value} {og pg mg : List Grp} (h : LawSt W g5 g6 ops OV PV MV OU PU MU og pg mg) (hb : Ext W W') : LawSt W' g5 g6 ops OV PV MV OU PU MU og pg mg :=
  ⟨h.r5.ext hb h.r5.lt, h.r6.ext hb h.r6.lt, h.ov.ext hb, h.pv.ext hb, h.mv.ext hb, h.ou.ext hb, h.pu.ext hb, h.mu.ext hb⟩

/-- block 'g' is a row of cells of type 't' -/
def Rowx (w : World) (g : Nat) (t : TypeId) : Prop := ∃ cs, Row1 w g t cs
section
variable {w w' : World} {g : Nat} {t : TypeId}
theorem Rowx.made (n : Nat) (t : TypeId) (cs : List Value) (h : w.heap.size = n) : Rowx (w.alloc (.cells cs.toArray t)) n t := ⟨cs, Row1.made' h t cs⟩
theorem Rowx.alloc (h : Rowx w g t) (o : Obj) : Rowx (w.alloc o) g t := by obtain ⟨cs, h⟩ := h; exact ⟨cs, h.alloc o⟩
theorem Rowx.drew (h : Rowx w g t) : Rowx w.drew g t := h
theorem Rowx.setCell (h : Rowx w g t) (p : Addr) (u : Value) : Rowx (w.setCell p u) g t := by
  obtain ⟨cs, h⟩ := h
  unfold Rowx Row1 at *
  by_cases e : p.block = g
  · subst e
    refine ⟨(if p.spot.isSome then cs else cs.set p.off u), ?_⟩
    simp [World.setCell, Array.getElem?_modify, h]
    split <;> rfl
  · refine ⟨cs, ?_⟩
    simp [World.setCell, Array.getElem?_modify, e, h]
theorem Rowx.ext (hb : Ext w w') (h : Rowx w g t) : Rowx w' g t := by obtain ⟨cs, h⟩ := h; exact ⟨cs, h.ext hb h.lt⟩
/-- a list of numbers that lies by itself -/
def Front (w : World) (v : Value) (xs : List Int) : Prop := Sl w 1 RI v xs ∧ ∀ g, v.ownBlock = some g → Rowx w g 3
variable {v : Value} {xs : List Int}
theorem Front.ext (hb : Ext w w') (h : Front w v xs) : Front w' v xs := ⟨h.1.ext hb, fun g e => (h.2 g e).ext hb⟩
theorem Front.alloc (h : Front w v xs) (o : Obj) : Front (w.alloc o) v xs := h.ext (Ext.alloc _ _)
theorem Front.drew (h : Front w v xs) : Front w.drew v xs := h.ext (Below.drew (Ext.refl _))
theorem Front.setCell (t : TypeId) (ht : t ≠ 3) (h : Front w v xs) (hr : Rowx w g t) (i : Nat) (u : Value) : Front (w.setCell ⟨g, i, none⟩ u) v xs := by
  have hne : v.ownBlock ≠ some g := by
    intro e
    obtain ⟨cs, h1⟩ := h.2 g e
    obtain ⟨cs', h2⟩ := hr
    exact h1.apart h2 (fun q => ht q.symm) rfl
  exact ⟨h.1.but (g := g) (by (repeat' (with_reducible first | exact But.refl | exact But.refl | refine But.drewN ?_ _ | refine But.drew ?_ | refine But.setCell ?_ ?_ _ | refine But.alloc ?_ _)) <;> (first | exact .inl rfl | (right; simp; done) | (right; simp; omega))) hne, fun g' e => (h.2 g' e).setCell _ _⟩
end
theorem Front.set5 {w : World} {g : Nat} {v : Value} {xs : List Int} (t : TypeId) (ht : t ≠ 3) (h : Front w v xs) (hr : Rowx w g t) (a b c d e : Value) :
    Front (((((w.setCell ⟨g, 0, none⟩ a).setCell ⟨g, 1, none⟩ b).setCell ⟨g, 2, none⟩ c).setCell ⟨g, 3, none⟩ d).setCell ⟨g, 4, none⟩ e) v xs := by
  have h0 := h.setCell t ht hr 0 a
  have r0 := hr.setCell ⟨g, 0, none⟩ a
  have h1 := h0.setCell t ht r0 1 b
  have r1 := r0.setCell ⟨g, 1, none⟩ b
  have h2 := h1.setCell t ht r1 2 c
  have r2 := r1.setCell ⟨g, 2, none⟩ c
  have h3 := h2.setCell t ht r2 3 d
  have r3 := r2.setCell ⟨g, 3, none⟩ d
  exact h3.setCell t ht r3 4 e
theorem Rowx.set5 {w : World} {g h : Nat} {t : TypeId} (hr : Rowx w g t) (a b c d e : Value) :
    Rowx (((((w.setCell ⟨h, 0, none⟩ a).setCell ⟨h, 1, none⟩ b).setCell ⟨h, 2, none⟩ c).setCell ⟨h, 3, none⟩ d).setCell ⟨h, 4, none⟩ e) g t :=
  ((((hr.setCell _ _).setCell _ _).setCell _ _).setCell _ _).setCell _ _
theorem choose_eq (V OV PV MV : Value) (bs : List Bnd) (ops : Int) (og pg mg : List Grp) (p : Pth) (hp0 : chooseL bs ops og pg mg = p) (w : World) (hs : Sl w 3 RBnd V bs)
    (ho : Sl w 2 RG OV og) (hp : Sl w 2 RG PV pg) (hm : Sl w 2 RG MV mg) (H : Rising og ∧ Rising pg ∧ Rising mg ∧ og.length ≤ 1000000000 ∧ pg.length ≤ 1000000000 ∧ mg.length ≤ 1000000000) :
    Calls Try.prog 13 #[V, .agg #[.int .i64 ops, OV, PV, MV]] w fun e w' => (∃ fa fc, e = .returned (.agg #[.int .i64 p.way, .slice fa p.front.length fc, .int .i64 p.lo, .int .i64 p.hi, .int .i64 p.cost]) ∧ Front w' (.slice fa p.front.length fc) p.front) ∧ Ext w w' := by
  subst hp0
  refine (choose_any V OV PV MV bs ops og pg mg w hs ho hp hm H.1 H.2.1 H.2.2.1 H.2.2.2.1 H.2.2.2.2.1 H.2.2.2.2.2).mono ?_
  rintro e w' ⟨⟨fv, rfl, h1, h2⟩, hb⟩
  obtain ⟨a, c, rfl⟩ := h1.form
  exact ⟨⟨a, c, rfl, h1, h2⟩, hb⟩
theorem refChoose_eq (V OV PV MV : Value) (bs : List Bnd) (ops : Int) (og pg mg : List Grp) (p : Pth) (hp0 : chooseL bs ops og pg mg = p) (w : World) (hs : Sl w 3 RBnd V bs)
    (ho : Sl w 2 RG OV og) (hp : Sl w 2 RG PV pg) (hm : Sl w 2 RG MV mg) :
    Calls Try.prog 14 #[V, .agg #[.int .i64 ops, OV, PV, MV]] w fun e w' => (∃ fa fc, e = .returned (.agg #[.int .i64 p.way, .slice fa p.front.length fc, .int .i64 p.lo, .int .i64 p.hi, .int .i64 p.cost]) ∧ Front w' (.slice fa p.front.length fc) p.front) ∧ Ext w w' := by
  subst hp0
  refine (refChoose_any V OV PV MV bs ops og pg mg w hs ho hp hm).mono ?_
  rintro e w' ⟨⟨fv, rfl, h1, h2⟩, hb⟩
  obtain ⟨a, c, rfl⟩ := h1.form
  exact ⟨⟨a, c, rfl, h1, h2⟩, hb⟩

theorem cell_set_same {w : World} {b i : Nat} {u : Value} (h : (w.cell? ⟨b, i, none⟩).isSome = true) : (w.setCell ⟨b, i, none⟩ u).cell? ⟨b, i, none⟩ = some u := by
  unfold World.cell? at h ⊢
  simp only [World.setCell, Array.getElem?_modify] at *
  split at h
  · rename_i c t f hc
    simp at hc h
    simp [hc, h]
  · simp at h
/-- five cells, and what lies in them -/
def Path5 (w : World) (b : Nat) (fa : Option Addr) (fc : Nat) (p : Pth) : Prop :=
  w.cell? ⟨b, 0, none⟩ = some (.int .i64 p.way) ∧ w.cell? ⟨b, 1, none⟩ = some (.slice fa p.front.length fc) ∧ w.cell? ⟨b, 2, none⟩ = some (.int .i64 p.lo) ∧ w.cell? ⟨b, 3, none⟩ = some (.int .i64 p.hi) ∧ w.cell? ⟨b, 4, none⟩ = some (.int .i64 p.cost)

set_option maxRecDepth 100000 in
set_option maxHeartbeats 8000000 in
theorem scanChoosesLaw_any (V U : Value) (ops : List OpD) (bs : List Bnd) (w : World) (hs : Sl w 11 ROp V ops) (hu : Sl w 3 RBnd U bs) (hwf : ∀ o ∈ ops, OpWf o) :
    Calls Try.prog 4 #[V, U] w fun e w' => e = .returned (.bool true) ∧ Ext w w' := by
  obtain ⟨A, c, rfl⟩ := hs.form
  obtain ⟨A', c', rfl⟩ := hu.form
  have HS := Lib.hid hs
  have HU := Lib.hid hu
  have HWF := Lib.hid hwf
  obtain ⟨_, hc1', hc2', hA⟩ := hu.at
  clear hs hu hwf
  obtain ⟨i0, hi0, hz0, hz1, hz2⟩ := info_parts Try.infoBoundS
  by_cases hsmall : ops.length ≤ 100 ∧ bs.length ≤ 100
  · obtain ⟨hn1, hn2⟩ := hsmall
    have q1 : decide ((100 : Int) < (ops.length : Int)) = false := by simp; omega
    have q2 : decide ((100 : Int) < (bs.length : Int)) = false := by simp; omega
    go_enter Try.func4, Try.ntmps4
    go_wp2_with fail
    refine (measure_any _ ops _ HS.out (by omega) HWF.out).mono ?_
    rintro e w1 ⟨⟨OV, PV, MV, rfl, ho, hp, hm⟩, hb1⟩
    have K1 := Lib.hid hb1
    have HO := Lib.hid ho
    have HP := Lib.hid hp
    have HM := Lib.hid hm
    clear hb1 ho hp hm
    go_wp2_with fail
    refine (refMeasure_any _ ops _ (HS.out.ext K1.out) (by omega)).mono ?_
    rintro e w2 ⟨⟨OU, PU, MU, rfl, ho, hp, hm⟩, hb2⟩
    rw [field_object] at ho
    rw [field_proc] at hp
    rw [field_method] at hm
    have K2 := Lib.hid (Ext.trans K1.out hb2)
    generalize hog : groupsL (ops.map OpD.object) = og at *
    generalize hpg : groupsL (ops.map OpD.proc) = pg at *
    generalize hmg : groupsL (ops.map OpD.method) = mg at *
    have hro : Rising og := by rw [← hog]; exact (groupsL_ris _).rising
    have hrp : Rising pg := by rw [← hpg]; exact (groupsL_ris _).rising
    have hrm : Rising mg := by rw [← hmg]; exact (groupsL_ris _).rising
    have hlo : og.length ≤ 1000000000 := by rw [← hog]; have := groupsL_len (ops.map OpD.object) (ops.map OpD.object).length (Nat.le_refl _); rw [List.take_length] at this; simp at this; omega
    have hlp : pg.length ≤ 1000000000 := by rw [← hpg]; have := groupsL_len (ops.map OpD.proc) (ops.map OpD.proc).length (Nat.le_refl _); rw [List.take_length] at this; simp at this; omega
    have hlm : mg.length ≤ 1000000000 := by rw [← hmg]; have := groupsL_len (ops.map OpD.method) (ops.map OpD.method).length (Nat.le_refl _); rw [List.take_length] at this; simp at this; omega
    have HOG := Lib.hid (And.intro hro (And.intro hrp (And.intro hrm (And.intro hlo (And.intro hlp hlm)))))
    clear hro hrp hrm hlo hlp hlm hog hpg hmg
    have ST := Lib.hid (show LawSt ((w2.alloc (.cells #[.int .i64 ops.length, OV, PV, MV] 36)).alloc (.cells #[.int .i64 ops.length, OU, PU, MU] 40)) w2.heap.size (w2.heap.size + 1) ops.length OV PV MV OU PU MU og pg mg from
      ⟨(Row1.made w2 _ [.int .i64 ops.length, OV, PV, MV]).alloc _, Row1.made' (by simp) _ [.int .i64 ops.length, OU, PU, MU], (HO.out.ext hb2).ext (by (repeat' (with_reducible first | exact Below.refl _ _ | refine Ext.drewN ?_ _ | refine Below.drew ?_ | refine Below.setCell ?_ ?_ _ | refine Below.alloc ?_ ?_ _)) <;> (first | omega | (simp; done) | (simp; omega))), (HP.out.ext hb2).ext (by (repeat' (with_reducible first | exact Below.refl _ _ | refine Ext.drewN ?_ _ | refine Below.drew ?_ | refine Below.setCell ?_ ?_ _ | refine Below.alloc ?_ ?_ _)) <;> (first | omega | (simp; done) | (simp; omega))), (HM.out.ext hb2).ext (by (repeat' (with_reducible first | exact Below.refl _ _ | refine Ext.drewN ?_ _ | refine Below.drew ?_ | refine Below.setCell ?_ ?_ _ | refine Below.alloc ?_ ?_ _)) <;> (first | omega | (simp; done) | (simp; omega))), ho.ext (by (repeat' (with_reducible first | exact Below.refl _ _ | refine Ext.drewN ?_ _ | refine Below.drew ?_ | refine Below.setCell ?_ ?_ _ | refine Below.alloc ?_ ?_ _)) <;> (first | omega | (simp; done) | (simp; omega))), hp.ext (by (repeat' (with_reducible first | exact Below.refl _ _ | refine Ext.drewN ?_ _ | refine Below.drew ?_ | refine Below.setCell ?_ ?_ _ | refine Below.alloc ?_ ?_ _)) <;> (first | omega | (simp; done) | (simp; omega))), hm.ext (by (repeat' (with_reducible first | exact Below.refl _ _ | refine Ext.drewN ?_ _ | refine Below.drew ?_ | refine Below.setCell ?_ ?_ _ | refine Below.alloc ?_ ?_ _)) <;> (first | omega | (simp; done) | (simp; omega)))⟩)
    obtain ⟨oa, on, oc, rfl⟩ : ∃ a n c, OV = .slice a n c := by obtain ⟨a, c, e⟩ := HO.out.form; exact ⟨a, _, c, e⟩
    obtain ⟨pa, pn, pc, rfl⟩ : ∃ a n c, PV = .slice a n c := by obtain ⟨a, c, e⟩ := HP.out.form; exact ⟨a, _, c, e⟩
    obtain ⟨ma, mn, mc, rfl⟩ : ∃ a n c, MV = .slice a n c := by obtain ⟨a, c, e⟩ := HM.out.form; exact ⟨a, _, c, e⟩
    obtain ⟨oa', on', oc', rfl⟩ : ∃ a n c, OU = .slice a n c := by obtain ⟨a, c, e⟩ := ho.form; exact ⟨a, _, c, e⟩
    obtain ⟨pa', pn', pc', rfl⟩ : ∃ a n c, PU = .slice a n c := by obtain ⟨a, c, e⟩ := hp.form; exact ⟨a, _, c, e⟩
    obtain ⟨ma', mn', mc', rfl⟩ : ∃ a n c, MU = .slice a n c := by obtain ⟨a, c, e⟩ := hm.form; exact ⟨a, _, c, e⟩
    clear hb2 ho hp hm HO HP HM
    have hzw2 := K2.out.size
    go_wp2_with fail
    go_loopw [7, 8] (fun v i wr => ∃ k : Nat, k ≤ bs.length ∧ i = .int .i64 k ∧ Ext ((w2.alloc (.cells #[.int .i64 ops.length, .slice oa on oc, .slice pa pn pc, .slice ma mn mc] 36)).alloc (.cells #[.int .i64 ops.length, .slice oa' on' oc', .slice pa' pn' pc', .slice ma' mn' mc'] 40)) wr ∧ wr.ownsRow (w2.heap.size + 2) 44 3 v k ((bs.take k).flatMap Bnd.cells))
      (fun _ i _ => bs.length - (intOf i).toNat)
    case atStart => exact ⟨0, by omega, rfl, Ext.refl _, World.ownsRow_nil _ _ _ _⟩
    case round =>
      obtain ⟨k, hk, rfl, hb, hown⟩ := hrel
      have KL := Lib.hid (Ext.trans (by (repeat' (with_reducible first | exact K2.out | exact Below.refl _ _ | refine Ext.drewN ?_ _ | refine Below.drew ?_ | refine Below.setCell ?_ ?_ _ | refine Below.alloc ?_ ?_ _)) <;> (first | omega | (simp; done) | (simp; omega)) : Ext w _) hb)
      have KB := Lib.hid hb
      have HOW := Lib.hid hown
      have hsz := hb.size
      simp at hsz
      clear hb hown
      by_cases hlt : k < bs.length
      · obtain ⟨b, off, rfl, hbl, hx⟩ := hA (by omega)
        obtain ⟨cs, rfl, _, hcs⟩ := hx k hlt
        have hw := fun j u hu => (KL.out.cell (p := ⟨b, off + k * 3 + j, none⟩) hbl).trans (hcs j u hu)
        have h0 := hw 0 _ rfl
        have h1 := hw 1 _ rfl
        have h2 := hw 2 _ rfl
        simp only [Nat.add_zero] at h0
        have hbw := Nat.lt_of_lt_of_le hbl KL.out.size
        have hk0 : (0 : Int) ≤ (k : Int) := Int.natCast_nonneg _
        have hk1 : (k : Int) < (bs.length : Int) := by omega
        have HT : Hid ((bs.take (k + 1)).flatMap Bnd.cells = (bs.take k).flatMap Bnd.cells ++ [.string bs[k].field, .int .i64 bs[k].lo, .int .i64 bs[k].hi]) := by
          unfold Hid
          rw [List.take_succ_eq_append_getElem hlt, List.flatMap_append]
          simp [Bnd.cells]
        clear hx hcs hw hA
        have HOB : u7.ownBlock ≠ some b := fun e => by have := (HOW.out.lt b e).1; have := K2.out.size; omega
        generalize bs[k] = x at *
        go_wp2_with fail
        go_region_held3 (fun w' => (w'.cell? ⟨b, off + k * 3, none⟩ = some (.string x.field) ∧ w'.cell? ⟨b, off + k * 3 + 1, none⟩ = some (.int .i64 x.lo) ∧ w'.cell? ⟨b, off + k * 3 + 2, none⟩ = some (.int .i64 x.hi)))
          (first
            | (with_reducible exact ⟨h0, h1, h2⟩)
            | go_keep
            | (go_split_ands
               refine ⟨?_, ?_, ?_⟩
               · (rw [hgrow.cell_far _ (by simp; omega) (Ne.symm HOB)]; assumption)
               · (rw [hgrow.cell_far _ (by simp; omega) (Ne.symm HOB)]; assumption)
               · (rw [hgrow.cell_far _ (by simp; omega) (Ne.symm HOB)]; assumption)))
          ((refine step_append_lies _ (by rfl) _ _ _ (by rfl) (w2.heap.size + 2) 44 i0 _ 3 32 Try.underlying28 hi0 hz0 hz1 hz2 rfl (by omega) u7 k ((bs.take k).flatMap Bnd.cells) (by rfl) ((HOW.out.alloc _).drew)
                ⟨wr.heap.size, 0, none⟩ 1 1 [.string x.field, .int .i64 x.lo, .int .i64 x.hi] (by rfl) (by rfl) (World.news_of_block (cs := #[.string x.field, .int .i64 x.lo, .int .i64 x.hi]) (t := 44) (fr := (0, 0)) (heap_alloc_new wr _)) (by simp [Value.oneCell'])
                (by omega) (by simp [maxLen]; omega) (by omega) (by simp; omega) (wr.heap.size + 1) (by simp) ?_; intro gg cap wz hown1 hgrow hat hlt'))
        have HG1 := Lib.hid hgrow
        have HO1 := Lib.hid hown1
        clear hgrow hown1 hat
        go_wp2_with fail
        go_roundw
        case measure => simp [intOf]; omega
        case rel =>
          refine ⟨k + 1, by omega, by go_num, ?_, ?_⟩
          · exact Below.grown (by (repeat' (with_reducible first | exact KB.out | exact Below.refl _ _ | refine Ext.drewN ?_ _ | refine Below.drew ?_ | refine Below.setCell ?_ ?_ _ | refine Below.alloc ?_ ?_ _)) <;> (first | omega | (simp; done) | (simp; omega))) HG1.out (by simp; omega) (fun j hj => by have := (HOW.out.lt j hj).1; simp; omega)
          · rw [HT.out]; exact HO1.out
      · obtain rfl : k = bs.length := by omega
        have SL := Lib.hid (ST.out.ext KB.out)
        have HSL := Lib.hid (own_sl (R := RBnd) HOW.out (by simp) (fun i x hi => ⟨x.cells, rfl, rfl, by rw [List.take_length]; exact flat_at Bnd.cells 3 (fun _ => rfl) bs i x hi⟩) : Sl wr 3 RBnd u7 bs)
        obtain ⟨va, vc, rfl⟩ := HSL.out.form
        clear HOW ST KB HS hA HWF
        have hlt5 := SL.out.r5.lt
        have hlt6 := SL.out.r6.lt
        generalize hg5 : w2.heap.size = g5 at *
        obtain ⟨p, hp0⟩ : ∃ p, chooseL bs ops.length og pg mg = p := ⟨_, rfl⟩
        have HP0 := Lib.hid hp0
        clear hp0
        go_upto_region 9 with fail
        go_cut [9, 10] (fun s9 s10 wx => ∃ b9 b10 fa fc ga gc, s9 = .pointer (some ⟨b9, 0, none⟩) ∧ s10 = .pointer (some ⟨b10, 0, none⟩) ∧ Ext w wx ∧ LawSt wx g5 (g5 + 1) ops.length (.slice oa on oc) (.slice pa pn pc) (.slice ma mn mc) (.slice oa' on' oc') (.slice pa' pn' pc') (.slice ma' mn' mc') og pg mg ∧ Path5 wx b9 fa fc p ∧ Path5 wx b10 ga gc p ∧ Front wx (.slice fa p.front.length fc) p.front ∧ Front wx (.slice ga p.front.length gc) p.front)
        case first =>
          have c50 : wr.cell? ⟨g5, 0, none⟩ = some (.int .i64 ops.length) := SL.out.r5.cell 0
          have c51 : wr.cell? ⟨g5, 1, none⟩ = some (.slice oa on oc) := SL.out.r5.cell 1
          have c52 : wr.cell? ⟨g5, 2, none⟩ = some (.slice pa pn pc) := SL.out.r5.cell 2
          have c53 : wr.cell? ⟨g5, 3, none⟩ = some (.slice ma mn mc) := SL.out.r5.cell 3
          have c60 : wr.cell? ⟨g5 + 1, 0, none⟩ = some (.int .i64 ops.length) := SL.out.r6.cell 0
          have c61 : wr.cell? ⟨g5 + 1, 1, none⟩ = some (.slice oa' on' oc') := SL.out.r6.cell 1
          have c62 : wr.cell? ⟨g5 + 1, 2, none⟩ = some (.slice pa' pn' pc') := SL.out.r6.cell 2
          have c63 : wr.cell? ⟨g5 + 1, 3, none⟩ = some (.slice ma' mn' mc') := SL.out.r6.cell 3
          have HKS : Hid (∀ W : World, Ext wr W → W.cell? ⟨g5, 0, none⟩ = some (.int .i64 ops.length) ∧ W.cell? ⟨g5, 1, none⟩ = some (.slice oa on oc) ∧ W.cell? ⟨g5, 2, none⟩ = some (.slice pa pn pc) ∧ W.cell? ⟨g5, 3, none⟩ = some (.slice ma mn mc) ∧ W.cell? ⟨g5 + 1, 0, none⟩ = some (.int .i64 ops.length) ∧ W.cell? ⟨g5 + 1, 1, none⟩ = some (.slice oa' on' oc') ∧ W.cell? ⟨g5 + 1, 2, none⟩ = some (.slice pa' pn' pc') ∧ W.cell? ⟨g5 + 1, 3, none⟩ = some (.slice ma' mn' mc')) := fun W hb => ⟨(hb.cell (p := ⟨g5, 0, none⟩) hlt5).trans c50, (hb.cell (p := ⟨g5, 1, none⟩) hlt5).trans c51, (hb.cell (p := ⟨g5, 2, none⟩) hlt5).trans c52, (hb.cell (p := ⟨g5, 3, none⟩) hlt5).trans c53, (hb.cell (p := ⟨g5 + 1, 0, none⟩) hlt6).trans c60, (hb.cell (p := ⟨g5 + 1, 1, none⟩) hlt6).trans c61, (hb.cell (p := ⟨g5 + 1, 2, none⟩) hlt6).trans c62, (hb.cell (p := ⟨g5 + 1, 3, none⟩) hlt6).trans c63⟩
          go_region_held3 (fun w' => (w'.cell? ⟨g5, 0, none⟩ = some (.int .i64 ops.length) ∧ w'.cell? ⟨g5, 1, none⟩ = some (.slice oa on oc) ∧ w'.cell? ⟨g5, 2, none⟩ = some (.slice pa pn pc) ∧ w'.cell? ⟨g5, 3, none⟩ = some (.slice ma mn mc) ∧
              w'.cell? ⟨g5 + 1, 0, none⟩ = some (.int .i64 ops.length) ∧ w'.cell? ⟨g5 + 1, 1, none⟩ = some (.slice oa' on' oc') ∧ w'.cell? ⟨g5 + 1, 2, none⟩ = some (.slice pa' pn' pc') ∧ w'.cell? ⟨g5 + 1, 3, none⟩ = some (.slice ma' mn' mc')))
            (first | (refine HKS.out _ ?_; ((repeat' (with_reducible first | exact K7.out | exact Below.refl _ _ | refine Ext.drewN ?_ _ | refine Below.drew ?_ | refine Below.setCell ?_ ?_ _ | refine Below.alloc ?_ ?_ _)) <;> (first | omega | (simp; done) | (simp; omega))); done) | (refine HKS.out _ ?_; ((repeat' (with_reducible first | exact K6.out | exact Below.refl _ _ | refine Ext.drewN ?_ _ | refine Below.drew ?_ | refine Below.setCell ?_ ?_ _ | refine Below.alloc ?_ ?_ _)) <;> (first | omega | (simp; done) | (simp; omega))); done) | (refine HKS.out _ ?_; ((repeat' (with_reducible first | exact Ext.refl _ | exact Below.refl _ _ | refine Ext.drewN ?_ _ | refine Below.drew ?_ | refine Below.setCell ?_ ?_ _ | refine Below.alloc ?_ ?_ _)) <;> (first | omega | (simp; done) | (simp; omega))); done))
            (first
              | (go_at_call 13; refine (choose_eq _ _ _ _ bs _ og pg mg p HP0.out _ (HSL.out.ext (by (repeat' (with_reducible first | exact Ext.refl _ | exact Below.refl _ _ | refine Ext.drewN ?_ _ | refine Below.drew ?_ | refine Below.setCell ?_ ?_ _ | refine Below.alloc ?_ ?_ _)) <;> (first | omega | (simp; done) | (simp; omega)))) (SL.out.ov.ext (by (repeat' (with_reducible first | exact Ext.refl _ | exact Below.refl _ _ | refine Ext.drewN ?_ _ | refine Below.drew ?_ | refine Below.setCell ?_ ?_ _ | refine Below.alloc ?_ ?_ _)) <;> (first | omega | (simp; done) | (simp; omega)))) (SL.out.pv.ext (by (repeat' (with_reducible first | exact Ext.refl _ | exact Below.refl _ _ | refine Ext.drewN ?_ _ | refine Below.drew ?_ | refine Below.setCell ?_ ?_ _ | refine Below.alloc ?_ ?_ _)) <;> (first | omega | (simp; done) | (simp; omega)))) (SL.out.mv.ext (by (repeat' (with_reducible first | exact Ext.refl _ | exact Below.refl _ _ | refine Ext.drewN ?_ _ | refine Below.drew ?_ | refine Below.setCell ?_ ?_ _ | refine Below.alloc ?_ ?_ _)) <;> (first | omega | (simp; done) | (simp; omega)))) HOG.out).mono ?_; rintro e w6 ⟨⟨fa, fc, rfl, hf6⟩, hb6⟩; obtain ⟨hcl6, hfl6⟩ := bcell hb6; have hz6 := hb6.size; (try simp at hz6); (try (have hy6a : wr.heap.size < w6.heap.size := by omega)); (try (have hy6b : wr.heap.size + 1 < w6.heap.size := by omega)); have HB6 := Lib.hid hb6; have HF6 := Lib.hid hf6; have K6 := Lib.hid (Ext.trans (by (repeat' (with_reducible first | exact Ext.refl _ | exact Below.refl _ _ | refine Ext.drewN ?_ _ | refine Below.drew ?_ | refine Below.setCell ?_ ?_ _ | refine Below.alloc ?_ ?_ _)) <;> (first | omega | (simp; done) | (simp; omega)) : Ext wr _) hb6); clear hb6 hf6)
              | (go_at_call 14; refine (refChoose_eq _ _ _ _ bs _ og pg mg p HP0.out _ (HU.out.ext (Ext.trans KL.out (by (repeat' (with_reducible first | exact K6.out | exact Below.refl _ _ | refine Ext.drewN ?_ _ | refine Below.drew ?_ | refine Below.setCell ?_ ?_ _ | refine Below.alloc ?_ ?_ _)) <;> (first | omega | (simp; done) | (simp; omega))))) (SL.out.ou.ext (by (repeat' (with_reducible first | exact K6.out | exact Below.refl _ _ | refine Ext.drewN ?_ _ | refine Below.drew ?_ | refine Below.setCell ?_ ?_ _ | refine Below.alloc ?_ ?_ _)) <;> (first | omega | (simp; done) | (simp; omega)))) (SL.out.pu.ext (by (repeat' (with_reducible first | exact K6.out | exact Below.refl _ _ | refine Ext.drewN ?_ _ | refine Below.drew ?_ | refine Below.setCell ?_ ?_ _ | refine Below.alloc ?_ ?_ _)) <;> (first | omega | (simp; done) | (simp; omega)))) (SL.out.mu.ext (by (repeat' (with_reducible first | exact K6.out | exact Below.refl _ _ | refine Ext.drewN ?_ _ | refine Below.drew ?_ | refine Below.setCell ?_ ?_ _ | refine Below.alloc ?_ ?_ _)) <;> (first | omega | (simp; done) | (simp; omega))))).mono ?_; rintro e w7 ⟨⟨ga, gc, rfl, hf7⟩, hb7⟩; obtain ⟨hcl7, hfl7⟩ := bcell hb7; have hz7 := hb7.size; (try simp at hz7); (try (have hy7a : wr.heap.size < w7.heap.size := by omega)); (try (have hy7b : wr.heap.size + 1 < w7.heap.size := by omega)); (try (have hy7c : w6.heap.size < w7.heap.size := by omega)); (try (have hy7d : w6.heap.size + 1 < w7.heap.size := by omega)); have HB7 := Lib.hid hb7; have HF7 := Lib.hid hf7; have K7 := Lib.hid (Ext.trans (by (repeat' (with_reducible first | exact K6.out | exact Below.refl _ _ | refine Ext.drewN ?_ _ | refine Below.drew ?_ | refine Below.setCell ?_ ?_ _ | refine Below.alloc ?_ ?_ _)) <;> (first | omega | (simp; done) | (simp; omega)) : Ext wr _) hb7); clear hb7 hf7))
          all_goals
            go_wp2_with fail
            go_meet
            refine ⟨_, _, fa, fc, ga, gc, rfl, rfl, Ext.trans KL.out (by (repeat' (with_reducible first | exact K7.out | exact Below.refl _ _ | refine Ext.drewN ?_ _ | refine Below.drew ?_ | refine Below.setCell ?_ ?_ _ | refine Below.alloc ?_ ?_ _)) <;> (first | omega | (simp; done) | (simp; omega))), SL.out.ext (by (repeat' (with_reducible first | exact K7.out | exact Below.refl _ _ | refine Ext.drewN ?_ _ | refine Below.drew ?_ | refine Below.setCell ?_ ?_ _ | refine Below.alloc ?_ ?_ _)) <;> (first | omega | (simp; done) | (simp; omega))), ?_, ?_, ?_, ?_⟩
            · refine ⟨?_, ?_, ?_, ?_, ?_⟩ <;> (go_simp <;> (refine cell_set_same ?_; go_simp))
            · refine ⟨?_, ?_, ?_, ?_, ?_⟩ <;> (go_simp <;> (refine cell_set_same ?_; go_simp))
            · go_light
              clear HKS hcl6 hfl6 hcl7 hfl7
              repeat' (first | (with_reducible exact HF6.out) | (with_reducible first | refine Front.drew ?_ | refine Front.alloc ?_ _ | refine Front.ext (w' := w7) HB7.out ?_) | ((with_reducible refine Front.set5 47 (by decide) ?_ ?_ _ _ _ _ _); rotate_left; (focus ((repeat' (with_reducible first | refine Rowx.made _ _ _ ?_ | refine Rowx.drew ?_ | refine Rowx.alloc ?_ _ | refine Rowx.set5 ?_ _ _ _ _ _ | refine Rowx.ext (w' := w7) HB7.out ?_ | refine Rowx.ext (w' := w6) HB6.out ?_)) <;> (first | with_reducible rfl | (simp; done))))) | ((with_reducible refine Front.set5 49 (by decide) ?_ ?_ _ _ _ _ _); rotate_left; (focus ((repeat' (with_reducible first | refine Rowx.made _ _ _ ?_ | refine Rowx.drew ?_ | refine Rowx.alloc ?_ _ | refine Rowx.set5 ?_ _ _ _ _ _ | refine Rowx.ext (w' := w7) HB7.out ?_ | refine Rowx.ext (w' := w6) HB6.out ?_)) <;> (first | with_reducible rfl | (simp; done))))))
            · go_light
              clear HKS hcl6 hfl6 hcl7 hfl7
              repeat' (first | (with_reducible exact HF7.out) | (with_reducible first | refine Front.drew ?_ | refine Front.alloc ?_ _) | ((with_reducible refine Front.set5 47 (by decide) ?_ ?_ _ _ _ _ _); rotate_left; (focus ((repeat' (with_reducible first | refine Rowx.made _ _ _ ?_ | refine Rowx.drew ?_ | refine Rowx.alloc ?_ _ | refine Rowx.set5 ?_ _ _ _ _ _ | refine Rowx.ext (w' := w7) HB7.out ?_ | refine Rowx.ext (w' := w6) HB6.out ?_)) <;> (first | with_reducible rfl | (simp; done))))) | ((with_reducible refine Front.set5 49 (by decide) ?_ ?_ _ _ _ _ _); rotate_left; (focus ((repeat' (with_reducible first | refine Rowx.made _ _ _ ?_ | refine Rowx.drew ?_ | refine Rowx.alloc ?_ _ | refine Rowx.set5 ?_ _ _ _ _ _ | refine Rowx.ext (w' := w7) HB7.out ?_ | refine Rowx.ext (w' := w6) HB6.out ?_)) <;> (first | with_reducible rfl | (simp; done))))))
        case rest =>
          clear KL SL HSL HU HP0 HOG
          obtain ⟨b9, b10, fa, fc, ga, gc, rfl, rfl, hext, hst, hp9, hp10, hf9, hf10⟩ := hcut
          have KC := Lib.hid hext
          have SC := Lib.hid hst
          have F9 := Lib.hid hf9.1
          have F10 := Lib.hid hf10.1
          have l5 := hst.r5.lt
          have l6 := hst.r6.lt
          have l9 := World.block_lt_of_cell? _ _ hp9.1
          have l10 := World.block_lt_of_cell? _ _ hp10.1
          have HKS : Hid (∀ W : World, Ext wc W → (W.cell? ⟨g5, 0, none⟩ = some (.int .i64 ops.length) ∧ W.cell? ⟨g5, 1, none⟩ = some (.slice oa on oc) ∧ W.cell? ⟨g5, 2, none⟩ = some (.slice pa pn pc) ∧ W.cell? ⟨g5, 3, none⟩ = some (.slice ma mn mc) ∧ W.cell? ⟨g5 + 1, 0, none⟩ = some (.int .i64 ops.length) ∧ W.cell? ⟨g5 + 1, 1, none⟩ = some (.slice oa' on' oc') ∧ W.cell? ⟨g5 + 1, 2, none⟩ = some (.slice pa' pn' pc') ∧ W.cell? ⟨g5 + 1, 3, none⟩ = some (.slice ma' mn' mc') ∧
              W.cell? ⟨b9, 0, none⟩ = some (.int .i64 p.way) ∧ W.cell? ⟨b9, 1, none⟩ = some (.slice fa p.front.length fc) ∧ W.cell? ⟨b9, 2, none⟩ = some (.int .i64 p.lo) ∧ W.cell? ⟨b9, 3, none⟩ = some (.int .i64 p.hi) ∧ W.cell? ⟨b9, 4, none⟩ = some (.int .i64 p.cost) ∧
              W.cell? ⟨b10, 0, none⟩ = some (.int .i64 p.way) ∧ W.cell? ⟨b10, 1, none⟩ = some (.slice ga p.front.length gc) ∧ W.cell? ⟨b10, 2, none⟩ = some (.int .i64 p.lo) ∧ W.cell? ⟨b10, 3, none⟩ = some (.int .i64 p.hi) ∧ W.cell? ⟨b10, 4, none⟩ = some (.int .i64 p.cost))) := fun W hb =>
            ⟨(hb.cell (p := ⟨g5, 0, none⟩) l5).trans (hst.r5.cell 0), (hb.cell (p := ⟨g5, 1, none⟩) l5).trans (hst.r5.cell 1), (hb.cell (p := ⟨g5, 2, none⟩) l5).trans (hst.r5.cell 2), (hb.cell (p := ⟨g5, 3, none⟩) l5).trans (hst.r5.cell 3),
              (hb.cell (p := ⟨g5 + 1, 0, none⟩) l6).trans (hst.r6.cell 0), (hb.cell (p := ⟨g5 + 1, 1, none⟩) l6).trans (hst.r6.cell 1), (hb.cell (p := ⟨g5 + 1, 2, none⟩) l6).trans (hst.r6.cell 2), (hb.cell (p := ⟨g5 + 1, 3, none⟩) l6).trans (hst.r6.cell 3),
              (hb.cell (p := ⟨b9, 0, none⟩) l9).trans hp9.1, (hb.cell (p := ⟨b9, 1, none⟩) l9).trans hp9.2.1, (hb.cell (p := ⟨b9, 2, none⟩) l9).trans hp9.2.2.1, (hb.cell (p := ⟨b9, 3, none⟩) l9).trans hp9.2.2.2.1, (hb.cell (p := ⟨b9, 4, none⟩) l9).trans hp9.2.2.2.2,
              (hb.cell (p := ⟨b10, 0, none⟩) l10).trans hp10.1, (hb.cell (p := ⟨b10, 1, none⟩) l10).trans hp10.2.1, (hb.cell (p := ⟨b10, 2, none⟩) l10).trans hp10.2.2.1, (hb.cell (p := ⟨b10, 3, none⟩) l10).trans hp10.2.2.2.1, (hb.cell (p := ⟨b10, 4, none⟩) l10).trans hp10.2.2.2.2⟩
          clear hext hst hp9 hp10 hf9 hf10
          clear q1 q2
          obtain ⟨c50, c51, c52, c53, c60, c61, c62, c63, p0, p1, p2, p3, p4, q0, q1, q2, q3, q4⟩ := HKS.out _ (Ext.refl _)
          go_wp2_with fail
          refine (groups_same (.slice oa on oc) (.slice oa' on' oc') og _ SC.out.ov SC.out.ou).mono ?_
          rintro e w3 ⟨rfl, hb⟩
          have K1 := Lib.hid hb
          clear c50 c51 c52 c53 c60 c61 c62 c63 p0 p1 p2 p3 p4 q0 q1 q2 q3 q4
          clear hb
          obtain ⟨c50, c51, c52, c53, c60, c61, c62, c63, p0, p1, p2, p3, p4, q0, q1, q2, q3, q4⟩ := HKS.out _ K1.out
          go_wp2_with fail
          refine (groups_same (.slice pa pn pc) (.slice pa' pn' pc') pg _ (SC.out.pv.ext K1.out) (SC.out.pu.ext K1.out)).mono ?_
          rintro e w4 ⟨rfl, hb⟩
          have K2 := Lib.hid (Ext.trans K1.out hb)
          clear c50 c51 c52 c53 c60 c61 c62 c63 p0 p1 p2 p3 p4 q0 q1 q2 q3 q4
          clear hb
          obtain ⟨c50, c51, c52, c53, c60, c61, c62, c63, p0, p1, p2, p3, p4, q0, q1, q2, q3, q4⟩ := HKS.out _ K2.out
          go_wp2_with fail
          refine (groups_same (.slice ma mn mc) (.slice ma' mn' mc') mg _ (SC.out.mv.ext K2.out) (SC.out.mu.ext K2.out)).mono ?_
          rintro e w5 ⟨rfl, hb⟩
          have K3 := Lib.hid (Ext.trans K2.out hb)
          clear c50 c51 c52 c53 c60 c61 c62 c63 p0 p1 p2 p3 p4 q0 q1 q2 q3 q4
          clear hb
          obtain ⟨c50, c51, c52, c53, c60, c61, c62, c63, p0, p1, p2, p3, p4, q0, q1, q2, q3, q4⟩ := HKS.out _ K3.out
          go_wp2_with fail
          refine (ints_same _ _ p.front _ (F9.out.ext K3.out) (F10.out.ext K3.out)).mono ?_
          rintro e w6 ⟨rfl, hb⟩
          have K4 := Lib.hid (Ext.trans K3.out hb)
          clear c50 c51 c52 c53 c60 c61 c62 c63 p0 p1 p2 p3 p4 q0 q1 q2 q3 q4
          clear hb
          obtain ⟨c50, c51, c52, c53, c60, c61, c62, c63, p0, p1, p2, p3, p4, q0, q1, q2, q3, q4⟩ := HKS.out _ K4.out
          go_wp2_with fail
          refine (awake_any _).mono ?_
          rintro e w7 ⟨rfl, hb⟩
          have K5 := Lib.hid (Ext.trans K4.out hb)
          clear hb
          go_wp2_with fail
          go_ret
          exact ⟨rfl, KC.out.trans K5.out⟩
  · by_cases h1 : ops.length ≤ 100
    · have q1 : decide ((100 : Int) < (ops.length : Int)) = false := by simp; omega
      have q2 : decide ((100 : Int) < (bs.length : Int)) = true := by simp; omega
      go_enter Try.func4, Try.ntmps4
      go_wp2_with fail
      refine (awake_any _).mono ?_
      rintro e w1 ⟨rfl, hb1⟩
      go_wp2_with fail
      go_ret
      exact ⟨rfl, hb1⟩
    · have q1 : decide ((100 : Int) < (ops.length : Int)) = true := by simp; omega
      go_enter Try.func4, Try.ntmps4
      go_wp2_with fail
      refine (awake_any _).mono ?_
      rintro e w1 ⟨rfl, hb1⟩
      go_wp2_with fail
      go_ret
      exact ⟨rfl, hb1⟩
end Go.Proofs.Ytcilkdohpcmbgaa
