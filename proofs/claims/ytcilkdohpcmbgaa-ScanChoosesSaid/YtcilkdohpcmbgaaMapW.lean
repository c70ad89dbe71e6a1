/- scan.group, scan.Measure: a list's numbers, counted. Conditions: fewer than 10^9 operations, numbers that an int holds. -/
import Derived.Test.YtcilkdohpcmbgaaMapG
import Derived.Maps.OwnSet
namespace Go.Proofs.Ytcilkdohpcmbgaa
set_option linter.unusedSimpArgs false
set_option linter.unusedVariables false
open Go.RowKit Go.Maps

theorem Try.keyInt : Keyed Try.prog 3 := int_keyed Try.underlying3
theorem Try.zeroInt (w : World) : (zeroValue 3).run Try.prog w = .ok (.int .i64 0) w := by kernel_rfl
theorem Try.infoGroup1 : (Try.prog.info? 71).map (fun i => (i.zero, i.size, i.bytes)) = some (some (.agg #[.int .i64 0, .int .i64 0]), 2, 16) := by kernel_rfl
theorem Ext.toGrown {w w' : World} (h : Ext w w') : w.grownBy w' none := ⟨h.os, h.tape, h.output, h.size, fun k hk _ => h.block k hk⟩

/-- a function value that tells a number of an operation -/
def Tells (g : FuncId) (fld : OpD → Int) : Prop := ∀ (o : OpD) (w : World), Calls Try.prog g #[o.val] w fun e w' => e = .returned (.int .i64 (fld o)) ∧ Ext w w'

set_option maxRecDepth 100000 in
set_option maxHeartbeats 3200000 in
theorem group_any (g : FuncId) (fld : OpD → Int) (eg : ∀ args w, (callFunc g args).run Try.prog w = .ok (.enter g args) w) (hg : Tells g fld)
    (V : Value) (ops : List OpD) (w : World) (hs : Sl w 11 ROp V ops) (hn : ops.length ≤ 1000000000) (hwf : ∀ o ∈ ops, (Lit.int .i64 (fld o)).wf = true) :
    Calls Try.prog 29 #[V, .func (.func g) #[] #[]] w fun e w' => (∃ v, e = .returned v ∧ Sl w' 2 RG v (groupsL (ops.map fld)) ∧ ∀ g, v.ownBlock = some g → w.heap.size ≤ g) ∧ Ext w w' := by
  obtain ⟨A, c, rfl⟩ := hs.form
  obtain ⟨_, hc1, hc2, hA⟩ := hs.at
  have hmm := @run_makeMap Try.prog
  have HG := Lib.hid hg
  have HWF := Lib.hid hwf
  clear hg hwf hs
  obtain ⟨i0, hi0, hz0, hz1, hz2⟩ := info_parts Try.infoGroup1
  go_enter Try.func29, Try.ntmps29
  go_wp2_with fail
  go_loopw [14] (fun i wr => ∃ (k : Nat) (D : DataW Unit), k ≤ ops.length ∧ i = .int .i64 k ∧ wr.ownsMap Try.prog 3 (plainElem Try.prog 3) w.heap.size k D ∧ CntD D ((ops.map fld).take k) ∧ Ext w wr)
    (fun i _ => ops.length - (intOf i).toNat)
  case atStart => exact ⟨0, _, by omega, rfl, World.ownsMap_made _ _ _ _, CntD.start, Ext.alloc _ _⟩
  case round =>
    obtain ⟨k, D, hk, rfl, hown, hD, hb⟩ := hrel
    have HD := Lib.hid hD
    have HB := Lib.hid hb
    have HO := Lib.hid hown
    have hlt0 := hown.lt
    clear hD hb hown
    by_cases hlt : k < ops.length
    · obtain ⟨b, off, rfl, hbl, hx⟩ := hA (by omega)
      obtain ⟨cs, rfl, _, hcs⟩ := hx k hlt
      have hw := fun j u hu => (HB.out.cell (p := ⟨b, off + k * 11 + j, none⟩) hbl).trans (hcs j u hu)
      have h0 := hw 0 _ rfl
      have h1 := hw 1 _ rfl
      have h2 := hw 2 _ rfl
      have h3 := hw 3 _ rfl
      have h4 := hw 4 _ rfl
      have h5 := hw 5 _ rfl
      have h6 := hw 6 _ rfl
      have h7 := hw 7 _ rfl
      have h8 := hw 8 _ rfl
      have h9 := hw 9 _ rfl
      have h10 := hw 10 _ rfl
      simp only [Nat.add_zero] at h0
      clear hx hcs hw hA
      have HT : Hid ((ops.map fld).take (k + 1) = (ops.map fld).take k ++ [fld ops[k]]) := by
        unfold Hid
        rw [List.take_succ_eq_append_getElem (by simpa using hlt), List.getElem_map]
      have hwx := HWF.out ops[k] (List.getElem_mem hlt)
      have HCL : Hid (∀ x, ((ops.map fld).take k).count x ≤ k) := fun x => Nat.le_trans List.count_le_length (by simp [List.length_take]; omega)
      generalize ops[k] = o at *
      obtain ⟨x, hxe⟩ : ∃ x, fld o = x := ⟨_, rfl⟩
      rw [hxe] at HT hwx
      have HX := Lib.hid hxe
      clear hxe
      have HWX := Lib.hid hwx
      clear hwx
      go_wp2_with fail
      refine (HG.out o _).mono ?_
      rintro e w1 ⟨rfl, hb1⟩
      rw [show fld o = x from HX.out]
      have HB1 := Lib.hid (Ext.trans (by (repeat' (with_reducible first | exact HB.out | exact Below.refl _ _ | refine Ext.drewN ?_ _ | refine Below.drew ?_ | refine Below.setCell ?_ ?_ _ | refine Below.alloc ?_ ?_ _)) <;> (first | omega | (simp; done) | (simp; omega)) : Ext w _) hb1)
      have hown1 := (HO.out.alloc (.cells #[.int .i64 o.id, .int .i64 o.proc, .int .i64 o.object, .int .i64 o.kind, .int .i64 o.method, .int .i64 o.arg, .int .i64 o.second, .bool o.done, .int .i64 o.result, .int .i64 o.invoke, .int .i64 o.ret] 58)).kept hb1.toGrown (by simp)
      clear hb1 h0 h1 h2 h3 h4 h5 h6 h7 h8 h9 h10
      have HBND : Hid (∀ c : Int, D.atKey (.int .i64 x) (.lit (.int .i64 0)) = .lit (.int .i64 c) → c = (((ops.map fld).take k).count x : Int) ∧ 0 ≤ c ∧ c ≤ 1000000000) := by
        intro c hc
        have h1 := hc.symm.trans (HD.out.at0 x)
        injection h1 with h1
        injection h1 with _ h1
        have := HCL.out x
        exact ⟨h1, by omega, by omega⟩
      go_wp2_with (first | (at_lookup; refine wpList_lookup_own_int _ rfl _ _ 100 rfl 3 3 .i64 Try.keyInt Try.underlying100 Try.underlying3 (Try.zeroInt _) w.heap.size k _ rfl hown1 _ _ rfl (keyOf_int_mk Try.underlying3 HWX.out) ?_; intro c hat hwc; have hcb := HBND.out c hat; clear hat hwc; obtain ⟨hce, hcb1, hcb2⟩ := hcb; have HCE := Lib.hid hce; clear hce) | (at_mapUpdate; refine wpList_mapUpdate_own _ rfl _ _ _ 100 rfl 3 3 Try.keyInt Try.underlying100 _ w.heap.size k _ rfl hown1 (by unfold maxLen; omega) _ _ _ rfl rfl (keyOf_int_mk Try.underlying3 HWX.out) _ [] (plainElem_int Try.underlying3 (WalkArith.wf_i64 (by omega))) ?_; intro w2 hown2 hgrow2))
      go_roundw
      case measure => simp [intOf]; omega
      case rel =>
        refine ⟨k + 1, _, by omega, by go_num, hown2, ?_, ?_⟩
        · rw [HT.out]; exact HD.out.step x c HCE.out
        · exact HB1.out.grown hgrow2 HB1.out.size (fun j hj => by cases hj; exact Nat.le_refl _)
    · obtain rfl : k = ops.length := by omega
      rw [show (ops.map fld).take ops.length = ops.map fld from List.take_of_length_le (by simp)] at HD
      generalize hvs : ops.map fld = vs at *
      have HVS := Lib.hid hvs
      clear hvs
      go_wp2_with (at_range; refine wpList_range_own _ rfl _ 100 rfl 3 3 Try.keyInt Try.underlying100 _ w.heap.size ops.length _ rfl HO.out ?_; intro w0 hrg0 hg0 hs0)
      go_frame
      have hB0 : Ext w w0 := HB.out.trans ⟨hg0.os, hg0.tape, hg0.output, hg0.size, fun k hk => hg0.block k hk (by simp)⟩
      obtain ⟨r, hr⟩ : ∃ r, wr.heap.size = r := ⟨_, rfl⟩
      rw [hr] at hrg0 hs0 ⊢
      have hrB : w.heap.size < r := by rw [← hr]; exact hlt0
      have HS0 := Lib.hid hs0
      have HR := Lib.hid hr
      clear hs0 hr
      have hcnt0 : Maps.size D ≤ 1000000000 := by
        have h1 := HO.out.size_le
        omega
      go_loopw [8] (fun v wz => ∃ (left : Lit → Bool) (cnt : Nat) (gs : List Grp), wz.ranges Try.prog 3 (plainElem Try.prog 3) w.heap.size r ops.length D left cnt ∧ gs.length + cnt ≤ 1000000000 ∧
          wz.ownsRow (r + 1) 71 2 v gs.length (gs.flatMap Grp.cells) ∧ Coll vs left gs ∧ Ext w wz ∧ r < wz.heap.size) (fun _ wz => wz.rangeLeft w.heap.size r)
      case atStart => exact ⟨_, _, [], hrg0, by simpa using hcnt0, World.ownsRow_nil _ _ _ _, Coll.start HD.out, hB0, by rw [HS0.out]; omega⟩
      case round =>
        obtain ⟨left, cnt, gs, hrg, hcs, hown, hC, hb, hrl⟩ := hrel
        have HB2 := Lib.hid hb
        have HC := Lib.hid hC
        have HOW := Lib.hid hown
        have HRG := Lib.hid hrg
        clear hb hC hown hrg
        go_wp2_with (at_next; refine wpList_next_ranges_ii _ rfl _ rfl 3 3 .i64 .i64 Try.keyInt Try.underlying3 Try.underlying3 w.heap.size r ops.length _ _ _ rfl HRG.out ?_ ?_)
        · intro hc0 hl0
          obtain ⟨hnd, hcn⟩ := HC.out.done hl0
          have HND := Lib.hid hnd
          have HCN := Lib.hid hcn
          clear hnd hcn hc0 hl0
          go_wp2_with fail
          refine (sortGroups_any _ gs (r + 1) _ HOW.out (by omega)).mono ?_
          rintro e w3 ⟨rfl, ⟨gs', hp, hso, hsl⟩, hgr⟩
          have hfin := sorted_groups HND.out HCN.out hp hso
          have HB3 := Lib.hid (HB2.out.grown hgr (by exact HB2.out.size) (fun j hj => by have := (HOW.out.lt j hj).1; omega))
          have HSL := Lib.hid hsl
          have HF := Lib.hid hfin
          clear hp hso hsl hgr hfin
          go_wp2_with fail
          go_ret
          rw [HVS.out]
          refine ⟨⟨_, rfl, by rw [← HF.out]; exact HSL.out, fun g hg => ?_⟩, HB3.out⟩
          have := (HOW.out.lt g hg).1
          omega
        · intro x c w1 cnt1 hwx hwc hlx hat hrg1 hlt hg1 hs1 hen
          have HC1 := Lib.hid (HC.out.step HD.out x c hlx hat)
          have HRG1 := Lib.hid hrg1
          have HO1 := Lib.hid (HOW.out.kept hg1 (.inr (fun e => by have := (HOW.out.lt r e).1; omega)))
          have HB1 := Lib.hid (HB2.out.grown hg1 HB2.out.size (fun j hj => by cases hj; omega))
          have hrl1 : r < w1.heap.size := by rw [hs1]; exact hrl
          have hlc := hlt
          clear hlx hat hrg1 hg1 hs1
          go_wp2_with (at_builtin; refine wpList_append_src _ rfl (.tmp 32) (.tmp 36) _ rfl (r + 1) 71 i0 _ 2 16 Try.underlying34 hi0 hz0 hz1 hz2 rfl (by decide) _ _ _ rfl (HO1.out.alloc _) _ 1 1 [.int .i64 x, .int .i64 c] rfl ?ax4 ?ax5 ?ax6 ?ax7 ?ax8 ?_)
          case ax4 => exact Src.new _ _ _ 1 2 rfl
          case ax5 => intro u hu; simp at hu; rcases hu with rfl | rfl <;> rfl
          case ax6 => simp [maxLen]; omega
          case ax7 => omega
          case ax8 => simp; omega
          intro v2 w2 hown2 hg2
          have hrg2 := (HRG1.out.alloc (.cells #[.int .i64 x, .int .i64 c] 71)).kept hg2 (fun e => by have := (HO1.out.lt _ e.symm).1; omega) (fun e => by have := (HO1.out.lt _ e.symm).1; omega)
          have HRG2 := Lib.hid hrg2
          clear hrg2
          have hx2 : Ext w w2 := (Ext.trans HB1.out (Ext.alloc _ _)).grown hg2 (by have := HB1.out.size; simp; omega) (fun j hj => by have := (HO1.out.lt j hj).1; omega)
          have HX2 := Lib.hid hx2
          have hsz2 := hg2.size
          simp at hsz2
          have HO2 := Lib.hid hown2
          clear hx2 hg2 hown2
          go_wp2_with fail
          go_roundw
          case measure => rw [HRG2.out.left_eq, HRG.out.left_eq]; exact hlc
          case rel =>
            refine ⟨_, cnt1, gs ++ [⟨x, c⟩], HRG2.out, by simp; omega, ?_, HC1.out, HX2.out, by omega⟩
            · rw [List.length_append, List.flatMap_append]
              exact HO2.out
end Go.Proofs.Ytcilkdohpcmbgaa
