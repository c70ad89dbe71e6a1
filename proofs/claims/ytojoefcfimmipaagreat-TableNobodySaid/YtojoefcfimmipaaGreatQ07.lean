/- A disk's use and Write. Conditions: a disk in memory, fewer than 10^9 blocks written since the last flush. -/
/- A disk's Flush and New. Conditions: a disk in memory; for New 1 to 2048 blocks. -/
/- store.put. Conditions: a disk in memory, numbers that a head holds. -/
import Derived.Test.YtojoefcfimmipaaGreatQ04
import Derived.Deep.RegionLaw
import Derived.Test.YtojoefcfimmipaaGreatQ06
namespace Go.Proofs.YtojoefcfimmipaaGreat
set_option linter.unusedSimpArgs false
set_option linter.unusedVariables false
open Go.RowKit
theorem useD_blocks (D : DiskD) : (useD D).1.blocks = D.blocks := by unfold useD; split <;> (try split) <;> rfl
theorem useD_late (D : DiskD) : (useD D).1.late = D.late := by unfold useD; split <;> (try split) <;> rfl
set_option maxRecDepth 100000 in
set_option maxHeartbeats 1000000 in
theorem use_any {g : Nat} {F : Nat → Prop} {D : DiskD} {bv lv : Value} (w : World) (h : DiskAs w g F D bv lv) :
    Calls Tryz.prog 177 #[.pointer (some ⟨g, 0, none⟩)] w fun e w' => e = .returned (.int .i64 (useD D).2) ∧ DiskAs w' g F (useD D).1 bv lv ∧ Only (fun i => i = g) w w' := by
  have c2 : w.cell? ⟨g, 2, none⟩ = some (.int .i64 D.left) := h.row.cell 2
  have c3 : w.cell? ⟨g, 3, none⟩ = some (.bool D.dead) := h.row.cell 3
  have f2 : w.frozen? ⟨g, 2, none⟩ = false := h.row.soft 2
  have f3 : w.frozen? ⟨g, 3, none⟩ = false := h.row.soft 3
  have HD := Lib.hid h
  have HB : Hid (∀ (D' : DiskD) (W : World), D'.blocks = D.blocks → D'.late = D.late → D'.left ≤ 9223372036854775807 → Row1 W g 222 [bv, lv, .int .i64 D'.left, .bool D'.dead, .string zeroB] → Only (fun i => i = g) w W → DiskAs W g F D' bv lv) := fun D' W e1 e2 e3 hr hb => by
    have ab : bv.ownBlock ≠ some g := HD.out.blocks.apartRow HD.out.row (by decide)
    have al : lv.ownBlock ≠ some g := HD.out.late.apartRow HD.out.row (by decide)
    have hw := HD.out.wf
    exact ⟨hr, by rw [e1]; exact HD.out.blocks.only hb (fun k hk q => ab (by rw [hk, q])), by rw [e2]; exact HD.out.late.only hb (fun k hk q => al (by rw [hk, q])), HD.out.fg, HD.out.fb, HD.out.fl,
      ⟨by rw [e1]; exact hw.one, by rw [e1]; exact hw.many, by rw [e1]; exact hw.size, by rw [e1, e2]; exact hw.late, e3⟩⟩
  clear h
  have hle := HD.out.wf.fits
  have HO : Hid (∀ i v, Only (fun i => i = g) w (w.setCell ⟨g, i, none⟩ v)) := fun i v => Only.setCell (F := fun i => i = g) (p := ⟨g, i, none⟩) Only.refl (.inl rfl) v
  by_cases h0 : D.left = 0
  · have q0 : decide (D.left = 0) = true := decide_eq_true h0
    have hu : useD D = ({ D with dead := true }, 11) := by unfold useD; rw [if_pos h0]
    rw [hu]
    clear hu
    go_enter Tryz.func177, Tryz.ntmps177
    go_wp2_with fail
    go_ret
    exact ⟨rfl, HB.out _ _ rfl rfl hle (HD.out.row.set 3 _) (HO.out 3 _), HO.out 3 _⟩
  · have q0 : decide (D.left = 0) = false := decide_eq_false h0
    by_cases h1 : 0 < D.left
    · have q1 : decide (0 < D.left) = true := decide_eq_true h1
      have hu : useD D = ({ D with left := D.left - 1 }, 0) := by unfold useD; rw [if_neg h0, if_pos h1]
      rw [hu]
      clear hu
      go_enter Tryz.func177, Tryz.ntmps177
      go_wp2_with fail
      go_ret
      exact ⟨rfl, HB.out _ _ rfl rfl (by dsimp only; omega) (HD.out.row.set 2 _) (HO.out 2 _), HO.out 2 _⟩
    · have q1 : decide (0 < D.left) = false := decide_eq_false h1
      have hu : useD D = (D, 0) := by unfold useD; rw [if_neg h0, if_neg h1]
      rw [hu]
      clear hu
      go_enter Tryz.func177, Tryz.ntmps177
      go_wp2_with fail
      go_ret
      exact ⟨rfl, HD.out, Only.refl⟩
theorem padB_size (s : ByteArray) (h : s.size ≤ 256) : (padB s).size = 256 := by
  unfold padB
  rw [ByteArray.size_append, ByteArray.size_extract, zeroB_size]
  omega
theorem Only.grown {w w' : World} {row : Option Nat} (h : w.grownBy w' row) : Only (fun i => row = some i) w w' := ⟨h.os, h.tape, h.output, h.size, fun i hi hn => h.block i hi (fun e => hn e.symm)⟩
theorem disk_pushed {w1 W w2 : World} {g : Nat} {F : Nat → Prop} {D : DiskD} {bv lv v' : Value} {late' : List (Nat × ByteArray)} (H : DiskAs w1 g F D bv lv) (hW : Ext w1 W) (hown : OwnL w2 0 262 2 encP v' late') (hgr : W.grownBy w2 lv.ownBlock)
    (hwh : ∀ k, v'.ownBlock = some k → lv.ownBlock = some k ∨ W.heap.size ≤ k) (hl : ∀ p ∈ late', p.1 < D.blocks.length ∧ p.2.size = 256) :
    ∃ F', DiskAt (w2.setCell ⟨g, 1, none⟩ v') g F' { D with late := late' } ∧ Keeps F F' w1 (w2.setCell ⟨g, 1, none⟩ v') := by
  have HW := H.ext hW
  have hlg : lv.ownBlock ≠ some g := HW.late.apartRow HW.row (by decide)
  have hbg : bv.ownBlock ≠ some g := HW.blocks.apartRow HW.row (by decide)
  have hR2 : Row1 w2 g 222 [bv, lv, .int .i64 D.left, .bool D.dead, .string zeroB] := HW.row.grown hgr (fun e => hlg e.symm)
  have hvg : v'.ownBlock ≠ some g := hown.apartRow hR2 (by decide)
  have hb2 : OwnL w2 0 9 1 encS bv D.blocks := HW.blocks.only (Only.grown hgr) (fun k hk q => HW.blocks.apart HW.late (by decide) hk q)
  have ho : Only (fun i => i = g) w2 (w2.setCell ⟨g, 1, none⟩ v') := Only.setCell (F := fun i => i = g) (p := ⟨g, 1, none⟩) Only.refl (.inl rfl) v'
  refine ⟨fun i => F i ∨ v'.ownBlock = some i, ⟨bv, v', hR2.set 1 v', hb2.only ho (fun k hk q => hbg (by rw [hk, q])), hown.only ho (fun k hk q => hvg (by rw [hk, q])), .inl H.fg, fun b hb => .inl (H.fb b hb), fun b hb => .inr hb, ⟨H.wf.one, H.wf.many, H.wf.size, hl, H.wf.fits⟩⟩, ⟨?_, ?_⟩⟩
  · refine ((Only.of hW).trans (Only.grown hgr) (fun i q => .inl (H.fl i q))).trans ho (fun i q => .inl (by rw [q]; exact H.fg))
  · intro i q
    rcases q with q | q
    · exact .inl q
    · rcases hwh i q with q | q
      · exact .inl (H.fl i q)
      · exact .inr (Nat.le_trans hW.size q)
theorem Tryz.infoPend : (Tryz.prog.info? 262).map (fun i => (i.zero, i.size, i.bytes)) = some (some (.agg #[.int .i64 0, .string ⟨#[]⟩]), 2, 24) := by kernel_rfl
theorem elPend : Elem Tryz.prog 220 262 2 24 := Elem.of Tryz.underlying220 Tryz.infoPend rfl (by decide)
set_option maxRecDepth 100000 in
set_option maxHeartbeats 2000000 in
theorem diskWrite_any {g : Nat} {F : Nat → Prop} {D : DiskD} (n : Int) (s : ByteArray) (w : World) (h : DiskAt w g F D) (hlate : D.late.length + 1 ≤ 1000000000) :
    Calls Tryz.prog 137 #[.pointer (some ⟨g, 0, none⟩), .int .i64 n, .string s] w fun e w' => e = .returned (.int .i64 (writeD D n s).2) ∧ ∃ F', DiskAt w' g F' (writeD D n s).1 ∧ Keeps F F' w w' := by
  have hr := ready_any n w h
  obtain ⟨R, hR⟩ : ∃ R, readyD D n = R := ⟨_, rfl⟩
  rw [hR] at hr
  have HH := Lib.hid h
  by_cases hR0 : R = 0
  · subst hR0
    by_cases hbig : 256 < s.size
    · have hw : writeD D n s = (D, 21) := by unfold writeD; rw [if_neg (by simp [hR]), if_pos hbig]
      rw [hw]
      have q1 : decide (256 < (s.size : Int)) = true := decide_eq_true (by omega)
      clear hw h hR
      go_enter Tryz.func137, Tryz.ntmps137
      go_wp2_with (go_at_call 176; refine hr.mono ?_; clear hr; rintro e w1 ⟨rfl, rfl⟩)
      go_ret
      exact ⟨rfl, F, HH.out, Keeps.refl⟩
    · have q1 : decide (256 < (s.size : Int)) = false := decide_eq_false (by omega)
      obtain ⟨bv, lv, h⟩ := h
      have hu := use_any w h
      have hn : 0 ≤ n ∧ n < D.blocks.length := by
        unfold readyD at hR
        split at hR
        · omega
        · split at hR
          · omega
          · omega
      obtain ⟨m, rfl⟩ : ∃ m : Nat, n = m := ⟨n.toNat, by omega⟩
      have HW : Hid (writeD D m s = if (useD D).2 ≠ 0 then useD D else ({ (useD D).1 with late := (useD D).1.late ++ [(m, padB s)] }, 0)) := by unfold Hid writeD; rw [if_neg (by simp [hR]), if_neg hbig, Int.toNat_natCast]
      obtain ⟨D1, u, hu1⟩ : ∃ D1 u, useD D = (D1, u) := ⟨_, _, rfl⟩
      have hl1 : D1.late = D.late := by have := useD_late D; rwa [hu1] at this
      have hb1 : D1.blocks = D.blocks := by have := useD_blocks D; rwa [hu1] at this
      have HW : Hid (writeD D m s = if u ≠ 0 then (D1, u) else ({ D1 with late := D1.late ++ [(m, padB s)] }, 0)) := by rw [HW.out, hu1]; exact rfl
      rw [HW.out]
      rw [hu1] at hu
      clear h hR hu1 HW
      rw [← hl1] at hlate
      rw [← hb1] at hn
      clear hl1 hb1
      by_cases hu0 : u = 0
      · subst hu0
        rw [if_neg (by simp)]
        go_enter Tryz.func137, Tryz.ntmps137
        go_upto_region 7 with (first | (go_at_call 176; refine hr.mono ?_; clear hr; rintro e w1 ⟨rfl, rfl⟩) | (go_at_call 177; refine hu.mono ?_; clear hu; rintro e w1 ⟨rfl, h1, hb1⟩))
        obtain ⟨lA, lc, rfl, hl1, hl2, _⟩ := ownP_open h1.late
        have H1 := Lib.hid h1
        have hz : zeroB.size = 256 := zeroB_size
        have hs : (s.size : Int) ≤ 256 := by omega
        have hq : ¬ 9223372036854775807 < s.size + (256 - s.size) := by omega
        have HO1 := Lib.hid hb1
        have HH1 := Lib.hid h1
        have HPL : Hid (∀ p ∈ D1.late ++ [(m, padB s)], p.1 < D1.blocks.length ∧ p.2.size = 256) := fun p hp => by
          rcases List.mem_append.1 hp with hp | hp
          · exact H1.out.wf.late p hp
          · obtain rfl := List.mem_singleton.1 hp
            exact ⟨by dsimp only; omega, padB_size _ (by omega)⟩
        have hgl : g < w1.heap.size := h1.row.lt
        have HB1 : Hid (∀ W, Ext w1 W → Row1 W g 222 [bv, .slice lA D1.late.length lc, .int .i64 D1.left, .bool D1.dead, .string zeroB]) := fun W hW => (H1.out.ext hW).row
        have hlg : (Value.slice lA D1.late.length lc).ownBlock ≠ some g := H1.out.late.apartRow H1.out.row (by decide)
        have c1 : w1.cell? ⟨g, 1, none⟩ = some (.slice lA D1.late.length lc) := h1.row.cell 1
        have c4 : w1.cell? ⟨g, 4, none⟩ = some (.string zeroB) := h1.row.cell 4
        have f1 : w1.frozen? ⟨g, 1, none⟩ = false := h1.row.soft 1
        go_region_law (refine step_push2 elPend encP_len encP_one rfl (.tmp 28) (.tmp 40) rfl (.slice lA D1.late.length lc) D1.late rfl (H1.out.late.only (G := fun _ => False) (Only.of (by (repeat' (with_reducible first | exact Below.refl _ _ | refine Ext.drewN ?_ _ | refine Below.drew ?_ | refine Below.setCell ?_ ?_ _ | refine Below.alloc ?_ ?_ _)) <;> (first | omega | (simp; done) | (simp; omega)))) (fun _ _ q => q)) (Nat.zero_le _) _ 1 (m, padB s) rfl (Row1.made' (by simp) _ (encP (m, padB s))) (by omega) (by decide) ?_; intro A' c' w2 hown2 hgr hwh; have HR2 := Row1.grown (HB1.out _ (by (repeat' (with_reducible first | exact Below.refl _ _ | refine Ext.drewN ?_ _ | refine Below.drew ?_ | refine Below.setCell ?_ ?_ _ | refine Below.alloc ?_ ?_ _)) <;> (first | omega | (simp; done) | (simp; omega)))) hgr (fun e => hlg e.symm); have g1 : w2.cell? ⟨g, 1, none⟩ = _ := HR2.cell 1; have f2 : w2.frozen? ⟨g, 1, none⟩ = false := HR2.soft 1)
        all_goals
          have hfin := disk_pushed HH1.out (by (repeat' (with_reducible first | exact Below.refl _ _ | refine Ext.drewN ?_ _ | refine Below.drew ?_ | refine Below.setCell ?_ ?_ _ | refine Below.alloc ?_ ?_ _)) <;> (first | omega | (simp; done) | (simp; omega))) hown2 hgr hwh HPL.out
          rw [List.length_append, List.length_singleton] at hfin
          go_wp2_with fail
          go_ret
          obtain ⟨F', q1, q2⟩ := hfin
          exact ⟨rfl, F', q1, Keeps.trans (F' := F) ⟨HO1.out.mono (fun i q => .inl (by rw [q]; exact H1.out.fg)), fun _ q => .inl q⟩ q2⟩
      · rw [if_pos hu0]
        have q2 : decide (u = 0) = false := decide_eq_false hu0
        go_enter Tryz.func137, Tryz.ntmps137
        go_wp2_with (first | (go_at_call 176; refine hr.mono ?_; clear hr; rintro e w1 ⟨rfl, rfl⟩) | (go_at_call 177; refine hu.mono ?_; clear hu; rintro e w1 ⟨rfl, h1, hb1⟩))
        go_ret
        exact ⟨rfl, F, ⟨bv, lv, h1⟩, ⟨hb1.mono (fun i q => .inl (by rw [q]; exact h1.fg)), fun _ q => .inl q⟩⟩
  · have hw : writeD D n s = (D, R) := by unfold writeD; rw [if_pos (by rw [hR]; exact hR0), hR]
    rw [hw]
    have q1 : decide (R = 0) = false := decide_eq_false hR0
    clear hw h hR
    go_enter Tryz.func137, Tryz.ntmps137
    go_wp2_with (go_at_call 176; refine hr.mono ?_; clear hr; rintro e w1 ⟨rfl, rfl⟩)
    go_ret
    exact ⟨rfl, F, HH.out, Keeps.refl⟩
end Go.Proofs.YtojoefcfimmipaaGreat
namespace Go.Proofs.YtojoefcfimmipaaGreat
set_option linter.unusedSimpArgs false
set_option linter.unusedVariables false
open Go.RowKit
theorem layB_snoc (late : List (Nat × ByteArray)) (bs : List ByteArray) (k : Nat) (hk : k < late.length) : layB (late.take (k + 1)) bs = (layB (late.take k) bs).set late[k].1 late[k].2 := by
  unfold layB
  rw [List.take_add_one, List.getElem?_eq_getElem hk, List.foldl_append]
  rfl
theorem layB_len (late : List (Nat × ByteArray)) : ∀ (bs : List ByteArray), (layB late bs).length = bs.length := by
  unfold layB
  induction late with
  | nil => intro bs; rfl
  | cons p r ih => intro bs; rw [List.foldl_cons, ih]; simp
theorem layB_size (late : List (Nat × ByteArray)) (h : ∀ p ∈ late, p.2.size = 256) : ∀ (bs : List ByteArray), (∀ b ∈ bs, b.size = 256) → ∀ b ∈ layB late bs, b.size = 256 := by
  unfold layB
  induction late with
  | nil => intro bs hb; exact hb
  | cons p r ih =>
    intro bs hb
    rw [List.foldl_cons]
    refine ih (fun q hq => h q (by simp [hq])) _ fun b hb2 => ?_
    rcases List.mem_or_eq_of_mem_set hb2 with q | q
    · exact hb b q
    · rw [q]; exact h p (by simp)
theorem ownS_set {w : World} {base n c g : Nat} {e : TypeId} {l : List ByteArray} (h : OwnL w base e 1 encS (.slice (some ⟨g, 0, none⟩) n c) l) (i : Nat) (hi : i < l.length) (t : ByteArray) :
    OwnL (w.setCell ⟨g, i, none⟩ (.string t)) base e 1 encS (.slice (some ⟨g, 0, none⟩) n c) (l.set i t) := by
  have h' : w.ownsRow base e 1 (.slice (some ⟨g, 0, none⟩) n c) l.length (l.flatMap encS) := h
  obtain ⟨A, c', he, _⟩ := own_form h'
  injection he with e1 e2 e3
  subst e2
  have h2 := own_set h' i (.string t)
  have h3 := flat_set encS 1 encS_len l i l[i] 0 (.string t) t hi rfl (by omega) rfl
  rw [Nat.mul_one, Nat.add_zero] at h3
  rw [h3] at h2
  unfold OwnL
  rw [List.length_set]
  exact h2
set_option maxRecDepth 100000 in
set_option maxHeartbeats 2000000 in
theorem diskFlush_any {g : Nat} {F : Nat → Prop} {D : DiskD} (w : World) (h : DiskAt w g F D) :
    Calls Tryz.prog 179 #[.pointer (some ⟨g, 0, none⟩)] w fun e w' => e = .returned (.int .i64 (flushD D).2) ∧ DiskAt w' g F (flushD D).1 ∧ Only F w w' := by
  have hr := ready_any 0 w h
  obtain ⟨R, hR⟩ : ∃ R, readyD D 0 = R := ⟨_, rfl⟩
  rw [hR] at hr
  have HH := Lib.hid h
  by_cases hR0 : R = 0
  · subst hR0
    obtain ⟨bv, lv, h⟩ := h
    have hu := use_any w h
    obtain ⟨D1, u, hu1⟩ : ∃ D1 u, useD D = (D1, u) := ⟨_, _, rfl⟩
    have hl1 : D1.late = D.late := by have := useD_late D; rwa [hu1] at this
    have hb1 : D1.blocks = D.blocks := by have := useD_blocks D; rwa [hu1] at this
    have HW : Hid (flushD D = if u ≠ 0 then (D1, u) else ({ D1 with blocks := layB D1.late D1.blocks, late := [] }, 0)) := by unfold Hid flushD; rw [if_neg (by simp [hR]), hu1, hl1, hb1]
    rw [HW.out]
    rw [hu1] at hu
    clear h hR hu1 HW hl1 hb1
    by_cases hu0 : u = 0
    · subst hu0
      rw [if_neg (by simp)]
      go_enter Tryz.func179, Tryz.ntmps179
      go_upto_region 5 with (first | (go_at_call 176; refine hr.mono ?_; clear hr; rintro e w1 ⟨rfl, rfl⟩) | (go_at_call 177; refine hu.mono ?_; clear hu; rintro e w1 ⟨rfl, h1, hb1⟩))
      obtain ⟨b, c, rfl, hc1, hc2, hFb, hbl, _, _⟩ := h1.open
      obtain ⟨lA, lc, rfl, hl1, hl2, hlx⟩ := ownP_open h1.late
      have H1 := Lib.hid h1
      have HL := Lib.hid hlx
      have HO := Lib.hid hb1
      have c0 : w1.cell? ⟨g, 0, none⟩ = _ := h1.row.cell 0
      have c1 : w1.cell? ⟨g, 1, none⟩ = _ := h1.row.cell 1
      have hgb : g ≠ b := fun e => H1.out.blocks.apartRow H1.out.row (by decide) (by rw [e]; rfl)
      have hgl := h1.row.lt
      have h2 := h1.wf.many
      clear h1 hlx hb1
      go_wp2_with fail
      go_loopw [19] (fun i wr => ∃ k : Nat, k ≤ D1.late.length ∧ i = .int .i64 k ∧ Only (fun i => i = b) w1 wr ∧ OwnL wr 0 9 1 encS (.slice (some ⟨b, 0, none⟩) D1.blocks.length c) (layB (D1.late.take k) D1.blocks)) (fun i _ => D1.late.length - (intOf i).toNat)
      case atStart => exact ⟨0, by omega, rfl, Only.refl, H1.out.blocks⟩
      case round =>
        obtain ⟨k, hk, rfl, hx, ho⟩ := hrel
        have HX := Lib.hid hx
        have HB := Lib.hid ho
        have hz := hx.size
        have d0 : wr.cell? ⟨g, 0, none⟩ = _ := (hx.row H1.out.row hgb).cell 0
        have d1 : wr.cell? ⟨g, 1, none⟩ = _ := (hx.row H1.out.row hgb).cell 1
        have f1 : wr.frozen? ⟨g, 1, none⟩ = false := (hx.row H1.out.row hgb).soft 1
        clear hx ho
        by_cases hkl : k < D1.late.length
        · obtain ⟨lb, rfl, _, hlb, _, hlc⟩ := HL.out (by omega)
          have hne : lb ≠ b := fun e => H1.out.late.apart H1.out.blocks (by decide) rfl (by rw [e]; rfl)
          have d2 : wr.cell? ⟨lb, k * 2, none⟩ = _ := (HX.out.cell hlb hne).trans (hlc k hkl).1
          have d3 : wr.cell? ⟨lb, k * 2 + 1, none⟩ = _ := (HX.out.cell hlb hne).trans (hlc k hkl).2
          have hal := (H1.out.wf.late _ (List.getElem_mem hkl)).1
          have HS := Lib.hid (layB_snoc D1.late D1.blocks k hkl)
          obtain ⟨a, ha⟩ : ∃ a, D1.late[k].1 = a := ⟨_, rfl⟩
          obtain ⟨t, ht⟩ : ∃ t, D1.late[k].2 = t := ⟨_, rfl⟩
          have HS : Hid (layB (D1.late.take (k + 1)) D1.blocks = (layB (D1.late.take k) D1.blocks).set a t) := by rw [← ha, ← ht]; exact HS.out
          rw [ha] at d2 hal
          rw [ht] at d3
          have fa : wr.frozen? ⟨b, a, none⟩ = false := by
            obtain ⟨A, cc, he, _, _, hq⟩ := ownS_open HB.out
            injection he with e1 e2 e3
            obtain ⟨b2, e4, _, _, hf, _⟩ := hq (by rw [layB_len]; omega)
            rw [e4] at e1
            injection e1 with e1
            injection e1 with e1
            rw [e1]
            exact hf a
          have ca : ∃ v, wr.cell? ⟨b, a, none⟩ = some (.string v) := by
            obtain ⟨A, cc, he, _, _, hq⟩ := ownS_open HB.out
            injection he with e1 e2 e3
            obtain ⟨b2, e4, _, _, _, hf⟩ := hq (by rw [layB_len]; omega)
            rw [e4] at e1
            injection e1 with e1
            injection e1 with e1
            rw [e1]
            exact ⟨_, hf a (by rw [layB_len]; exact hal)⟩
          obtain ⟨va, ca⟩ := ca
          have hbw : b < wr.heap.size := by omega
          have hgw : g < wr.heap.size := by omega
          have hlw : lb < wr.heap.size := by omega
          clear ha ht hlc c0 c1
          go_upto_region 8 with fail
          go_big_region
          go_wp2_with fail
          go_roundw
          case rel =>
            refine ⟨k + 1, by omega, by go_num, by (repeat' (with_reducible first | exact HX.out | exact Only.refl | refine Only.drewN ?_ _ | refine Only.drew ?_ | refine Only.setCell ?_ ?_ _ | refine Only.alloc ?_ _)) <;> (first | exact .inl rfl | (left; assumption) | (right; simp; done) | (right; simp; omega)), ?_⟩
            rw [HS.out]
            exact (ownS_set HB.out a (by rw [layB_len]; exact hal) t).ext (by (repeat' (with_reducible first | exact Below.refl _ _ | refine Ext.drewN ?_ _ | refine Below.drew ?_ | refine Below.setCell ?_ ?_ _ | refine Below.alloc ?_ ?_ _)) <;> (first | omega | (simp; done) | (simp; omega)))
          case measure => simp [intOf]; omega
        · obtain rfl : k = D1.late.length := by omega
          go_wp2_with fail
          go_ret
          rw [List.take_length] at HB
          have hvb : (Value.slice (some ⟨b, 0, none⟩) D1.blocks.length c).ownBlock = some b := rfl
          have hR := HX.out.row H1.out.row hgb
          refine ⟨rfl, ⟨_, _, hR.set 1 _, HB.out.only (Only.setCell (F := fun i => i = g) (p := ⟨g, 1, none⟩) Only.refl (.inl rfl) _) (fun q hq e => hgb (by injection hq with hq; rw [← e, ← hq])), ?_, H1.out.fg, H1.out.fb, (fun q hq => by cases hq), ⟨?_, ?_, ?_, (fun q hq => by cases hq), H1.out.wf.fits⟩⟩, ?_⟩
          · exact OwnL.nil _ _ _ _ _
          · rw [layB_len]; exact H1.out.wf.one
          · rw [layB_len]; exact H1.out.wf.many
          · exact layB_size _ (fun p hp => (H1.out.wf.late p hp).2) _ H1.out.wf.size
          · exact ((HO.out.mono (fun i q => .inl (by rw [q]; exact H1.out.fg))).trans HX.out (fun i q => .inl (by rw [q]; exact H1.out.fb b rfl))).setCell (.inl H1.out.fg) _
    · rw [if_pos hu0]
      have q2 : decide (u = 0) = false := decide_eq_false hu0
      go_enter Tryz.func179, Tryz.ntmps179
      go_wp2_with (first | (go_at_call 176; refine hr.mono ?_; clear hr; rintro e w1 ⟨rfl, rfl⟩) | (go_at_call 177; refine hu.mono ?_; clear hu; rintro e w1 ⟨rfl, h1, hb1⟩))
      go_ret
      exact ⟨rfl, ⟨bv, lv, h1⟩, hb1.mono (fun i q => .inl (by rw [q]; exact h1.fg))⟩
  · have hw : flushD D = (D, R) := by unfold flushD; rw [if_pos (by rw [hR]; exact hR0), hR]
    rw [hw]
    have q1 : decide (R = 0) = false := decide_eq_false hR0
    clear hw h hR
    go_enter Tryz.func179, Tryz.ntmps179
    go_wp2_with (go_at_call 176; refine hr.mono ?_; clear hr; rintro e w1 ⟨rfl, rfl⟩)
    go_ret
    exact ⟨rfl, HH.out, Only.refl⟩
theorem Tryz.infoStr : (Tryz.prog.info? 9).map (fun i => (i.zero, i.size, i.bytes)) = some (some (.string ⟨#[]⟩), 1, 16) := by kernel_rfl
theorem elStr : Elem Tryz.prog 184 9 1 16 := Elem.of Tryz.underlying184 Tryz.infoStr rfl (by decide)
def newD (n : Nat) : DiskD := ⟨List.replicate n zeroB, [], -1, false⟩
set_option maxRecDepth 100000 in
set_option maxHeartbeats 2000000 in
theorem diskNew_any (n : Nat) (w : World) (h1 : 1 ≤ n) (h2 : n ≤ 2048) :
    Calls Tryz.prog 80 #[.int .i64 n] w fun e w' => ∃ g F, e = .returned (.tuple #[.pointer (some ⟨g, 0, none⟩), .int .i64 0]) ∧ DiskAt w' g F (newD n) ∧ Ext w w' ∧ ∀ i, F i → w.heap.size ≤ i := by
  have q1 : decide ((n : Int) < 1) = false := decide_eq_false (by omega)
  have q2 : decide (2048 < (n : Int)) = false := decide_eq_false (by omega)
  go_enter Tryz.func80, Tryz.ntmps80
  go_wp2_with (go_at_call 134; refine (zeros_any _).mono ?_; rintro e w1 ⟨rfl, hb1⟩)
  have HB1 := Lib.hid hb1
  have hz1 := hb1.size
  clear hb1
  go_loopw [15] (fun i wr => ∃ (k : Nat) (bv : Value), k ≤ n ∧ i = .int .i64 k ∧ Row1 wr w1.heap.size 222 [bv, .slice none 0 0, .int .i64 (-1), .bool false, .string zeroB] ∧ OwnL wr w.heap.size 9 1 encS bv (List.replicate k zeroB) ∧ Ext w wr) (fun i _ => n - (intOf i).toNat)
  case atStart => exact ⟨0, _, by omega, rfl, Row1.made w1 _ _, OwnL.nil _ _ _ _ _, by (repeat' (with_reducible first | exact HB1.out | exact Below.refl _ _ | refine Ext.drewN ?_ _ | refine Below.drew ?_ | refine Below.setCell ?_ ?_ _ | refine Below.alloc ?_ ?_ _)) <;> (first | omega | (simp; done) | (simp; omega))⟩
  case round =>
    obtain ⟨k, bv, hk, rfl, hr, ho, hx⟩ := hrel
    have HR := Lib.hid hr
    have HO := Lib.hid ho
    have HX := Lib.hid hx
    obtain ⟨A, c, rfl⟩ := ho.form
    have hz := hx.size
    have hgl := hr.lt
    have c0 : wr.cell? ⟨w1.heap.size, 0, none⟩ = _ := hr.cell 0
    have c4 : wr.cell? ⟨w1.heap.size, 4, none⟩ = _ := hr.cell 4
    have f0 : wr.frozen? ⟨w1.heap.size, 0, none⟩ = false := hr.soft 0
    generalize w1.heap.size = g at *
    clear hr ho hx
    by_cases hkl : k < n
    · have hkr : (List.replicate k zeroB).length = k := by simp
      rw [hkr] at c0 HO HR
      have hlg : (Value.slice A k c).ownBlock ≠ some g := HO.out.apartRow HR.out (by decide)
      have HRX : Hid (∀ W, Ext wr W → Row1 W g 222 [.slice A k c, .slice none 0 0, .int .i64 (-1), .bool false, .string zeroB]) := fun W h => HR.out.ext h HR.out.lt
      go_upto_region 6 with fail
      go_region_law (refine step_push2 elStr encS_len encS_one rfl (.tmp 21) (.tmp 26) rfl (.slice A k c) (List.replicate k zeroB) rfl (HO.out.ext (by (repeat' (with_reducible first | exact Below.refl _ _ | refine Ext.drewN ?_ _ | refine Below.drew ?_ | refine Below.setCell ?_ ?_ _ | refine Below.alloc ?_ ?_ _)) <;> (first | omega | (simp; done) | (simp; omega)))) (by simp; omega) _ 1 zeroB rfl (Row1.made' (by simp) _ (encS zeroB)) (by rw [hkr]; omega) (by decide) ?_; intro A' c' w2 hown2 hgr hwh; have HR2 := Row1.grown (HRX.out _ (by (repeat' (with_reducible first | exact Below.refl _ _ | refine Ext.drewN ?_ _ | refine Below.drew ?_ | refine Below.setCell ?_ ?_ _ | refine Below.alloc ?_ ?_ _)) <;> (first | omega | (simp; done) | (simp; omega)))) hgr (fun e => hlg e.symm); have g1 : w2.cell? ⟨g, 0, none⟩ = _ := HR2.cell 0; have f2 : w2.frozen? ⟨g, 0, none⟩ = false := HR2.soft 0)
      all_goals
        have hx2 : Ext w w2 := OwnL.grown (HO.out.ext (by (repeat' (with_reducible first | exact Below.refl _ _ | refine Ext.drewN ?_ _ | refine Below.drew ?_ | refine Below.setCell ?_ ?_ _ | refine Below.alloc ?_ ?_ _)) <;> (first | omega | (simp; done) | (simp; omega)))) (by (repeat' (with_reducible first | exact HX.out | exact Below.refl _ _ | refine Ext.drewN ?_ _ | refine Below.drew ?_ | refine Below.setCell ?_ ?_ _ | refine Below.alloc ?_ ?_ _)) <;> (first | omega | (simp; done) | (simp; omega))) hgr (Nat.le_refl _)
        have HX2 := Lib.hid hx2
        have HR3 := Lib.hid HR2
        rw [← List.replicate_succ'] at hown2
        have HO2 := Lib.hid hown2
        clear hx2 HR2 hown2
        rw [List.length_replicate] at HO2
        go_wp2_with fail
        go_roundw
        case rel => exact ⟨k + 1, _, by omega, by go_num, HR3.out.set 0 _, HO2.out.only (Only.setCell (F := fun i => i = g) (p := ⟨g, 0, none⟩) Only.refl (.inl rfl) _) (fun q hq e => HO2.out.apartRow HR3.out (by decide) (by rw [hq, e])), by (repeat' (with_reducible first | exact HX2.out | exact Below.refl _ _ | refine Ext.drewN ?_ _ | refine Below.drew ?_ | refine Below.setCell ?_ ?_ _ | refine Below.alloc ?_ ?_ _)) <;> (first | omega | (simp; done) | (simp; omega))⟩
        case measure => simp [intOf]; omega
    · obtain rfl : k = n := by omega
      go_wp2_with fail
      go_ret2
      refine ⟨g, fun i => i = g ∨ (Value.slice A (List.replicate k zeroB).length c).ownBlock = some i, rfl, ⟨_, _, HR.out, HO.out.lower (Nat.zero_le _), OwnL.nil _ _ _ _ _, .inl rfl, fun q hq => .inr hq, (fun q hq => by cases hq), ⟨?_, ?_, ?_, (fun q hq => by cases hq), ?_⟩⟩, HX.out, ?_⟩
      · simpa [newD] using h1
      · simpa [newD] using h2
      · intro b hb
        simp only [newD, List.mem_replicate] at hb
        rw [hb.2]; exact zeroB_size
      · simp [newD]
      · intro i hi
        rcases hi with hi | hi
        · rw [hi]; exact hz1
        · exact (HO.out.lt i hi).1
end Go.Proofs.YtojoefcfimmipaaGreat
namespace Go.Proofs.YtojoefcfimmipaaGreat
set_option linter.unusedSimpArgs false
set_option linter.unusedVariables false
open Go.RowKit
theorem DiskAt.shrink {w : World} {g : Nat} {F : Nat → Prop} {D : DiskD} (h : DiskAt w g F D) : DiskAt w g (fun i => F i ∧ i < w.heap.size) D := by
  obtain ⟨bv, lv, h⟩ := h
  exact ⟨bv, lv, ⟨h.row, h.blocks, h.late, ⟨h.fg, h.row.lt⟩, fun b hb => ⟨h.fb b hb, (h.blocks.lt b hb).2⟩, fun b hb => ⟨h.fl b hb, (h.late.lt b hb).2⟩, h.wf⟩⟩
theorem Keeps.shrink {F F' P : Nat → Prop} {w w' : World} (h : Keeps F F' w w') : Keeps F (fun i => F' i ∧ P i) w w' := ⟨h.only, fun i q => h.new i q.1⟩
theorem Keeps.widen {F F' G : Nat → Prop} {w w' : World} (h : Keeps G F' w w') (hG : ∀ i, G i → F i) : Keeps F F' w w' := ⟨h.only.mono (fun i q => .inl (hG i q)), fun i q => by
  rcases h.new i q with q | q
  · exact .inl (hG i q)
  · exact .inr q⟩
def headB (h : HeadD) : ByteArray := bts (headL h ++ notL (headL h))
theorem headB_size (h : HeadD) : (headB h).size = 40 := by unfold headB; rw [bts_size, List.length_append, notL_len, headL_len]
def putD (D : DiskD) (h : HeadD) : DiskD × Int := if (writeD D (h.seq % 2 : Nat) (headB h)).2 ≠ 0 then writeD D (h.seq % 2 : Nat) (headB h) else flushD (writeD D (h.seq % 2 : Nat) (headB h)).1
set_option maxRecDepth 100000 in
set_option maxHeartbeats 4000000 in
theorem put_any {g : Nat} {F : Nat → Prop} {D : DiskD} (h : HeadD) (w : World) (hd : DiskAt w g F D) (hh : HeadOk h) (hl : D.late.length + 1 ≤ 1000000000) :
    Calls Tryz.prog 138 #[.pointer (some ⟨g, 0, none⟩), .agg #[.int .u64 h.seq, .int .i64 h.used, .int .i64 h.room, .int .i64 h.pages]] w fun e w' => e = .returned (.int .i64 (putD D h).2) ∧ ∃ F', DiskAt w' g F' (putD D h).1 ∧ Keeps F F' w w' := by
  obtain ⟨D1, R, hR⟩ : ∃ D1 R, writeD D (h.seq % 2 : Nat) (headB h) = (D1, R) := ⟨_, _, rfl⟩
  have HP : Hid (putD D h = if R ≠ 0 then (D1, R) else flushD D1) := by unfold Hid putD; rw [hR]
  have HD := Lib.hid hd.shrink
  have cH : Hid (∀ W, Calls Tryz.prog 178 #[.agg #[.int .u64 h.seq, .int .i64 h.used, .int .i64 h.room, .int .i64 h.pages]] W fun e w' => e = .returned (.string (headB h)) ∧ Ext W w') := fun W => writeHead_any h W hh
  have cW : Hid (∀ W, Ext w W → Calls Tryz.prog 137 #[.pointer (some ⟨g, 0, none⟩), .int .i64 (h.seq % 2 : Nat), .string (headB h)] W fun e w' => e = .returned (.int .i64 R) ∧ ∃ F', DiskAt w' g F' D1 ∧ Keeps (fun i => F i ∧ i < w.heap.size) F' W w') := fun W hW => by
    have h1 := diskWrite_any ((h.seq % 2 : Nat) : Int) (headB h) W (HD.out.ext hW) hl
    rw [hR] at h1
    exact h1
  obtain ⟨PD, PR, hPD⟩ : ∃ PD PR, putD D h = (PD, PR) := ⟨_, _, rfl⟩
  rw [hPD] at HP ⊢
  obtain ⟨hb, hhb⟩ : ∃ hb, headB h = hb := ⟨_, rfl⟩
  rw [hhb] at cH cW
  obtain ⟨s1, s2, s3, s4⟩ := hh
  obtain ⟨sq, us, ro, pa⟩ := h
  dsimp only at *
  clear hR hPD hd hhb
  obtain ⟨m2, hm2⟩ : ∃ m2, sq % 2 = m2 := ⟨_, rfl⟩
  have u1 : (sq : Int).tmod 2 = (m2 : Int) := by rw [← hm2, Int.tmod_eq_emod_of_nonneg (by omega)]; omega
  have u2 : IntKind.i64.wrap (m2 : Int) = (m2 : Int) := by rw [IntKind.wrap_i64]; omega
  rw [hm2] at cW
  clear hm2
  obtain ⟨W0, hW0⟩ : ∃ W0, w.alloc (.cells #[.int .u64 sq, .int .i64 us, .int .i64 ro, .int .i64 pa] 227) = W0 := ⟨_, rfl⟩
  have HW0 : Hid (Ext w W0 ∧ Row1 W0 w.heap.size 227 [.int .u64 sq, .int .i64 us, .int .i64 ro, .int .i64 pa] ∧ W0.heap.size = w.heap.size + 1) := by
    subst hW0
    exact ⟨by (repeat' (with_reducible first | exact Below.refl _ _ | refine Ext.drewN ?_ _ | refine Below.drew ?_ | refine Below.setCell ?_ ?_ _ | refine Below.alloc ?_ ?_ _)) <;> (first | omega | (simp; done) | (simp; omega)), Row1.made _ _ _, by simp⟩
  have HKS : Hid (∀ W, Only (fun i => F i ∧ i < w.heap.size) W0 W → W.cell? ⟨w.heap.size, 0, none⟩ = some (.int .u64 sq) ∧ W.cell? ⟨w.heap.size, 1, none⟩ = some (.int .i64 us) ∧ W.cell? ⟨w.heap.size, 2, none⟩ = some (.int .i64 ro) ∧ W.cell? ⟨w.heap.size, 3, none⟩ = some (.int .i64 pa)) := fun W hW => by
    have hr := hW.row HW0.out.2.1 (fun q => by have := q.2; omega)
    exact ⟨hr.cell 0, hr.cell 1, hr.cell 2, hr.cell 3⟩
  go_enter Tryz.func138, Tryz.ntmps138
  go_upto_region 1 with fail
  clear hW0
  refine wp_region_held_drew (S := fun W => W.cell? ⟨w.heap.size, 0, none⟩ = some (.int .u64 sq) ∧ W.cell? ⟨w.heap.size, 1, none⟩ = some (.int .i64 us) ∧ W.cell? ⟨w.heap.size, 2, none⟩ = some (.int .i64 ro) ∧ W.cell? ⟨w.heap.size, 3, none⟩ = some (.int .i64 pa)) (by kernel_rfl) (HKS.out _ (Only.of (by (repeat' (with_reducible first | exact Below.refl _ _ | refine Ext.drewN ?_ _ | refine Below.drew ?_ | refine Below.setCell ?_ ?_ _ | refine Below.alloc ?_ ?_ _)) <;> (first | omega | (simp; done) | (simp; omega))))) (fun hHeld => ?_)
  refine' tk 0 ?_; (try simp only [Act.put, List.setIfInBounds_toArray, List.set_cons_zero, List.set_cons_succ])
  refine' tk 1 ?_; (try simp only [Act.put, List.setIfInBounds_toArray, List.set_cons_zero, List.set_cons_succ])
  refine' tk 2 ?_; (try simp only [Act.put, List.setIfInBounds_toArray, List.set_cons_zero, List.set_cons_succ])
  refine' tk 3 ?_; (try simp only [Act.put, List.setIfInBounds_toArray, List.set_cons_zero, List.set_cons_succ])
  refine' tk 4 ?_; (try simp only [Act.put, List.setIfInBounds_toArray, List.set_cons_zero, List.set_cons_succ])
  refine' tk 5 ?_; (try simp only [Act.put, List.setIfInBounds_toArray, List.set_cons_zero, List.set_cons_succ])
  refine stp 6 (fun K hK => ?_); go_simp
  refine (cH.out _).mono ?_
  rintro e w1 ⟨rfl, hb1⟩
  have HB1 : Hid (Ext W0 w1) := Ext.trans (by (repeat' (with_reducible first | exact Below.refl _ _ | refine Ext.drewN ?_ _ | refine Below.drew ?_ | refine Below.setCell ?_ ?_ _ | refine Below.alloc ?_ ?_ _)) <;> (first | omega | (simp; done) | (simp; omega))) hb1
  have HB : Hid (Only (fun i => F i ∧ i < w.heap.size) W0 w1) := Only.of HB1.out
  clear hb1
  (try dsimp only)
  (try go_simp)
  refine hK.out _ _ (HKS.out _ HB.out) (fun hHeld => ?_)
  clear hK K
  (try simp only [Act.put, List.setIfInBounds_toArray, List.set_cons_zero, List.set_cons_succ])
  refine stp 7 (fun K hK => ?_); go_simp
  refine (cW.out _ (Ext.trans HW0.out.1 HB1.out)).mono ?_
  rintro e w2 ⟨rfl, F2, hd2, hk2⟩
  have HB : Hid (Only (fun i => F i ∧ i < w.heap.size) W0 w2) := (Only.of HB1.out).trans' hk2.only
  have HK2 : Hid (Keeps (fun i => F i ∧ i < w.heap.size) F2 w w2) := Keeps.trans (Keeps.of (Ext.trans HW0.out.1 HB1.out)) hk2
  have HD2 := Lib.hid hd2
  clear hd2 hk2
  (try dsimp only)
  (try go_simp)
  refine hK.out _ _ (HKS.out _ HB.out) (fun hHeld => ?_)
  clear hK K
  (try simp only [Act.put, List.setIfInBounds_toArray, List.set_cons_zero, List.set_cons_succ])
  refine' tk 8 ?_; (try simp only [Act.put, List.setIfInBounds_toArray, List.set_cons_zero, List.set_cons_succ])
  refine wpAnyH_done (by kernel_rfl) ?_ _
  by_cases hR0 : R = 0
  · subst hR0
    rw [if_neg (by simp)] at HP
    have cF := diskFlush_any w2 HD2.out
    rw [← HP.out] at cF
    go_wp2_with (go_at_call 179; refine cF.mono ?_; clear cF; rintro e w3 ⟨rfl, hd3, hk3⟩)
    go_ret
    exact ⟨rfl, F2, hd3, Keeps.widen (Keeps.trans HK2.out ⟨hk3, fun _ q => .inl q⟩) (fun i q => q.1)⟩
  · have q1 : ¬ R = 0 := hR0
    rw [if_pos hR0] at HP
    have HP1 : PD = D1 ∧ PR = R := by have := HP.out; simpa using this
    obtain ⟨rfl, rfl⟩ := HP1
    have q2 : (PR != 0) = true := by simpa using hR0
    have q3 : decide (PR = 0) = false := decide_eq_false hR0
    go_wp2_with fail
    go_ret
    exact ⟨rfl, F2, HD2.out, Keeps.widen HK2.out (fun i q => q.1)⟩
end Go.Proofs.YtojoefcfimmipaaGreat
