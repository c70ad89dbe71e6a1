/- slices.Insert of one string at a place. Conditions: sizes. -/
/- slices.Insert of one int at a place. Conditions: sizes. -/
import Derived.Test.YtojoefcfimmipaaGreatQ13
namespace Go.Proofs.YtojoefcfimmipaaGreat
set_option linter.unusedSimpArgs false
set_option linter.unusedVariables false
open Go.RowKit
set_option maxRecDepth 100000 in
set_option maxHeartbeats 4000000 in
theorem insS_end {base : Nat} {v : Value} {l : List ByteArray} (x : ByteArray) (G n : Nat) (w : World) (h : OwnL w base 9 1 encS v l) (hn : l.length = n) (hG : Row1 w G 9 (encS x)) (hne : v.ownBlock ≠ some G) (hb : base ≤ w.heap.size) (hl : l.length ≤ 100000) :
    Calls Tryz.prog 165 #[v, .int .i64 n, .slice (some ⟨G, 0, none⟩) 1 1] w fun e w' => ∃ v', e = .returned v' ∧ OwnL w' base 9 1 encS v' (l ++ [x]) ∧ (∀ k, v'.ownBlock = some k → v.ownBlock = some k ∨ w.heap.size ≤ k) ∧ Only (fun j => v.ownBlock = some j) w w' := by
  obtain ⟨A, c, rfl, hc1, hc2, _⟩ := own_form (show w.ownsRow base 9 1 v l.length (l.flatMap encS) from h)
  have HH : Hid (OwnL w base 9 1 encS (.slice A n c) l) := by rw [← hn]; exact h
  have HG := Lib.hid hG
  have HL : Hid (l.length ≤ 100000) := hl
  have HN := Lib.hid hn
  rw [hn] at hc1 ⊢
  have h1 : (0 : Int) ≤ n := by omega
  have h2 : (n : Int) ≤ c := by omega
  clear h hG hn hl
  by_cases hcn : c = n
  · subst hcn
    go_enter Tryz.func165, Tryz.ntmps165
    go_wp2_with (at_builtin; refine wpList_push2 elStr encS_len encS_one rfl (.tmp 23) (.tmp 24) rfl (.slice A c c) l rfl HH.out hb G 1 x rfl HG.out (by have := HL.out; omega) (by decide) ?_; intro A' c' w2 hown2 hgr hwh)
    go_ret
    rw [List.length_append, List.length_singleton] at hown2 hwh
    exact ⟨_, rfl, hown2, hwh, Only.grown hgr⟩
  · have h3 : ¬ c = n := hcn
    go_enter Tryz.func165, Tryz.ntmps165
    go_wp2_with (at_builtin; refine wpList_push2 elStr encS_len encS_one rfl (.tmp 23) (.tmp 24) rfl (.slice A n c) l rfl HH.out hb G 1 x rfl HG.out (by have := HL.out; omega) (by decide) ?_; intro A' c' w2 hown2 hgr hwh)
    go_ret
    rw [List.length_append, List.length_singleton] at hown2 hwh
    exact ⟨_, rfl, hown2, hwh, Only.grown hgr⟩
set_option maxRecDepth 100000 in
set_option maxHeartbeats 4000000 in
theorem insS_room {base : Nat} {b cap G : Nat} {l : List ByteArray} {spare : List Value} (x : ByteArray) (i : Nat) (w : World) (hr : Row1 w b 9 (l.flatMap encS ++ spare)) (hbb : base ≤ b) (hi : i < l.length) (hroom : l.length + 1 ≤ cap) (hcap : cap ≤ 9223372036854775807) (htot : (l.flatMap encS ++ spare).length = cap * 1)
    (hG : Row1 w G 9 (encS x)) (hne : G ≠ b) :
    Calls Tryz.prog 165 #[.slice (some ⟨b, 0, none⟩) l.length cap, .int .i64 i, .slice (some ⟨G, 0, none⟩) 1 1] w fun e w' => ∃ v', e = .returned v' ∧ OwnL w' base 9 1 encS v' (insL l i x) ∧ v'.ownBlock = some b ∧ Only (fun j => j = b) w w' := by
  have hfl := flat1_len encS_len l
  have hsp : 1 ≤ spare.length := by rw [List.length_append, hfl] at htot; omega
  have HROW := Lib.hid (ins_rowR (l.flatMap encS) spare (encS x) i (by rw [hfl]; omega) hsp (encS_len x))
  have hsa : w.shape? G = some (9, 1) := by unfold World.shape?; rw [show w.heap[G]? = _ from hG]; rfl
  have hsb : w.shape? b = some (9, cap) := by unfold World.shape?; rw [show w.heap[b]? = _ from hr]; show some (_, _) = _; rw [List.size_toArray, htot, Nat.mul_one]
  have hov : ∀ lb cb, (callFunc 206 #[.slice (some ⟨G, 0, none⟩) 1 1, .slice (some ⟨b, i + 1, none⟩) lb cb]).run Tryz.prog w = .ok (.value (.bool false)) w := fun lb cb => by
    rw [run_callFunc_extern Tryz.func206 (by kernel_rfl) (by kernel_rfl) (by kernel_rfl) (e := Extern.SlicesOverlaps.overlaps #[184, 184] #[4]) (by kernel_rfl),
      Lib.run_overlaps_apart w 184 4 9 Tryz.underlying184 1 (fun w => by kernel_rfl) ⟨G, 0, none⟩ ⟨b, i + 1, none⟩ 1 1 lb cb hne _ _ 1 cap hsa hsb (by omega) (hG.soft 0) (hG.soft 1)]
    rfl
  obtain ⟨n, hnn⟩ : ∃ n, l.length = n := ⟨_, rfl⟩
  have HR := Lib.hid hr
  have HG := Lib.hid hG
  have HN := Lib.hid hnn
  have HFL : Hid ((l.flatMap encS).length = n) := by unfold Hid; rw [hfl, hnn]
  have HTOT := Lib.hid htot
  rw [hnn] at hi hroom ⊢
  have hw1 : ¬ ((i : Int) = (n : Int)) := by omega
  have hw2 : ¬ (cap : Int) < (n : Int) + 1 := by omega
  have hw3 : (n : Int) + 1 ≤ cap := by omega
  have hw5 : ((n : Int) + 1).toNat = n + 1 := by omega
  have hw6 : (0 : Int) ≤ (n : Int) + 1 := by omega
  have hw8 : ¬ cap = i := by omega
  have hw8' : ¬ cap = i + 1 := by omega
  have hw9 : IntKind.i64.wrap ((i : Int) + 1) = i + 1 := by rw [IntKind.wrap_i64]; omega
  have hw10 : (0 : Int) ≤ n := by omega
  have hw11 : (0 : Int) ≤ i := by omega
  have hw12 : (i : Int) ≤ n := by omega
  have hw13 : (i : Int) + 1 ≤ n + 1 := by omega
  have hw14 : ((i : Int) + 1).toNat = i + 1 := by omega
  have hw15 : (0 : Int) ≤ (i : Int) + 1 := by omega
  have hw16 : (i : Int) ≤ n + 1 := by omega
  have HMI : Hid (n - i = Nat.min (n + 1 - i) (n - i)) := by unfold Hid; show n - i = min (n + 1 - i) (n - i); omega
  have HDL : Hid (((l.flatMap encS).drop i).length = (n - i) * 1) := by unfold Hid; rw [List.length_drop, HFL.out]; omega
  have HFIT : Hid (i + 1 + ((l.flatMap encS).drop i).length ≤ (l.flatMap encS ++ spare).length) := by unfold Hid; rw [List.length_append, HDL.out, HFL.out]; omega
  have HFIN : Hid (∀ w', Row1 w' b 9 ((l.flatMap encS).take i ++ encS x ++ (l.flatMap encS).drop i ++ spare.drop 1) → OwnL w' base 9 1 encS (.slice (some ⟨b, 0, none⟩) (n + 1) cap) (insL l i x)) := fun w' h1 => by
    rw [← insL_flat encS_len] at h1
    have h2 := OwnL.ofRow (k := 1) (base := base) h1 hbb (cap := cap) (by rw [insL_len, HN.out]; exact hroom) hcap (by
      have h3 := HTOT.out
      rw [List.length_append] at h3
      rw [List.length_append, flat1_len encS_len, insL_len, List.length_drop]
      have := HFL.out
      have := HN.out
      omega) encS_len
    rwa [insL_len, HN.out] at h2
  have hbw := hr.lt
  have HRX : Hid (∀ W, Ext w W → Row1 W b 9 (l.flatMap encS ++ spare)) := fun W hW => HR.out.ext hW hbw
  have HSRC : Hid (∀ W, Ext w W → ∀ j v, ((l.flatMap encS).drop i)[j]? = some v → W.cell? ((⟨b, i, none⟩ : Addr).add j) = some v) := fun W hW j v hj => by
    rw [List.getElem?_drop] at hj
    rw [Addr.add_lit, (HRX.out W hW).cell, List.getElem?_append_left (List.getElem?_eq_some_iff.1 hj).1, hj]
  have HM1 : Hid (1 = Nat.min 1 (n + 1 - i)) := by unfold Hid; show 1 = min 1 (n + 1 - i); omega
  have HFIT2 : Hid (i + (encS x).length ≤ ((l.flatMap encS ++ spare).take (i + 1) ++ (l.flatMap encS).drop i ++ (l.flatMap encS ++ spare).drop (i + 1 + ((l.flatMap encS).drop i).length)).length) := by
    unfold Hid
    simp only [List.length_append, List.length_take, List.length_drop, encS_len, HFL.out]
    omega
  clear hr hG htot hfl hnn hsa hsb
  go_enter Tryz.func165, Tryz.ntmps165
  go_upto_region 15 with (simp only [hov])
  go_region_law (refine step_of rfl (wp_copyK (.tmp 73) (.tmp 76) 184 184 rfl 9 1 Tryz.underlying184 sizeStr b (i + 1) (n - i) (cap - (i + 1)) ⟨b, i, none⟩ (n + 1 - i) (cap - i) (by simp [Act.eval, Act.put]) (by simp [Act.eval, Act.put]) (l.flatMap encS ++ spare) 9 (HRX.out _ (by (repeat' (with_reducible first | exact Below.refl _ _ | refine Ext.drewN ?_ _ | refine Below.drew ?_ | refine Below.setCell ?_ ?_ _ | refine Below.alloc ?_ ?_ _)) <;> (first | omega | (simp; done) | (simp; omega)))) ((l.flatMap encS).drop i) (n - i) HMI.out HDL.out (HSRC.out _ (by (repeat' (with_reducible first | exact Below.refl _ _ | refine Ext.drewN ?_ _ | refine Below.drew ?_ | refine Below.setCell ?_ ?_ _ | refine Below.alloc ?_ ?_ _)) <;> (first | omega | (simp; done) | (simp; omega)))) HFIT.out (fun v hv => flat1_one encS_one l v (List.mem_of_mem_drop hv)) ?_); intro w2 hr2 hb2)
  all_goals
    have HG2 : Hid (Row1 w2 G 9 (encS x)) := Row1.same HG.out (hb2.block G HG.out.lt (fun e => hne (by injection e)))
    have HR2 := Lib.hid hr2
    have HO2 : Hid (Only (fun j => j = b) w w2) := Only.turn (Only.of (by (repeat' (with_reducible first | exact Below.refl _ _ | refine Ext.drewN ?_ _ | refine Below.drew ?_ | refine Below.setCell ?_ ?_ _ | refine Below.alloc ?_ ?_ _)) <;> (first | omega | (simp; done) | (simp; omega)))) hb2 (.inl rfl)
    clear hr2 hb2 hov
    go_wp2_with (with_reducible show wpList _ _ _ (({ dst := _, op := Op.call { callee := Callee.builtin Builtin.copy, args := _, argTypes := _ }, type := _, pos := _, after := _, guard := _ } : Oper) :: _) _ _; go_loud (refine wpList_copyK rfl (.tmp 80) (.tmp 81) 184 184 rfl 9 1 Tryz.underlying184 sizeStr b i (n + 1 - i) (cap - i) ⟨G, 0, none⟩ 1 1 (by simp [Act.eval, Act.put]) (by simp [Act.eval, Act.put]) _ 9 HR2.out (encS x) 1 HM1.out rfl (src_row HG2.out) HFIT2.out (encS_one x) ?_; intro w3 hr3 hb3))
    rw [HROW.out] at hr3
    have HW := Lib.hid (HFIN.out w3 hr3)
    have HO3 : Hid (Only (fun j => j = b) w w3) := Only.turn HO2.out hb3 (.inl rfl)
    clear hr3 hb3
    go_wp2_with fail
    go_ret
    exact ⟨_, rfl, HW.out, rfl, HO3.out⟩
theorem insS_zeros (w : World) (b n i : Nat) (cs : List Value) (hcs : cs.length = i) (hsrc : ∀ j v, cs[j]? = some v → w.cell? ((⟨b, 0, none⟩ : Addr).add j) = some v) (hi : i < n) (hb : n ≤ 1000000) : ∃ (Gc : Nat) (w1 : World) (zs : List Value), Hid (∀ ty, (Builtin.append_ #[184, 3] ty #[.slice (some ⟨b, 0, none⟩) i n, .int .i64 ((n : Int) + 1 - i)]).run Tryz.prog w = .ok (.slice (some ⟨w.heap.size, 0, none⟩) (n + 1) Gc) w1) ∧
    Row1 w1 w.heap.size 9 (cs ++ zs) ∧ (cs ++ zs).length = Gc * 1 ∧ n + 1 ≤ Gc ∧ Gc ≤ 9223372036854775807 ∧ Ext w w1 := by
  obtain ⟨i0, z, hi0, hz, hsize, hby, hzs⟩ := elStr.hi
  have hold : (Builtin.firstCells i0.size i (.slice (some ⟨b, 0, none⟩) i n)).run Tryz.prog w.drew = .ok cs.toArray w.drew := run_firstCells_some (P := Tryz.prog) w.drew i0.size i ⟨b, 0, none⟩ i n cs (by rw [hsize, hcs]; omega) hsrc
  have e0 : i + (n + 1 - i) = n + 1 := by omega
  have h := fun ty => Lib.run_append_grow_zeros (P := Tryz.prog) w 184 3 ty 9 i0 z .i64 .i64 Tryz.underlying184 Tryz.underlying3 hi0 hz (some ⟨b, 0, none⟩) i n cs hold (n + 1 - i) (by omega) (by rw [hsize]; omega) (by omega) (by omega) (by rw [hby]; omega) (growslice_fits (by omega) (by rw [hby]; omega))
  have e : ((n + 1 - i : Nat) : Int) = (n : Int) + 1 - i := by omega
  have hg := grownCap_ge w (i + (n + 1 - i)) n 9
  have hm := grownCap_le_maxLen w (i + (n + 1 - i)) n 9 (by unfold maxLen; omega)
  obtain ⟨Gc, hG⟩ : ∃ Gc, grownCap w (i + (n + 1 - i)) n 9 = Gc := ⟨_, rfl⟩
  rw [hG] at h hg hm
  obtain ⟨R, hR⟩ : ∃ R : Array Value, Builtin.zeroCells z.cells (n + 1 - i) ++ Builtin.zeroCells z.cells (Gc - (i + (n + 1 - i))) = R := ⟨_, rfl⟩
  have hRs : R.size = (Gc - i) * 1 := by
    rw [← hR]
    simp [size_zeroCells, hzs]
    omega
  simp only [Array.append_assoc, hR] at h
  refine ⟨Gc, _, R.toList, fun ty => ?_, Row1.made w.drew 9 (cs ++ R.toList), by rw [List.length_append, hcs, Array.length_toList, hRs]; omega, by omega, by simpa [maxLen] using hm, Below.alloc (Below.drew (Ext.refl w)) (Nat.le_refl _) _⟩
  have h2 := h ty
  have e3 : cs.toArray ++ R = (cs ++ R.toList).toArray := by apply Array.ext'; simp
  rw [e, e0, e3] at h2
  rw [h2]
set_option maxRecDepth 100000 in
set_option maxHeartbeats 4000000 in
theorem insS_grow {base : Nat} {b cap G : Nat} {l : List ByteArray} {spare : List Value} (x : ByteArray) (i : Nat) (w : World) (hr : Row1 w b 9 (l.flatMap encS ++ spare)) (hi : i < l.length) (hfull : l.length = cap) (hlim : l.length ≤ 100000) (hbw : base ≤ w.heap.size)
    (hG : Row1 w G 9 (encS x)) :
    Calls Tryz.prog 165 #[.slice (some ⟨b, 0, none⟩) l.length cap, .int .i64 i, .slice (some ⟨G, 0, none⟩) 1 1] w fun e w' => ∃ v', e = .returned v' ∧ OwnL w' base 9 1 encS v' (insL l i x) ∧ v'.ownBlock = some w.heap.size ∧ Ext w w' := by
  subst hfull
  have hfl := flat1_len encS_len l
  have hct : ((l.flatMap encS).take i).length = i := by rw [List.length_take, hfl]; omega
  obtain ⟨Gc, w1, zs, hz, hzr, hzl, hg1, hg2, hx1⟩ := insS_zeros w b l.length i ((l.flatMap encS).take i) hct (fun j v hj => by
    have hj2 := (List.getElem?_eq_some_iff.1 hj).1
    rw [List.getElem?_take, if_pos (by omega)] at hj
    rw [Addr.add_lit, Nat.zero_add, hr.cell, List.getElem?_append_left (by rw [hfl]; omega), hj]) hi (by omega)
  obtain ⟨n, hnn⟩ : ∃ n, l.length = n := ⟨_, rfl⟩
  have hzs := hx1.size
  have HR1 : Hid (Row1 w1 b 9 (l.flatMap encS ++ spare)) := hr.ext hx1 hr.lt
  have HG1 : Hid (Row1 w1 G 9 (encS x)) := hG.ext hx1 hG.lt
  have hbl := hr.lt
  have hGl := hG.lt
  have HX1 := Lib.hid hx1
  have HN := Lib.hid hnn
  have HFL : Hid ((l.flatMap encS).length = n) := by unfold Hid; rw [hfl, hnn]
  have HROW := Lib.hid (ins_rowG (l.flatMap encS) zs (encS x) i (by rw [hfl]; omega) (by rw [hzl, hfl]; omega) (encS_len x))
  rw [hnn] at hi hlim hz hg1 ⊢
  obtain ⟨N, hN⟩ : ∃ N, w.heap.size = N := ⟨_, rfl⟩
  rw [hN] at hz hzr hbl hGl ⊢
  have HZR := Lib.hid hzr
  have HZL := Lib.hid hzl
  have hbN : b ≠ N := by omega
  have hGN : G ≠ N := by omega
  have hw1 : ¬ ((i : Int) = (n : Int)) := by omega
  have hw2 : (n : Int) < (n : Int) + 1 := by omega
  have hw4 : ¬ Gc = i := by omega
  have hw4' : ¬ Gc = i + 1 := by omega
  have hw5 : ((n : Int) + 1).toNat = n + 1 := by omega
  have hw6 : (0 : Int) ≤ (n : Int) + 1 := by omega
  have hw8 : ¬ n = i := by omega
  have hw9 : IntKind.i64.wrap ((i : Int) + 1) = i + 1 := by rw [IntKind.wrap_i64]; omega
  have hw10 : (0 : Int) ≤ n := by omega
  have hw11 : (0 : Int) ≤ i := by omega
  have hw12 : (i : Int) ≤ n := by omega
  have hw13 : (i : Int) + 1 ≤ n + 1 := by omega
  have hw14 : ((i : Int) + 1).toNat = i + 1 := by omega
  have hw15 : (0 : Int) ≤ (i : Int) + 1 := by omega
  have hw16 : (i : Int) ≤ n + 1 := by omega
  have HMI : Hid (n - i = Nat.min (n - i) (n - i)) := by unfold Hid; show n - i = min (n - i) (n - i); omega
  have HM1 : Hid (1 = Nat.min 1 (n + 1 - i)) := by unfold Hid; show 1 = min 1 (n + 1 - i); omega
  have HDL : Hid (((l.flatMap encS).drop i).length = (n - i) * 1) := by unfold Hid; rw [List.length_drop, HFL.out]; omega
  have HF1 : Hid (i + (encS x).length ≤ ((l.flatMap encS).take i ++ zs).length) := by unfold Hid; rw [encS_len, HZL.out]; omega
  have HF2 : Hid (i + 1 + ((l.flatMap encS).drop i).length ≤ (((l.flatMap encS).take i ++ zs).take i ++ encS x ++ ((l.flatMap encS).take i ++ zs).drop (i + (encS x).length)).length) := by
    unfold Hid
    have h3 := HZL.out
    simp only [List.length_append, List.length_take, List.length_drop, encS_len, HFL.out] at h3 ⊢
    omega
  have HFIN : Hid (∀ w', Row1 w' N 9 ((l.flatMap encS).take i ++ encS x ++ (l.flatMap encS).drop i ++ zs.drop ((l.flatMap encS).length + 1 - i)) → OwnL w' base 9 1 encS (.slice (some ⟨N, 0, none⟩) (n + 1) Gc) (insL l i x)) := fun w' h1 => by
    rw [← insL_flat encS_len] at h1
    have h2 := OwnL.ofRow (k := 1) (base := base) h1 (by omega) (cap := Gc) (by rw [insL_len, HN.out]; exact hg1) hg2 (by
      have h3 := HZL.out
      rw [List.length_append, hct] at h3
      rw [List.length_append, flat1_len encS_len, insL_len, List.length_drop, hfl]
      have := HN.out
      omega) encS_len
    rwa [insL_len, HN.out] at h2
  have HSRC : Hid (∀ W, Row1 W b 9 (l.flatMap encS ++ spare) → ∀ j v, ((l.flatMap encS).drop i)[j]? = some v → W.cell? ((⟨b, i, none⟩ : Addr).add j) = some v) := fun W hW j v hj => by
    rw [List.getElem?_drop] at hj
    rw [Addr.add_lit, hW.cell, List.getElem?_append_left (List.getElem?_eq_some_iff.1 hj).1, hj]
  clear hr hG hfl hnn hzr hx1 hzl hct
  go_enter Tryz.func165, Tryz.ntmps165
  go_upto_region 11 with (first
    | (at_builtin; go_loud (refine wpList_append_eq rfl (.tmp 34) (.tmp 39) 184 3 rfl (.slice (some ⟨b, 0, none⟩) i n) (.int .i64 ((n : Int) + 1 - i)) (by simp [Act.eval, Act.put]) (by simp [Act.eval, Act.put]) (hz.out _) ?_))
    | (with_reducible show wpList _ _ _ (({ dst := _, op := Op.call { callee := Callee.builtin Builtin.copy, args := _, argTypes := _ }, type := _, pos := _, after := _, guard := _ } : Oper) :: _) _ _; go_loud (refine wpList_copyK rfl (.tmp 43) (.tmp 44) 184 184 rfl 9 1 Tryz.underlying184 sizeStr N i (n + 1 - i) (Gc - i) ⟨G, 0, none⟩ 1 1 (by simp [Act.eval, Act.put]) (by simp [Act.eval, Act.put]) _ 9 HZR.out (encS x) 1 HM1.out rfl (src_row HG1.out) HF1.out (encS_one x) ?_; intro w2 hr2 hb2)))
  have HR2 := Lib.hid hr2
  have HRb : Hid (Row1 w2 b 9 (l.flatMap encS ++ spare)) := HR1.out.same (hb2.block b HR1.out.lt (fun e => hbN (by injection e)))
  have HX2 : Hid (Ext w w2) := (But.trans (But.of HX1.out) hb2).fresh (by omega)
  have hsz2 := HX2.out.size
  have hb2w := HRb.out.lt
  have hN2w := HR2.out.lt
  have HRbX : Hid (∀ W, Ext w2 W → Row1 W b 9 (l.flatMap encS ++ spare)) := fun W hW => HRb.out.ext hW HRb.out.lt
  have HRNX : Hid (∀ W, Ext w2 W → Row1 W N 9 (((l.flatMap encS).take i ++ zs).take i ++ encS x ++ ((l.flatMap encS).take i ++ zs).drop (i + (encS x).length))) := fun W hW => HR2.out.ext hW HR2.out.lt
  clear hr2 hb2
  go_region_law (refine step_of rfl (wp_copyK (.tmp 50) (.tmp 53) 184 184 rfl 9 1 Tryz.underlying184 sizeStr N (i + 1) (n - i) (Gc - (i + 1)) ⟨b, i, none⟩ (n - i) (n - i) (by simp [Act.eval, Act.put]) (by simp [Act.eval, Act.put]) _ 9 (HRNX.out _ (by (repeat' (with_reducible first | exact Below.refl _ _ | refine Ext.drewN ?_ _ | refine Below.drew ?_ | refine Below.setCell ?_ ?_ _ | refine Below.alloc ?_ ?_ _)) <;> (first | omega | (simp; done) | (simp; omega)))) ((l.flatMap encS).drop i) (n - i) HMI.out HDL.out (HSRC.out _ (HRbX.out _ (by (repeat' (with_reducible first | exact Below.refl _ _ | refine Ext.drewN ?_ _ | refine Below.drew ?_ | refine Below.setCell ?_ ?_ _ | refine Below.alloc ?_ ?_ _)) <;> (first | omega | (simp; done) | (simp; omega))))) HF2.out (fun v hv => flat1_one encS_one l v (List.mem_of_mem_drop hv)) ?_); intro w3 hr3 hb3)
  all_goals
    rw [HROW.out] at hr3
    have HW := Lib.hid (HFIN.out w3 hr3)
    have HX3 : Hid (Ext w w3) := (But.trans (But.of (Ext.trans HX2.out (by (repeat' (with_reducible first | exact Below.refl _ _ | refine Ext.drewN ?_ _ | refine Below.drew ?_ | refine Below.setCell ?_ ?_ _ | refine Below.alloc ?_ ?_ _)) <;> (first | omega | (simp; done) | (simp; omega))))) hb3).fresh (by omega)
    clear hr3 hb3
    go_wp2_with fail
    go_ret
    exact ⟨_, rfl, HW.out, rfl, HX3.out⟩
/-- one more at a place: all cases -/
theorem insS_any {v : Value} {l : List ByteArray} (x : ByteArray) (G i : Nat) (w : World) (h : OwnL w 0 9 1 encS v l) (hi : i ≤ l.length) (hG : Row1 w G 9 (encS x)) (hne : v.ownBlock ≠ some G) (hl : l.length ≤ 100000) :
    Calls Tryz.prog 165 #[v, .int .i64 i, .slice (some ⟨G, 0, none⟩) 1 1] w fun e w' => ∃ v', e = .returned v' ∧ OwnL w' 0 9 1 encS v' (insL l i x) ∧ (∀ k, v'.ownBlock = some k → v.ownBlock = some k ∨ w.heap.size ≤ k) ∧ Only (fun j => v.ownBlock = some j) w w' := by
  by_cases h0 : i = l.length
  · refine (insS_end x G i w h h0.symm hG hne (Nat.zero_le _) hl).mono ?_
    rintro e w' ⟨v', h1, h2, h3, h4⟩
    refine ⟨v', h1, ?_, h3, h4⟩
    unfold insL
    rw [h0, List.take_length, List.drop_length]
    exact h2
  · obtain ⟨b, cap, spare, rfl, hb0, hr, hc1, hc2, hs, hfl⟩ := h.row (by omega)
    by_cases hroom : l.length + 1 ≤ cap
    · refine (insS_room (base := 0) x i w hr (Nat.zero_le _) (by omega) hroom hc2 hs hG (fun e => hne (by rw [e]; rfl))).mono ?_
      rintro e w' ⟨v', h1, h2, h3, h4⟩
      exact ⟨v', h1, h2, fun k hk => .inl (by rw [← hk, h3]; rfl), h4.mono (fun i q => .inl (by rw [q]; rfl))⟩
    · refine (insS_grow (base := 0) x i w hr (by omega) (by omega) hl (Nat.zero_le _) hG).mono ?_
      rintro e w' ⟨v', h1, h2, h3, h4⟩
      exact ⟨v', h1, h2, fun k hk => .inr (by rw [h3] at hk; injection hk with hk; omega), Only.of h4⟩
end Go.Proofs.YtojoefcfimmipaaGreat
namespace Go.Proofs.YtojoefcfimmipaaGreat
set_option linter.unusedSimpArgs false
set_option linter.unusedVariables false
open Go.RowKit
set_option maxRecDepth 100000 in
set_option maxHeartbeats 4000000 in
theorem insN_end {base : Nat} {v : Value} {l : List Int} (x : Int) (G n : Nat) (w : World) (h : OwnL w base 3 1 encN v l) (hn : l.length = n) (hG : Row1 w G 3 (encN x)) (hne : v.ownBlock ≠ some G) (hb : base ≤ w.heap.size) (hl : l.length ≤ 100000) :
    Calls Tryz.prog 167 #[v, .int .i64 n, .slice (some ⟨G, 0, none⟩) 1 1] w fun e w' => ∃ v', e = .returned v' ∧ OwnL w' base 3 1 encN v' (l ++ [x]) ∧ (∀ k, v'.ownBlock = some k → v.ownBlock = some k ∨ w.heap.size ≤ k) ∧ Only (fun j => v.ownBlock = some j) w w' := by
  obtain ⟨A, c, rfl, hc1, hc2, _⟩ := own_form (show w.ownsRow base 3 1 v l.length (l.flatMap encN) from h)
  have HH : Hid (OwnL w base 3 1 encN (.slice A n c) l) := by rw [← hn]; exact h
  have HG := Lib.hid hG
  have HL : Hid (l.length ≤ 100000) := hl
  have HN := Lib.hid hn
  rw [hn] at hc1 ⊢
  have h1 : (0 : Int) ≤ n := by omega
  have h2 : (n : Int) ≤ c := by omega
  clear h hG hn hl
  by_cases hcn : c = n
  · subst hcn
    go_enter Tryz.func167, Tryz.ntmps167
    go_wp2_with (at_builtin; refine wpList_push2 elInt encN_len encN_one rfl (.tmp 23) (.tmp 24) rfl (.slice A c c) l rfl HH.out hb G 1 x rfl HG.out (by have := HL.out; omega) (by decide) ?_; intro A' c' w2 hown2 hgr hwh)
    go_ret
    rw [List.length_append, List.length_singleton] at hown2 hwh
    exact ⟨_, rfl, hown2, hwh, Only.grown hgr⟩
  · have h3 : ¬ c = n := hcn
    go_enter Tryz.func167, Tryz.ntmps167
    go_wp2_with (at_builtin; refine wpList_push2 elInt encN_len encN_one rfl (.tmp 23) (.tmp 24) rfl (.slice A n c) l rfl HH.out hb G 1 x rfl HG.out (by have := HL.out; omega) (by decide) ?_; intro A' c' w2 hown2 hgr hwh)
    go_ret
    rw [List.length_append, List.length_singleton] at hown2 hwh
    exact ⟨_, rfl, hown2, hwh, Only.grown hgr⟩
set_option maxRecDepth 100000 in
set_option maxHeartbeats 4000000 in
theorem insN_room {base : Nat} {b cap G : Nat} {l : List Int} {spare : List Value} (x : Int) (i : Nat) (w : World) (hr : Row1 w b 3 (l.flatMap encN ++ spare)) (hbb : base ≤ b) (hi : i < l.length) (hroom : l.length + 1 ≤ cap) (hcap : cap ≤ 9223372036854775807) (htot : (l.flatMap encN ++ spare).length = cap * 1)
    (hG : Row1 w G 3 (encN x)) (hne : G ≠ b) :
    Calls Tryz.prog 167 #[.slice (some ⟨b, 0, none⟩) l.length cap, .int .i64 i, .slice (some ⟨G, 0, none⟩) 1 1] w fun e w' => ∃ v', e = .returned v' ∧ OwnL w' base 3 1 encN v' (insL l i x) ∧ v'.ownBlock = some b ∧ Only (fun j => j = b) w w' := by
  have hfl := flat1_len encN_len l
  have hsp : 1 ≤ spare.length := by rw [List.length_append, hfl] at htot; omega
  have HROW := Lib.hid (ins_rowR (l.flatMap encN) spare (encN x) i (by rw [hfl]; omega) hsp (encN_len x))
  have hsa : w.shape? G = some (3, 1) := by unfold World.shape?; rw [show w.heap[G]? = _ from hG]; rfl
  have hsb : w.shape? b = some (3, cap) := by unfold World.shape?; rw [show w.heap[b]? = _ from hr]; show some (_, _) = _; rw [List.size_toArray, htot, Nat.mul_one]
  have hov : ∀ lb cb, (callFunc 209 #[.slice (some ⟨G, 0, none⟩) 1 1, .slice (some ⟨b, i + 1, none⟩) lb cb]).run Tryz.prog w = .ok (.value (.bool false)) w := fun lb cb => by
    rw [run_callFunc_extern Tryz.func209 (by kernel_rfl) (by kernel_rfl) (by kernel_rfl) (e := Extern.SlicesOverlaps.overlaps #[54, 54] #[4]) (by kernel_rfl),
      Lib.run_overlaps_apart w 54 4 3 Tryz.underlying54 1 (fun w => by kernel_rfl) ⟨G, 0, none⟩ ⟨b, i + 1, none⟩ 1 1 lb cb hne _ _ 1 cap hsa hsb (by omega) (hG.soft 0) (hG.soft 1)]
    rfl
  obtain ⟨n, hnn⟩ : ∃ n, l.length = n := ⟨_, rfl⟩
  have HR := Lib.hid hr
  have HG := Lib.hid hG
  have HN := Lib.hid hnn
  have HFL : Hid ((l.flatMap encN).length = n) := by unfold Hid; rw [hfl, hnn]
  have HTOT := Lib.hid htot
  rw [hnn] at hi hroom ⊢
  have hw1 : ¬ ((i : Int) = (n : Int)) := by omega
  have hw2 : ¬ (cap : Int) < (n : Int) + 1 := by omega
  have hw3 : (n : Int) + 1 ≤ cap := by omega
  have hw5 : ((n : Int) + 1).toNat = n + 1 := by omega
  have hw6 : (0 : Int) ≤ (n : Int) + 1 := by omega
  have hw8 : ¬ cap = i := by omega
  have hw8' : ¬ cap = i + 1 := by omega
  have hw9 : IntKind.i64.wrap ((i : Int) + 1) = i + 1 := by rw [IntKind.wrap_i64]; omega
  have hw10 : (0 : Int) ≤ n := by omega
  have hw11 : (0 : Int) ≤ i := by omega
  have hw12 : (i : Int) ≤ n := by omega
  have hw13 : (i : Int) + 1 ≤ n + 1 := by omega
  have hw14 : ((i : Int) + 1).toNat = i + 1 := by omega
  have hw15 : (0 : Int) ≤ (i : Int) + 1 := by omega
  have hw16 : (i : Int) ≤ n + 1 := by omega
  have HMI : Hid (n - i = Nat.min (n + 1 - i) (n - i)) := by unfold Hid; show n - i = min (n + 1 - i) (n - i); omega
  have HDL : Hid (((l.flatMap encN).drop i).length = (n - i) * 1) := by unfold Hid; rw [List.length_drop, HFL.out]; omega
  have HFIT : Hid (i + 1 + ((l.flatMap encN).drop i).length ≤ (l.flatMap encN ++ spare).length) := by unfold Hid; rw [List.length_append, HDL.out, HFL.out]; omega
  have HFIN : Hid (∀ w', Row1 w' b 3 ((l.flatMap encN).take i ++ encN x ++ (l.flatMap encN).drop i ++ spare.drop 1) → OwnL w' base 3 1 encN (.slice (some ⟨b, 0, none⟩) (n + 1) cap) (insL l i x)) := fun w' h1 => by
    rw [← insL_flat encN_len] at h1
    have h2 := OwnL.ofRow (k := 1) (base := base) h1 hbb (cap := cap) (by rw [insL_len, HN.out]; exact hroom) hcap (by
      have h3 := HTOT.out
      rw [List.length_append] at h3
      rw [List.length_append, flat1_len encN_len, insL_len, List.length_drop]
      have := HFL.out
      have := HN.out
      omega) encN_len
    rwa [insL_len, HN.out] at h2
  have hbw := hr.lt
  have HRX : Hid (∀ W, Ext w W → Row1 W b 3 (l.flatMap encN ++ spare)) := fun W hW => HR.out.ext hW hbw
  have HSRC : Hid (∀ W, Ext w W → ∀ j v, ((l.flatMap encN).drop i)[j]? = some v → W.cell? ((⟨b, i, none⟩ : Addr).add j) = some v) := fun W hW j v hj => by
    rw [List.getElem?_drop] at hj
    rw [Addr.add_lit, (HRX.out W hW).cell, List.getElem?_append_left (List.getElem?_eq_some_iff.1 hj).1, hj]
  have HM1 : Hid (1 = Nat.min 1 (n + 1 - i)) := by unfold Hid; show 1 = min 1 (n + 1 - i); omega
  have HFIT2 : Hid (i + (encN x).length ≤ ((l.flatMap encN ++ spare).take (i + 1) ++ (l.flatMap encN).drop i ++ (l.flatMap encN ++ spare).drop (i + 1 + ((l.flatMap encN).drop i).length)).length) := by
    unfold Hid
    simp only [List.length_append, List.length_take, List.length_drop, encN_len, HFL.out]
    omega
  clear hr hG htot hfl hnn hsa hsb
  go_enter Tryz.func167, Tryz.ntmps167
  go_upto_region 15 with (simp only [hov])
  go_region_law (refine step_of rfl (wp_copyK (.tmp 73) (.tmp 76) 54 54 rfl 3 1 Tryz.underlying54 sizeInt b (i + 1) (n - i) (cap - (i + 1)) ⟨b, i, none⟩ (n + 1 - i) (cap - i) (by simp [Act.eval, Act.put]) (by simp [Act.eval, Act.put]) (l.flatMap encN ++ spare) 3 (HRX.out _ (by (repeat' (with_reducible first | exact Below.refl _ _ | refine Ext.drewN ?_ _ | refine Below.drew ?_ | refine Below.setCell ?_ ?_ _ | refine Below.alloc ?_ ?_ _)) <;> (first | omega | (simp; done) | (simp; omega)))) ((l.flatMap encN).drop i) (n - i) HMI.out HDL.out (HSRC.out _ (by (repeat' (with_reducible first | exact Below.refl _ _ | refine Ext.drewN ?_ _ | refine Below.drew ?_ | refine Below.setCell ?_ ?_ _ | refine Below.alloc ?_ ?_ _)) <;> (first | omega | (simp; done) | (simp; omega)))) HFIT.out (fun v hv => flat1_one encN_one l v (List.mem_of_mem_drop hv)) ?_); intro w2 hr2 hb2)
  all_goals
    have HG2 : Hid (Row1 w2 G 3 (encN x)) := Row1.same HG.out (hb2.block G HG.out.lt (fun e => hne (by injection e)))
    have HR2 := Lib.hid hr2
    have HO2 : Hid (Only (fun j => j = b) w w2) := Only.turn (Only.of (by (repeat' (with_reducible first | exact Below.refl _ _ | refine Ext.drewN ?_ _ | refine Below.drew ?_ | refine Below.setCell ?_ ?_ _ | refine Below.alloc ?_ ?_ _)) <;> (first | omega | (simp; done) | (simp; omega)))) hb2 (.inl rfl)
    clear hr2 hb2 hov
    go_wp2_with (with_reducible show wpList _ _ _ (({ dst := _, op := Op.call { callee := Callee.builtin Builtin.copy, args := _, argTypes := _ }, type := _, pos := _, after := _, guard := _ } : Oper) :: _) _ _; go_loud (refine wpList_copyK rfl (.tmp 80) (.tmp 81) 54 54 rfl 3 1 Tryz.underlying54 sizeInt b i (n + 1 - i) (cap - i) ⟨G, 0, none⟩ 1 1 (by simp [Act.eval, Act.put]) (by simp [Act.eval, Act.put]) _ 3 HR2.out (encN x) 1 HM1.out rfl (src_row HG2.out) HFIT2.out (encN_one x) ?_; intro w3 hr3 hb3))
    rw [HROW.out] at hr3
    have HW := Lib.hid (HFIN.out w3 hr3)
    have HO3 : Hid (Only (fun j => j = b) w w3) := Only.turn HO2.out hb3 (.inl rfl)
    clear hr3 hb3
    go_wp2_with fail
    go_ret
    exact ⟨_, rfl, HW.out, rfl, HO3.out⟩
theorem insN_zeros (w : World) (b n i : Nat) (cs : List Value) (hcs : cs.length = i) (hsrc : ∀ j v, cs[j]? = some v → w.cell? ((⟨b, 0, none⟩ : Addr).add j) = some v) (hi : i < n) (hb : n ≤ 1000000) : ∃ (Gc : Nat) (w1 : World) (zs : List Value), Hid (∀ ty, (Builtin.append_ #[54, 3] ty #[.slice (some ⟨b, 0, none⟩) i n, .int .i64 ((n : Int) + 1 - i)]).run Tryz.prog w = .ok (.slice (some ⟨w.heap.size, 0, none⟩) (n + 1) Gc) w1) ∧
    Row1 w1 w.heap.size 3 (cs ++ zs) ∧ (cs ++ zs).length = Gc * 1 ∧ n + 1 ≤ Gc ∧ Gc ≤ 9223372036854775807 ∧ Ext w w1 := by
  obtain ⟨i0, z, hi0, hz, hsize, hby, hzs⟩ := elInt.hi
  have hold : (Builtin.firstCells i0.size i (.slice (some ⟨b, 0, none⟩) i n)).run Tryz.prog w.drew = .ok cs.toArray w.drew := run_firstCells_some (P := Tryz.prog) w.drew i0.size i ⟨b, 0, none⟩ i n cs (by rw [hsize, hcs]; omega) hsrc
  have e0 : i + (n + 1 - i) = n + 1 := by omega
  have h := fun ty => Lib.run_append_grow_zeros (P := Tryz.prog) w 54 3 ty 3 i0 z .i64 .i64 Tryz.underlying54 Tryz.underlying3 hi0 hz (some ⟨b, 0, none⟩) i n cs hold (n + 1 - i) (by omega) (by rw [hsize]; omega) (by omega) (by omega) (by rw [hby]; omega) (growslice_fits (by omega) (by rw [hby]; omega))
  have e : ((n + 1 - i : Nat) : Int) = (n : Int) + 1 - i := by omega
  have hg := grownCap_ge w (i + (n + 1 - i)) n 3
  have hm := grownCap_le_maxLen w (i + (n + 1 - i)) n 3 (by unfold maxLen; omega)
  obtain ⟨Gc, hG⟩ : ∃ Gc, grownCap w (i + (n + 1 - i)) n 3 = Gc := ⟨_, rfl⟩
  rw [hG] at h hg hm
  obtain ⟨R, hR⟩ : ∃ R : Array Value, Builtin.zeroCells z.cells (n + 1 - i) ++ Builtin.zeroCells z.cells (Gc - (i + (n + 1 - i))) = R := ⟨_, rfl⟩
  have hRs : R.size = (Gc - i) * 1 := by
    rw [← hR]
    simp [size_zeroCells, hzs]
    omega
  simp only [Array.append_assoc, hR] at h
  refine ⟨Gc, _, R.toList, fun ty => ?_, Row1.made w.drew 3 (cs ++ R.toList), by rw [List.length_append, hcs, Array.length_toList, hRs]; omega, by omega, by simpa [maxLen] using hm, Below.alloc (Below.drew (Ext.refl w)) (Nat.le_refl _) _⟩
  have h2 := h ty
  have e3 : cs.toArray ++ R = (cs ++ R.toList).toArray := by apply Array.ext'; simp
  rw [e, e0, e3] at h2
  rw [h2]
set_option maxRecDepth 100000 in
set_option maxHeartbeats 4000000 in
theorem insN_grow {base : Nat} {b cap G : Nat} {l : List Int} {spare : List Value} (x : Int) (i : Nat) (w : World) (hr : Row1 w b 3 (l.flatMap encN ++ spare)) (hi : i < l.length) (hfull : l.length = cap) (hlim : l.length ≤ 100000) (hbw : base ≤ w.heap.size)
    (hG : Row1 w G 3 (encN x)) :
    Calls Tryz.prog 167 #[.slice (some ⟨b, 0, none⟩) l.length cap, .int .i64 i, .slice (some ⟨G, 0, none⟩) 1 1] w fun e w' => ∃ v', e = .returned v' ∧ OwnL w' base 3 1 encN v' (insL l i x) ∧ v'.ownBlock = some w.heap.size ∧ Ext w w' := by
  subst hfull
  have hfl := flat1_len encN_len l
  have hct : ((l.flatMap encN).take i).length = i := by rw [List.length_take, hfl]; omega
  obtain ⟨Gc, w1, zs, hz, hzr, hzl, hg1, hg2, hx1⟩ := insN_zeros w b l.length i ((l.flatMap encN).take i) hct (fun j v hj => by
    have hj2 := (List.getElem?_eq_some_iff.1 hj).1
    rw [List.getElem?_take, if_pos (by omega)] at hj
    rw [Addr.add_lit, Nat.zero_add, hr.cell, List.getElem?_append_left (by rw [hfl]; omega), hj]) hi (by omega)
  obtain ⟨n, hnn⟩ : ∃ n, l.length = n := ⟨_, rfl⟩
  have hzs := hx1.size
  have HR1 : Hid (Row1 w1 b 3 (l.flatMap encN ++ spare)) := hr.ext hx1 hr.lt
  have HG1 : Hid (Row1 w1 G 3 (encN x)) := hG.ext hx1 hG.lt
  have hbl := hr.lt
  have hGl := hG.lt
  have HX1 := Lib.hid hx1
  have HN := Lib.hid hnn
  have HFL : Hid ((l.flatMap encN).length = n) := by unfold Hid; rw [hfl, hnn]
  have HROW := Lib.hid (ins_rowG (l.flatMap encN) zs (encN x) i (by rw [hfl]; omega) (by rw [hzl, hfl]; omega) (encN_len x))
  rw [hnn] at hi hlim hz hg1 ⊢
  obtain ⟨N, hN⟩ : ∃ N, w.heap.size = N := ⟨_, rfl⟩
  rw [hN] at hz hzr hbl hGl ⊢
  have HZR := Lib.hid hzr
  have HZL := Lib.hid hzl
  have hbN : b ≠ N := by omega
  have hGN : G ≠ N := by omega
  have hw1 : ¬ ((i : Int) = (n : Int)) := by omega
  have hw2 : (n : Int) < (n : Int) + 1 := by omega
  have hw4 : ¬ Gc = i := by omega
  have hw4' : ¬ Gc = i + 1 := by omega
  have hw5 : ((n : Int) + 1).toNat = n + 1 := by omega
  have hw6 : (0 : Int) ≤ (n : Int) + 1 := by omega
  have hw8 : ¬ n = i := by omega
  have hw9 : IntKind.i64.wrap ((i : Int) + 1) = i + 1 := by rw [IntKind.wrap_i64]; omega
  have hw10 : (0 : Int) ≤ n := by omega
  have hw11 : (0 : Int) ≤ i := by omega
  have hw12 : (i : Int) ≤ n := by omega
  have hw13 : (i : Int) + 1 ≤ n + 1 := by omega
  have hw14 : ((i : Int) + 1).toNat = i + 1 := by omega
  have hw15 : (0 : Int) ≤ (i : Int) + 1 := by omega
  have hw16 : (i : Int) ≤ n + 1 := by omega
  have HMI : Hid (n - i = Nat.min (n - i) (n - i)) := by unfold Hid; show n - i = min (n - i) (n - i); omega
  have HM1 : Hid (1 = Nat.min 1 (n + 1 - i)) := by unfold Hid; show 1 = min 1 (n + 1 - i); omega
  have HDL : Hid (((l.flatMap encN).drop i).length = (n - i) * 1) := by unfold Hid; rw [List.length_drop, HFL.out]; omega
  have HF1 : Hid (i + (encN x).length ≤ ((l.flatMap encN).take i ++ zs).length) := by unfold Hid; rw [encN_len, HZL.out]; omega
  have HF2 : Hid (i + 1 + ((l.flatMap encN).drop i).length ≤ (((l.flatMap encN).take i ++ zs).take i ++ encN x ++ ((l.flatMap encN).take i ++ zs).drop (i + (encN x).length)).length) := by
    unfold Hid
    have h3 := HZL.out
    simp only [List.length_append, List.length_take, List.length_drop, encN_len, HFL.out] at h3 ⊢
    omega
  have HFIN : Hid (∀ w', Row1 w' N 3 ((l.flatMap encN).take i ++ encN x ++ (l.flatMap encN).drop i ++ zs.drop ((l.flatMap encN).length + 1 - i)) → OwnL w' base 3 1 encN (.slice (some ⟨N, 0, none⟩) (n + 1) Gc) (insL l i x)) := fun w' h1 => by
    rw [← insL_flat encN_len] at h1
    have h2 := OwnL.ofRow (k := 1) (base := base) h1 (by omega) (cap := Gc) (by rw [insL_len, HN.out]; exact hg1) hg2 (by
      have h3 := HZL.out
      rw [List.length_append, hct] at h3
      rw [List.length_append, flat1_len encN_len, insL_len, List.length_drop, hfl]
      have := HN.out
      omega) encN_len
    rwa [insL_len, HN.out] at h2
  have HSRC : Hid (∀ W, Row1 W b 3 (l.flatMap encN ++ spare) → ∀ j v, ((l.flatMap encN).drop i)[j]? = some v → W.cell? ((⟨b, i, none⟩ : Addr).add j) = some v) := fun W hW j v hj => by
    rw [List.getElem?_drop] at hj
    rw [Addr.add_lit, hW.cell, List.getElem?_append_left (List.getElem?_eq_some_iff.1 hj).1, hj]
  clear hr hG hfl hnn hzr hx1 hzl hct
  go_enter Tryz.func167, Tryz.ntmps167
  go_upto_region 11 with (first
    | (at_builtin; go_loud (refine wpList_append_eq rfl (.tmp 34) (.tmp 39) 54 3 rfl (.slice (some ⟨b, 0, none⟩) i n) (.int .i64 ((n : Int) + 1 - i)) (by simp [Act.eval, Act.put]) (by simp [Act.eval, Act.put]) (hz.out _) ?_))
    | (with_reducible show wpList _ _ _ (({ dst := _, op := Op.call { callee := Callee.builtin Builtin.copy, args := _, argTypes := _ }, type := _, pos := _, after := _, guard := _ } : Oper) :: _) _ _; go_loud (refine wpList_copyK rfl (.tmp 43) (.tmp 44) 54 54 rfl 3 1 Tryz.underlying54 sizeInt N i (n + 1 - i) (Gc - i) ⟨G, 0, none⟩ 1 1 (by simp [Act.eval, Act.put]) (by simp [Act.eval, Act.put]) _ 3 HZR.out (encN x) 1 HM1.out rfl (src_row HG1.out) HF1.out (encN_one x) ?_; intro w2 hr2 hb2)))
  have HR2 := Lib.hid hr2
  have HRb : Hid (Row1 w2 b 3 (l.flatMap encN ++ spare)) := HR1.out.same (hb2.block b HR1.out.lt (fun e => hbN (by injection e)))
  have HX2 : Hid (Ext w w2) := (But.trans (But.of HX1.out) hb2).fresh (by omega)
  have hsz2 := HX2.out.size
  have hb2w := HRb.out.lt
  have hN2w := HR2.out.lt
  have HRbX : Hid (∀ W, Ext w2 W → Row1 W b 3 (l.flatMap encN ++ spare)) := fun W hW => HRb.out.ext hW HRb.out.lt
  have HRNX : Hid (∀ W, Ext w2 W → Row1 W N 3 (((l.flatMap encN).take i ++ zs).take i ++ encN x ++ ((l.flatMap encN).take i ++ zs).drop (i + (encN x).length))) := fun W hW => HR2.out.ext hW HR2.out.lt
  clear hr2 hb2
  go_region_law (refine step_of rfl (wp_copyK (.tmp 50) (.tmp 53) 54 54 rfl 3 1 Tryz.underlying54 sizeInt N (i + 1) (n - i) (Gc - (i + 1)) ⟨b, i, none⟩ (n - i) (n - i) (by simp [Act.eval, Act.put]) (by simp [Act.eval, Act.put]) _ 3 (HRNX.out _ (by (repeat' (with_reducible first | exact Below.refl _ _ | refine Ext.drewN ?_ _ | refine Below.drew ?_ | refine Below.setCell ?_ ?_ _ | refine Below.alloc ?_ ?_ _)) <;> (first | omega | (simp; done) | (simp; omega)))) ((l.flatMap encN).drop i) (n - i) HMI.out HDL.out (HSRC.out _ (HRbX.out _ (by (repeat' (with_reducible first | exact Below.refl _ _ | refine Ext.drewN ?_ _ | refine Below.drew ?_ | refine Below.setCell ?_ ?_ _ | refine Below.alloc ?_ ?_ _)) <;> (first | omega | (simp; done) | (simp; omega))))) HF2.out (fun v hv => flat1_one encN_one l v (List.mem_of_mem_drop hv)) ?_); intro w3 hr3 hb3)
  all_goals
    rw [HROW.out] at hr3
    have HW := Lib.hid (HFIN.out w3 hr3)
    have HX3 : Hid (Ext w w3) := (But.trans (But.of (Ext.trans HX2.out (by (repeat' (with_reducible first | exact Below.refl _ _ | refine Ext.drewN ?_ _ | refine Below.drew ?_ | refine Below.setCell ?_ ?_ _ | refine Below.alloc ?_ ?_ _)) <;> (first | omega | (simp; done) | (simp; omega))))) hb3).fresh (by omega)
    clear hr3 hb3
    go_wp2_with fail
    go_ret
    exact ⟨_, rfl, HW.out, rfl, HX3.out⟩
/-- one more at a place: all cases -/
theorem insN_any {v : Value} {l : List Int} (x : Int) (G i : Nat) (w : World) (h : OwnL w 0 3 1 encN v l) (hi : i ≤ l.length) (hG : Row1 w G 3 (encN x)) (hne : v.ownBlock ≠ some G) (hl : l.length ≤ 100000) :
    Calls Tryz.prog 167 #[v, .int .i64 i, .slice (some ⟨G, 0, none⟩) 1 1] w fun e w' => ∃ v', e = .returned v' ∧ OwnL w' 0 3 1 encN v' (insL l i x) ∧ (∀ k, v'.ownBlock = some k → v.ownBlock = some k ∨ w.heap.size ≤ k) ∧ Only (fun j => v.ownBlock = some j) w w' := by
  by_cases h0 : i = l.length
  · refine (insN_end x G i w h h0.symm hG hne (Nat.zero_le _) hl).mono ?_
    rintro e w' ⟨v', h1, h2, h3, h4⟩
    refine ⟨v', h1, ?_, h3, h4⟩
    unfold insL
    rw [h0, List.take_length, List.drop_length]
    exact h2
  · obtain ⟨b, cap, spare, rfl, hb0, hr, hc1, hc2, hs, hfl⟩ := h.row (by omega)
    by_cases hroom : l.length + 1 ≤ cap
    · refine (insN_room (base := 0) x i w hr (Nat.zero_le _) (by omega) hroom hc2 hs hG (fun e => hne (by rw [e]; rfl))).mono ?_
      rintro e w' ⟨v', h1, h2, h3, h4⟩
      exact ⟨v', h1, h2, fun k hk => .inl (by rw [← hk, h3]; rfl), h4.mono (fun i q => .inl (by rw [q]; rfl))⟩
    · refine (insN_grow (base := 0) x i w hr (by omega) (by omega) hl (Nat.zero_le _) hG).mono ?_
      rintro e w' ⟨v', h1, h2, h3, h4⟩
      exact ⟨v', h1, h2, fun k hk => .inr (by rw [h3] at hk; injection hk with hk; omega), Only.of h4⟩
end Go.Proofs.YtojoefcfimmipaaGreat
