/- ref26.Parse. No conditions. -/
/- law26.of, law26.all. Conditions: fewer than 10^8 events. -/
import Derived.Test.YtgpnockjonicpaaGreatDoorPLaw2
import Derived.Test.YtgpnockjonicpaaGreatDoorJoin2
namespace Go.Proofs.YtgpnockjonicpaaGreatDoor
set_option linter.unusedSimpArgs false
set_option linter.unusedVariables false
open Go.RowKit

theorem Tryz.infoREv : (Tryz.prog.info? 57).map (fun i => (i.zero, i.size, i.bytes)) = some (some evZero.val, 10, 80) := by kernel_rfl
theorem elREv : Elem Tryz.prog 22 57 10 80 := Elem.of Tryz.underlying22 Tryz.infoREv rfl (by decide)
theorem acc_none (t : ByteArray) (h : t = ⟨#[]⟩ ∨ ¬ lineL (refReadW (splitS t 32)) = t) : accP (splitS t 32) = none := by
  cases q : accP (splitS t 32) with
  | none => rfl
  | some v =>
    obtain ⟨h1, h2, _⟩ := acc_line t v q
    rcases h with h | h
    · exact absurd h h1
    · exact absurd h2 h
theorem hd_get (ls : List ByteArray) (k : Nat) (h : k < ls.length) : hd ls k = ls[k] := by
  unfold hd sHead
  rw [List.drop_eq_getElem_cons h]
  rfl
set_option maxRecDepth 100000 in
set_option maxHeartbeats 8000000 in
theorem refParse_any (s : ByteArray) (w : World) :
    Calls Tryz.prog 14 #[.string s] w fun e w' => (∃ v, e = .returned (.tuple #[v, .int .i64 (parseL s).2.1, .int .i64 (parseL s).2.2]) ∧ Sl w' 11 ROp v (parseL s).1) ∧ Ext w w' := by
  have HV : Hid (parseL s = if 65536 < s.size then ([], 0, 2) else if lastS (splitS s 10) ≠ ⟨#[]⟩ then ([], (splitS s 10).length, 42) else parseEnd (readAll 0 (splitS s 10).dropLast)) := rfl
  by_cases hbig : 65536 < s.size
  · have q1 : decide (65536 < (s.size : Int)) = true := by simp; omega
    rw [if_pos hbig] at HV
    clear hbig
    go_enter Tryz.func14, Tryz.ntmps14
    go_wp2_with fail
    go_ret3
    exact ⟨⟨_, by rw [HV.out]; rfl, by rw [HV.out]; exact Sl.nil _ _ _⟩, Ext.refl _⟩
  · have q1 : decide (65536 < (s.size : Int)) = false := by simp; omega
    have hs : s.size ≤ 65536 := by omega
    rw [if_neg hbig] at HV
    clear hbig
    go_enter Tryz.func14, Tryz.ntmps14
    go_wp2_with fail
    refine (refSplit_any s 10 _ (by omega)).mono ?_
    rintro e w1 ⟨⟨V, rfl, hsl⟩, hb1⟩
    have HSZ : Hid (∀ p ∈ splitS s 10, p.size ≤ 65536) := fun p hp => Nat.le_trans (splitS_size s 10 p hp) hs
    obtain ⟨hl1, hl2⟩ := splitS_count s 10
    have B1 := Lib.hid hb1
    clear hb1
    generalize splitS s 10 = ls at *
    obtain ⟨n, hn⟩ : ∃ n, ls.length = n + 1 := ⟨ls.length - 1, by omega⟩
    obtain ⟨VA, Vc, rfl⟩ := hsl.form
    obtain ⟨_, hc1, hc2, hA⟩ := hsl.at
    clear hA
    obtain ⟨bA, off, rfl, hbl, _⟩ := hsl.word_at 0 (by omega)
    have HC : Hid (∀ (k : Nat) (hk : k < ls.length), w1.cell? ⟨bA, off + k, none⟩ = some (.string ls[k])) := fun k hk => by
      obtain ⟨b', off', e, _, hc⟩ := hsl.word_at k hk
      injection e with e
      injection e with e1 e2
      subst e1 e2
      rw [hc, hd_get ls k hk]
    clear hsl
    have cl := HC.out n (by omega)
    have HLA : Hid (lastS ls = ls[n]'(by omega)) := by
      unfold Hid lastS
      rw [List.getLastD_eq_getLast?, List.getLast?_eq_getElem?, show ls.length - 1 = n by omega, List.getElem?_eq_getElem (show n < ls.length by omega)]
      rfl
    have HLN := Lib.hid hn
    rw [hn] at hc1 ⊢
    generalize ls[n]'(by omega) = la at *
    have i1 : (0 : Int) ≤ (n : Int) := by omega
    have i2 : (n : Int) < (n : Int) + 1 := by omega
    have i3 : (n : Int) ≤ (n : Int) + 1 := by omega
    clear hn
    have hlen : (ls.length : Int) = (n : Int) + 1 := by have := HLN.out; omega
    by_cases hla : la = ⟨#[]⟩
    · have HV2 : Hid (parseL s = parseEnd (readOn [] 0 (ls.take n))) := by
        unfold Hid
        rw [HV.out, HLA.out, hla, if_neg (by simp), List.dropLast_eq_take, show ls.length - 1 = n by have := HLN.out; omega]
        rfl
      subst hla
      have t1 : ((⟨#[]⟩ : ByteArray).toList.isEmpty) = true := by rw [str_nil _ rfl]; rfl
      have t2 : (⟨#[]⟩ : ByteArray).toList = [] := str_nil _ rfl
      go_wp2_with fail
      have HC2 : Hid (∀ (k : Nat) (hk : k < n), (ls.take n)[k]'(by rw [List.length_take]; have := HLN.out; omega) = ls[k]'(by have := HLN.out; omega)) := fun k hk => by rw [List.getElem_take]
      have HTL : Hid ((ls.take n).length = n) := by unfold Hid; rw [List.length_take]; have := HLN.out; omega
      clear t1 t2 cl HV
      go_loopw [6, 7] (fun v i wr => ∃ (k : Nat) (acc : List EvD), k ≤ n ∧ i = .int .i64 k ∧ acc.length = k ∧ OwnL wr w1.heap.size 57 10 EvD.cells v acc ∧ Ext w1 wr ∧ parseL s = parseEnd (readOn acc k (ls.take n))) (fun _ i _ => n - (intOf i).toNat)
      case atStart => exact ⟨0, [], by omega, rfl, rfl, OwnL.nil _ _ _ _ _, Ext.refl _, HV2.out⟩
      case round =>
        obtain ⟨k, acc, hk, rfl, hacc, hown, hb, hseq⟩ := hrel
        subst hacc
        have HOW := Lib.hid hown
        have HB := Lib.hid hb
        have HF := Lib.hid hseq
        obtain ⟨vA, vc, rfl⟩ := hown.form
        have hzw := hb.size
        clear hown hb hseq HV2
        by_cases hlt : acc.length < n
        · have q2 : decide ((acc.length : Int) + 1 < (n : Int) + 1) = true := decide_eq_true (by omega)
          have q2' : decide ((acc.length : Int) < (n : Int)) = true := decide_eq_true (by omega)
          have hkl : acc.length < ls.length := by omega
          have ck := (HB.out.cell (p := ⟨bA, off + acc.length, none⟩) hbl).trans (HC.out acc.length hkl)
          have HFA : Hid (parseL s = match accP (splitS ls[acc.length] 32) with | none => ([], acc.length + 1, 50) | some e => parseEnd (readOn (acc ++ [e]) (acc.length + 1) (ls.take n))) := by
            unfold Hid
            rw [HF.out, readOn_at acc acc.length (ls.take n) (by rw [HTL.out]; exact hlt), HC2.out acc.length hlt]
            cases accP (splitS ls[acc.length] 32) <;> rfl
          have htz := HSZ.out ls[acc.length] (List.getElem_mem hkl)
          clear HF
          generalize ls[acc.length] = tx at *
          go_wp2_with fail
          refine (refRead_any tx _ (by omega) (fun x hx => by have := splitS_size tx 32 x hx; omega)).mono ?_
          rintro e w2 ⟨rfl, hb2⟩
          have B2 := Lib.hid (Ext.trans (by (repeat' (with_reducible first | exact Below.refl _ _ | refine Ext.drewN ?_ _ | refine Below.drew ?_ | refine Below.setCell ?_ ?_ _ | refine Below.alloc ?_ ?_ _)) <;> (first | omega | (simp; done) | (simp; omega)) : Ext wr _) hb2)
          have hz2 := B2.out.size
          have HXN := Lib.hid (read_num (splitS tx 32))
          have HAN := Lib.hid (acc_none tx)
          have HLA2 := Lib.hid (line_acc tx)
          generalize refReadW (splitS tx 32) = x at *
          clear hb2
          go_upto_region 11 with fail
          generalize hw3 : World.alloc _ _ = w3
          have HEV : Hid (Row1 w3 w2.heap.size 57 x.cells) := by
            subst hw3
            exact Row1.made w2 57 x.cells
          have B3 : Hid (Ext wr w3) := by
            subst hw3
            exact Ext.trans B2.out (Ext.alloc _ _)
          clear hw3
          have hbw : bA < wr.heap.size := by have := HB.out.size; omega
          have HBX : Hid (∀ W, Ext w3 W → (W.cell? ⟨bA, off + acc.length, none⟩ = some (.string tx) ∧ (W.cell? ⟨w2.heap.size, 0, none⟩ = some (.int .i64 x.time) ∧ W.cell? ⟨w2.heap.size, 1, none⟩ = some (.int .i64 x.proc) ∧ W.cell? ⟨w2.heap.size, 2, none⟩ = some (.bool x.answer) ∧ W.cell? ⟨w2.heap.size, 3, none⟩ = some (.int .i64 x.id) ∧ W.cell? ⟨w2.heap.size, 4, none⟩ = some (.int .i64 x.object) ∧ W.cell? ⟨w2.heap.size, 5, none⟩ = some (.int .i64 x.kind) ∧ W.cell? ⟨w2.heap.size, 6, none⟩ = some (.int .i64 x.method) ∧ W.cell? ⟨w2.heap.size, 7, none⟩ = some (.int .i64 x.arg) ∧ W.cell? ⟨w2.heap.size, 8, none⟩ = some (.int .i64 x.second) ∧ W.cell? ⟨w2.heap.size, 9, none⟩ = some (.int .i64 x.result))) ∧ bA < W.heap.size ∧ w2.heap.size < W.heap.size) := fun W h => by
            have hl3 := HEV.out.lt
            have hz := h.size
            have hz3 := B3.out.size
            refine ⟨⟨(h.cell (p := ⟨bA, off + acc.length, none⟩) (by show bA < w3.heap.size; omega)).trans ((B3.out.cell (p := ⟨bA, off + acc.length, none⟩) hbw).trans ck), (At10.row HEV.out).ext h hl3⟩, by omega, by omega⟩
          have ki : (0 : Int) ≤ (acc.length : Int) := by omega
          have kj : (acc.length : Int) < (n : Int) + 1 := by omega
          have HQ : Hid (Ext wr w3) := B3
          have HY : Hid (Ext w3 w3) := Ext.refl _
          clear ck
          by_cases htx : tx = ⟨#[]⟩
          · have HF2 : Hid (parseL s = ([], acc.length + 1, 50)) := by unfold Hid; rw [HFA.out, HAN.out (.inl htx)]
            subst htx
            have t1 : ((⟨#[]⟩ : ByteArray).toList.isEmpty) = true := by rw [str_nil _ rfl]; rfl
            have t2 : (⟨#[]⟩ : ByteArray).toList = [] := str_nil _ rfl
            clear HAN HLA2 HFA
            refine wp_region_held_drew (S := fun W => (W.cell? ⟨bA, off + acc.length, none⟩ = some (.string ⟨#[]⟩) ∧ (W.cell? ⟨w2.heap.size, 0, none⟩ = some (.int .i64 x.time) ∧ W.cell? ⟨w2.heap.size, 1, none⟩ = some (.int .i64 x.proc) ∧ W.cell? ⟨w2.heap.size, 2, none⟩ = some (.bool x.answer) ∧ W.cell? ⟨w2.heap.size, 3, none⟩ = some (.int .i64 x.id) ∧ W.cell? ⟨w2.heap.size, 4, none⟩ = some (.int .i64 x.object) ∧ W.cell? ⟨w2.heap.size, 5, none⟩ = some (.int .i64 x.kind) ∧ W.cell? ⟨w2.heap.size, 6, none⟩ = some (.int .i64 x.method) ∧ W.cell? ⟨w2.heap.size, 7, none⟩ = some (.int .i64 x.arg) ∧ W.cell? ⟨w2.heap.size, 8, none⟩ = some (.int .i64 x.second) ∧ W.cell? ⟨w2.heap.size, 9, none⟩ = some (.int .i64 x.result))) ∧ bA < W.heap.size ∧ w2.heap.size < W.heap.size) (by kernel_rfl) (HBX.out _ (by (repeat' (with_reducible first | exact Below.refl _ _ | refine Ext.drewN ?_ _ | refine Below.drew ?_ | refine Below.setCell ?_ ?_ _ | refine Below.alloc ?_ ?_ _)) <;> (first | omega | (simp; done) | (simp; omega)))) (fun hHeld => ?_)
            refine' wpAnyH_take (i := 0) (oi := ?zoi0a) (v := ?zv0a) ?zhi0a (by kernel_rfl) (by kernel_rfl) (by kernel_rfl) ?zhQ0a (Or.inl ⟨?zhw0a, ?zhy0a⟩) (by assumption) ?zrest0a; (case zhi0a => simp only [List.getElem?_toArray, List.getElem?_cons_succ, List.getElem?_cons_zero]; exact rfl); (case zhQ0a => exact fun _ _ _ h => h); (case zhw0a => rfl); (case zhy0a => intro w hSw; (try dsimp only at hSw); go_simp; (try with_reducible rfl)); (try simp only [Act.put, List.setIfInBounds_toArray, List.set_cons_zero, List.set_cons_succ])
            refine' wpAnyH_take (i := 1) (oi := ?zoi1a) (v := ?zv1a) ?zhi1a (by kernel_rfl) (by kernel_rfl) (by kernel_rfl) ?zhQ1a (Or.inl ⟨?zhw1a, ?zhy1a⟩) (by assumption) ?zrest1a; (case zhi1a => simp only [List.getElem?_toArray, List.getElem?_cons_succ, List.getElem?_cons_zero]; exact rfl); (case zhQ1a => exact fun _ _ _ h => h); (case zhw1a => rfl); (case zhy1a => intro w hSw; (try dsimp only at hSw); go_simp; (try with_reducible rfl)); (try simp only [Act.put, List.setIfInBounds_toArray, List.set_cons_zero, List.set_cons_succ])
            refine' wpAnyH_take (i := 2) (oi := ?zoi2a) (v := ?zv2a) ?zhi2a (by kernel_rfl) (by kernel_rfl) (by kernel_rfl) ?zhQ2a (Or.inl ⟨?zhw2a, ?zhy2a⟩) (by assumption) ?zrest2a; (case zhi2a => simp only [List.getElem?_toArray, List.getElem?_cons_succ, List.getElem?_cons_zero]; exact rfl); (case zhQ2a => exact fun _ _ _ h => h); (case zhw2a => rfl); (case zhy2a => intro w hSw; (try dsimp only at hSw); go_simp; (try with_reducible rfl)); (try simp only [Act.put, List.setIfInBounds_toArray, List.set_cons_zero, List.set_cons_succ])
            refine' wpAnyH_take (i := 3) (oi := ?zoi3a) (v := ?zv3a) ?zhi3a (by kernel_rfl) (by kernel_rfl) (by kernel_rfl) ?zhQ3a (Or.inl ⟨?zhw3a, ?zhy3a⟩) (by assumption) ?zrest3a; (case zhi3a => simp only [List.getElem?_toArray, List.getElem?_cons_succ, List.getElem?_cons_zero]; exact rfl); (case zhQ3a => exact fun _ _ _ h => h); (case zhw3a => rfl); (case zhy3a => intro w hSw; (try dsimp only at hSw); go_simp; (try with_reducible rfl)); (try simp only [Act.put, List.setIfInBounds_toArray, List.set_cons_zero, List.set_cons_succ])
            refine' wpAnyH_take (i := 4) (oi := ?zoi4a) (v := ?zv4a) ?zhi4a (by kernel_rfl) (by kernel_rfl) (by kernel_rfl) ?zhQ4a (Or.inl ⟨?zhw4a, ?zhy4a⟩) (by assumption) ?zrest4a; (case zhi4a => simp only [List.getElem?_toArray, List.getElem?_cons_succ, List.getElem?_cons_zero]; exact rfl); (case zhQ4a => exact fun _ _ _ h => h); (case zhw4a => rfl); (case zhy4a => intro w hSw; (try dsimp only at hSw); go_simp; (try with_reducible rfl)); (try simp only [Act.put, List.setIfInBounds_toArray, List.set_cons_zero, List.set_cons_succ])
            refine' wpAnyH_take (i := 5) (oi := ?zoi5a) (v := ?zv5a) ?zhi5a (by kernel_rfl) (by kernel_rfl) (by kernel_rfl) ?zhQ5a (Or.inl ⟨?zhw5a, ?zhy5a⟩) (by assumption) ?zrest5a; (case zhi5a => simp only [List.getElem?_toArray, List.getElem?_cons_succ, List.getElem?_cons_zero]; exact rfl); (case zhQ5a => exact fun _ _ _ h => h); (case zhw5a => rfl); (case zhy5a => intro w hSw; (try dsimp only at hSw); go_simp; (try with_reducible rfl)); (try simp only [Act.put, List.setIfInBounds_toArray, List.set_cons_zero, List.set_cons_succ])
            refine' wpAnyH_take (i := 6) (oi := ?zoi6a) (v := undef) ?zhi6a (by kernel_rfl) (by kernel_rfl) (by kernel_rfl) ?zhQ6a (Or.inr ⟨?zhw6a, rfl⟩) (by assumption) ?zrest6a; (case zhi6a => simp only [List.getElem?_toArray, List.getElem?_cons_succ, List.getElem?_cons_zero]; exact rfl); (case zhQ6a => exact fun _ _ _ h => h); (case zhw6a => rfl); (try simp only [Act.put, List.setIfInBounds_toArray, List.set_cons_zero, List.set_cons_succ])
            refine' wpAnyH_take (i := 7) (oi := ?zoi7a) (v := undef) ?zhi7a (by kernel_rfl) (by kernel_rfl) (by kernel_rfl) ?zhQ7a (Or.inr ⟨?zhw7a, rfl⟩) (by assumption) ?zrest7a; (case zhi7a => simp only [List.getElem?_toArray, List.getElem?_cons_succ, List.getElem?_cons_zero]; exact rfl); (case zhQ7a => exact fun _ _ _ h => h); (case zhw7a => rfl); (try simp only [Act.put, List.setIfInBounds_toArray, List.set_cons_zero, List.set_cons_succ])
            refine' wpAnyH_take (i := 8) (oi := ?zoi8a) (v := undef) ?zhi8a (by kernel_rfl) (by kernel_rfl) (by kernel_rfl) ?zhQ8a (Or.inr ⟨?zhw8a, rfl⟩) (by assumption) ?zrest8a; (case zhi8a => simp only [List.getElem?_toArray, List.getElem?_cons_succ, List.getElem?_cons_zero]; exact rfl); (case zhQ8a => exact fun _ _ _ h => h); (case zhw8a => rfl); (try simp only [Act.put, List.setIfInBounds_toArray, List.set_cons_zero, List.set_cons_succ])
            refine' wpAnyH_take (i := 9) (oi := ?zoi9a) (v := undef) ?zhi9a (by kernel_rfl) (by kernel_rfl) (by kernel_rfl) ?zhQ9a (Or.inr ⟨?zhw9a, rfl⟩) (by assumption) ?zrest9a; (case zhi9a => simp only [List.getElem?_toArray, List.getElem?_cons_succ, List.getElem?_cons_zero]; exact rfl); (case zhQ9a => exact fun _ _ _ h => h); (case zhw9a => rfl); (try simp only [Act.put, List.setIfInBounds_toArray, List.set_cons_zero, List.set_cons_succ])
            refine' wpAnyH_take (i := 10) (oi := ?zoi10a) (v := undef) ?zhi10a (by kernel_rfl) (by kernel_rfl) (by kernel_rfl) ?zhQ10a (Or.inr ⟨?zhw10a, rfl⟩) (by assumption) ?zrest10a; (case zhi10a => simp only [List.getElem?_toArray, List.getElem?_cons_succ, List.getElem?_cons_zero]; exact rfl); (case zhQ10a => exact fun _ _ _ h => h); (case zhw10a => rfl); (try simp only [Act.put, List.setIfInBounds_toArray, List.set_cons_zero, List.set_cons_succ])
            refine' wpAnyH_take (i := 11) (oi := ?zoi11a) (v := undef) ?zhi11a (by kernel_rfl) (by kernel_rfl) (by kernel_rfl) ?zhQ11a (Or.inr ⟨?zhw11a, rfl⟩) (by assumption) ?zrest11a; (case zhi11a => simp only [List.getElem?_toArray, List.getElem?_cons_succ, List.getElem?_cons_zero]; exact rfl); (case zhQ11a => exact fun _ _ _ h => h); (case zhw11a => rfl); (try simp only [Act.put, List.setIfInBounds_toArray, List.set_cons_zero, List.set_cons_succ])
            refine' wpAnyH_take (i := 12) (oi := ?zoi12a) (v := undef) ?zhi12a (by kernel_rfl) (by kernel_rfl) (by kernel_rfl) ?zhQ12a (Or.inr ⟨?zhw12a, rfl⟩) (by assumption) ?zrest12a; (case zhi12a => simp only [List.getElem?_toArray, List.getElem?_cons_succ, List.getElem?_cons_zero]; exact rfl); (case zhQ12a => exact fun _ _ _ h => h); (case zhw12a => rfl); (try simp only [Act.put, List.setIfInBounds_toArray, List.set_cons_zero, List.set_cons_succ])
            refine' wpAnyH_take (i := 13) (oi := ?zoi13a) (v := ?zv13a) ?zhi13a (by kernel_rfl) (by kernel_rfl) (by kernel_rfl) ?zhQ13a (Or.inl ⟨?zhw13a, ?zhy13a⟩) (by assumption) ?zrest13a; (case zhi13a => simp only [List.getElem?_toArray, List.getElem?_cons_succ, List.getElem?_cons_zero]; exact rfl); (case zhQ13a => exact fun _ _ _ h => h); (case zhw13a => rfl); (case zhy13a => intro w hSw; (try dsimp only at hSw); go_simp; (try with_reducible rfl)); (try simp only [Act.put, List.setIfInBounds_toArray, List.set_cons_zero, List.set_cons_succ])
            refine wpAnyH_done (by kernel_rfl) ?_ _
            go_wp2_with fail
            go_ret3
            exact ⟨⟨_, by rw [HF2.out]; rfl, by rw [HF2.out]; exact Sl.nil _ _ _⟩, by (repeat' (with_reducible first | exact (Ext.trans B1.out (Ext.trans HB.out HQ.out)) | exact Below.refl _ _ | refine Ext.drewN ?_ _ | refine Below.drew ?_ | refine Below.setCell ?_ ?_ _ | refine Below.alloc ?_ ?_ _)) <;> (first | omega | (simp; done) | (simp; omega))⟩
          · have t1 : tx.toList.isEmpty = false := str_cons tx (fun q => htx (ByteArray.ext (Array.eq_empty_of_size_eq_zero q)))
            have t2 : ¬ tx.toList = [] := fun q => by rw [q] at t1; cases t1
            have HTX := Lib.hid htx
            clear htx
            refine wp_region_held_drew (S := fun W => (W.cell? ⟨bA, off + acc.length, none⟩ = some (.string tx) ∧ (W.cell? ⟨w2.heap.size, 0, none⟩ = some (.int .i64 x.time) ∧ W.cell? ⟨w2.heap.size, 1, none⟩ = some (.int .i64 x.proc) ∧ W.cell? ⟨w2.heap.size, 2, none⟩ = some (.bool x.answer) ∧ W.cell? ⟨w2.heap.size, 3, none⟩ = some (.int .i64 x.id) ∧ W.cell? ⟨w2.heap.size, 4, none⟩ = some (.int .i64 x.object) ∧ W.cell? ⟨w2.heap.size, 5, none⟩ = some (.int .i64 x.kind) ∧ W.cell? ⟨w2.heap.size, 6, none⟩ = some (.int .i64 x.method) ∧ W.cell? ⟨w2.heap.size, 7, none⟩ = some (.int .i64 x.arg) ∧ W.cell? ⟨w2.heap.size, 8, none⟩ = some (.int .i64 x.second) ∧ W.cell? ⟨w2.heap.size, 9, none⟩ = some (.int .i64 x.result))) ∧ bA < W.heap.size ∧ w2.heap.size < W.heap.size) (by kernel_rfl) (HBX.out _ (by (repeat' (with_reducible first | exact Below.refl _ _ | refine Ext.drewN ?_ _ | refine Below.drew ?_ | refine Below.setCell ?_ ?_ _ | refine Below.alloc ?_ ?_ _)) <;> (first | omega | (simp; done) | (simp; omega)))) (fun hHeld => ?_)
            refine' wpAnyH_take (i := 0) (oi := ?zoi0b) (v := ?zv0b) ?zhi0b (by kernel_rfl) (by kernel_rfl) (by kernel_rfl) ?zhQ0b (Or.inl ⟨?zhw0b, ?zhy0b⟩) (by assumption) ?zrest0b; (case zhi0b => simp only [List.getElem?_toArray, List.getElem?_cons_succ, List.getElem?_cons_zero]; exact rfl); (case zhQ0b => exact fun _ _ _ h => h); (case zhw0b => rfl); (case zhy0b => intro w hSw; (try dsimp only at hSw); go_simp; (try with_reducible rfl)); (try simp only [Act.put, List.setIfInBounds_toArray, List.set_cons_zero, List.set_cons_succ])
            refine' wpAnyH_take (i := 1) (oi := ?zoi1b) (v := ?zv1b) ?zhi1b (by kernel_rfl) (by kernel_rfl) (by kernel_rfl) ?zhQ1b (Or.inl ⟨?zhw1b, ?zhy1b⟩) (by assumption) ?zrest1b; (case zhi1b => simp only [List.getElem?_toArray, List.getElem?_cons_succ, List.getElem?_cons_zero]; exact rfl); (case zhQ1b => exact fun _ _ _ h => h); (case zhw1b => rfl); (case zhy1b => intro w hSw; (try dsimp only at hSw); go_simp; (try with_reducible rfl)); (try simp only [Act.put, List.setIfInBounds_toArray, List.set_cons_zero, List.set_cons_succ])
            refine' wpAnyH_take (i := 2) (oi := ?zoi2b) (v := ?zv2b) ?zhi2b (by kernel_rfl) (by kernel_rfl) (by kernel_rfl) ?zhQ2b (Or.inl ⟨?zhw2b, ?zhy2b⟩) (by assumption) ?zrest2b; (case zhi2b => simp only [List.getElem?_toArray, List.getElem?_cons_succ, List.getElem?_cons_zero]; exact rfl); (case zhQ2b => exact fun _ _ _ h => h); (case zhw2b => rfl); (case zhy2b => intro w hSw; (try dsimp only at hSw); go_simp; (try with_reducible rfl)); (try simp only [Act.put, List.setIfInBounds_toArray, List.set_cons_zero, List.set_cons_succ])
            refine' wpAnyH_take (i := 3) (oi := ?zoi3b) (v := ?zv3b) ?zhi3b (by kernel_rfl) (by kernel_rfl) (by kernel_rfl) ?zhQ3b (Or.inl ⟨?zhw3b, ?zhy3b⟩) (by assumption) ?zrest3b; (case zhi3b => simp only [List.getElem?_toArray, List.getElem?_cons_succ, List.getElem?_cons_zero]; exact rfl); (case zhQ3b => exact fun _ _ _ h => h); (case zhw3b => rfl); (case zhy3b => intro w hSw; (try dsimp only at hSw); go_simp; (try with_reducible rfl)); (try simp only [Act.put, List.setIfInBounds_toArray, List.set_cons_zero, List.set_cons_succ])
            refine' wpAnyH_take (i := 4) (oi := ?zoi4b) (v := ?zv4b) ?zhi4b (by kernel_rfl) (by kernel_rfl) (by kernel_rfl) ?zhQ4b (Or.inl ⟨?zhw4b, ?zhy4b⟩) (by assumption) ?zrest4b; (case zhi4b => simp only [List.getElem?_toArray, List.getElem?_cons_succ, List.getElem?_cons_zero]; exact rfl); (case zhQ4b => exact fun _ _ _ h => h); (case zhw4b => rfl); (case zhy4b => intro w hSw; (try dsimp only at hSw); go_simp; (try with_reducible rfl)); (try simp only [Act.put, List.setIfInBounds_toArray, List.set_cons_zero, List.set_cons_succ])
            refine' wpAnyH_take (i := 5) (oi := ?zoi5b) (v := ?zv5b) ?zhi5b (by kernel_rfl) (by kernel_rfl) (by kernel_rfl) ?zhQ5b (Or.inl ⟨?zhw5b, ?zhy5b⟩) (by assumption) ?zrest5b; (case zhi5b => simp only [List.getElem?_toArray, List.getElem?_cons_succ, List.getElem?_cons_zero]; exact rfl); (case zhQ5b => exact fun _ _ _ h => h); (case zhw5b => rfl); (case zhy5b => intro w hSw; (try dsimp only at hSw); go_simp; (try with_reducible rfl)); (try simp only [Act.put, List.setIfInBounds_toArray, List.set_cons_zero, List.set_cons_succ])
            refine' wpAnyH_take (i := 6) (oi := ?zoi6b) (v := ?zv6b) ?zhi6b (by kernel_rfl) (by kernel_rfl) (by kernel_rfl) ?zhQ6b (Or.inl ⟨?zhw6b, ?zhy6b⟩) (by assumption) ?zrest6b; (case zhi6b => simp only [List.getElem?_toArray, List.getElem?_cons_succ, List.getElem?_cons_zero]; exact rfl); (case zhQ6b => exact fun _ _ _ h => h); (case zhw6b => rfl); (case zhy6b => intro w hSw; (try dsimp only at hSw); go_simp; (try with_reducible rfl)); (try simp only [Act.put, List.setIfInBounds_toArray, List.set_cons_zero, List.set_cons_succ])
            refine' wpAnyH_take (i := 8) (oi := ?zoi8b) (v := ?zv8b) ?zhi8b (by kernel_rfl) (by kernel_rfl) (by kernel_rfl) ?zhQ8b (Or.inl ⟨?zhw8b, ?zhy8b⟩) (by assumption) ?zrest8b; (case zhi8b => simp only [List.getElem?_toArray, List.getElem?_cons_succ, List.getElem?_cons_zero]; exact rfl); (case zhQ8b => exact fun _ _ _ h => h); (case zhw8b => rfl); (case zhy8b => intro w hSw; (try dsimp only at hSw); go_simp; (try with_reducible rfl)); (try simp only [Act.put, List.setIfInBounds_toArray, List.set_cons_zero, List.set_cons_succ])
            refine' wpAnyH_take (i := 9) (oi := ?zoi9b) (v := ?zv9b) ?zhi9b (by kernel_rfl) (by kernel_rfl) (by kernel_rfl) ?zhQ9b (Or.inl ⟨?zhw9b, ?zhy9b⟩) (by assumption) ?zrest9b; (case zhi9b => simp only [List.getElem?_toArray, List.getElem?_cons_succ, List.getElem?_cons_zero]; exact rfl); (case zhQ9b => exact fun _ _ _ h => h); (case zhw9b => rfl); (case zhy9b => intro w hSw; (try dsimp only at hSw); go_simp; (try with_reducible rfl)); (try simp only [Act.put, List.setIfInBounds_toArray, List.set_cons_zero, List.set_cons_succ])
            refine' wpAnyH_take (i := 10) (oi := ?zoi10b) (v := ?zv10b) ?zhi10b (by kernel_rfl) (by kernel_rfl) (by kernel_rfl) ?zhQ10b (Or.inl ⟨?zhw10b, ?zhy10b⟩) (by assumption) ?zrest10b; (case zhi10b => simp only [List.getElem?_toArray, List.getElem?_cons_succ, List.getElem?_cons_zero]; exact rfl); (case zhQ10b => exact fun _ _ _ h => h); (case zhw10b => rfl); (case zhy10b => intro w hSw; (try dsimp only at hSw); go_simp; (try with_reducible rfl)); (try simp only [Act.put, List.setIfInBounds_toArray, List.set_cons_zero, List.set_cons_succ])
            refine' wpAnyH_take (i := 11) (oi := ?zoi11b) (v := ?zv11b) ?zhi11b (by kernel_rfl) (by kernel_rfl) (by kernel_rfl) ?zhQ11b (Or.inl ⟨?zhw11b, ?zhy11b⟩) (by assumption) ?zrest11b; (case zhi11b => simp only [List.getElem?_toArray, List.getElem?_cons_succ, List.getElem?_cons_zero]; exact rfl); (case zhQ11b => exact fun _ _ _ h => h); (case zhw11b => rfl); (case zhy11b => intro w hSw; (try dsimp only at hSw); go_simp; (try with_reducible rfl)); (try simp only [Act.put, List.setIfInBounds_toArray, List.set_cons_zero, List.set_cons_succ])
            refine wpAnyH_ready (rs := [7]) (by kernel_rfl) (by simp) ?_; refine AllReadyH.cons rfl (fun K hK => ?_) AllReadyH.nil; go_simp
            (with_reducible refine (refLine_any x _ HXN.out).mono ?_)
            rintro e w4 ⟨rfl, hb4⟩
            have HY : Hid (Ext w3 w4) := Ext.trans (by (repeat' (with_reducible first | exact Below.refl _ _ | refine Ext.drewN ?_ _ | refine Below.drew ?_ | refine Below.setCell ?_ ?_ _ | refine Below.alloc ?_ ?_ _)) <;> (first | omega | (simp; done) | (simp; omega))) hb4
            have HQ : Hid (Ext wr w4) := Ext.trans HQ.out HY.out
            clear hb4
            (try dsimp only)
            (try go_simp)
            refine hK.out _ _ (HBX.out _ HY.out) (fun hHeld => ?_)
            clear hK K
            (try simp only [Act.put, List.setIfInBounds_toArray, List.set_cons_zero, List.set_cons_succ])
            refine' wpAnyH_take (i := 12) (oi := ?zoi12b) (v := ?zv12b) ?zhi12b (by kernel_rfl) (by kernel_rfl) (by kernel_rfl) ?zhQ12b (Or.inl ⟨?zhw12b, ?zhy12b⟩) (by assumption) ?zrest12b; (case zhi12b => simp only [List.getElem?_toArray, List.getElem?_cons_succ, List.getElem?_cons_zero]; exact rfl); (case zhQ12b => exact fun _ _ _ h => h); (case zhw12b => rfl); (case zhy12b => intro w hSw; (try dsimp only at hSw); go_simp; (try with_reducible rfl)); (try simp only [Act.put, List.setIfInBounds_toArray, List.set_cons_zero, List.set_cons_succ])
            refine' wpAnyH_take (i := 13) (oi := ?zoi13b) (v := ?zv13b) ?zhi13b (by kernel_rfl) (by kernel_rfl) (by kernel_rfl) ?zhQ13b (Or.inl ⟨?zhw13b, ?zhy13b⟩) (by assumption) ?zrest13b; (case zhi13b => simp only [List.getElem?_toArray, List.getElem?_cons_succ, List.getElem?_cons_zero]; exact rfl); (case zhQ13b => exact fun _ _ _ h => h); (case zhw13b => rfl); (case zhy13b => intro w hSw; (try dsimp only at hSw); go_simp; (try with_reducible rfl)); (try simp only [Act.put, List.setIfInBounds_toArray, List.set_cons_zero, List.set_cons_succ])
            refine wpAnyH_done (by kernel_rfl) ?_ _
            go_wp2_with (at_builtin; refine wpList_push elREv ev_len ev_one rfl (.tmp 54) (.tmp 56) rfl _ acc rfl (HOW.out.ext (by (repeat' (with_reducible first | exact HQ.out | exact Below.refl _ _ | refine Ext.drewN ?_ _ | refine Below.drew ?_ | refine Below.setCell ?_ ?_ _ | refine Below.alloc ?_ ?_ _)) <;> (first | omega | (simp; done) | (simp; omega)))) (by simp; omega) _ 1 x rfl (Row1.made' (by simp) _ x.cells) (by omega) (by decide) ?_)
            · have hne : ¬ lineL x = tx := fun q => by
                have h := (str_eqb (lineL x) tx).trans (decide_eq_true q)
                have h2 : (!(lineL x).toList == tx.toList) = true := by assumption
                rw [h] at h2
                cases h2
              have HF2 : Hid (parseL s = ([], acc.length + 1, 50)) := by unfold Hid; rw [HFA.out, HAN.out (.inr hne)]
              go_ret3
              exact ⟨⟨_, by rw [HF2.out]; rfl, by rw [HF2.out]; exact Sl.nil _ _ _⟩, by (repeat' (with_reducible first | exact (Ext.trans B1.out (Ext.trans HB.out HQ.out)) | exact Below.refl _ _ | refine Ext.drewN ?_ _ | refine Below.drew ?_ | refine Below.setCell ?_ ?_ _ | refine Below.alloc ?_ ?_ _)) <;> (first | omega | (simp; done) | (simp; omega))⟩
            · have heq : lineL x = tx := by
                have h2 : (!(lineL x).toList == tx.toList) = false := by assumption
                rw [str_eqb] at h2
                simpa using h2
              have HF2 : Hid (parseL s = parseEnd (readOn (acc ++ [x]) (acc.length + 1) (ls.take n))) := by unfold Hid; rw [HFA.out, HLA2.out HTX.out heq]
              intro pA pc wp hp hgp
              have HX2 : Hid (Ext w1 wp) := (by (repeat' (with_reducible first | exact (Ext.trans HB.out HQ.out) | exact Below.refl _ _ | refine Ext.drewN ?_ _ | refine Below.drew ?_ | refine Below.setCell ?_ ?_ _ | refine Below.alloc ?_ ?_ _)) <;> (first | omega | (simp; done) | (simp; omega)) : Ext w1 _).grown hgp (by have := (Ext.trans HB.out HQ.out).size; first | omega | (simp; omega)) (fun j hj => (HOW.out.lt j hj).1)
              have HP := Lib.hid hp
              clear hp hgp heq
              go_wp2_with fail
              go_roundw
              case measure => simp [intOf]; omega
              case rel => exact ⟨acc.length + 1, acc ++ [x], by omega, by go_num, by simp, HP.out, HX2.out, HF2.out⟩
        · have q2 : decide ((acc.length : Int) + 1 < (n : Int) + 1) = false := decide_eq_false (by omega)
          have q2' : decide ((acc.length : Int) < (n : Int)) = false := decide_eq_false (by omega)
          have hkn : n ≤ acc.length := by omega
          have HD : Hid (parseL s = parseEnd (acc, none)) := by
            unfold Hid
            rw [HF.out]
            unfold readOn
            rw [List.drop_eq_nil_of_le (by rw [HTL.out]; omega)]
            simp [readAll]
          clear HF
          go_wp2_with fail
          refine (refJoin_any _ acc _ ((HOW.out.sl (R := REv) ev_len (fun _ => rfl)).ext (by (repeat' (with_reducible first | exact Below.refl _ _ | refine Ext.drewN ?_ _ | refine Below.drew ?_ | refine Below.setCell ?_ ?_ _ | refine Below.alloc ?_ ?_ _)) <;> (first | omega | (simp; done) | (simp; omega)))) (by omega)).mono ?_
          rintro e w3 ⟨⟨v3, rfl, hs3⟩, hb3⟩
          have HS3 := Lib.hid hs3
          have B3 := Lib.hid (Ext.trans (Ext.trans B1.out (by (repeat' (with_reducible first | exact HB.out | exact Below.refl _ _ | refine Ext.drewN ?_ _ | refine Below.drew ?_ | refine Below.setCell ?_ ?_ _ | refine Below.alloc ?_ ?_ _)) <;> (first | omega | (simp; done) | (simp; omega)) : Ext w1 _)) hb3)
          obtain ⟨wA, wc, rfl⟩ := hs3.form
          clear hs3 hb3
          have HD2 : Hid (parseL s = if (joinL acc).2.2 ≠ 0 then ([], (joinL acc).2.1 + 1, (joinL acc).2.2) else ((joinL acc).1, 0, 0)) := HD.out
          clear HD
          have hat : (joinL acc).2.1 ≤ 1000000 := by have := joinL_at acc; omega
          generalize joinL acc = jr at *
          obtain ⟨jl, at_, f⟩ := jr
          dsimp only at HS3 HD2 hat ⊢
          by_cases hf : f = 0
          · have q3 : (f != 0) = false := by simpa using hf
            have HD3 : Hid (parseL s = (jl, 0, 0)) := by unfold Hid; rw [HD2.out, if_neg (by simpa using hf)]
            clear hf
            go_wp2_with fail
            go_ret3
            exact ⟨⟨_, by rw [HD3.out]; rfl, by rw [HD3.out]; exact HS3.out.ext (by (repeat' (with_reducible first | exact Below.refl _ _ | refine Ext.drewN ?_ _ | refine Below.drew ?_ | refine Below.setCell ?_ ?_ _ | refine Below.alloc ?_ ?_ _)) <;> (first | omega | (simp; done) | (simp; omega)))⟩, by (repeat' (with_reducible first | exact B3.out | exact Below.refl _ _ | refine Ext.drewN ?_ _ | refine Below.drew ?_ | refine Below.setCell ?_ ?_ _ | refine Below.alloc ?_ ?_ _)) <;> (first | omega | (simp; done) | (simp; omega))⟩
          · have q3 : (f != 0) = true := by simpa using hf
            have HD3 : Hid (parseL s = ([], at_ + 1, f)) := by unfold Hid; rw [HD2.out, if_pos hf]
            clear hf
            go_wp2_with fail
            go_ret3
            exact ⟨⟨_, by rw [HD3.out]; rfl, by rw [HD3.out]; exact Sl.nil _ _ _⟩, by (repeat' (with_reducible first | exact B3.out | exact Below.refl _ _ | refine Ext.drewN ?_ _ | refine Below.drew ?_ | refine Below.setCell ?_ ?_ _ | refine Below.alloc ?_ ?_ _)) <;> (first | omega | (simp; done) | (simp; omega))⟩
    · have t1 : la.toList.isEmpty = false := str_cons la (fun q => hla (ByteArray.ext (Array.eq_empty_of_size_eq_zero q)))
      have t2 : ¬ la.toList = [] := fun q => by rw [q] at t1; cases t1
      have HV2 : Hid (parseL s = ([], ls.length, 42)) := by unfold Hid; rw [HV.out, HLA.out, if_pos hla]
      clear hla
      go_wp2_with fail
      go_ret3
      refine ⟨⟨_, by rw [HV2.out]; congr 1; dsimp only; rw [HLN.out]; rfl, by rw [HV2.out]; exact Sl.nil _ _ _⟩, by (repeat' (with_reducible first | exact B1.out | exact Below.refl _ _ | refine Ext.drewN ?_ _ | refine Below.drew ?_ | refine Below.setCell ?_ ?_ _ | refine Below.alloc ?_ ?_ _)) <;> (first | omega | (simp; done) | (simp; omega))⟩
end Go.Proofs.YtgpnockjonicpaaGreatDoor
namespace Go.Proofs.YtgpnockjonicpaaGreatDoor
set_option linter.unusedSimpArgs false
set_option linter.unusedVariables false
open Go.RowKit

set_option maxRecDepth 100000 in
set_option maxHeartbeats 4000000 in
theorem lawOf_any (x : EvD) (w : World) : Calls Tryz.prog 20 #[x.val] w fun e w' => e = .returned x.val ∧ Ext w w' := by
  go_enter Tryz.func20, Tryz.ntmps20
  go_wp2_with fail
  generalize hwf : World.alloc _ _ = wf
  have HF : Row1 wf (w.heap.size + 1) 48 x.cells := by
    subst hwf
    exact Row1.made' (by simp) 48 x.cells
  have HX : Ext w wf := by
    subst hwf
    (repeat' (with_reducible first | exact Below.refl _ _ | refine Ext.drewN ?_ _ | refine Below.drew ?_ | refine Below.setCell ?_ ?_ _ | refine Below.alloc ?_ ?_ _)) <;> (first | omega | (simp; done) | (simp; omega))
  obtain ⟨s0, s1, s2, s3, s4, s5, s6, s7, s8, s9⟩ := At10.row HF
  clear hwf
  exact bodyPost_ret (v := .agg #[.int .i64 x.time, .int .i64 x.proc, .bool x.answer, .int .i64 x.id, .int .i64 x.object, .int .i64 x.kind, .int .i64 x.method, .int .i64 x.arg, .int .i64 x.second, .int .i64 x.result]) (by simp [results, Tryz.results20, go_sem, s0, s1, s2, s3, s4, s5, s6, s7, s8, s9]) rfl ⟨rfl, HX⟩
set_option maxRecDepth 100000 in
set_option maxHeartbeats 4000000 in
theorem lawAll_any (V : Value) (xs : List EvD) (w : World) (hs : Sl w 10 REv V xs) (hn : xs.length ≤ 100000000) :
    Calls Tryz.prog 8 #[V] w fun e w' => (∃ v, e = .returned v ∧ Sl w' 10 REv v xs) ∧ Ext w w' := by
  obtain ⟨A, c, rfl⟩ := hs.form
  obtain ⟨_, hc1, hc2, hA⟩ := hs.at
  clear hA
  have HS := Lib.hid hs
  clear hs
  go_enter Tryz.func8, Tryz.ntmps8
  go_wp2_with fail
  go_loopw [3, 4] (fun v i wr => ∃ (k : Nat), k ≤ xs.length ∧ i = .int .i64 k ∧ OwnL wr w.heap.size 48 10 EvD.cells v (xs.take k) ∧ Ext w wr) (fun _ i _ => xs.length - (intOf i).toNat)
  case atStart => exact ⟨0, by omega, rfl, OwnL.nil _ _ _ _ _, Ext.refl _⟩
  case round =>
    obtain ⟨k, hk, rfl, hown, hb⟩ := hrel
    have HOW := Lib.hid hown
    have HB := Lib.hid hb
    have hz := hb.size
    obtain ⟨vA, vc, rfl⟩ := hown.form
    clear hown hb
    by_cases hlt : k < xs.length
    · have hd : decide ((k : Int) < (xs.length : Int)) = true := by simp; omega
      obtain ⟨b, off, rfl, hbl, hcell⟩ := HS.out.evs_at (by omega)
      obtain ⟨e0, e1, e2, e3, e4, e5, e6, e7, e8, e9⟩ := hcell k hlt wr HB.out
      have HT : Hid (xs.take (k + 1) = xs.take k ++ [xs[k]]) := List.take_succ_eq_append_getElem hlt
      have htl : (xs.take k).length = k := by rw [List.length_take]; omega
      have hbw : b < wr.heap.size := by omega
      clear hcell
      generalize xs[k] = x at *
      generalize xs.take k = done at *
      subst htl
      go_wp2_with fail
      refine (lawOf_any x _).mono ?_
      rintro e w2 ⟨rfl, hb2⟩
      have B2 := Lib.hid (Ext.trans HB.out hb2)
      have B3 := Lib.hid hb2
      have hz2 := B2.out.size
      clear e0 e1 e2 e3 e4 e5 e6 e7 e8 e9 hb2
      go_wp2_with (at_builtin; refine wpList_push elEv ev_len ev_one rfl (.tmp 11) (.tmp 17) rfl _ done rfl ((HOW.out.ext B3.out).ext (by (repeat' (with_reducible first | exact Below.refl _ _ | refine Ext.drewN ?_ _ | refine Below.drew ?_ | refine Below.setCell ?_ ?_ _ | refine Below.alloc ?_ ?_ _)) <;> (first | omega | (simp; done) | (simp; omega)))) (by simp; omega) _ 1 x rfl (Row1.made' (by simp) _ x.cells) (by omega) (by decide) ?_)
      intro pA pc wp hp hgp
      have HX2 : Hid (Ext w wp) := (by (repeat' (with_reducible first | exact B2.out | exact Below.refl _ _ | refine Ext.drewN ?_ _ | refine Below.drew ?_ | refine Below.setCell ?_ ?_ _ | refine Below.alloc ?_ ?_ _)) <;> (first | omega | (simp; done) | (simp; omega)) : Ext w _).grown hgp (by have := B2.out.size; first | omega | (simp; omega)) (fun j hj => (HOW.out.lt j hj).1)
      have HP := Lib.hid hp
      clear hp hgp
      go_wp2_with fail
      go_roundw
      case measure => simp [intOf]; omega
      case rel => exact ⟨done.length + 1, by omega, by go_num, by rw [HT.out]; exact HP.out, HX2.out⟩
    · obtain rfl : k = xs.length := by omega
      have hd : decide ((xs.length : Int) < (xs.length : Int)) = false := by simp
      rw [List.take_length] at HOW
      have htl : (xs.take xs.length).length = xs.length := by rw [List.length_take]; omega
      rw [List.take_length]
      go_wp2_with fail
      go_ret
      exact ⟨⟨_, rfl, HOW.out.sl ev_len (fun _ => rfl)⟩, HB.out⟩
end Go.Proofs.YtgpnockjonicpaaGreatDoor
