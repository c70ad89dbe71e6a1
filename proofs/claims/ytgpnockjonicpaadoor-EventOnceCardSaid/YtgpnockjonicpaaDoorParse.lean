/- event.Parse. Conditions: none on the text; a variable of the library's own holds an int. -/
import Derived.Test.YtgpnockjonicpaaDoorRead4
import Derived.Test.YtgpnockjonicpaaDoorSplit
namespace Go.Proofs.YtgpnockjonicpaaDoor
set_option linter.unusedSimpArgs false
set_option linter.unusedVariables false
open Go.RowKit

theorem Tryd.infoEv : (Tryd.prog.info? 42).map (fun i => (i.zero, i.size, i.bytes)) = some (some evZero.val, 10, 80) := by kernel_rfl
theorem elEv : Elem Tryd.prog 25 42 10 80 := Elem.of Tryd.underlying25 Tryd.infoEv rfl (by decide)
/-- the events of lines; or the number of the first line that is none -/
def readAll : Nat → List ByteArray → List EvD × Option Nat
  | _, [] => ([], none)
  | i, t :: r => match accP (splitS t 32) with
    | none => ([], some i)
    | some e => (e :: (readAll (i + 1) r).1, (readAll (i + 1) r).2)
def parseEnd (r : List EvD × Option Nat) : List OpD × Nat × Int :=
  match r.2 with
  | some i => ([], i + 1, 50)
  | none => if (joinL r.1).2.2 ≠ 0 then ([], (joinL r.1).2.1 + 1, (joinL r.1).2.2) else ((joinL r.1).1, 0, 0)
def lastS (ls : List ByteArray) : ByteArray := ls.getLastD ⟨#[]⟩
/-- which history a text is -/
def parseL (s : ByteArray) : List OpD × Nat × Int :=
  if 65536 < s.size then ([], 0, 2)
  else if lastS (splitS s 10) ≠ ⟨#[]⟩ then ([], (splitS s 10).length, 42)
  else parseEnd (readAll 0 (splitS s 10).dropLast)
/-- with events ahead -/
def readOn (acc : List EvD) (k : Nat) (ls : List ByteArray) : List EvD × Option Nat := (acc ++ (readAll k (ls.drop k)).1, (readAll k (ls.drop k)).2)
theorem readOn_at (acc : List EvD) (k : Nat) (ls : List ByteArray) (h : k < ls.length) :
    parseEnd (readOn acc k ls) = match accP (splitS ls[k] 32) with | none => ([], k + 1, 50) | some e => parseEnd (readOn (acc ++ [e]) (k + 1) ls) := by
  unfold readOn
  rw [List.drop_eq_getElem_cons h, readAll]
  cases accP (splitS ls[k] 32) with
  | none => rfl
  | some e => simp
theorem acc_ok {ws : List ByteArray} {v : EvD} (h : accP ws = some v) : EvOk v := by
  have hb : ∀ x, okW x = true → (Lit.int .i64 (numV x)).wf = true := fun x hx => by
    have := okW_bound x hx
    have e1 : IntKind.i64.min = -9223372036854775808 := by decide
    have e2 : IntKind.i64.max = 9223372036854775807 := by decide
    simp only [Lit.wf, Bool.and_eq_true, decide_eq_true_eq, e1, e2]
    omega
  unfold accP okI okA at h
  split at h
  · split at h
    · rename_i h1
      simp only [Bool.and_eq_true] at h1
      injection h with h
      subst h
      have := okW_bound _ h1.1.2
      exact ⟨hb _ h1.1.1.1.2, hb _ h1.1.1.2, by show -9223372036854775808 ≤ numV _; omega, by show numV _ ≤ 9223372036854775807; omega⟩
    · cases h
  · split at h
    · have fin : ∀ a s, (((okW (hd ws 0) = true ∧ okW (hd ws 1) = true) ∧ okW (hd ws 3) = true) ∧ okW (hd ws 4) = true) → EvOk (evInv ws a s) := fun a s h1 => ⟨hb _ h1.1.1.2, hb _ h1.1.2, by show (-9223372036854775808 : Int) ≤ 0; omega, by show (0 : Int) ≤ 9223372036854775807; omega⟩
      split at h
      · split at h
        · rename_i h1
          simp only [Bool.and_eq_true] at h1
          injection h with h
          subst h
          exact fin _ _ h1.1.1.1
        · cases h
      · split at h
        · split at h
          · rename_i h1
            simp only [Bool.and_eq_true] at h1
            injection h with h
            subst h
            exact fin _ _ h1.1.1.1.1
          · cases h
        · split at h
          · rename_i h1
            simp only [Bool.and_eq_true] at h1
            injection h with h
            subst h
            exact fin _ _ h1.1.1.1.1.1
          · cases h
    · cases h

theorem joinFrom_le : ∀ (xs : List EvD) (k : Nat) (p : Option EvD) (l : List OpD), (joinFrom k p l xs).2.1 ≤ k + xs.length
  | [], k, p, l => by simp [joinFrom]
  | x :: r, k, p, l => by
    unfold joinFrom
    split
    · simp
    · split
      · simp
      · have := joinFrom_le r (k + 1) (some x) (stepL l x).1
        simp
        omega
theorem joinL_at (xs : List EvD) : (joinL xs).2.1 ≤ xs.length := by
  have := joinFrom_le xs 0 none []
  unfold joinL joinEnd
  split
  · omega
  · split
    · exact Nat.le_refl _
    · exact Nat.le_refl _
set_option maxRecDepth 100000 in
set_option maxHeartbeats 8000000 in
theorem parse_any (s : ByteArray) (m : Int) (w : World) (hm : w.cell? ⟨0, 0, none⟩ = some (.int .i64 m)) :
    Calls Tryd.prog 13 #[.string s] w fun e w' => (∃ v, e = .returned (.tuple #[v, .int .i64 (parseL s).2.1, .int .i64 (parseL s).2.2]) ∧ Sl w' 11 ROp v (parseL s).1) ∧ Ext w w' := by
  have HV : Hid (parseL s = if 65536 < s.size then ([], 0, 2) else if lastS (splitS s 10) ≠ ⟨#[]⟩ then ([], (splitS s 10).length, 42) else parseEnd (readAll 0 (splitS s 10).dropLast)) := rfl
  have HM := Lib.hid hm
  have hw0 : 0 < w.heap.size := World.block_lt_of_cell? _ _ hm
  clear hm
  by_cases hbig : 65536 < s.size
  · have q1 : decide (65536 < (s.size : Int)) = true := by simp; omega
    rw [if_pos hbig] at HV
    clear hbig
    go_enter Tryd.func13, Tryd.ntmps13
    go_wp2_with fail
    go_ret3
    exact ⟨⟨_, by rw [HV.out]; rfl, by rw [HV.out]; exact Sl.nil _ _ _⟩, Ext.refl _⟩
  · have q1 : decide (65536 < (s.size : Int)) = false := by simp; omega
    have hs : s.size ≤ 65536 := by omega
    rw [if_neg hbig] at HV
    clear hbig
    go_enter Tryd.func13, Tryd.ntmps13
    go_wp2_with fail
    refine (split_any s 10 m _ (by omega) HM.out).mono ?_
    rintro e w1 ⟨rfl, hr1, hb1⟩
    have HW1 : Hid (0 < w1.heap.size) := by have := hr1.lt; unfold Hid; omega
    have HSZ : Hid (∀ p ∈ splitS s 10, p.size ≤ 65536) := fun p hp => Nat.le_trans (splitS_size s 10 p hp) hs
    obtain ⟨hl1, hl2⟩ := splitS_count s 10
    have R1 := Lib.hid hr1
    have B1 := Lib.hid hb1
    have hbl := hr1.lt
    clear hr1 hb1
    generalize splitS s 10 = ls at *
    obtain ⟨n, hn⟩ : ∃ n, ls.length = n + 1 := ⟨ls.length - 1, by omega⟩
    have HC : Hid (∀ (k : Nat) (hk : k < ls.length), w1.cell? ⟨w.heap.size, k, none⟩ = some (.string ls[k])) := fun k hk => by
      rw [R1.out.cell, List.getElem?_map, List.getElem?_eq_getElem hk]
      rfl
    have cl := HC.out n (by omega)
    have HLA : Hid (lastS ls = ls[n]'(by omega)) := by
      unfold Hid lastS
      rw [List.getLastD_eq_getLast?, List.getLast?_eq_getElem?, show ls.length - 1 = n by omega, List.getElem?_eq_getElem (show n < ls.length by omega)]
      rfl
    have HLN := Lib.hid hn
    rw [hn]
    generalize ls[n]'(by omega) = la at *
    have i1 : (0 : Int) ≤ (n : Int) := by omega
    have i2 : (n : Int) < (n : Int) + 1 := by omega
    have i3 : (n : Int) ≤ (n : Int) + 1 := by omega
    clear hn
    have hlen : (ls.length : Int) = (n : Int) + 1 := by have := HLN.out; omega
    by_cases hla : la = ⟨#[]⟩
    · have HV2 : Hid (parseL s = parseEnd (readOn [] 0 (ls.take n))) := by
        unfold Hid
        rw [HV.out, HLA.out, hla, if_neg (by simp), List.dropLast_eq_take, show ls.length - 1 = n by have := HLN.out; omega]
        rfl
      subst hla
      have t1 : ((⟨#[]⟩ : ByteArray).toList.isEmpty) = true := by rw [str_nil _ rfl]; rfl
      have t2 : (⟨#[]⟩ : ByteArray).toList = [] := str_nil _ rfl
      go_wp2_with fail
      have HC2 : Hid (∀ (k : Nat) (hk : k < n), (ls.take n)[k]'(by rw [List.length_take]; have := HLN.out; omega) = ls[k]'(by have := HLN.out; omega)) := fun k hk => by rw [List.getElem_take]
      have HTL : Hid ((ls.take n).length = n) := by unfold Hid; rw [List.length_take]; have := HLN.out; omega
      clear t1 t2 cl HV
      go_loopw [6, 34] (fun v i wr => ∃ (k : Nat) (acc : List EvD), k ≤ n ∧ i = .int .i64 k ∧ acc.length = k ∧ (∀ x ∈ acc, EvOk x) ∧ OwnL wr w1.heap.size 42 10 EvD.cells v acc ∧ Ext w1 wr ∧ parseL s = parseEnd (readOn acc k (ls.take n))) (fun _ i _ => n - (intOf i).toNat)
      case atStart => exact ⟨0, [], by omega, rfl, rfl, (fun x h => by cases h), OwnL.nil _ _ _ _ _, Ext.refl _, HV2.out⟩
      case round =>
        obtain ⟨k, acc, hk, rfl, hacc, hok, hown, hb, hseq⟩ := hrel
        subst hacc
        have HOK := Lib.hid hok
        have HOW := Lib.hid hown
        have HB := Lib.hid hb
        have HF := Lib.hid hseq
        obtain ⟨vA, vc, rfl⟩ := hown.form
        have hzw := hb.size
        clear hok hown hb hseq HV2
        by_cases hlt : acc.length < n
        · have q2 : decide ((acc.length : Int) < (n : Int)) = true := by simp; omega
          have hkl : acc.length < ls.length := by omega
          have ck := (HB.out.cell (p := ⟨w.heap.size, acc.length, none⟩) hbl).trans (HC.out acc.length hkl)
          have HFA : Hid (parseL s = match accP (splitS ls[acc.length] 32) with | none => ([], acc.length + 1, 50) | some e => parseEnd (readOn (acc ++ [e]) (acc.length + 1) (ls.take n))) := by
            unfold Hid
            rw [HF.out, readOn_at acc acc.length (ls.take n) (by rw [HTL.out]; exact hlt), HC2.out acc.length hlt]
          have htz := HSZ.out ls[acc.length] (List.getElem_mem hkl)
          have HMR : Hid (∀ W : World, Ext wr W → W.cell? ⟨0, 0, none⟩ = some (.int .i64 m)) := fun W h => (h.cell (p := ⟨0, 0, none⟩) (by have := HW1.out; show 0 < wr.heap.size; omega)).trans ((HB.out.cell (p := ⟨0, 0, none⟩) HW1.out).trans ((B1.out.cell (p := ⟨0, 0, none⟩) hw0).trans HM.out))
          clear HF
          generalize ls[acc.length] = tx at *
          go_wp2_with fail
          refine (split_any tx 32 m _ (by omega) (HMR.out _ (by (repeat' (with_reducible first | exact Below.refl _ _ | refine Ext.drewN ?_ _ | refine Below.drew ?_ | refine Below.setCell ?_ ?_ _ | refine Below.alloc ?_ ?_ _)) <;> (first | omega | (simp; done) | (simp; omega))))).mono ?_
          rintro e w2 ⟨rfl, hr2, hb2⟩
          have R2 := Lib.hid hr2
          have B2 := Lib.hid (Ext.trans (by (repeat' (with_reducible first | exact Below.refl _ _ | refine Ext.drewN ?_ _ | refine Below.drew ?_ | refine Below.setCell ?_ ?_ _ | refine Below.alloc ?_ ?_ _)) <;> (first | omega | (simp; done) | (simp; omega)) : Ext wr _) hb2)
          have hz2 := B2.out.size
          have hwsz : Hid (∀ x ∈ splitS tx 32, x.size ≤ 1000000) := fun x hx => by have := splitS_size tx 32 x hx; omega
          have hwl := (splitS_count tx 32).2
          have hrl := hr2.lt
          clear hr2 hb2 ck
          generalize splitS tx 32 = ws at *
          go_wp2_with fail
          refine (read_any w2.heap.size (w2.heap.size + 1) ws _ ⟨_, ws.length, Row1.made w2 74 [.slice (some ⟨wr.heap.size, 0, none⟩) ws.length ws.length, .bool true], (row_sl R2.out (by omega)).ext (Ext.alloc _ _), by simp [Value.ownBlock]; omega, by omega, by simp [Value.ownBlock]; omega⟩ (by simp) hwsz.out).mono ?_
          rintro e w3 ⟨v, ok, rest, rfl, hrd, ho3, hres⟩
          have HRES := Lib.hid hres
          have B3 : Hid (Ext wr w3) := ((Only.of (by (repeat' (with_reducible first | exact B2.out | exact Below.refl _ _ | refine Ext.drewN ?_ _ | refine Below.drew ?_ | refine Below.setCell ?_ ?_ _ | refine Below.alloc ?_ ?_ _)) <;> (first | omega | (simp; done) | (simp; omega)) : Ext wr _)).trans ho3 (fun i q => .inl q)).toExt (F := fun i => i = w2.heap.size) (fun i q => by subst q; exact hz2)
          have hz3 := ho3.size
          simp at hz3
          have hl3 : w2.heap.size < w3.heap.size := by omega
          obtain ⟨rA, rc, hrow, hrs, _⟩ := hrd
          have c0 := hrow.cell 0
          have c1 := hrow.cell 1
          simp only [List.getElem?_cons_zero, List.getElem?_cons_succ] at c0 c1
          clear hres ho3 hrow hrs
          by_cases hgood : (ok && rest.isEmpty) = true
          · have hac : accP ws = some v := by have := HRES.out; unfold ReadRes at this; rw [this, if_pos hgood]
            have HOV := Lib.hid (acc_ok hac)
            have HF2 : Hid (parseL s = parseEnd (readOn (acc ++ [v]) (acc.length + 1) (ls.take n))) := by unfold Hid; rw [HFA.out, hac]
            simp only [Bool.and_eq_true, List.isEmpty_iff] at hgood
            obtain ⟨rfl, rfl⟩ := hgood
            simp only [List.length_nil] at c0
            clear hac HFA HRES
            go_wp2_with (at_builtin; refine wpList_push elEv ev_len ev_one rfl (.tmp 60) (.tmp 62) rfl _ acc rfl ((HOW.out.ext B3.out).ext (by (repeat' (with_reducible first | exact Below.refl _ _ | refine Ext.drewN ?_ _ | refine Below.drew ?_ | refine Below.setCell ?_ ?_ _ | refine Below.alloc ?_ ?_ _)) <;> (first | omega | (simp; done) | (simp; omega)))) (by simp; omega) _ 1 v rfl (Row1.made' (by simp) _ v.cells) (by omega) (by decide) ?_)
            intro pA pc wp hp hgp
            have HX2 : Hid (Ext w1 wp) := (by (repeat' (with_reducible first | exact (Ext.trans HB.out B3.out) | exact Below.refl _ _ | refine Ext.drewN ?_ _ | refine Below.drew ?_ | refine Below.setCell ?_ ?_ _ | refine Below.alloc ?_ ?_ _)) <;> (first | omega | (simp; done) | (simp; omega)) : Ext w1 _).grown hgp (by have := (Ext.trans HB.out B3.out).size; first | omega | (simp; omega)) (fun j hj => (HOW.out.lt j hj).1)
            have HP := Lib.hid hp
            clear hp hgp
            go_wp2_with fail
            go_roundw
            case measure => simp [intOf]; omega
            case rel => exact ⟨acc.length + 1, acc ++ [v], by omega, by go_num, by simp, (fun x hx => by rcases List.mem_append.1 hx with h | h; exact HOK.out x h; simp at h; subst h; exact HOV.out), HP.out.ext (by (repeat' (with_reducible first | exact Below.refl _ _ | refine Ext.drewN ?_ _ | refine Below.drew ?_ | refine Below.setCell ?_ ?_ _ | refine Below.alloc ?_ ?_ _)) <;> (first | omega | (simp; done) | (simp; omega))), by (repeat' (with_reducible first | exact HX2.out | exact Below.refl _ _ | refine Ext.drewN ?_ _ | refine Below.drew ?_ | refine Below.setCell ?_ ?_ _ | refine Below.alloc ?_ ?_ _)) <;> (first | omega | (simp; done) | (simp; omega)), HF2.out⟩
          · have hac : accP ws = none := by have := HRES.out; unfold ReadRes at this; rw [this, if_neg hgood]
            have HF2 : Hid (parseL s = ([], acc.length + 1, 50)) := by unfold Hid; rw [HFA.out, hac]
            clear hac HFA HRES
            cases ok with
            | false =>
              clear hgood
              go_wp2_with fail
              go_ret3
              exact ⟨⟨_, by rw [HF2.out]; rfl, by rw [HF2.out]; exact Sl.nil _ _ _⟩, by (repeat' (with_reducible first | exact (Ext.trans B1.out (Ext.trans HB.out B3.out)) | exact Below.refl _ _ | refine Ext.drewN ?_ _ | refine Below.drew ?_ | refine Below.setCell ?_ ?_ _ | refine Below.alloc ?_ ?_ _)) <;> (first | omega | (simp; done) | (simp; omega))⟩
            | true =>
              have hL : 0 < rest.length := by
                cases rest with
                | nil => simp at hgood
                | cons _ _ => simp
              clear hgood
              generalize rest.length = L at *
              have q3 : decide (0 < (L : Int)) = true := by simp; omega
              go_wp2_with fail
              go_ret3
              exact ⟨⟨_, by rw [HF2.out]; rfl, by rw [HF2.out]; exact Sl.nil _ _ _⟩, by (repeat' (with_reducible first | exact (Ext.trans B1.out (Ext.trans HB.out B3.out)) | exact Below.refl _ _ | refine Ext.drewN ?_ _ | refine Below.drew ?_ | refine Below.setCell ?_ ?_ _ | refine Below.alloc ?_ ?_ _)) <;> (first | omega | (simp; done) | (simp; omega))⟩
        · have q2 : decide ((acc.length : Int) < (n : Int)) = false := by simp; omega
          have hkn : n ≤ acc.length := by omega
          have HD : Hid (parseL s = parseEnd (acc, none)) := by
            unfold Hid
            rw [HF.out]
            unfold readOn
            rw [List.drop_eq_nil_of_le (by rw [HTL.out]; omega)]
            simp [readAll]
          clear HF
          go_wp2_with fail
          refine (join_any _ acc _ ((HOW.out.sl (R := REv) ev_len (fun _ => rfl)).ext (by (repeat' (with_reducible first | exact Below.refl _ _ | refine Ext.drewN ?_ _ | refine Below.drew ?_ | refine Below.setCell ?_ ?_ _ | refine Below.alloc ?_ ?_ _)) <;> (first | omega | (simp; done) | (simp; omega)))) (by omega) HOK.out).mono ?_
          rintro e w3 ⟨⟨v3, rfl, hs3⟩, hb3⟩
          have HS3 := Lib.hid hs3
          have B3 := Lib.hid (Ext.trans (Ext.trans B1.out (by (repeat' (with_reducible first | exact HB.out | exact Below.refl _ _ | refine Ext.drewN ?_ _ | refine Below.drew ?_ | refine Below.setCell ?_ ?_ _ | refine Below.alloc ?_ ?_ _)) <;> (first | omega | (simp; done) | (simp; omega)) : Ext w1 _)) hb3)
          obtain ⟨wA, wc, rfl⟩ := hs3.form
          clear hs3 hb3
          have HD2 : Hid (parseL s = if (joinL acc).2.2 ≠ 0 then ([], (joinL acc).2.1 + 1, (joinL acc).2.2) else ((joinL acc).1, 0, 0)) := HD.out
          clear HD
          have hat : (joinL acc).2.1 ≤ 1000000 := by have := joinL_at acc; omega
          generalize joinL acc = jr at *
          obtain ⟨jl, at_, f⟩ := jr
          dsimp only at HS3 HD2 hat ⊢
          by_cases hf : f = 0
          · have q3 : (f != 0) = false := by simpa using hf
            have HD3 : Hid (parseL s = (jl, 0, 0)) := by unfold Hid; rw [HD2.out, if_neg (by simpa using hf)]
            clear hf
            go_wp2_with fail
            go_ret3
            exact ⟨⟨_, by rw [HD3.out]; rfl, by rw [HD3.out]; exact HS3.out.ext (by (repeat' (with_reducible first | exact Below.refl _ _ | refine Ext.drewN ?_ _ | refine Below.drew ?_ | refine Below.setCell ?_ ?_ _ | refine Below.alloc ?_ ?_ _)) <;> (first | omega | (simp; done) | (simp; omega)))⟩, by (repeat' (with_reducible first | exact B3.out | exact Below.refl _ _ | refine Ext.drewN ?_ _ | refine Below.drew ?_ | refine Below.setCell ?_ ?_ _ | refine Below.alloc ?_ ?_ _)) <;> (first | omega | (simp; done) | (simp; omega))⟩
          · have q3 : (f != 0) = true := by simpa using hf
            have HD3 : Hid (parseL s = ([], at_ + 1, f)) := by unfold Hid; rw [HD2.out, if_pos hf]
            clear hf
            go_wp2_with fail
            go_ret3
            exact ⟨⟨_, by rw [HD3.out]; rfl, by rw [HD3.out]; exact Sl.nil _ _ _⟩, by (repeat' (with_reducible first | exact B3.out | exact Below.refl _ _ | refine Ext.drewN ?_ _ | refine Below.drew ?_ | refine Below.setCell ?_ ?_ _ | refine Below.alloc ?_ ?_ _)) <;> (first | omega | (simp; done) | (simp; omega))⟩
    · have t1 : la.toList.isEmpty = false := str_cons la (fun q => hla (ByteArray.ext (Array.eq_empty_of_size_eq_zero q)))
      have t2 : ¬ la.toList = [] := fun q => by rw [q] at t1; cases t1
      have HV2 : Hid (parseL s = ([], ls.length, 42)) := by unfold Hid; rw [HV.out, HLA.out, if_pos hla]
      clear hla
      go_wp2_with fail
      go_ret3
      refine ⟨⟨_, by rw [HV2.out]; congr 1; dsimp only; rw [HLN.out]; rfl, by rw [HV2.out]; exact Sl.nil _ _ _⟩, by (repeat' (with_reducible first | exact B1.out | exact Below.refl _ _ | refine Ext.drewN ?_ _ | refine Below.drew ?_ | refine Below.setCell ?_ ?_ _ | refine Below.alloc ?_ ?_ _)) <;> (first | omega | (simp; done) | (simp; omega))⟩
end Go.Proofs.YtgpnockjonicpaaDoor
