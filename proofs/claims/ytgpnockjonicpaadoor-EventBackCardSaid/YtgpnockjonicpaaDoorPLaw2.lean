/- Plain: a line that is read and written again is itself just if its words are an event. No conditions. -/
/- Plain: see PLaw. -/
import Derived.Test.YtgpnockjonicpaaDoorRPar4
import Derived.Test.YtgpnockjonicpaaDoorParse
namespace Go.Proofs.YtgpnockjonicpaaDoor
set_option linter.unusedSimpArgs false
set_option linter.unusedVariables false
open Go.RowKit

/-- pieces with a space between -/
def joinC : List (List UInt8) → List UInt8
  | [] => []
  | [a] => a
  | a :: b :: r => a ++ 32 :: joinC (b :: r)
theorem splitC_one (c : UInt8) : ∀ a : List UInt8, c ∉ a → splitC c a = [a]
  | [], _ => rfl
  | x :: a, h => by
    have h1 : ¬ x = c := fun e => h (by rw [e]; exact List.mem_cons_self)
    rw [splitC, if_neg h1, splitC_one c a (fun q => h (List.mem_cons_of_mem _ q))]
theorem splitC_app (c : UInt8) (r : List UInt8) : ∀ a : List UInt8, c ∉ a → splitC c (a ++ c :: r) = a :: splitC c r
  | [], _ => by rw [List.nil_append, splitC, if_pos rfl]
  | x :: a, h => by
    have h1 : ¬ x = c := fun e => h (by rw [e]; exact List.mem_cons_self)
    rw [List.cons_append, splitC, if_neg h1, splitC_app c r a (fun q => h (List.mem_cons_of_mem _ q))]
theorem split_join : ∀ ls : List (List UInt8), ls ≠ [] → (∀ l ∈ ls, (32 : UInt8) ∉ l) → splitC 32 (joinC ls) = ls
  | [], h, _ => absurd rfl h
  | [a], _, h => splitC_one 32 a (h a (by simp))
  | a :: b :: r, _, h => by
    rw [joinC, splitC_app 32 _ a (h a (by simp)), split_join (b :: r) (by simp) (fun l hl => h l (List.mem_cons_of_mem _ hl))]
theorem join_cons (a : List UInt8) (r : List (List UInt8)) (h : r ≠ []) : joinC (a :: r) = a ++ 32 :: joinC r := by
  cases r with
  | nil => exact absurd rfl h
  | cons b r => rfl
theorem join_push (x : UInt8) (a : List UInt8) (r : List (List UInt8)) : joinC ((x :: a) :: r) = x :: joinC (a :: r) := by
  cases r <;> rfl
theorem join_split : ∀ l : List UInt8, joinC (splitC 32 l) = l
  | [] => rfl
  | x :: l => by
    rw [splitC]
    split
    · rename_i h
      rw [join_cons _ _ (splitC_ne 32 l), join_split l, h]
      rfl
    · have ih := join_split l
      cases q : splitC 32 l with
      | nil => exact absurd q (splitC_ne 32 l)
      | cons a r =>
        rw [q] at ih
        simp only []
        rw [join_push, ih]
def joinB (ws : List ByteArray) : ByteArray := strL (joinC (ws.map (fun w => w.data.toList)))
theorem map_data_strL (ls : List (List UInt8)) : (ls.map strL).map (fun w => w.data.toList) = ls := by
  rw [List.map_map]
  conv => rhs; rw [← List.map_id ls]
  exact List.map_congr_left (fun a _ => by simp [strL])
theorem map_strL_data (ws : List ByteArray) : (ws.map (fun w => w.data.toList)).map strL = ws := by
  rw [List.map_map]
  conv => rhs; rw [← List.map_id ws]
  exact List.map_congr_left (fun a _ => strL_data a)
theorem joinB_split (t : ByteArray) : joinB (splitS t 32) = t := by
  unfold joinB splitS
  rw [map_data_strL, join_split, strL_data]
theorem splitB_join (ws : List ByteArray) (h0 : ws ≠ []) (h : ∀ w ∈ ws, (32 : UInt8) ∉ w.data.toList) : splitS (joinB ws) 32 = ws := by
  have e : (joinB ws).data.toList = joinC (ws.map (fun w => w.data.toList)) := by unfold joinB strL; simp
  unfold splitS
  rw [e, split_join _ (by simpa using h0) (fun l hl => by obtain ⟨w, hw, rfl⟩ := List.mem_map.1 hl; exact h w hw), map_strL_data]
theorem dig32 {l : List UInt8} (h : l.all digB = true) : (32 : UInt8) ∉ l := fun q => by
  have := List.all_eq_true.1 h 32 q
  exact absurd this (by decide)
theorem num32 (v : Int) : (32 : UInt8) ∉ (numS v).data.toList := by
  unfold numS strL numL
  simp only []
  split
  · intro q
    rcases List.mem_cons.1 q with q | q
    · exact absurd q (by decide)
    · exact dig32 (dec_dig _).1 q
  · exact dig32 (dec_dig _).1
theorem kind32 (k : Nat) : (32 : UInt8) ∉ (kindS k).data.toList := by
  by_cases h : k < 7
  · have h2 : k = 0 ∨ k = 1 ∨ k = 2 ∨ k = 3 ∨ k = 4 ∨ k = 5 ∨ k = 6 := by omega
    rcases h2 with rfl | rfl | rfl | rfl | rfl | rfl | rfl <;> decide
  · unfold kindS
    rw [List.getElem?_eq_none (by simp [kindNames]; omega)]
    decide
theorem meth32 (k : Nat) : (32 : UInt8) ∉ (methS k).data.toList := by
  by_cases h : k < 15
  · have h2 : k = 0 ∨ k = 1 ∨ k = 2 ∨ k = 3 ∨ k = 4 ∨ k = 5 ∨ k = 6 ∨ k = 7 ∨ k = 8 ∨ k = 9 ∨ k = 10 ∨ k = 11 ∨ k = 12 ∨ k = 13 ∨ k = 14 := by omega
    rcases h2 with rfl | rfl | rfl | rfl | rfl | rfl | rfl | rfl | rfl | rfl | rfl | rfl | rfl | rfl | rfl <;> decide
  · unfold methS
    rw [List.getElem?_eq_none (by simp [methNames]; omega)]
    decide
theorem ba_ext {a b : ByteArray} (h : a.data.toList = b.data.toList) : a = b := ByteArray.ext (Array.toList_inj.1 h)
theorem joinB_data (ws : List ByteArray) : (joinB ws).data.toList = joinC (ws.map (fun w => w.data.toList)) := by unfold joinB strL; simp
theorem lineAns_join (x : EvD) : lineAns x = joinB [numS x.time, numS x.proc, txAnswer, numS x.id, numS x.result] := by
  apply ba_ext
  rw [joinB_data]
  simp [lineAns, lineHead, joinC, txSp, txAns, txAnswer, ByteArray.data_append]
def invWs (x : EvD) (k m : Nat) : List ByteArray := [numS x.time, numS x.proc, txInvoke, numS x.id, numS x.object, kindS k, methS m]
theorem lineInv0 (x : EvD) (k m : Nat) : lineInv x k m = joinB (invWs x k m) := by
  apply ba_ext
  rw [joinB_data]
  simp [lineInv, lineHead, invWs, joinC, txSp, txInv, txInvoke, ByteArray.data_append]
theorem lineInv1 (x : EvD) (k m : Nat) : lineInv x k m ++ txSp ++ numS x.arg = joinB (invWs x k m ++ [numS x.arg]) := by
  apply ba_ext
  rw [joinB_data]
  simp [lineInv, lineHead, invWs, joinC, txSp, txInv, txInvoke, ByteArray.data_append]
theorem lineInv2 (x : EvD) (k m : Nat) : lineInv x k m ++ txSp ++ numS x.arg ++ txSp ++ numS x.second = joinB (invWs x k m ++ [numS x.arg, numS x.second]) := by
  apply ba_ext
  rw [joinB_data]
  simp [lineInv, lineHead, invWs, joinC, txSp, txInv, txInvoke, ByteArray.data_append]
theorem inv32 (x : EvD) (k m : Nat) : ∀ w ∈ invWs x k m, (32 : UInt8) ∉ w.data.toList := by
  intro w hw
  unfold invWs at hw
  simp only [List.mem_cons, List.not_mem_nil, or_false] at hw
  rcases hw with rfl | rfl | rfl | rfl | rfl | rfl | rfl
  · exact num32 _
  · exact num32 _
  · decide
  · exact num32 _
  · exact num32 _
  · exact kind32 _
  · exact meth32 _
theorem idx_get (x : ByteArray) : ∀ (zs : List ByteArray) (i : Nat), Lib.idxFromS zs x i = -1 ∨ ∃ k, Lib.idxFromS zs x i = ((i + k : Nat) : Int) ∧ zs[k]? = some x
  | [], _ => .inl rfl
  | z :: zs, i => by
    unfold Lib.idxFromS
    by_cases h : z = x
    · rw [if_pos h]
      exact .inr ⟨0, rfl, by rw [h]; rfl⟩
    · rw [if_neg h]
      rcases idx_get x zs (i + 1) with q | ⟨k, q, g⟩
      · exact .inl q
      · exact .inr ⟨k + 1, by rw [q]; congr 1; omega, by simpa using g⟩
/-- a name that is known: its place -/
theorem name_at (zs : List ByteArray) (x : ByteArray) (h : okN zs x = true) : ∃ k : Nat, wordV zs x = (k : Int) ∧ 1 ≤ k ∧ k < zs.length ∧ (zs[k]?).getD ⟨#[]⟩ = x := by
  unfold okN at h
  have h1 := of_decide_eq_true h
  unfold wordV
  rw [if_neg (by omega)]
  unfold Lib.idxOfS at *
  rcases idx_get x zs 0 with q | ⟨k, q, g⟩
  · omega
  · refine ⟨k, by omega, by omega, ?_, by rw [g]; rfl⟩
    exact (List.getElem?_eq_some_iff.1 g).1
theorem okN_of (zs : List ByteArray) (x : ByteArray) (h : ¬ wordV zs x < 1) : okN zs x = true := by
  unfold wordV at h
  unfold okN
  split at h
  · omega
  · exact decide_eq_true (by omega)
theorem hd_lt {ws : List ByteArray} {k : Nat} (h : hd ws k ≠ ⟨#[]⟩) : k < ws.length := Decidable.byContradiction fun q => h (hd_none (by omega))
theorem ok_ne {x : ByteArray} (h : okW x = true) : x ≠ ⟨#[]⟩ := fun e => by rw [e, okW_nil] at h; cases h
theorem ok_eq {x : ByteArray} (h : okW x = true) : numS (numV x) = x := of_decide_eq_true h
theorem eq_ok {x : ByteArray} (h : x = numS (numV x)) : okW x = true := decide_eq_true h.symm
theorem drop_len {ws : List ByteArray} {k : Nat} (h : (ws.drop k).isEmpty = true) : ws.length ≤ k := by
  rw [List.isEmpty_iff] at h
  exact List.drop_eq_nil_iff.1 h
theorem len5 (ws : List ByteArray) (h : ws.length = 5) : ws = [hd ws 0, hd ws 1, hd ws 2, hd ws 3, hd ws 4] := by
  match ws, h with
  | [a, b, c, d, e], _ => rfl
theorem len7 (ws : List ByteArray) (h : ws.length = 7) : ws = [hd ws 0, hd ws 1, hd ws 2, hd ws 3, hd ws 4, hd ws 5, hd ws 6] := by
  match ws, h with
  | [a, b, c, d, e, f, g], _ => rfl
theorem len8 (ws : List ByteArray) (h : ws.length = 8) : ws = [hd ws 0, hd ws 1, hd ws 2, hd ws 3, hd ws 4, hd ws 5, hd ws 6, hd ws 7] := by
  match ws, h with
  | [a, b, c, d, e, f, g, h], _ => rfl
theorem len9 (ws : List ByteArray) (h : ws.length = 9) : ws = [hd ws 0, hd ws 1, hd ws 2, hd ws 3, hd ws 4, hd ws 5, hd ws 6, hd ws 7, hd ws 8] := by
  match ws, h with
  | [a, b, c, d, e, f, g, h, i], _ => rfl
end Go.Proofs.YtgpnockjonicpaaDoor
namespace Go.Proofs.YtgpnockjonicpaaDoor
set_option linter.unusedSimpArgs false
set_option linter.unusedVariables false
open Go.RowKit

theorem refW_evAns (ws : List ByteArray) (h : hd ws 2 = txAnswer) : refReadW ws = evAns ws := by unfold refReadW; rw [if_pos h]
theorem refW_evInv (ws : List ByteArray) (h : ¬ hd ws 2 = txAnswer) : refReadW ws = evInv ws (if 0 < argsN (methV ws) then numV (hd ws 7) else 0) (if 1 < argsN (methV ws) then numV (hd ws 8) else 0) := by unfold refReadW; rw [if_neg h]
/-- names that are known -/
theorem names_good (ws : List ByteArray) (a s : Int) (h5 : okN kindNames (hd ws 5) = true) (h6 : okN methNames (hd ws 6) = true) :
    saidB (evInv ws a s) = true ∧ kindS (evInv ws a s).kind.toNat = hd ws 5 ∧ methS (evInv ws a s).method.toNat = hd ws 6 := by
  obtain ⟨k, hk, k1, k2, k3⟩ := name_at _ _ h5
  obtain ⟨m, hm, m1, m2, m3⟩ := name_at _ _ h6
  have ek : (evInv ws a s).kind = (k : Int) := hk
  have em : (evInv ws a s).method = (m : Int) := hm
  have l1 : kindNames.length = 7 := rfl
  have l2 : methNames.length = 15 := rfl
  rw [ek, em]
  refine ⟨?_, k3, m3⟩
  unfold saidB
  rw [ek, em]
  simp
  omega
theorem said_names (ws : List ByteArray) (a s : Int) (h : saidB (evInv ws a s) = true) : okN kindNames (hd ws 5) = true ∧ okN methNames (hd ws 6) = true := by
  unfold saidB at h
  simp only [Bool.not_eq_true', Bool.or_eq_false_iff, decide_eq_false_iff_not] at h
  exact ⟨okN_of _ _ h.1, okN_of _ _ h.2.2.1⟩
theorem not_empty {t : ByteArray} {n : Nat} (h : (splitS t 32).length = n) (h2 : 2 ≤ n) : t ≠ ⟨#[]⟩ := by
  rintro rfl
  have : (splitS ⟨#[]⟩ 32).length = 1 := rfl
  omega
theorem lineL_inv (x : EvD) (ha : x.answer = false) (hs : saidB x = true) : lineL x = if argsN x.method ≤ 0 then joinB (invWs x x.kind.toNat x.method.toNat) else if argsN x.method ≤ 1 then joinB (invWs x x.kind.toNat x.method.toNat ++ [numS x.arg]) else joinB (invWs x x.kind.toNat x.method.toNat ++ [numS x.arg, numS x.second]) := by
  unfold lineL
  rw [if_neg (by rw [ha]; decide), if_pos hs]
  unfold lineArgs
  rw [lineInv2, lineInv1, lineInv0]
/-- words that are an event -/
theorem acc_line (t : ByteArray) (v : EvD) (h : accP (splitS t 32) = some v) : t ≠ ⟨#[]⟩ ∧ lineL (refReadW (splitS t 32)) = t ∧ v = refReadW (splitS t 32) := by
  have ht := joinB_split t
  have hne : ∀ n, (splitS t 32).length = n → 2 ≤ n → t ≠ ⟨#[]⟩ := fun n => not_empty
  generalize splitS t 32 = ws at *
  unfold accP okI okA at h
  by_cases hA : hd ws 2 = txAnswer
  · rw [if_pos hA] at h
    rw [refW_evAns ws hA]
    split at h
    · rename_i h1
      simp only [Bool.and_eq_true] at h1
      obtain ⟨⟨⟨⟨a0, a1⟩, a3⟩, a4⟩, hd5⟩ := h1
      have hl : ws.length = 5 := by
        have l1 := hd_lt (ok_ne a4)
        have l2 := drop_len hd5
        omega
      injection h with h
      refine ⟨hne 5 hl (by decide), ?_, h.symm⟩
      have e : lineL (evAns ws) = lineAns (evAns ws) := if_pos rfl
      rw [e, lineAns_join]
      show joinB [numS (numV (hd ws 0)), numS (numV (hd ws 1)), txAnswer, numS (numV (hd ws 3)), numS (numV (hd ws 4))] = t
      rw [ok_eq a0, ok_eq a1, ok_eq a3, ok_eq a4, ← hA, ← len5 ws hl, ht]
    · cases h
  · rw [if_neg hA] at h
    rw [refW_evInv ws hA]
    split at h
    · rename_i hI
      by_cases c0 : argsN (methV ws) ≤ 0
      · rw [if_pos c0] at h
        rw [if_neg (by omega), if_neg (by omega)]
        split at h
        · rename_i h1
          simp only [Bool.and_eq_true] at h1
          obtain ⟨⟨⟨⟨⟨⟨a0, a1⟩, a3⟩, a4⟩, a5⟩, a6⟩, hdl⟩ := h1
          obtain ⟨hs, hk, hm⟩ := names_good ws 0 0 a5 a6
          have hl : ws.length = 7 := by
            obtain ⟨m, hm1, m1, m2, m3⟩ := name_at _ _ a6
            have l1 : 6 < ws.length := Decidable.byContradiction fun q => by
              rw [hd_none (by omega)] at a6
              exact absurd a6 (by unfold okN; rw [meth0]; decide)
            have l2 := drop_len hdl
            omega
          injection h with h
          refine ⟨hne 7 hl (by decide), ?_, h.symm⟩
          rw [lineL_inv _ rfl hs, if_pos (show argsN (evInv ws 0 0).method ≤ 0 from c0)]
          unfold invWs
          rw [hk, hm]
          show joinB [numS (numV (hd ws 0)), numS (numV (hd ws 1)), txInvoke, numS (numV (hd ws 3)), numS (numV (hd ws 4)), hd ws 5, hd ws 6] = t
          rw [ok_eq a0, ok_eq a1, ok_eq a3, ok_eq a4, ← hI, ← len7 ws hl, ht]
        · cases h
      · rw [if_neg c0] at h
        rw [if_pos (by omega)]
        by_cases c1 : argsN (methV ws) ≤ 1
        · rw [if_pos c1] at h
          rw [if_neg (by omega)]
          split at h
          · rename_i h1
            simp only [Bool.and_eq_true] at h1
            obtain ⟨⟨⟨⟨⟨⟨⟨a0, a1⟩, a3⟩, a4⟩, a5⟩, a6⟩, a7⟩, hdl⟩ := h1
            obtain ⟨hs, hk, hm⟩ := names_good ws (numV (hd ws 7)) 0 a5 a6
            have hl : ws.length = 8 := by
              have l1 := hd_lt (ok_ne a7)
              have l2 := drop_len hdl
              omega
            injection h with h
            refine ⟨hne 8 hl (by decide), ?_, h.symm⟩
            rw [lineL_inv _ rfl hs, if_neg (show ¬ argsN (evInv ws (numV (hd ws 7)) 0).method ≤ 0 from c0), if_pos (show argsN (evInv ws (numV (hd ws 7)) 0).method ≤ 1 from c1)]
            unfold invWs
            rw [hk, hm]
            show joinB [numS (numV (hd ws 0)), numS (numV (hd ws 1)), txInvoke, numS (numV (hd ws 3)), numS (numV (hd ws 4)), hd ws 5, hd ws 6, numS (numV (hd ws 7))] = t
            rw [ok_eq a0, ok_eq a1, ok_eq a3, ok_eq a4, ok_eq a7, ← hI, ← len8 ws hl, ht]
          · cases h
        · rw [if_neg c1] at h
          rw [if_pos (by omega)]
          split at h
          · rename_i h1
            simp only [Bool.and_eq_true] at h1
            obtain ⟨⟨⟨⟨⟨⟨⟨⟨a0, a1⟩, a3⟩, a4⟩, a5⟩, a6⟩, a7⟩, a8⟩, hdl⟩ := h1
            obtain ⟨hs, hk, hm⟩ := names_good ws (numV (hd ws 7)) (numV (hd ws 8)) a5 a6
            have hl : ws.length = 9 := by
              have l1 := hd_lt (ok_ne a8)
              have l2 := drop_len hdl
              omega
            injection h with h
            refine ⟨hne 9 hl (by decide), ?_, h.symm⟩
            rw [lineL_inv _ rfl hs, if_neg (show ¬ argsN (evInv ws (numV (hd ws 7)) (numV (hd ws 8))).method ≤ 0 from c0), if_neg (show ¬ argsN (evInv ws (numV (hd ws 7)) (numV (hd ws 8))).method ≤ 1 from c1)]
            unfold invWs
            rw [hk, hm]
            show joinB [numS (numV (hd ws 0)), numS (numV (hd ws 1)), txInvoke, numS (numV (hd ws 3)), numS (numV (hd ws 4)), hd ws 5, hd ws 6, numS (numV (hd ws 7)), numS (numV (hd ws 8))] = t
            rw [ok_eq a0, ok_eq a1, ok_eq a3, ok_eq a4, ok_eq a7, ok_eq a8, ← hI, ← len9 ws hl, ht]
          · cases h
    · cases h
/-- a line that is written as it was read has words that are an event -/
theorem line_acc (t : ByteArray) (h0 : t ≠ ⟨#[]⟩) (h : lineL (refReadW (splitS t 32)) = t) : accP (splitS t 32) = some (refReadW (splitS t 32)) := by
  obtain ⟨ws, hws⟩ : ∃ ws, splitS t 32 = ws := ⟨_, rfl⟩
  rw [hws] at h ⊢
  by_cases hA : hd ws 2 = txAnswer
  · rw [refW_evAns ws hA] at h ⊢
    have e : lineL (evAns ws) = lineAns (evAns ws) := if_pos rfl
    rw [e, lineAns_join] at h
    have hw : ws = [numS (numV (hd ws 0)), numS (numV (hd ws 1)), txAnswer, numS (numV (hd ws 3)), numS (numV (hd ws 4))] := by
      conv => lhs; rw [← hws, ← h, splitB_join _ (by simp) (fun w hw => by
        simp only [List.mem_cons, List.not_mem_nil, or_false] at hw
        rcases hw with rfl | rfl | rfl | rfl | rfl
        · exact num32 _
        · exact num32 _
        · decide
        · exact num32 _
        · exact num32 _)]
      rfl
    have b0 : hd ws 0 = numS (numV (hd ws 0)) := congrArg (fun l => hd l 0) hw
    have b1 : hd ws 1 = numS (numV (hd ws 1)) := congrArg (fun l => hd l 1) hw
    have b3 : hd ws 3 = numS (numV (hd ws 3)) := congrArg (fun l => hd l 3) hw
    have b4 : hd ws 4 = numS (numV (hd ws 4)) := congrArg (fun l => hd l 4) hw
    have bl : (ws.drop 5).isEmpty = true := by rw [hw]; rfl
    unfold accP okA
    rw [if_pos hA, eq_ok b0, eq_ok b1, eq_ok b3, eq_ok b4, bl]
    rfl
  · rw [refW_evInv ws hA] at h ⊢
    generalize ha : (if 0 < argsN (methV ws) then numV (hd ws 7) else 0) = a at *
    generalize hs : (if 1 < argsN (methV ws) then numV (hd ws 8) else 0) = s at *
    have hsd : saidB (evInv ws a s) = true := by
      cases q : saidB (evInv ws a s) with
      | true => rfl
      | false =>
        exfalso
        apply h0
        rw [← h]
        unfold lineL
        rw [if_neg (by show ¬ false = true; decide), if_neg (by rw [q]; decide)]
    obtain ⟨a5, a6⟩ := said_names ws a s hsd
    rw [lineL_inv _ rfl hsd] at h
    obtain ⟨k, hk⟩ : ∃ k, (evInv ws a s).kind.toNat = k := ⟨_, rfl⟩
    obtain ⟨m, hm⟩ : ∃ m, (evInv ws a s).method.toNat = m := ⟨_, rfl⟩
    rw [hk, hm] at h
    by_cases c0 : argsN (methV ws) ≤ 0
    · rw [if_pos (show argsN (evInv ws a s).method ≤ 0 from c0)] at h
      rw [if_neg (by omega)] at ha hs
      have hw : ws = invWs (evInv ws a s) k m := by
        conv => lhs; rw [← hws, ← h, splitB_join _ (by simp [invWs]) (inv32 _ _ _)]
      have b0 : hd ws 0 = numS (numV (hd ws 0)) := congrArg (fun l => hd l 0) hw
      have b1 : hd ws 1 = numS (numV (hd ws 1)) := congrArg (fun l => hd l 1) hw
      have b2 : hd ws 2 = txInvoke := congrArg (fun l => hd l 2) hw
      have b3 : hd ws 3 = numS (numV (hd ws 3)) := congrArg (fun l => hd l 3) hw
      have b4 : hd ws 4 = numS (numV (hd ws 4)) := congrArg (fun l => hd l 4) hw
      have bl : (ws.drop 7).isEmpty = true := by rw [hw]; rfl
      unfold accP okI okA
      rw [if_neg hA, if_pos b2, if_pos c0, eq_ok b0, eq_ok b1, eq_ok b3, eq_ok b4, bl, a5, a6, ← ha, ← hs]
      rfl
    · rw [if_neg (show ¬ argsN (evInv ws a s).method ≤ 0 from c0)] at h
      rw [if_pos (by omega)] at ha
      by_cases c1 : argsN (methV ws) ≤ 1
      · rw [if_pos (show argsN (evInv ws a s).method ≤ 1 from c1)] at h
        rw [if_neg (by omega)] at hs
        have hw : ws = invWs (evInv ws a s) k m ++ [numS a] := by
          conv => lhs; rw [← hws, ← h, splitB_join _ (by simp [invWs]) (fun w hw => by
            rcases List.mem_append.1 hw with q | q
            · exact inv32 _ _ _ w q
            · rw [List.mem_singleton.1 q]; exact num32 _)]
          rfl
        have b0 : hd ws 0 = numS (numV (hd ws 0)) := congrArg (fun l => hd l 0) hw
        have b1 : hd ws 1 = numS (numV (hd ws 1)) := congrArg (fun l => hd l 1) hw
        have b2 : hd ws 2 = txInvoke := congrArg (fun l => hd l 2) hw
        have b3 : hd ws 3 = numS (numV (hd ws 3)) := congrArg (fun l => hd l 3) hw
        have b4 : hd ws 4 = numS (numV (hd ws 4)) := congrArg (fun l => hd l 4) hw
        have b7 : hd ws 7 = numS (numV (hd ws 7)) := by rw [ha]; exact congrArg (fun l => hd l 7) hw
        have bl : (ws.drop 8).isEmpty = true := by rw [hw]; rfl
        unfold accP okI okA
        rw [if_neg hA, if_pos b2, if_neg c0, if_pos c1, eq_ok b0, eq_ok b1, eq_ok b3, eq_ok b4, eq_ok b7, bl, a5, a6, ← ha, ← hs]
        rfl
      · rw [if_neg (show ¬ argsN (evInv ws a s).method ≤ 1 from c1)] at h
        rw [if_pos (by omega)] at hs
        have hw : ws = invWs (evInv ws a s) k m ++ [numS a, numS s] := by
          conv => lhs; rw [← hws, ← h, splitB_join _ (by simp [invWs]) (fun w hw => by
            rcases List.mem_append.1 hw with q | q
            · exact inv32 _ _ _ w q
            · simp only [List.mem_cons, List.not_mem_nil, or_false] at q
              rcases q with rfl | rfl <;> exact num32 _)]
          rfl
        have b0 : hd ws 0 = numS (numV (hd ws 0)) := congrArg (fun l => hd l 0) hw
        have b1 : hd ws 1 = numS (numV (hd ws 1)) := congrArg (fun l => hd l 1) hw
        have b2 : hd ws 2 = txInvoke := congrArg (fun l => hd l 2) hw
        have b3 : hd ws 3 = numS (numV (hd ws 3)) := congrArg (fun l => hd l 3) hw
        have b4 : hd ws 4 = numS (numV (hd ws 4)) := congrArg (fun l => hd l 4) hw
        have b7 : hd ws 7 = numS (numV (hd ws 7)) := by rw [ha]; exact congrArg (fun l => hd l 7) hw
        have b8 : hd ws 8 = numS (numV (hd ws 8)) := by rw [hs]; exact congrArg (fun l => hd l 8) hw
        have bl : (ws.drop 9).isEmpty = true := by rw [hw]; rfl
        unfold accP okI okA
        rw [if_neg hA, if_pos b2, if_neg c0, if_neg c1, eq_ok b0, eq_ok b1, eq_ok b3, eq_ok b4, eq_ok b7, eq_ok b8, bl, a5, a6, ← ha, ← hs]
        rfl
theorem read_num (ws : List ByteArray) : EvNum (refReadW ws) := by
  by_cases hA : hd ws 2 = txAnswer
  · rw [refW_evAns ws hA]
    exact ⟨numV_abs _, numV_abs _, numV_abs _, by show (-1000000000000000000 : Int) ≤ 0 ∧ (0 : Int) ≤ 1000000000000000000; omega, by show (-1000000000000000000 : Int) ≤ 0 ∧ (0 : Int) ≤ 1000000000000000000; omega, by show (-1000000000000000000 : Int) ≤ 0 ∧ (0 : Int) ≤ 1000000000000000000; omega, numV_abs _⟩
  · rw [refW_evInv ws hA]
    refine ⟨numV_abs _, numV_abs _, numV_abs _, numV_abs _, ?_, ?_, by show (-1000000000000000000 : Int) ≤ 0 ∧ (0 : Int) ≤ 1000000000000000000; omega⟩
    · show -1000000000000000000 ≤ (if 0 < argsN (methV ws) then numV (hd ws 7) else 0) ∧ (if 0 < argsN (methV ws) then numV (hd ws 7) else 0) ≤ 1000000000000000000
      split
      · exact numV_abs _
      · omega
    · show -1000000000000000000 ≤ (if 1 < argsN (methV ws) then numV (hd ws 8) else 0) ∧ (if 1 < argsN (methV ws) then numV (hd ws 8) else 0) ≤ 1000000000000000000
      split
      · exact numV_abs _
      · omega
end Go.Proofs.YtgpnockjonicpaaDoor
