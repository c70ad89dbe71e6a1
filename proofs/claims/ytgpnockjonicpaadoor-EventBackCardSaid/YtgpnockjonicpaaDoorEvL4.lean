/- Plain Lean: a history's lines are read as it; what is read and may be is written as it was. No conditions. -/
import Derived.Test.YtgpnockjonicpaaDoorEvL3
import Derived.Test.YtgpnockjonicpaaDoorPr2
import Derived.Test.YtgpnockjonicpaaDoorPLaw2
namespace Go.Proofs.YtgpnockjonicpaaDoor
set_option linter.unusedSimpArgs false
set_option linter.unusedVariables false

theorem dig10 {l : List UInt8} (h : l.all digB = true) : (10 : UInt8) ∉ l := fun q => by
  have := List.all_eq_true.1 h 10 q
  exact absurd this (by decide)
theorem num10 (v : Int) : (10 : UInt8) ∉ (numS v).data.toList := by
  unfold numS strL numL
  simp only []
  split
  · intro q
    rcases List.mem_cons.1 q with q | q
    · exact absurd q (by decide)
    · exact dig10 (dec_dig _).1 q
  · exact dig10 (dec_dig _).1
theorem kind10 (k : Nat) : (10 : UInt8) ∉ (kindS k).data.toList := by
  by_cases h : k < 7
  · have h2 : k = 0 ∨ k = 1 ∨ k = 2 ∨ k = 3 ∨ k = 4 ∨ k = 5 ∨ k = 6 := by omega
    rcases h2 with rfl | rfl | rfl | rfl | rfl | rfl | rfl <;> decide
  · unfold kindS
    rw [List.getElem?_eq_none (by simp [kindNames]; omega)]
    decide
theorem meth10 (k : Nat) : (10 : UInt8) ∉ (methS k).data.toList := by
  by_cases h : k < 15
  · have h2 : k = 0 ∨ k = 1 ∨ k = 2 ∨ k = 3 ∨ k = 4 ∨ k = 5 ∨ k = 6 ∨ k = 7 ∨ k = 8 ∨ k = 9 ∨ k = 10 ∨ k = 11 ∨ k = 12 ∨ k = 13 ∨ k = 14 := by omega
    rcases h2 with rfl | rfl | rfl | rfl | rfl | rfl | rfl | rfl | rfl | rfl | rfl | rfl | rfl | rfl | rfl <;> decide
  · unfold methS
    rw [List.getElem?_eq_none (by simp [methNames]; omega)]
    decide
theorem joinC10 : ∀ ls : List (List UInt8), (∀ l ∈ ls, (10 : UInt8) ∉ l) → (10 : UInt8) ∉ joinC ls
  | [], _ => by simp [joinC]
  | [a], h => h a (by simp)
  | a :: b :: r, h => by
    rw [joinC, List.mem_append, List.mem_cons]
    rintro (q | q | q)
    · exact h a (by simp) q
    · exact absurd q (by decide)
    · exact joinC10 (b :: r) (fun l hl => h l (List.mem_cons_of_mem _ hl)) q
theorem joinB10 (ws : List ByteArray) (h : ∀ w ∈ ws, (10 : UInt8) ∉ w.data.toList) : (10 : UInt8) ∉ (joinB ws).data.toList := by
  rw [joinB_data]
  refine joinC10 _ fun l hl => ?_
  obtain ⟨w, hw, rfl⟩ := List.mem_map.1 hl
  exact h w hw
theorem inv10 (x : EvD) (k m : Nat) : ∀ w ∈ invWs x k m, (10 : UInt8) ∉ w.data.toList := by
  intro w hw
  unfold invWs at hw
  simp only [List.mem_cons, List.not_mem_nil, or_false] at hw
  rcases hw with rfl | rfl | rfl | rfl | rfl | rfl | rfl
  · exact num10 _
  · exact num10 _
  · decide
  · exact num10 _
  · exact num10 _
  · exact kind10 _
  · exact meth10 _
theorem wordKind {k : Int} (h1 : 1 ≤ k) (h2 : k ≤ 6) : wordV kindNames (kindS k.toNat) = k := by
  have h : k = 1 ∨ k = 2 ∨ k = 3 ∨ k = 4 ∨ k = 5 ∨ k = 6 := by omega
  rcases h with rfl | rfl | rfl | rfl | rfl | rfl <;> rfl
theorem wordMeth {k : Int} (h1 : 1 ≤ k) (h2 : k ≤ 14) : wordV methNames (methS k.toNat) = k := by
  have h : k = 1 ∨ k = 2 ∨ k = 3 ∨ k = 4 ∨ k = 5 ∨ k = 6 ∨ k = 7 ∨ k = 8 ∨ k = 9 ∨ k = 10 ∨ k = 11 ∨ k = 12 ∨ k = 13 ∨ k = 14 := by omega
  rcases h with rfl | rfl | rfl | rfl | rfl | rfl | rfl | rfl | rfl | rfl | rfl | rfl | rfl | rfl <;> rfl
/-- a line that is an event: it is read as it, and has no newline -/
structure LineOk (e : EvD) : Prop where
  read : accP (splitS (lineL e) 32) = some e
  nl : (10 : UInt8) ∉ (lineL e).data.toList
theorem line_ok_of {e : EvD} {ws : List ByteArray} (hl : lineL e = joinB ws) (h0 : 2 ≤ ws.length) (h32 : ∀ w ∈ ws, (32 : UInt8) ∉ w.data.toList) (h10 : ∀ w ∈ ws, (10 : UInt8) ∉ w.data.toList) (hr : refReadW ws = e) : LineOk e := by
  have hs : splitS (lineL e) 32 = ws := by rw [hl]; exact splitB_join ws (fun q => by rw [q] at h0; simp at h0) h32
  refine ⟨?_, by rw [hl]; exact joinB10 ws h10⟩
  have h := line_acc (lineL e) (not_empty (by rw [hs]) h0) (by rw [hs, hr])
  rw [h, hs, hr]
theorem line_ans {o : OpD} (h : OpB o) (hd : o.done = true) : LineOk (ansOf o) := by
  obtain ⟨h1, h2, _, _, _, _, _, _, _, h7, _, h8, _⟩ := h
  have h9 := h8 hd
  refine line_ok_of (ws := [numS (ansOf o).time, numS (ansOf o).proc, txAnswer, numS (ansOf o).id, numS (ansOf o).result]) ?_ (by simp) ?_ ?_ ?_
  · unfold lineL
    rw [if_pos (by rfl), lineAns_join]
  · intro w hw
    simp only [List.mem_cons, List.not_mem_nil, or_false] at hw
    rcases hw with rfl | rfl | rfl | rfl | rfl
    · exact num32 _
    · exact num32 _
    · decide
    · exact num32 _
    · exact num32 _
  · intro w hw
    simp only [List.mem_cons, List.not_mem_nil, or_false] at hw
    rcases hw with rfl | rfl | rfl | rfl | rfl
    · exact num10 _
    · exact num10 _
    · decide
    · exact num10 _
    · exact num10 _
  · rw [refW_evAns _ rfl]
    show (⟨numV (numS o.ret), numV (numS o.proc), true, numV (numS o.id), 0, 0, 0, 0, 0, numV (numS o.result)⟩ : EvD) = ansOf o
    rw [num_num _ (by omega) (by omega), num_num _ (by omega) (by omega), num_num _ (by omega) (by omega), num_num _ (by omega) (by omega)]
    rfl
theorem inv_read {o : OpD} (h : OpB o) (ext : List ByteArray) (a s : Int) (ha : (if 0 < argsN o.method then numV (hd (invWs (invOf o) o.kind.toNat o.method.toNat ++ ext) 7) else 0) = a)
    (hs : (if 1 < argsN o.method then numV (hd (invWs (invOf o) o.kind.toNat o.method.toNat ++ ext) 8) else 0) = s) (ea : a = o.arg) (es : s = o.second) : refReadW (invWs (invOf o) o.kind.toNat o.method.toNat ++ ext) = invOf o := by
  have hm : methV (invWs (invOf o) o.kind.toNat o.method.toNat ++ ext) = o.method := wordMeth h.method.1 h.method.2
  have hk : kindV (invWs (invOf o) o.kind.toNat o.method.toNat ++ ext) = o.kind := wordKind h.kind.1 h.kind.2
  have hne : ¬ hd (invWs (invOf o) o.kind.toNat o.method.toNat ++ ext) 2 = txAnswer := fun q => absurd (show txInvoke = txAnswer from q) (by decide)
  rw [refW_evInv _ hne, hm, ha, hs]
  unfold evInv
  rw [hm, hk, ea, es]
  show (⟨numV (numS o.invoke), numV (numS o.proc), false, numV (numS o.id), numV (numS o.object), o.kind, o.method, o.arg, o.second, 0⟩ : EvD) = invOf o
  obtain ⟨h1, h2, h3, _, _, _, _, _, _, _, h6, _, _⟩ := h
  rw [num_num _ (by omega) (by omega), num_num _ (by omega) (by omega), num_num _ (by omega) (by omega), num_num _ (by omega) (by omega)]
  rfl
theorem line_inv {o : OpD} (h : OpB o) : LineOk (invOf o) := by
  have hl := lineL_inv (invOf o) rfl (said_inv h)
  have e1 : (invOf o).kind = o.kind := rfl
  have e2 : (invOf o).method = o.method := rfl
  have e3 : (invOf o).arg = o.arg := rfl
  have e4 : (invOf o).second = o.second := rfl
  rw [e1, e2, e3, e4] at hl
  have hr := fun ext a s => inv_read h ext a s
  by_cases q0 : argsN o.method ≤ 0
  · rw [if_pos q0] at hl
    refine line_ok_of (ws := invWs (invOf o) o.kind.toNat o.method.toNat) hl (by simp [invWs]) (inv32 _ _ _) (inv10 _ _ _) ?_
    have := hr [] 0 0 (by rw [if_neg (by omega)]) (by rw [if_neg (by omega)]) (h.arg0 q0).symm (h.second0 (by omega)).symm
    rwa [List.append_nil] at this
  · rw [if_neg q0] at hl
    by_cases q1 : argsN o.method ≤ 1
    · rw [if_pos q1] at hl
      refine line_ok_of (ws := invWs (invOf o) o.kind.toNat o.method.toNat ++ [numS o.arg]) hl (by simp [invWs]) (fun w hw => ?_) (fun w hw => ?_) ?_
      · rcases List.mem_append.1 hw with hw | hw
        · exact inv32 _ _ _ w hw
        · rw [List.mem_singleton.1 hw]; exact num32 _
      · rcases List.mem_append.1 hw with hw | hw
        · exact inv10 _ _ _ w hw
        · rw [List.mem_singleton.1 hw]; exact num10 _
      · have ha := h.arg
        exact hr [numS o.arg] o.arg 0 (by rw [if_pos (by omega)]; exact num_num _ (by omega) (by omega)) (by rw [if_neg (by omega)]) rfl (h.second0 q1).symm
    · rw [if_neg q1] at hl
      refine line_ok_of (ws := invWs (invOf o) o.kind.toNat o.method.toNat ++ [numS o.arg, numS o.second]) hl (by simp [invWs]) (fun w hw => ?_) (fun w hw => ?_) ?_
      · rcases List.mem_append.1 hw with hw | hw
        · exact inv32 _ _ _ w hw
        · simp only [List.mem_cons, List.not_mem_nil, or_false] at hw
          rcases hw with rfl | rfl <;> exact num32 _
      · rcases List.mem_append.1 hw with hw | hw
        · exact inv10 _ _ _ w hw
        · simp only [List.mem_cons, List.not_mem_nil, or_false] at hw
          rcases hw with rfl | rfl <;> exact num10 _
      · have ha := h.arg
        have hs := h.second
        exact hr [numS o.arg, numS o.second] o.arg o.second (by rw [if_pos (by omega)]; exact num_num _ (by omega) (by omega)) (by rw [if_pos (by omega)]; exact num_num _ (by omega) (by omega)) rfl rfl
theorem hist_lines {l : List OpD} (h : HistOk l) : ∀ e ∈ refOfL l, LineOk e := fun e he => by
  obtain ⟨o, ho, hx⟩ := mem_evsL.1 ((refOfL_perm l).mem_iff.1 he)
  have hb := op_bounds (h.chk o ho)
  rcases hx with rfl | ⟨hd, rfl⟩
  · exact line_inv hb
  · exact line_ans hb hd
theorem split_lines : ∀ (evs : List EvD), (∀ e ∈ evs, LineOk e) → splitC 10 (linesL evs) = evs.map (fun e => (lineL e).data.toList) ++ [[]]
  | [], _ => rfl
  | e :: r, h => by
    have e1 : linesL (e :: r) = (lineL e).data.toList ++ 10 :: linesL r := by unfold linesL; simp
    rw [e1, splitC_app 10 _ _ (h e (by simp)).nl, split_lines r (fun x hx => h x (List.mem_cons_of_mem _ hx))]
    rfl
theorem readAll_lines : ∀ (evs : List EvD) (i : Nat), (∀ e ∈ evs, LineOk e) → readAll i (evs.map lineL) = (evs, none)
  | [], _, _ => rfl
  | e :: r, i, h => by
    rw [List.map_cons, readAll, (h e (by simp)).read, readAll_lines r (i + 1) (fun x hx => h x (List.mem_cons_of_mem _ hx))]
theorem parse_print {l : List OpD} (h : histL l = 0) : parseL (printS l) = (l, 0, 0) := by
  have ho := hist_ok h
  have hlo := hist_lines ho
  have hlen : (refOfL l).length ≤ 128 := by
    rw [(refOfL_perm l).length_eq]
    have := evsL_len l
    have := ho.len
    omega
  have hsz := lines_len (refOfL l) (fun x hx => (hist_evs ho x hx).1)
  have hp : printS l = strL (linesL (refOfL l)) := by unfold printS; rw [if_neg (by simpa using h)]
  have hs : splitS (strL (linesL (refOfL l))) 10 = (refOfL l).map lineL ++ [⟨#[]⟩] := by
    unfold splitS
    have e1 : (strL (linesL (refOfL l))).data.toList = linesL (refOfL l) := by simp [strL]
    rw [e1, split_lines _ hlo, List.map_append, List.map_map]
    congr 1
  unfold parseL
  rw [hp, if_neg (by show ¬ 65536 < (linesL (refOfL l)).toArray.size; rw [List.size_toArray]; omega), hs]
  have e2 : lastS ((refOfL l).map lineL ++ [⟨#[]⟩]) = ⟨#[]⟩ := by unfold lastS; simp
  rw [e2, if_neg (by simp), List.dropLast_concat, readAll_lines _ 0 hlo]
  unfold parseEnd
  simp only [joinL_hist h]
  rfl
theorem unsplit (c : UInt8) : ∀ l : List UInt8, (splitC c l).dropLast.flatMap (fun a => a ++ [c]) ++ (splitC c l).getLastD [] = l
  | [] => rfl
  | x :: r => by
    have ih := unsplit c r
    have hne := splitC_ne c r
    unfold splitC
    by_cases hx : x = c
    · rw [if_pos hx]
      cases hsp : splitC c r with
      | nil => exact absurd hsp hne
      | cons h t =>
        rw [hsp] at ih
        rw [List.dropLast_cons_cons, List.flatMap_cons]
        simp only [List.nil_append, List.cons_append, hx, List.getLastD_cons] at ih ⊢
        rw [ih]
    · rw [if_neg hx]
      cases hsp : splitC c r with
      | nil => exact absurd hsp hne
      | cons h t =>
        rw [hsp] at ih
        cases t with
        | nil => simp at ih ⊢; exact ih
        | cons h2 t =>
          simp only
          rw [List.dropLast_cons_cons, List.flatMap_cons] at ih ⊢
          simp only [List.cons_append, List.append_assoc, List.getLastD_cons] at ih ⊢
          rw [ih]
theorem readAll_ok : ∀ (ls : List ByteArray) (i : Nat), (readAll i ls).2 = none → (readAll i ls).1.map lineL = ls
  | [], _, _ => rfl
  | t :: r, i, h => by
    unfold readAll at h ⊢
    cases ha : accP (splitS t 32) with
    | none => rw [ha] at h; simp at h
    | some e =>
      rw [ha] at h
      simp only at h ⊢
      obtain ⟨_, h2, h3⟩ := acc_line t e ha
      rw [List.map_cons, readAll_ok r (i + 1) h, h3, h2]
/-- what is read and may be is written as it was -/
theorem print_parse {s : ByteArray} {l : List OpD} {n : Nat} (h : parseL s = (l, n, 0)) : histL l = 0 ∧ printS l = s := by
  unfold parseL at h
  by_cases h1 : 65536 < s.size
  · rw [if_pos h1] at h; simp at h
  rw [if_neg h1] at h
  by_cases h2 : lastS (splitS s 10) ≠ ⟨#[]⟩
  · rw [if_pos h2] at h; simp at h
  rw [if_neg h2] at h
  unfold parseEnd at h
  cases hr : (readAll 0 (splitS s 10).dropLast).2 with
  | some i => rw [hr] at h; simp at h
  | none =>
    rw [hr] at h
    simp only at h
    have hl := readAll_ok _ _ hr
    generalize (readAll 0 (splitS s 10).dropLast).1 = evs at h hl
    by_cases h3 : (joinL evs).2.2 ≠ 0
    · rw [if_pos h3] at h
      simp only [Prod.mk.injEq] at h
      exact absurd h.2.2 h3
    · rw [if_neg h3] at h
      simp only [Prod.mk.injEq] at h
      obtain ⟨j1, j2⟩ := joinL_ok (by simpa using h3)
      rw [h.1] at j1 j2
      refine ⟨j1, ?_⟩
      unfold printS
      rw [if_neg (by simpa using j1), j2]
      apply ba_ext
      have e1 : (strL (linesL evs)).data.toList = linesL evs := by simp [strL]
      rw [e1]
      have hu := unsplit 10 s.data.toList
      have h4 : (splitC 10 s.data.toList).getLastD [] = [] := by
        have h5 : lastS (splitS s 10) = ⟨#[]⟩ := by simpa using h2
        unfold lastS splitS at h5
        have hne := splitC_ne 10 s.data.toList
        rw [List.getLastD_eq_getLast?, List.getLast?_map] at h5
        rw [List.getLastD_eq_getLast?]
        cases hg : (splitC 10 s.data.toList).getLast? with
        | none => rfl
        | some a =>
          rw [hg] at h5
          simp only [Option.map_some, Option.getD_some] at h5 ⊢
          have := congrArg (fun b : ByteArray => b.data.toList) h5
          simpa [strL] using this
      rw [h4, List.append_nil] at hu
      rw [← hu]
      have h6 : (splitC 10 s.data.toList).dropLast = evs.map (fun e => (lineL e).data.toList) := by
        unfold splitS at hl
        rw [List.dropLast_eq_take, ← List.map_take, List.length_map] at hl
        have h7 := congrArg (List.map (fun b : ByteArray => b.data.toList)) hl
        rw [List.map_map, map_data_strL] at h7
        rw [List.dropLast_eq_take, ← h7]
        rfl
      rw [h6]
      unfold linesL
      rw [List.flatMap_map, List.flatMap_def]
theorem parse_bad {s : ByteArray} {l : List OpD} {n : Nat} {f : Int} (hs : s.size ≤ 6000) (h : parseL s = (l, n, f)) (hf : f ≠ 0) : l = [] ∧ 0 < n := by
  unfold parseL at h
  rw [if_neg (by omega)] at h
  by_cases h2 : lastS (splitS s 10) ≠ ⟨#[]⟩
  · rw [if_pos h2] at h
    simp only [Prod.mk.injEq] at h
    have := (splitS_count s 10).1
    exact ⟨h.1.symm, by omega⟩
  · rw [if_neg h2] at h
    unfold parseEnd at h
    cases hr : (readAll 0 (splitS s 10).dropLast).2 with
    | some i =>
      rw [hr] at h
      simp only [Prod.mk.injEq] at h
      exact ⟨h.1.symm, by omega⟩
    | none =>
      rw [hr] at h
      simp only at h
      split at h
      · simp only [Prod.mk.injEq] at h
        exact ⟨h.1.symm, by omega⟩
      · simp only [Prod.mk.injEq] at h
        exact absurd h.2.2.symm hf
end Go.Proofs.YtgpnockjonicpaaDoor
