/- ref26.split. Conditions: a text of fewer than 10^8 bytes. -/
/- ref26.number, ref26.word. Conditions: words of fewer than 10^6 bytes. -/
/- ref26.word. Conditions: the names' first is empty and no other. -/
import Derived.Test.YtgpnockjonicpaaDoorSplit
import Derived.Test.YtgpnockjonicpaaDoorNumV
import Derived.Test.YtgpnockjonicpaaDoorRead3
import Derived.Test.YtgpnockjonicpaaDoorRead4
namespace Go.Proofs.YtgpnockjonicpaaDoor
set_option linter.unusedSimpArgs false
set_option linter.unusedVariables false
open Go.RowKit

theorem Tryd.infoStr : (Tryd.prog.info? 9).map (fun i => (i.zero, i.size, i.bytes)) = some (some (.string ⟨#[]⟩), 1, 16) := by kernel_rfl
theorem elStr : Elem Tryd.prog 70 9 1 16 := Elem.of Tryd.underlying70 Tryd.infoStr rfl (by decide)
def strCell (s : ByteArray) : List Value := [.string s]
theorem str_len (s : ByteArray) : (strCell s).length = 1 := rfl
theorem str_one (s : ByteArray) : ∀ u ∈ strCell s, u.oneCell' = true := by
  intro u hu
  simp only [strCell, List.mem_singleton] at hu
  subst hu
  rfl
/-- how far the document's split is -/
def SplitAt (s : ByteArray) (c : UInt8) (done : List ByteArray) (fr i : Nat) : Prop :=
  splitS s c = done ++ (splitC c (s.data.toList.drop fr)).map strL ∧ fr ≤ i ∧ (∀ j, fr ≤ j → j < i → s.data.toList[j]? ≠ some c)
theorem indexByte_none (c : UInt8) : ∀ l : List UInt8, (∀ j : Nat, l[j]? ≠ some c) → Lib.indexByte l c = -1
  | [], _ => rfl
  | b :: l, h => by
    have h0 : (b == c) = false := by
      rw [beq_eq_false_iff_ne]
      intro e
      exact h 0 (by rw [e]; rfl)
    have h1 := indexByte_none c l (fun j => h (j + 1))
    unfold Lib.indexByte
    rw [h0, h1]
    rfl
theorem indexByte_some (c : UInt8) : ∀ (l : List UInt8) (i : Nat), l[i]? = some c → (∀ j, j < i → l[j]? ≠ some c) → Lib.indexByte l c = i
  | [], i, h, _ => by simp at h
  | b :: l, 0, h, _ => by
    have h0 : (b == c) = true := by simpa using h
    unfold Lib.indexByte
    rw [if_pos h0]
    rfl
  | b :: l, i + 1, h, hn => by
    have h0 : (b == c) = false := by
      rw [beq_eq_false_iff_ne]
      intro e
      exact hn 0 (by omega) (by rw [e]; rfl)
    have h1 := indexByte_some c l i (by simpa using h) (fun j hj => by have := hn (j + 1) (by omega); simpa using this)
    unfold Lib.indexByte
    rw [h0, h1]
    have : ((i : Int) == -1) = false := by rw [beq_eq_false_iff_ne]; omega
    simp [this]
section
variable {s : ByteArray} {c : UInt8} {done : List ByteArray} {fr i : Nat}
theorem SplitAt.start : SplitAt s c [] 0 0 := ⟨by simp [splitS], Nat.le_refl _, fun j _ h => absurd h (by omega)⟩
theorem SplitAt.miss (h : SplitAt s c done fr i) (hi : i < s.size) (hc : s[i].toNat ≠ c.toNat) : SplitAt s c done fr (i + 1) :=
  ⟨h.1, Nat.le_succ_of_le h.2.1, fun j h1 h2 => by
    by_cases e : j = i
    · subst e
      rw [List.getElem?_eq_getElem (by rw [toList_size]; exact hi)]
      intro q
      injection q with q
      exact hc (by have : s[j] = c := q; rw [this])
    · exact h.2.2 j h1 (by omega)⟩
theorem SplitAt.hit (h : SplitAt s c done fr i) (hi : i < s.size) (hc : s[i].toNat = c.toNat) : SplitAt s c (done ++ [s.extract fr i]) (i + 1) (i + 1) := by
  obtain ⟨h1, h2, h3⟩ := h
  have hci : s.data.toList[i]? = some c := by
    rw [List.getElem?_eq_getElem (by rw [toList_size]; exact hi)]
    congr 1
    exact UInt8.toNat_inj.1 hc
  have hx := indexByte_some c (s.data.toList.drop fr) (i - fr) (by rw [List.getElem?_drop, show fr + (i - fr) = i by omega]; exact hci) (fun j hj => by rw [List.getElem?_drop]; exact h3 (fr + j) (by omega) (by omega))
  refine ⟨?_, Nat.le_refl _, fun j q1 q2 => absurd q1 (by omega)⟩
  rw [h1, (splitC_index c _).2 (i - fr) hx, List.map_cons, List.append_assoc]
  congr 2
  · rw [extract_strL]
    rw [List.drop_take]
  · rw [List.drop_drop, show fr + (i - fr + 1) = i + 1 by omega]
    rfl
theorem SplitAt.last (h : SplitAt s c done fr s.size) : splitS s c = done ++ [s.extract fr s.size] := by
  obtain ⟨h1, h2, h3⟩ := h
  have hx := indexByte_none c (s.data.toList.drop fr) (fun j => by
    rw [List.getElem?_drop]
    by_cases hj : fr + j < s.size
    · exact h3 (fr + j) (by omega) hj
    · rw [List.getElem?_eq_none (by rw [toList_size]; omega)]; simp)
  rw [h1, (splitC_index c _).1 hx, extract_strL]
  simp only [List.map_cons, List.map_nil]
  congr 3
  show _ = ((s.data.toList.take s.data.toList.length).drop fr)
  rw [List.take_length]
end
end Go.Proofs.YtgpnockjonicpaaDoor
namespace Go.Proofs.YtgpnockjonicpaaDoor
set_option linter.unusedSimpArgs false
set_option linter.unusedVariables false
open Go.RowKit

/-- a word that is there, in memory -/
theorem Sl.word_at {w : World} {A : Option Addr} {n c : Nat} {ws : List ByteArray} (h : Sl w 1 RSt (.slice A n c) ws) (i : Nat) (hi : i < ws.length) :
    ∃ b off, A = some ⟨b, off, none⟩ ∧ b < w.heap.size ∧ w.cell? ⟨b, off + i, none⟩ = some (.string (hd ws i)) := by
  obtain ⟨_, _, _, hA⟩ := h.at
  obtain ⟨b, off, rfl, hbl, hx⟩ := hA (by omega)
  obtain ⟨cs, rfl, _, hcs⟩ := hx i hi
  have h1 := hcs 0 _ rfl
  refine ⟨b, off, rfl, hbl, ?_⟩
  have e : hd ws i = ws[i] := by
    unfold hd sHead
    rw [List.drop_eq_getElem_cons hi]
    rfl
  rw [e]
  simpa using h1
theorem hd_none {ws : List ByteArray} {i : Nat} (h : ws.length ≤ i) : hd ws i = ⟨#[]⟩ := by
  unfold hd sHead
  rw [List.drop_eq_nil_of_le h]
  rfl
theorem numV_nil : numV ⟨#[]⟩ = 0 := by decide
def frR (s : ByteArray) : Nat := if minusB s = true then 1 else 0
def foldR (s : ByteArray) (k : Nat) : Int := foldV ((s.data.toList.take k).drop (frR s))
theorem body_fr (s : ByteArray) : bodyL s = s.data.toList.drop (frR s) := body_drop s
theorem foldR_start (s : ByteArray) : foldR s (frR s) = 0 := by
  unfold foldR
  rw [List.drop_eq_nil_of_le (by rw [List.length_take]; omega)]
  rfl
theorem foldR_step (s : ByteArray) (k : Nat) (h0 : frR s ≤ k) (hk : k < s.size) : foldR s (k + 1) = 10 * foldR s k + ((s[k].toNat : Int) - 48) := by
  unfold foldR
  rw [List.take_succ_eq_append_getElem (by rw [toList_size]; exact hk), List.drop_append_of_le_length (by rw [List.length_take, toList_size]; omega), foldV_snoc]
  rfl
theorem foldR_bound (s : ByteArray) (k : Nat) (hk : k ≤ s.size) (hb : (bodyL s).length ≤ 15) : -23000000000000000 ≤ foldR s k ∧ foldR s k ≤ 23000000000000000 := by
  unfold foldR
  have h1 := foldV_abs ((s.data.toList.take k).drop (frR s))
  have hl : ((s.data.toList.take k).drop (frR s)).length ≤ 15 := by
    rw [body_fr, List.length_drop, toList_size] at hb
    rw [List.length_drop, List.length_take, toList_size]
    omega
  have h2 := pow15 _ hl
  generalize (10 : Int) ^ ((s.data.toList.take k).drop (frR s)).length = p at *
  omega
theorem foldR_last (s : ByteArray) : foldR s s.size = foldV (bodyL s) := by
  unfold foldR
  rw [body_fr, List.take_of_length_le (by rw [toList_size]; exact Nat.le_refl _)]

end Go.Proofs.YtgpnockjonicpaaDoor
namespace Go.Proofs.YtgpnockjonicpaaDoor
set_option linter.unusedSimpArgs false
set_option linter.unusedVariables false
open Go.RowKit

theorem getD_get (zs : List ByteArray) (k : Nat) (h : k < zs.length) : zs.getD k ByteArray.empty = zs[k] := by
  rw [List.getD_eq_getElem?_getD, List.getElem?_eq_getElem h]; rfl
theorem wordV_hit (zs : List ByteArray) (x : ByteArray) (k : Nat) (h1 : 1 ≤ k) (hk : k < zs.length) (hx : zs[k] = x) (h0 : zs.getD 0 ByteArray.empty ≠ x) (hne : ∀ j, 1 ≤ j → j < k → zs.getD j ByteArray.empty ≠ x) : wordV zs x = k := by
  have e := Lib.idxFromS_hit x zs k 0 hk (by rw [getD_get zs k hk, hx]) (fun j hj => by
    rcases Nat.eq_zero_or_pos j with rfl | h
    · exact h0
    · exact hne j h hj)
  unfold wordV Lib.idxOfS
  rw [e, if_neg (by omega)]
  omega
theorem wordV_miss (zs : List ByteArray) (x : ByteArray) (hl : 0 < zs.length) (hne : ∀ j, 1 ≤ j → j < zs.length → zs.getD j ByteArray.empty ≠ x) : wordV zs x = 0 := by
  unfold wordV Lib.idxOfS
  by_cases h0 : zs.getD 0 ByteArray.empty = x
  · have e := Lib.idxFromS_hit x zs 0 0 hl h0 (fun j hj => absurd hj (by omega))
    rw [e]
    rfl
  · have e := Lib.idxFromS_miss x zs 0 (fun j hj => by
      rcases Nat.eq_zero_or_pos j with rfl | h
      · exact h0
      · exact hne j h hj)
    rw [e]
    rfl
end Go.Proofs.YtgpnockjonicpaaDoor
