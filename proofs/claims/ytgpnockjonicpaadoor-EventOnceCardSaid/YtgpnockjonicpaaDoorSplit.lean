/- event.reader.next. No conditions. -/
/- A text cut at a byte: strings.Split, ref26.split. Conditions: a text of fewer than 10^8 bytes. -/
import Derived.Test.YtgpnockjonicpaaDoorLine2
import Derived.Test.YtgpnockjonicpaaDoorMapE
import Derived.Test.YtgpnockjonicpaaDoorLaidS
import Derived.Lib.SplitLaws
import Derived.Lib.IndexBytes
namespace Go.Proofs.YtgpnockjonicpaaDoor
set_option linter.unusedSimpArgs false
set_option linter.unusedVariables false
open Go.RowKit

def RSt (s : ByteArray) (cs : List Value) : Prop := cs = [.string s]
/-- a reader in memory: the words that are left, and whether all went well -/
def RdAt (w : World) (r B : Nat) (ws : List ByteArray) (ok : Bool) : Prop :=
  ∃ A c, Row1 w r 74 [.slice A ws.length c, .bool ok] ∧ Sl w 1 RSt (.slice A ws.length c) ws ∧ ((Value.slice A ws.length c).ownBlock ≠ some r ∧ r < B ∧ ∀ g, (Value.slice A ws.length c).ownBlock = some g → g < B)
theorem RdAt.ext {w w' : World} {r B : Nat} {ws : List ByteArray} {ok : Bool} (h : RdAt w r B ws ok) (hb : Ext w w') : RdAt w' r B ws ok := by
  obtain ⟨A, c, h1, h2, h3⟩ := h
  exact ⟨A, c, h1.ext hb h1.lt, h2.ext hb, h3⟩
theorem RdAt.lt {w : World} {r B : Nat} {ws : List ByteArray} {ok : Bool} (h : RdAt w r B ws ok) : r < w.heap.size := let ⟨_, _, h, _⟩ := h; h.lt
theorem RdAt.only {F : Nat → Prop} {w w' : World} {r B : Nat} {ws : List ByteArray} {ok : Bool} (h : RdAt w r B ws ok) (hb : Only F w w') (hF : ∀ i, F i → B ≤ i) : RdAt w' r B ws ok := by
  obtain ⟨A, c, h1, h2, h3, h4, h5⟩ := h
  refine ⟨A, c, hb.row h1 (fun q => by have := hF r q; omega), ?_, h3, h4, h5⟩
  obtain ⟨A', c', e, g1, g2, g3⟩ := h2
  injection e with e1 e2 e3
  subst e1 e3
  refine ⟨A, c, rfl, g1, g2, fun hn => ?_⟩
  obtain ⟨b, off, rfl, hbl, hx⟩ := g3 hn
  have hbB := h5 b rfl
  refine ⟨b, off, rfl, Nat.lt_of_lt_of_le hbl hb.size, fun i x hi => ?_⟩
  obtain ⟨cs, k1, k2, k3⟩ := hx i x hi
  exact ⟨cs, k1, k2, fun j u hu => (hb.cell hbl (fun q => by have := hF b q; omega)).trans (k3 j u hu)⟩
def sHead (ws : List ByteArray) : ByteArray := ws.headD ⟨#[]⟩
set_option maxHeartbeats 1000000 in
theorem next_any (r B : Nat) (ws : List ByteArray) (ok : Bool) (w : World) (h : RdAt w r B ws ok) :
    Calls Tryd.prog 52 #[.pointer (some ⟨r, 0, none⟩)] w fun e w' => e = .returned (.string (sHead ws)) ∧ RdAt w' r B ws.tail (ok && !ws.isEmpty) ∧ Only (fun i => i = r) w w' := by
  obtain ⟨A, c, h1, h2, h3⟩ := h
  have H1 := Lib.hid h1
  have H2 := Lib.hid h2
  have H3 := Lib.hid h3
  have hrl := h1.lt
  have c0 := h1.cell 0
  have c1 := h1.cell 1
  have f0 := h1.soft 0
  have f1 := h1.soft 1
  obtain ⟨_, hc1, hc2, hA⟩ := h2.at
  have HA := Lib.hid hA
  clear h1 h2 h3 hA
  cases ws with
  | nil =>
    simp only [List.getElem?_cons_zero, List.getElem?_cons_succ, List.length_nil] at c0 c1
    go_enter Tryd.func52, Tryd.ntmps52
    go_wp2_with fail
    go_ret
    have hO : Only (fun i => i = r) w (w.setCell ⟨r, 1, none⟩ (.bool false)) := Only.setCell (F := fun i => i = r) (p := ⟨r, 1, none⟩) Only.refl (.inl rfl) _
    refine ⟨rfl, ⟨A, c, ?_, ?_, H3.out⟩, hO⟩
    · exact H1.out.set 1 _
    · exact H2.out.but (But.setCell But.refl (.inl rfl) _) H3.out.1
  | cons x rest =>
    obtain ⟨b, off, rfl, hbl, hx⟩ := HA.out (by simp)
    obtain ⟨cs, rfl, _, hcs⟩ := hx 0 (by simp)
    have hx0 := hcs 0 _ rfl
    have hbr : b ≠ r := fun e => H3.out.1 (by rw [e]; rfl)
    simp only [List.getElem_cons_zero, Nat.zero_mul, Nat.add_zero] at hx0
    simp only [List.getElem?_cons_zero, List.getElem?_cons_succ] at c0 c1
    have HD := Lib.hid (H2.out.drop (p := 1) (by simp))
    have hn1 : 1 ≤ (x :: rest).length := by simp
    have HT : Hid ((x :: rest).length - 1 = rest.length) := by unfold Hid; simp
    clear hx hcs HA
    generalize hn : (x :: rest).length = n at *
    have q0 : ((n : Int) == 0) = false := by simp; omega
    have q1 : (0 : Int) < (n : Int) := by omega
    have q2 : (1 : Int) ≤ (n : Int) := by omega
    have q3 : (n : Int) ≤ (c : Int) := by omega
    clear hn
    go_enter Tryd.func52, Tryd.ntmps52
    go_wp2_with fail
    all_goals go_ret
    · obtain rfl : c = 1 := by assumption
      have hd := HD.out
      simp only [if_true, List.drop_one, List.tail_cons] at hd
      refine ⟨rfl, ⟨some ⟨b, off, none⟩, 1 - 1, ?_, ?_, H3.out⟩, Only.setCell (F := fun i => i = r) (p := ⟨r, 0, none⟩) Only.refl (.inl rfl) _⟩
      · rw [← HT.out]; exact H1.out.set 0 _
      · rw [← HT.out]; exact hd.but (But.setCell But.refl (.inl rfl) _) H3.out.1
    · have hd := HD.out
      have hc : ¬ c = 1 := by assumption
      simp only [if_neg hc, List.drop_one, List.tail_cons, Option.map_some, Addr.add_lit, Nat.one_mul] at hd
      have h4 : (Value.slice (some ⟨b, off + 1, none⟩) (n - 1) (c - 1)).ownBlock ≠ some r ∧ r < B ∧ ∀ g, (Value.slice (some ⟨b, off + 1, none⟩) (n - 1) (c - 1)).ownBlock = some g → g < B := H3.out
      refine ⟨rfl, ⟨some ⟨b, off + 1, none⟩, c - 1, ?_, ?_, ?_⟩, Only.setCell (F := fun i => i = r) (p := ⟨r, 0, none⟩) Only.refl (.inl rfl) _⟩
      · rw [← HT.out]; exact H1.out.set 0 _
      · rw [← HT.out]; exact hd.but (But.setCell But.refl (.inl rfl) _) h4.1
      · rw [← HT.out]; exact h4
end Go.Proofs.YtgpnockjonicpaaDoor
namespace Go.Proofs.YtgpnockjonicpaaDoor
set_option linter.unusedSimpArgs false
set_option linter.unusedVariables false
open Go.RowKit

def splitC (c : UInt8) : List UInt8 → List (List UInt8)
  | [] => [[]]
  | x :: r => if x = c then [] :: splitC c r else match splitC c r with | h :: t => (x :: h) :: t | [] => [[x]]
theorem splitC_ne (c : UInt8) : ∀ l, splitC c l ≠ []
  | [] => by simp [splitC]
  | x :: r => by
    unfold splitC
    split
    · simp
    · split <;> simp
/-- a text's pieces -/
def splitS (s : ByteArray) (c : UInt8) : List ByteArray := (splitC c s.data.toList).map strL
theorem splitC_index (c : UInt8) : ∀ l : List UInt8, (Lib.indexByte l c = -1 → splitC c l = [l]) ∧ (∀ i : Nat, Lib.indexByte l c = i → splitC c l = l.take i :: splitC c (l.drop (i + 1)))
  | [] => ⟨fun _ => rfl, fun i h => by unfold Lib.indexByte at h; omega⟩
  | b :: l => by
    obtain ⟨h1, h2⟩ := splitC_index c l
    unfold Lib.indexByte
    by_cases hb : b = c
    · subst hb
      simp only [beq_self_eq_true, if_true]
      refine ⟨fun h => absurd h (by decide), fun i hi => ?_⟩
      obtain rfl : i = 0 := by omega
      simp [splitC]
    · have hb' : (b == c) = false := by simpa using hb
      simp only [hb', Bool.false_eq_true, if_false]
      by_cases hm : Lib.indexByte l c = -1
      · have hm' : (Lib.indexByte l c == -1) = true := by simpa using hm
        rw [if_pos hm']
        refine ⟨fun _ => ?_, fun i hi => by omega⟩
        rw [splitC, if_neg hb, h1 hm]
      · have hm' : (Lib.indexByte l c == -1) = false := by simpa using hm
        rw [if_neg (by rw [hm']; simp)]
        refine ⟨fun h => ?_, fun i hi => ?_⟩
        · exfalso
          have := Lib.index_ge l [c]
          rw [Lib.index_one] at this
          omega
        · cases i with
          | zero =>
            exfalso
            have := Lib.index_ge l [c]
            rw [Lib.index_one] at this
            omega
          | succ i =>
            rw [splitC, if_neg hb, h2 i (by omega)]
            simp
theorem strL_data (s : ByteArray) : strL s.data.toList = s := ByteArray.ext (by simp [strL])
theorem extract_strL (s : ByteArray) (a b : Nat) : s.extract a b = strL ((s.data.toList.take b).drop a) := by
  apply ByteArray.ext
  rw [ByteArray.data_extract]
  apply Array.toList_inj.1
  simp [strL, List.drop_take]
theorem split_lib (c : UInt8) : ∀ (k : Nat) (s : ByteArray), Lib.countB s ⟨#[c]⟩ = k → Lib.splitB ⟨#[c]⟩ 0 k s = splitS s c := by
  intro k
  induction k with
  | zero =>
    intro s hk
    rcases Lib.indexB_cases s ⟨#[c]⟩ with h | ⟨i, h, _⟩
    · have h1 : Lib.indexByte s.data.toList c = -1 := by rw [← Lib.index_one]; exact h
      unfold splitS
      rw [(splitC_index c _).1 h1, Lib.splitB_zero]
      simp [strL_data]
    · have := Lib.countB_hit s ⟨#[c]⟩ i (Nat.le_refl 1) h
      omega
  | succ k ih =>
    intro s hk
    rcases Lib.indexB_cases s ⟨#[c]⟩ with h | ⟨i, h, _⟩
    · rw [Lib.countB_miss s _ h] at hk
      omega
    · have h1 : Lib.indexByte s.data.toList c = (i : Int) := by rw [← Lib.index_one]; exact h
      have h2 := Lib.countB_hit s ⟨#[c]⟩ i (Nat.le_refl 1) h
      have h3 : (⟨#[c]⟩ : ByteArray).size = 1 := rfl
      rw [h3] at h2
      rw [Lib.splitB_hit _ 0 k s i h, ih _ (by rw [h3]; omega), h3]
      unfold splitS
      rw [(splitC_index c _).2 i h1, List.map_cons]
      congr 1
      · rw [extract_strL]; simp
      · congr 2
        rw [extract_strL]
        show ((s.data.toList.take s.data.toList.length).drop (i + 1)) = _
        rw [List.take_length]
theorem splitS_len (s : ByteArray) (c : UInt8) : (splitS s c).length = Lib.countB s ⟨#[c]⟩ + 1 := by
  rw [← split_lib c _ s rfl]
  exact Lib.splitB_all ⟨#[c]⟩ (Nat.le_refl 1) 0 _ s rfl
theorem splitC_bound (c : UInt8) : ∀ (l : List UInt8), (splitC c l).length ≤ l.length + 1 ∧ ∀ p ∈ splitC c l, p.length ≤ l.length
  | [] => by simp [splitC]
  | x :: r => by
    obtain ⟨h1, h2⟩ := splitC_bound c r
    unfold splitC
    split
    · refine ⟨by simp; omega, fun p hp => ?_⟩
      rcases List.mem_cons.1 hp with rfl | hp
      · simp
      · have := h2 p hp; simp; omega
    · split
      · rename_i h t e
        rw [e] at h1 h2
        refine ⟨by simp at h1 ⊢; omega, fun p hp => ?_⟩
        rcases List.mem_cons.1 hp with rfl | hp
        · have := h2 h (by simp); simp; omega
        · have := h2 p (by simp [hp]); simp; omega
      · refine ⟨by simp, fun p hp => ?_⟩
        simp at hp; subst hp; simp
theorem splitS_size (s : ByteArray) (c : UInt8) (p : ByteArray) (h : p ∈ splitS s c) : p.size ≤ s.size := by
  unfold splitS at h
  obtain ⟨l, hl, rfl⟩ := List.mem_map.1 h
  exact (splitC_bound c _).2 l hl
theorem splitS_count (s : ByteArray) (c : UInt8) : 1 ≤ (splitS s c).length ∧ (splitS s c).length ≤ s.size + 1 := by
  refine ⟨by rw [splitS_len]; omega, ?_⟩
  unfold splitS
  rw [List.length_map]
  exact (splitC_bound c _).1
theorem split_any (s : ByteArray) (c : UInt8) (m : Int) (w : World) (hs : s.size ≤ 100000000) (hm : w.cell? ⟨0, 0, none⟩ = some (.int .i64 m)) :
    Calls Tryd.prog 29 #[.string s, .string ⟨#[c]⟩] w fun e w' => e = .returned (.slice (some ⟨w.heap.size, 0, none⟩) (splitS s c).length (splitS s c).length) ∧ Row1 w' w.heap.size 9 ((splitS s c).map Value.string) ∧ Ext w w' := by
  refine (Tryd.strings_Split s ⟨#[c]⟩ m w (by omega) hm (Nat.le_refl 1)).mono ?_
  rintro e w' ⟨rfl, rfl⟩
  rw [split_lib c _ s rfl, splitS_len]
  exact ⟨rfl, Row1.made _ _ _, Ext.alloc _ _⟩
theorem row_sl {w : World} {b : Nat} {zs : List ByteArray} (h : Row1 w b 9 (zs.map Value.string)) (hz : zs.length ≤ 1000000000) : Sl w 1 RSt (.slice (some ⟨b, 0, none⟩) zs.length zs.length) zs := by
  refine ⟨_, _, rfl, Nat.le_refl _, by simp [maxLen]; omega, fun _ => ⟨b, 0, rfl, h.lt, fun i x hi => ⟨[.string x], rfl, rfl, fun j u hu => ?_⟩⟩⟩
  cases j with
  | zero =>
    simp at hu
    subst hu
    rw [Nat.zero_add, Nat.mul_one, Nat.add_zero, h.cell, List.getElem?_map, hi]
    rfl
  | succ j => simp at hu
end Go.Proofs.YtgpnockjonicpaaDoor
