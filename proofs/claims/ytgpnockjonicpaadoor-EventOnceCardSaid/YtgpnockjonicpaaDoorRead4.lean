/- event.reader.read: which event a line's words are. Conditions: words of fewer than 10^6 bytes. -/
import Derived.Test.YtgpnockjonicpaaDoorRead3
import Derived.Test.YtgpnockjonicpaaDoorJoin7
namespace Go.Proofs.YtgpnockjonicpaaDoor
set_option linter.unusedSimpArgs false
set_option linter.unusedVariables false
open Go.RowKit

def hd (ws : List ByteArray) (k : Nat) : ByteArray := sHead (ws.drop k)
def txAnswer : ByteArray := ⟨#[97, 110, 115, 119, 101, 114]⟩
def txInvoke : ByteArray := ⟨#[105, 110, 118, 111, 107, 101]⟩
def kindV (ws : List ByteArray) : Int := wordV kindNames (hd ws 5)
def methV (ws : List ByteArray) : Int := wordV methNames (hd ws 6)
def evAns (ws : List ByteArray) : EvD := ⟨numV (hd ws 0), numV (hd ws 1), true, numV (hd ws 3), 0, 0, 0, 0, 0, numV (hd ws 4)⟩
def evInv (ws : List ByteArray) (a s : Int) : EvD := ⟨numV (hd ws 0), numV (hd ws 1), false, numV (hd ws 3), numV (hd ws 4), kindV ws, methV ws, a, s, 0⟩
def okA (ws : List ByteArray) : Bool := okW (hd ws 0) && okW (hd ws 1) && okW (hd ws 3) && okW (hd ws 4)
def okI (ws : List ByteArray) : Bool := okA ws && okN kindNames (hd ws 5) && okN methNames (hd ws 6)
/-- which event words are -/
def accP (ws : List ByteArray) : Option EvD :=
  if hd ws 2 = txAnswer then (if (okA ws && (ws.drop 5).isEmpty) = true then some (evAns ws) else none)
  else if hd ws 2 = txInvoke then
    (if argsN (methV ws) ≤ 0 then (if (okI ws && (ws.drop 7).isEmpty) = true then some (evInv ws 0 0) else none)
     else if argsN (methV ws) ≤ 1 then (if (okI ws && okW (hd ws 7) && (ws.drop 8).isEmpty) = true then some (evInv ws (numV (hd ws 7)) 0) else none)
     else (if (okI ws && okW (hd ws 7) && okW (hd ws 8) && (ws.drop 9).isEmpty) = true then some (evInv ws (numV (hd ws 7)) (numV (hd ws 8))) else none))
  else none
/-- what the program has read is that -/
def ReadRes (ws : List ByteArray) (v : EvD) (ok : Bool) (rest : List ByteArray) : Prop := accP ws = if (ok && rest.isEmpty) = true then some v else none
def ReadPost (r B : Nat) (ws : List ByteArray) (w : World) (e : Ending) (w' : World) : Prop :=
  ∃ (v : EvD) (ok : Bool) (rest : List ByteArray), e = .returned v.val ∧ RdAt w' r B rest ok ∧ Only (fun i => i = r) w w' ∧ ReadRes ws v ok rest
theorem hd_size {ws : List ByteArray} (h : ∀ x ∈ ws, x.size ≤ 1000000) (k : Nat) : (hd ws k).size ≤ 1000000 := by
  unfold hd sHead
  cases q : ws.drop k with
  | nil => decide
  | cons x r => exact h x (List.mem_of_mem_drop (by rw [q]; simp : x ∈ ws.drop k))
theorem drop_tail (ws : List ByteArray) (k : Nat) : (ws.drop k).tail = ws.drop (k + 1) := by rw [List.tail_drop]
theorem num_at (r B k : Nat) (ws : List ByteArray) (ok : Bool) (w : World) (h : RdAt w r B (ws.drop k) ok) (hs : (hd ws k).size ≤ 1000000) :
    Calls Tryd.prog 51 #[.pointer (some ⟨r, 0, none⟩)] w fun e w' => ∃ n : Int, e = .returned (.int .i64 n) ∧ (okW (hd ws k) = true → n = numV (hd ws k)) ∧ RdAt w' r B (ws.drop (k + 1)) (ok && okW (hd ws k)) ∧ Only (fun i => i = r) w w' := by
  refine (num_any r B (ws.drop k) ok w h hs).mono ?_
  rintro e w' ⟨⟨n, h1, h2⟩, h3, h4⟩
  rw [drop_tail] at h3
  exact ⟨n, h1, h2, h3, h4⟩
theorem next_at (r B k : Nat) (ws : List ByteArray) (ok : Bool) (w : World) (h : RdAt w r B (ws.drop k) ok) :
    Calls Tryd.prog 52 #[.pointer (some ⟨r, 0, none⟩)] w fun e w' => e = .returned (.string (hd ws k)) ∧ RdAt w' r B (ws.drop (k + 1)) (ok && !(ws.drop k).isEmpty) ∧ Only (fun i => i = r) w w' := by
  refine (next_any r B (ws.drop k) ok w h).mono ?_
  rintro e w' ⟨h1, h2, h3⟩
  rw [drop_tail] at h2
  exact ⟨h1, h2, h3⟩
theorem word_at (zs : List ByteArray) (b r B k : Nat) (ws : List ByteArray) (ok : Bool) (w : World) (hz0 : Lib.idxOfS zs ⟨#[]⟩ = 0) (hzl : zs.length ≤ 100) (hb : Row1 w b 9 (zs.map Value.string)) (h : RdAt w r B (ws.drop k) ok) :
    Calls Tryd.prog 53 #[.pointer (some ⟨r, 0, none⟩), .slice (some ⟨b, 0, none⟩) zs.length zs.length] w fun e w' => e = .returned (.int .i64 (wordV zs (hd ws k))) ∧ RdAt w' r B (ws.drop (k + 1)) (ok && okN zs (hd ws k)) ∧ Only (fun i => i = r) w w' := by
  refine (word_any zs b r B (ws.drop k) ok w hz0 hzl hb h).mono ?_
  rintro e w' ⟨h1, h2, h3⟩
  rw [drop_tail] at h2
  exact ⟨h1, h2, h3⟩
theorem evRow (v : EvD) : v.cells.toArray = #[.int .i64 v.time, .int .i64 v.proc, .bool v.answer, .int .i64 v.id, .int .i64 v.object, .int .i64 v.kind, .int .i64 v.method, .int .i64 v.arg, .int .i64 v.second, .int .i64 v.result] := rfl
theorem kind0 : Lib.idxOfS kindNames ⟨#[]⟩ = 0 := by unfold Lib.idxOfS kindNames Lib.idxFromS; rfl
theorem meth0 : Lib.idxOfS methNames ⟨#[]⟩ = 0 := by unfold Lib.idxOfS methNames Lib.idxFromS; rfl
theorem res_ans (ws : List ByteArray) (n0 n1 n3 n4 : Int) (h2 : hd ws 2 = txAnswer) (hne : (ws.drop 2).isEmpty = false) (N0 : okW (hd ws 0) = true → n0 = numV (hd ws 0)) (N1 : okW (hd ws 1) = true → n1 = numV (hd ws 1)) (N3 : okW (hd ws 3) = true → n3 = numV (hd ws 3)) (N4 : okW (hd ws 4) = true → n4 = numV (hd ws 4)) :
    ReadRes ws ⟨n0, n1, true, n3, 0, 0, 0, 0, 0, n4⟩ (((((true && okW (hd ws 0)) && okW (hd ws 1)) && !(ws.drop 2).isEmpty) && okW (hd ws 3)) && okW (hd ws 4)) (ws.drop (4 + 1)) := by
  unfold ReadRes accP okA
  rw [if_pos h2, hne]
  simp only [Bool.true_and, Bool.not_false, Bool.and_true]
  split
  · rename_i h
    simp only [Bool.and_eq_true] at h
    obtain ⟨⟨⟨⟨a0, a1⟩, a3⟩, a4⟩, _⟩ := h
    unfold evAns
    rw [N0 a0, N1 a1, N3 a3, N4 a4]
  · rfl
theorem res_none (ws : List ByteArray) (v : EvD) (rest : List ByteArray) (h1 : ¬ hd ws 2 = txAnswer) (h2 : ¬ hd ws 2 = txInvoke) : ReadRes ws v false rest := by
  unfold ReadRes accP
  rw [if_neg h1, if_neg h2]
  rfl
theorem res_inv0 (ws : List ByteArray) (n0 n1 n3 n4 kv mv n : Int) (h2 : hd ws 2 = txInvoke) (hne : (ws.drop 2).isEmpty = false) (N0 : okW (hd ws 0) = true → n0 = numV (hd ws 0)) (N1 : okW (hd ws 1) = true → n1 = numV (hd ws 1)) (N3 : okW (hd ws 3) = true → n3 = numV (hd ws 3)) (N4 : okW (hd ws 4) = true → n4 = numV (hd ws 4)) (hk : kindV ws = kv) (hm : methV ws = mv) (hn : argsN (methV ws) = n) (c0 : n ≤ 0) : ReadRes ws ⟨n0, n1, false, n3, n4, kv, mv, 0, 0, 0⟩ ((((((((true && okW (hd ws 0)) && okW (hd ws 1)) && !(ws.drop 2).isEmpty) && okW (hd ws 3)) && okW (hd ws 4)) && okN kindNames (hd ws 5)) && okN methNames (hd ws 6))) (ws.drop (6 + 1)) := by
  unfold ReadRes accP okI okA
  rw [if_neg (by rw [h2]; decide), if_pos h2, hn, if_pos c0, hne]
  simp only [Bool.true_and, Bool.not_false, Bool.and_true]
  split
  · rename_i h
    simp only [Bool.and_eq_true] at h
    obtain ⟨⟨⟨⟨⟨⟨a0, a1⟩, a3⟩, a4⟩, _⟩, _⟩, _⟩ := h
    unfold evInv
    rw [N0 a0, N1 a1, N3 a3, N4 a4, hk, hm]
  · rfl
theorem res_inv1 (ws : List ByteArray) (n0 n1 n3 n4 kv mv n n7 : Int) (h2 : hd ws 2 = txInvoke) (hne : (ws.drop 2).isEmpty = false) (N0 : okW (hd ws 0) = true → n0 = numV (hd ws 0)) (N1 : okW (hd ws 1) = true → n1 = numV (hd ws 1)) (N3 : okW (hd ws 3) = true → n3 = numV (hd ws 3)) (N4 : okW (hd ws 4) = true → n4 = numV (hd ws 4)) (hk : kindV ws = kv) (hm : methV ws = mv) (hn : argsN (methV ws) = n) (c0 : ¬ n ≤ 0) (c1 : n ≤ 1) (N7 : okW (hd ws 7) = true → n7 = numV (hd ws 7)) : ReadRes ws ⟨n0, n1, false, n3, n4, kv, mv, n7, 0, 0⟩ (((((((((true && okW (hd ws 0)) && okW (hd ws 1)) && !(ws.drop 2).isEmpty) && okW (hd ws 3)) && okW (hd ws 4)) && okN kindNames (hd ws 5)) && okN methNames (hd ws 6))) && okW (hd ws 7)) (ws.drop (7 + 1)) := by
  unfold ReadRes accP okI okA
  rw [if_neg (by rw [h2]; decide), if_pos h2, hn, if_neg c0, if_pos c1, hne]
  simp only [Bool.true_and, Bool.not_false, Bool.and_true]
  split
  · rename_i h
    simp only [Bool.and_eq_true] at h
    obtain ⟨⟨⟨⟨⟨⟨⟨a0, a1⟩, a3⟩, a4⟩, _⟩, _⟩, a7⟩, _⟩ := h
    unfold evInv
    rw [N0 a0, N1 a1, N3 a3, N4 a4, N7 a7, hk, hm]
  · rfl
theorem res_inv2 (ws : List ByteArray) (n0 n1 n3 n4 kv mv n n7 n8 : Int) (h2 : hd ws 2 = txInvoke) (hne : (ws.drop 2).isEmpty = false) (N0 : okW (hd ws 0) = true → n0 = numV (hd ws 0)) (N1 : okW (hd ws 1) = true → n1 = numV (hd ws 1)) (N3 : okW (hd ws 3) = true → n3 = numV (hd ws 3)) (N4 : okW (hd ws 4) = true → n4 = numV (hd ws 4)) (hk : kindV ws = kv) (hm : methV ws = mv) (hn : argsN (methV ws) = n) (c0 : ¬ n ≤ 0) (c1 : ¬ n ≤ 1) (N7 : okW (hd ws 7) = true → n7 = numV (hd ws 7)) (N8 : okW (hd ws 8) = true → n8 = numV (hd ws 8)) : ReadRes ws ⟨n0, n1, false, n3, n4, kv, mv, n7, n8, 0⟩ ((((((((((true && okW (hd ws 0)) && okW (hd ws 1)) && !(ws.drop 2).isEmpty) && okW (hd ws 3)) && okW (hd ws 4)) && okN kindNames (hd ws 5)) && okN methNames (hd ws 6))) && okW (hd ws 7)) && okW (hd ws 8)) (ws.drop (8 + 1)) := by
  unfold ReadRes accP okI okA
  rw [if_neg (by rw [h2]; decide), if_pos h2, hn, if_neg c0, if_neg c1, hne]
  simp only [Bool.true_and, Bool.not_false, Bool.and_true]
  split
  · rename_i h
    simp only [Bool.and_eq_true] at h
    obtain ⟨⟨⟨⟨⟨⟨⟨⟨a0, a1⟩, a3⟩, a4⟩, _⟩, _⟩, a7⟩, a8⟩, _⟩ := h
    unfold evInv
    rw [N0 a0, N1 a1, N3 a3, N4 a4, N7 a7, N8 a8, hk, hm]
  · rfl
set_option maxRecDepth 100000 in
set_option maxHeartbeats 8000000 in
theorem read_any (r B : Nat) (ws : List ByteArray) (w : World) (h : RdAt w r B ws true) (hB : B ≤ w.heap.size) (hs : ∀ x ∈ ws, x.size ≤ 1000000) :
    Calls Tryd.prog 30 #[.pointer (some ⟨r, 0, none⟩)] w (ReadPost r B ws w) := by
  have hrl := h.lt
  have H0 : Hid (RdAt (w.alloc (.cells evZero.cells.toArray 42)) r B (ws.drop 0) true) := h.ext (Ext.alloc _ _)
  have HSZ := Lib.hid (hd_size hs)
  clear h hs
  go_enter Tryd.func30, Tryd.ntmps30
  go_wp2_with fail
  refine (num_at r B 0 ws true _ H0.out (HSZ.out 0)).mono ?_
  rintro e w1 ⟨n0, rfl, hn0, hr1, ho1⟩
  have N0 := Lib.hid hn0
  have R1 := Lib.hid hr1
  have O1 := Lib.hid ho1
  clear hn0 hr1 ho1
  go_wp2_with fail
  refine (num_at r B 1 ws _ _ R1.out (HSZ.out 1)).mono ?_
  rintro e w2 ⟨n1, rfl, hn1, hr2, ho2⟩
  have N1 := Lib.hid hn1
  have R2 := Lib.hid hr2
  have O2 := Lib.hid (O1.out.trans' ho2)
  clear hn1 hr2 ho2
  go_wp2_with fail
  refine (next_at r B 2 ws _ _ (R2.out.ext (by (repeat' (with_reducible first | exact Below.refl _ _ | refine Ext.drewN ?_ _ | refine Below.drew ?_ | refine Below.setCell ?_ ?_ _ | refine Below.alloc ?_ ?_ _)) <;> (first | omega | (simp; done) | (simp; omega))))).mono ?_
  rintro e w3 ⟨rfl, hr3, ho3⟩
  have hz2 : w.heap.size + 1 ≤ w2.heap.size := by have := O2.out.size; simp at this; omega
  have hrE : r < w.heap.size := hrl
  have HZ : Hid (Row1 w3 w.heap.size 42 evZero.cells) := ho3.row ((O2.out.row (Row1.made w 42 evZero.cells) (by omega)).ext (Ext.alloc _ _) (by omega)) (by omega)
  have HEV : Hid (Row1 w3 w2.heap.size 42 (⟨n0, n1, false, 0, 0, 0, 0, 0, 0, 0⟩ : EvD).cells) := ho3.row (Row1.made w2 42 (⟨n0, n1, false, 0, 0, 0, 0, 0, 0, 0⟩ : EvD).cells) (by omega)
  have R3 := Lib.hid hr3
  have O3 : Hid (Only (fun i => i = r) w w3) := ((Only.of (Ext.alloc _ _)).trans' (O2.out.ext (Ext.alloc _ _))).trans' ho3
  have hz3 : w2.heap.size + 1 ≤ w3.heap.size := by have := ho3.size; simp at this; omega
  clear hr3 ho3 R1 R2 O1 O2 H0
  generalize w2.heap.size = E at *
  obtain ⟨h2, hh2⟩ : ∃ h, hd ws 2 = h := ⟨_, rfl⟩
  rw [hh2]
  have HH2 := Lib.hid hh2
  have HNE : Hid ((ws.drop 2).isEmpty = true → h2 = ⟨#[]⟩) := fun q => by
    rw [← hh2]
    unfold hd sHead
    have : ws.drop 2 = [] := by simpa using q
    rw [this]
    rfl
  clear hh2
  by_cases hA : h2 = txAnswer
  · subst hA
    have q1 : (txAnswer.toList == [97, 110, 115, 119, 101, 114]) = true := by rw [show txAnswer = ⟨[97, 110, 115, 119, 101, 114].toArray⟩ from rfl, ByteArray.toList_mk]; rfl
    have HNE2 : Hid ((ws.drop 2).isEmpty = false) := by
      unfold Hid
      cases q : (ws.drop 2).isEmpty with
      | false => rfl
      | true => have := HNE.out q; exact absurd this (by decide)
    go_wp2_with fail
    refine (num_at r B 3 ws _ _ R3.out (HSZ.out 3)).mono ?_
    rintro e w4 ⟨n3, rfl, hn3, hr4, ho4⟩
    have N3 := Lib.hid hn3
    have R4 := Lib.hid hr4
    have O4 := Lib.hid ho4
    clear hn3 hr4 ho4
    go_wp2_with fail
    refine (num_at r B 4 ws _ _ R4.out (HSZ.out 4)).mono ?_
    rintro e w5 ⟨n4, rfl, hn4, hr5, ho5⟩
    have N4 := Lib.hid hn4
    have R5 := Lib.hid hr5
    have O5 := Lib.hid (O3.out.trans' (O4.out.trans' ho5))
    have HZ5 := Lib.hid ((O4.out.trans' ho5).row HZ.out (by omega))
    have HE5 := Lib.hid ((O4.out.trans' ho5).row HEV.out (by omega))
    clear hn4 hr5 ho5 R4 O4 HZ HEV
    obtain ⟨e0, e1, e2, e3, e4, e5, e6, e7, e8, e9⟩ := At10.row HE5.out
    have g2 := HE5.out.soft 2
    have g3 := HE5.out.soft 3
    have g9 := HE5.out.soft 9
    go_upto_region 13 with fail
    generalize hwz : World.setCell _ _ _ = wz
    have HEZ : Hid (Row1 wz E 42 (⟨n0, n1, true, n3, 0, 0, 0, 0, 0, n4⟩ : EvD).cells) := by
      subst hwz
      exact ((HE5.out.set 2 _).set 3 _).set 9 _
    have HOE : Hid (Only (fun i => i = E) w5 wz) := by
      subst hwz
      exact ((Only.refl.setCell (F := fun i => i = E) (p := ⟨E, 2, none⟩) (.inl rfl) _).setCell (p := ⟨E, 3, none⟩) (.inl rfl) _).setCell (p := ⟨E, 9, none⟩) (.inl rfl) _
    clear hwz e0 e1 e2 e3 e4 e5 e6 e7 e8 e9 g2 g3 g9
    have HZZ := Lib.hid (HOE.out.row HZ5.out (by omega))
    have RZ := Lib.hid (R5.out.only HOE.out (fun i q => by omega))
    have OZ := Lib.hid (O5.out.trans HOE.out (fun i q => by omega))
    have AE := At10.row HEZ.out; have AZ := At10.row HZZ.out; have FZ : (wz.frozen? ⟨w.heap.size, 0, none⟩ = false ∧ wz.frozen? ⟨w.heap.size, 1, none⟩ = false ∧ wz.frozen? ⟨w.heap.size, 2, none⟩ = false ∧ wz.frozen? ⟨w.heap.size, 3, none⟩ = false ∧ wz.frozen? ⟨w.heap.size, 4, none⟩ = false ∧ wz.frozen? ⟨w.heap.size, 5, none⟩ = false ∧ wz.frozen? ⟨w.heap.size, 6, none⟩ = false ∧ wz.frozen? ⟨w.heap.size, 7, none⟩ = false ∧ wz.frozen? ⟨w.heap.size, 8, none⟩ = false ∧ wz.frozen? ⟨w.heap.size, 9, none⟩ = false) := ⟨HZZ.out.soft 0, HZZ.out.soft 1, HZZ.out.soft 2, HZZ.out.soft 3, HZZ.out.soft 4, HZZ.out.soft 5, HZZ.out.soft 6, HZZ.out.soft 7, HZZ.out.soft 8, HZZ.out.soft 9⟩; obtain ⟨x0, x1, x2, x3, x4, x5, x6, x7, x8, x9⟩ := AE; obtain ⟨y0, y1, y2, y3, y4, y5, y6, y7, y8, y9⟩ := AZ; obtain ⟨f0, f1, f2, f3, f4, f5, f6, f7, f8, f9⟩ := FZ; simp only [evZero] at y0 y1 y2 y3 y4 y5 y6 y7 y8 y9; go_wp2_with fail
    generalize hwf : World.setCell _ _ _ = wf; have HF : Row1 wf w.heap.size 42 (⟨n0, n1, true, n3, 0, 0, 0, 0, 0, n4⟩ : EvD).cells := (by subst hwf; exact ((((((((((HZZ.out.set 0 _).set 1 _).set 2 _).set 3 _).set 4 _).set 5 _).set 6 _).set 7 _).set 8 _).set 9 _)); have OF : Only (fun i => i = w.heap.size) wz wf := (by subst hwf; exact (((((((((((Only.refl : Only (fun i => i = w.heap.size) wz wz).setCell (p := ⟨w.heap.size, 0, none⟩) (.inl rfl) _).setCell (p := ⟨w.heap.size, 1, none⟩) (.inl rfl) _).setCell (p := ⟨w.heap.size, 2, none⟩) (.inl rfl) _).setCell (p := ⟨w.heap.size, 3, none⟩) (.inl rfl) _).setCell (p := ⟨w.heap.size, 4, none⟩) (.inl rfl) _).setCell (p := ⟨w.heap.size, 5, none⟩) (.inl rfl) _).setCell (p := ⟨w.heap.size, 6, none⟩) (.inl rfl) _).setCell (p := ⟨w.heap.size, 7, none⟩) (.inl rfl) _).setCell (p := ⟨w.heap.size, 8, none⟩) (.inl rfl) _).setCell (p := ⟨w.heap.size, 9, none⟩) (.inl rfl) _)); obtain ⟨s0, s1, s2, s3, s4, s5, s6, s7, s8, s9⟩ := At10.row HF; have RF := RZ.out.only OF (fun i q => by omega); have OFF := OZ.out.trans OF (fun i q => by omega); clear hwf x0 x1 x2 x3 x4 x5 x6 x7 x8 x9 y0 y1 y2 y3 y4 y5 y6 y7 y8 y9 f0 f1 f2 f3 f4 f5 f6 f7 f8 f9
    have hres := res_ans ws n0 n1 n3 n4 HH2.out HNE2.out N0.out N1.out N3.out N4.out
    exact bodyPost_ret (v := .agg #[.int .i64 n0, .int .i64 n1, .bool true, .int .i64 n3, .int .i64 0, .int .i64 0, .int .i64 0, .int .i64 0, .int .i64 0, .int .i64 n4]) (by simp [results, Tryd.results30, go_sem, s0, s1, s2, s3, s4, s5, s6, s7, s8, s9]) rfl ⟨_, _, _, rfl, RF, OFF, hres⟩
  · have q1 : (h2.toList == [97, 110, 115, 119, 101, 114]) = false := by
      have e := str_eqb h2 txAnswer
      rw [show txAnswer = ⟨[97, 110, 115, 119, 101, 114].toArray⟩ from rfl, ByteArray.toList_mk [97, 110, 115, 119, 101, 114]] at e
      rw [e]
      exact decide_eq_false hA
    by_cases hI : h2 = txInvoke
    · subst hI
      have q2 : (txInvoke.toList == [105, 110, 118, 111, 107, 101]) = true := by rw [show txInvoke = ⟨[105, 110, 118, 111, 107, 101].toArray⟩ from rfl, ByteArray.toList_mk]; rfl
      have HNE2 : Hid ((ws.drop 2).isEmpty = false) := by
        unfold Hid
        cases q : (ws.drop 2).isEmpty with
        | false => rfl
        | true => have := HNE.out q; exact absurd this (by decide)
      clear hA
      go_wp2_with fail
      refine (num_at r B 3 ws _ _ R3.out (HSZ.out 3)).mono ?_
      rintro e w4 ⟨n3, rfl, hn3, hr4, ho4⟩
      have N3 := Lib.hid hn3
      have R4 := Lib.hid hr4
      have O4 := Lib.hid ho4
      clear hn3 hr4 ho4
      go_wp2_with fail
      refine (num_at r B 4 ws _ _ R4.out (HSZ.out 4)).mono ?_
      rintro e w5 ⟨n4, rfl, hn4, hr5, ho5⟩
      have N4 := Lib.hid hn4
      have R5 := Lib.hid hr5
      have O5 := Lib.hid (O4.out.trans' ho5)
      clear hn4 hr5 ho5 R4 O4
      go_wp2_with fail
      refine (kinds_any _).mono ?_
      rintro e w6 ⟨rfl, hk6, hb6⟩
      have R6 := Lib.hid (R5.out.ext hb6)
      have O6 := Lib.hid (O5.out.ext hb6)
      clear R5 O5 hb6
      go_wp2_with fail
      refine (word_at kindNames _ r B 5 ws _ _ kind0 (by decide) hk6 R6.out).mono ?_
      rintro e w7 ⟨rfl, hr7, ho7⟩
      have R7 := Lib.hid hr7
      have O7 := Lib.hid (O6.out.trans' ho7)
      clear hr7 ho7 hk6 R6 O6
      go_wp2_with fail
      refine (methods_any _).mono ?_
      rintro e w8 ⟨rfl, hk8, hb8⟩
      have R8 := Lib.hid (R7.out.ext hb8)
      have O8 := Lib.hid (O7.out.ext hb8)
      clear R7 O7 hb8
      go_wp2_with fail
      refine (word_at methNames _ r B 6 ws _ _ meth0 (by decide) hk8 R8.out).mono ?_
      rintro e w9 ⟨rfl, hr9, ho9⟩
      have R9 := Lib.hid hr9
      have O9 := Lib.hid (O8.out.trans' ho9)
      have OW := Lib.hid (O3.out.trans' O9.out)
      have HZ9 := Lib.hid (O9.out.row HZ.out (by omega))
      have HE9 := Lib.hid (O9.out.row HEV.out (by omega))
      clear hr9 ho9 hk8 R8 O8 HZ HEV O9 O3
      obtain ⟨kv, hkv⟩ : ∃ kv, wordV kindNames (hd ws 5) = kv := ⟨_, rfl⟩
      obtain ⟨mv, hmv⟩ : ∃ mv, wordV methNames (hd ws 6) = mv := ⟨_, rfl⟩
      rw [hkv, hmv]
      have HKV : Hid (kindV ws = kv) := hkv
      have HMV : Hid (methV ws = mv) := hmv
      clear hkv hmv
      obtain ⟨e0, e1, e2, e3, e4, e5, e6, e7, e8, e9⟩ := At10.row HE9.out
      have g3 := HE9.out.soft 3
      have g4 := HE9.out.soft 4
      have g5 := HE9.out.soft 5
      have g6 := HE9.out.soft 6
      go_upto_region 8 with fail
      generalize hwz : World.setCell _ _ _ = wz
      have HEZ : Hid (Row1 wz E 42 (⟨n0, n1, false, n3, n4, kv, mv, 0, 0, 0⟩ : EvD).cells) := by
        subst hwz
        exact ((((HE9.out.set 3 _).set 4 _).set 5 _).set 6 _)
      have HOE : Hid (Only (fun i => i = E) w9 wz) := by
        subst hwz
        exact (((((Only.refl : Only (fun i => i = E) w9 w9).setCell (F := fun i => i = E) (p := ⟨E, 3, none⟩) (.inl rfl) _).setCell (F := fun i => i = E) (p := ⟨E, 4, none⟩) (.inl rfl) _).setCell (F := fun i => i = E) (p := ⟨E, 5, none⟩) (.inl rfl) _).setCell (F := fun i => i = E) (p := ⟨E, 6, none⟩) (.inl rfl) _)
      clear hwz e0 e1 e2 e3 e4 e5 e6 e7 e8 e9
      have HZZ := Lib.hid (HOE.out.row HZ9.out (by omega))
      have RZ := Lib.hid (R9.out.only HOE.out (fun i q => by omega))
      have OZ := Lib.hid (OW.out.trans HOE.out (fun i q => by omega))
      clear g3 g4 g5 g6 HE9 HZ9 R9 OW HOE
      obtain ⟨e0, e1, e2, e3, e4, e5, e6, e7, e8, e9⟩ := At10.row HEZ.out
      go_wp2_with fail
      refine (arguments_any mv _).mono ?_
      rintro e w' ⟨rfl, rfl⟩
      obtain ⟨n, hn⟩ : ∃ n, argsN mv = n := ⟨_, rfl⟩
      rw [hn]
      have HN : Hid (argsN (methV ws) = n) := by unfold Hid; rw [HMV.out, hn]
      clear hn
      clear e0 e1 e2 e3 e4 e5 e6 e7 e8 e9
      by_cases c0 : n ≤ 0
      · have q3 : decide (0 < n) = false := by simp; omega
        have hres0 := Lib.hid (res_inv0 ws n0 n1 n3 n4 kv mv n HH2.out HNE2.out N0.out N1.out N3.out N4.out HKV.out HMV.out HN.out c0)
        clear c0
        go_upto_region 13 with fail
        have AE := At10.row HEZ.out; have AZ := At10.row HZZ.out; have FZ : (w'.frozen? ⟨w.heap.size, 0, none⟩ = false ∧ w'.frozen? ⟨w.heap.size, 1, none⟩ = false ∧ w'.frozen? ⟨w.heap.size, 2, none⟩ = false ∧ w'.frozen? ⟨w.heap.size, 3, none⟩ = false ∧ w'.frozen? ⟨w.heap.size, 4, none⟩ = false ∧ w'.frozen? ⟨w.heap.size, 5, none⟩ = false ∧ w'.frozen? ⟨w.heap.size, 6, none⟩ = false ∧ w'.frozen? ⟨w.heap.size, 7, none⟩ = false ∧ w'.frozen? ⟨w.heap.size, 8, none⟩ = false ∧ w'.frozen? ⟨w.heap.size, 9, none⟩ = false) := ⟨HZZ.out.soft 0, HZZ.out.soft 1, HZZ.out.soft 2, HZZ.out.soft 3, HZZ.out.soft 4, HZZ.out.soft 5, HZZ.out.soft 6, HZZ.out.soft 7, HZZ.out.soft 8, HZZ.out.soft 9⟩; obtain ⟨x0, x1, x2, x3, x4, x5, x6, x7, x8, x9⟩ := AE; obtain ⟨y0, y1, y2, y3, y4, y5, y6, y7, y8, y9⟩ := AZ; obtain ⟨f0, f1, f2, f3, f4, f5, f6, f7, f8, f9⟩ := FZ; simp only [evZero] at y0 y1 y2 y3 y4 y5 y6 y7 y8 y9; go_wp2_with fail
        generalize hwf : World.setCell _ _ _ = wf; have HF : Row1 wf w.heap.size 42 (⟨n0, n1, false, n3, n4, kv, mv, 0, 0, 0⟩ : EvD).cells := (by subst hwf; exact ((((((((((HZZ.out.set 0 _).set 1 _).set 2 _).set 3 _).set 4 _).set 5 _).set 6 _).set 7 _).set 8 _).set 9 _)); have OF : Only (fun i => i = w.heap.size) w' wf := (by subst hwf; exact (((((((((((Only.refl : Only (fun i => i = w.heap.size) w' w').setCell (p := ⟨w.heap.size, 0, none⟩) (.inl rfl) _).setCell (p := ⟨w.heap.size, 1, none⟩) (.inl rfl) _).setCell (p := ⟨w.heap.size, 2, none⟩) (.inl rfl) _).setCell (p := ⟨w.heap.size, 3, none⟩) (.inl rfl) _).setCell (p := ⟨w.heap.size, 4, none⟩) (.inl rfl) _).setCell (p := ⟨w.heap.size, 5, none⟩) (.inl rfl) _).setCell (p := ⟨w.heap.size, 6, none⟩) (.inl rfl) _).setCell (p := ⟨w.heap.size, 7, none⟩) (.inl rfl) _).setCell (p := ⟨w.heap.size, 8, none⟩) (.inl rfl) _).setCell (p := ⟨w.heap.size, 9, none⟩) (.inl rfl) _)); obtain ⟨s0, s1, s2, s3, s4, s5, s6, s7, s8, s9⟩ := At10.row HF; have RF := RZ.out.only OF (fun i q => by omega); have OFF := OZ.out.trans OF (fun i q => by omega); clear hwf x0 x1 x2 x3 x4 x5 x6 x7 x8 x9 y0 y1 y2 y3 y4 y5 y6 y7 y8 y9 f0 f1 f2 f3 f4 f5 f6 f7 f8 f9
        have hres := hres0.out
        exact bodyPost_ret (v := .agg #[.int .i64 n0, .int .i64 n1, .bool false, .int .i64 n3, .int .i64 n4, .int .i64 kv, .int .i64 mv, .int .i64 0, .int .i64 0, .int .i64 0]) (by simp [results, Tryd.results30, go_sem, s0, s1, s2, s3, s4, s5, s6, s7, s8, s9]) rfl ⟨_, _, _, rfl, RF, OFF, hres⟩
      · by_cases c1 : n ≤ 1
        · have q3 : decide (0 < n) = true := by simp; omega
          have q4 : decide (1 < n) = false := by simp; omega
          have hres0 := Lib.hid (fun n7 h7 => res_inv1 ws n0 n1 n3 n4 kv mv n n7 HH2.out HNE2.out N0.out N1.out N3.out N4.out HKV.out HMV.out HN.out c0 c1 h7)
          clear c0 c1
          go_wp2_with fail
          refine (num_at r B 7 ws _ _ RZ.out (HSZ.out 7)).mono ?_
          rintro e wa ⟨n7, rfl, hn7, hra, hoa⟩
          have N7 := Lib.hid hn7
          have RA := Lib.hid hra
          have OA := Lib.hid (OZ.out.trans' hoa)
          have HZA := Lib.hid (hoa.row HZZ.out (by omega))
          have HEA := Lib.hid (hoa.row HEZ.out (by omega))
          clear hn7 hra hoa RZ OZ HZZ HEZ
          obtain ⟨e0, e1, e2, e3, e4, e5, e6, e7, e8, e9⟩ := At10.row HEA.out
          have g7 := HEA.out.soft 7
          go_upto_region 13 with fail
          generalize hwz : World.setCell _ _ _ = wb
          have HEZ : Hid (Row1 wb E 42 (⟨n0, n1, false, n3, n4, kv, mv, n7, 0, 0⟩ : EvD).cells) := by
            subst hwz
            exact (HEA.out.set 7 _)
          have HOE : Hid (Only (fun i => i = E) wa wb) := by
            subst hwz
            exact ((Only.refl : Only (fun i => i = E) wa wa).setCell (F := fun i => i = E) (p := ⟨E, 7, none⟩) (.inl rfl) _)
          clear hwz e0 e1 e2 e3 e4 e5 e6 e7 e8 e9
          have HZZ := Lib.hid (HOE.out.row HZA.out (by omega))
          have RZ := Lib.hid (RA.out.only HOE.out (fun i q => by omega))
          have OZ := Lib.hid (OA.out.trans HOE.out (fun i q => by omega))
          clear g7
          have AE := At10.row HEZ.out; have AZ := At10.row HZZ.out; have FZ : (wb.frozen? ⟨w.heap.size, 0, none⟩ = false ∧ wb.frozen? ⟨w.heap.size, 1, none⟩ = false ∧ wb.frozen? ⟨w.heap.size, 2, none⟩ = false ∧ wb.frozen? ⟨w.heap.size, 3, none⟩ = false ∧ wb.frozen? ⟨w.heap.size, 4, none⟩ = false ∧ wb.frozen? ⟨w.heap.size, 5, none⟩ = false ∧ wb.frozen? ⟨w.heap.size, 6, none⟩ = false ∧ wb.frozen? ⟨w.heap.size, 7, none⟩ = false ∧ wb.frozen? ⟨w.heap.size, 8, none⟩ = false ∧ wb.frozen? ⟨w.heap.size, 9, none⟩ = false) := ⟨HZZ.out.soft 0, HZZ.out.soft 1, HZZ.out.soft 2, HZZ.out.soft 3, HZZ.out.soft 4, HZZ.out.soft 5, HZZ.out.soft 6, HZZ.out.soft 7, HZZ.out.soft 8, HZZ.out.soft 9⟩; obtain ⟨x0, x1, x2, x3, x4, x5, x6, x7, x8, x9⟩ := AE; obtain ⟨y0, y1, y2, y3, y4, y5, y6, y7, y8, y9⟩ := AZ; obtain ⟨f0, f1, f2, f3, f4, f5, f6, f7, f8, f9⟩ := FZ; simp only [evZero] at y0 y1 y2 y3 y4 y5 y6 y7 y8 y9; go_wp2_with fail
          generalize hwf : World.setCell _ _ _ = wf; have HF : Row1 wf w.heap.size 42 (⟨n0, n1, false, n3, n4, kv, mv, n7, 0, 0⟩ : EvD).cells := (by subst hwf; exact ((((((((((HZZ.out.set 0 _).set 1 _).set 2 _).set 3 _).set 4 _).set 5 _).set 6 _).set 7 _).set 8 _).set 9 _)); have OF : Only (fun i => i = w.heap.size) wb wf := (by subst hwf; exact (((((((((((Only.refl : Only (fun i => i = w.heap.size) wb wb).setCell (p := ⟨w.heap.size, 0, none⟩) (.inl rfl) _).setCell (p := ⟨w.heap.size, 1, none⟩) (.inl rfl) _).setCell (p := ⟨w.heap.size, 2, none⟩) (.inl rfl) _).setCell (p := ⟨w.heap.size, 3, none⟩) (.inl rfl) _).setCell (p := ⟨w.heap.size, 4, none⟩) (.inl rfl) _).setCell (p := ⟨w.heap.size, 5, none⟩) (.inl rfl) _).setCell (p := ⟨w.heap.size, 6, none⟩) (.inl rfl) _).setCell (p := ⟨w.heap.size, 7, none⟩) (.inl rfl) _).setCell (p := ⟨w.heap.size, 8, none⟩) (.inl rfl) _).setCell (p := ⟨w.heap.size, 9, none⟩) (.inl rfl) _)); obtain ⟨s0, s1, s2, s3, s4, s5, s6, s7, s8, s9⟩ := At10.row HF; have RF := RZ.out.only OF (fun i q => by omega); have OFF := OZ.out.trans OF (fun i q => by omega); clear hwf x0 x1 x2 x3 x4 x5 x6 x7 x8 x9 y0 y1 y2 y3 y4 y5 y6 y7 y8 y9 f0 f1 f2 f3 f4 f5 f6 f7 f8 f9
          have hres := hres0.out n7 N7.out
          exact bodyPost_ret (v := .agg #[.int .i64 n0, .int .i64 n1, .bool false, .int .i64 n3, .int .i64 n4, .int .i64 kv, .int .i64 mv, .int .i64 n7, .int .i64 0, .int .i64 0]) (by simp [results, Tryd.results30, go_sem, s0, s1, s2, s3, s4, s5, s6, s7, s8, s9]) rfl ⟨_, _, _, rfl, RF, OFF, hres⟩
        · have q3 : decide (0 < n) = true := by simp; omega
          have q4 : decide (1 < n) = true := by simp; omega
          have hres0 := Lib.hid (fun n7 n8 h7 h8 => res_inv2 ws n0 n1 n3 n4 kv mv n n7 n8 HH2.out HNE2.out N0.out N1.out N3.out N4.out HKV.out HMV.out HN.out c0 c1 h7 h8)
          clear c0 c1
          go_wp2_with fail
          refine (num_at r B 7 ws _ _ RZ.out (HSZ.out 7)).mono ?_
          rintro e wa ⟨n7, rfl, hn7, hra, hoa⟩
          have N7 := Lib.hid hn7
          have RA := Lib.hid hra
          have OA := Lib.hid (OZ.out.trans' hoa)
          have HZA := Lib.hid (hoa.row HZZ.out (by omega))
          have HEA := Lib.hid (hoa.row HEZ.out (by omega))
          clear hn7 hra hoa RZ OZ HZZ HEZ
          obtain ⟨e0, e1, e2, e3, e4, e5, e6, e7, e8, e9⟩ := At10.row HEA.out
          have g7 := HEA.out.soft 7
          go_upto_region 11 with fail
          generalize hwz : World.setCell _ _ _ = wb
          have HEZ : Hid (Row1 wb E 42 (⟨n0, n1, false, n3, n4, kv, mv, n7, 0, 0⟩ : EvD).cells) := by
            subst hwz
            exact (HEA.out.set 7 _)
          have HOE : Hid (Only (fun i => i = E) wa wb) := by
            subst hwz
            exact ((Only.refl : Only (fun i => i = E) wa wa).setCell (F := fun i => i = E) (p := ⟨E, 7, none⟩) (.inl rfl) _)
          clear hwz e0 e1 e2 e3 e4 e5 e6 e7 e8 e9
          have HZZ := Lib.hid (HOE.out.row HZA.out (by omega))
          have RZ := Lib.hid (RA.out.only HOE.out (fun i q => by omega))
          have OZ := Lib.hid (OA.out.trans HOE.out (fun i q => by omega))
          clear g7 RA OA HZA HEA HOE
          go_wp2_with fail
          refine (num_at r B 8 ws _ _ RZ.out (HSZ.out 8)).mono ?_
          rintro e wd ⟨n8, rfl, hn8, hrd, hod⟩
          have N8 := Lib.hid hn8
          have RD := Lib.hid hrd
          have OD := Lib.hid (OZ.out.trans' hod)
          have HZD := Lib.hid (hod.row HZZ.out (by omega))
          have HED := Lib.hid (hod.row HEZ.out (by omega))
          clear hn8 hrd hod RZ OZ HZZ HEZ
          obtain ⟨e0, e1, e2, e3, e4, e5, e6, e7, e8, e9⟩ := At10.row HED.out
          have g8 := HED.out.soft 8
          go_upto_region 13 with fail
          generalize hwz : World.setCell _ _ _ = we
          have HEZ : Hid (Row1 we E 42 (⟨n0, n1, false, n3, n4, kv, mv, n7, n8, 0⟩ : EvD).cells) := by
            subst hwz
            exact (HED.out.set 8 _)
          have HOE : Hid (Only (fun i => i = E) wd we) := by
            subst hwz
            exact ((Only.refl : Only (fun i => i = E) wd wd).setCell (F := fun i => i = E) (p := ⟨E, 8, none⟩) (.inl rfl) _)
          clear hwz e0 e1 e2 e3 e4 e5 e6 e7 e8 e9
          have HZZ := Lib.hid (HOE.out.row HZD.out (by omega))
          have RZ := Lib.hid (RD.out.only HOE.out (fun i q => by omega))
          have OZ := Lib.hid (OD.out.trans HOE.out (fun i q => by omega))
          clear g8
          have AE := At10.row HEZ.out; have AZ := At10.row HZZ.out; have FZ : (we.frozen? ⟨w.heap.size, 0, none⟩ = false ∧ we.frozen? ⟨w.heap.size, 1, none⟩ = false ∧ we.frozen? ⟨w.heap.size, 2, none⟩ = false ∧ we.frozen? ⟨w.heap.size, 3, none⟩ = false ∧ we.frozen? ⟨w.heap.size, 4, none⟩ = false ∧ we.frozen? ⟨w.heap.size, 5, none⟩ = false ∧ we.frozen? ⟨w.heap.size, 6, none⟩ = false ∧ we.frozen? ⟨w.heap.size, 7, none⟩ = false ∧ we.frozen? ⟨w.heap.size, 8, none⟩ = false ∧ we.frozen? ⟨w.heap.size, 9, none⟩ = false) := ⟨HZZ.out.soft 0, HZZ.out.soft 1, HZZ.out.soft 2, HZZ.out.soft 3, HZZ.out.soft 4, HZZ.out.soft 5, HZZ.out.soft 6, HZZ.out.soft 7, HZZ.out.soft 8, HZZ.out.soft 9⟩; obtain ⟨x0, x1, x2, x3, x4, x5, x6, x7, x8, x9⟩ := AE; obtain ⟨y0, y1, y2, y3, y4, y5, y6, y7, y8, y9⟩ := AZ; obtain ⟨f0, f1, f2, f3, f4, f5, f6, f7, f8, f9⟩ := FZ; simp only [evZero] at y0 y1 y2 y3 y4 y5 y6 y7 y8 y9; go_wp2_with fail
          generalize hwf : World.setCell _ _ _ = wf; have HF : Row1 wf w.heap.size 42 (⟨n0, n1, false, n3, n4, kv, mv, n7, n8, 0⟩ : EvD).cells := (by subst hwf; exact ((((((((((HZZ.out.set 0 _).set 1 _).set 2 _).set 3 _).set 4 _).set 5 _).set 6 _).set 7 _).set 8 _).set 9 _)); have OF : Only (fun i => i = w.heap.size) we wf := (by subst hwf; exact (((((((((((Only.refl : Only (fun i => i = w.heap.size) we we).setCell (p := ⟨w.heap.size, 0, none⟩) (.inl rfl) _).setCell (p := ⟨w.heap.size, 1, none⟩) (.inl rfl) _).setCell (p := ⟨w.heap.size, 2, none⟩) (.inl rfl) _).setCell (p := ⟨w.heap.size, 3, none⟩) (.inl rfl) _).setCell (p := ⟨w.heap.size, 4, none⟩) (.inl rfl) _).setCell (p := ⟨w.heap.size, 5, none⟩) (.inl rfl) _).setCell (p := ⟨w.heap.size, 6, none⟩) (.inl rfl) _).setCell (p := ⟨w.heap.size, 7, none⟩) (.inl rfl) _).setCell (p := ⟨w.heap.size, 8, none⟩) (.inl rfl) _).setCell (p := ⟨w.heap.size, 9, none⟩) (.inl rfl) _)); obtain ⟨s0, s1, s2, s3, s4, s5, s6, s7, s8, s9⟩ := At10.row HF; have RF := RZ.out.only OF (fun i q => by omega); have OFF := OZ.out.trans OF (fun i q => by omega); clear hwf x0 x1 x2 x3 x4 x5 x6 x7 x8 x9 y0 y1 y2 y3 y4 y5 y6 y7 y8 y9 f0 f1 f2 f3 f4 f5 f6 f7 f8 f9
          have hres := hres0.out n7 n8 N7.out N8.out
          exact bodyPost_ret (v := .agg #[.int .i64 n0, .int .i64 n1, .bool false, .int .i64 n3, .int .i64 n4, .int .i64 kv, .int .i64 mv, .int .i64 n7, .int .i64 n8, .int .i64 0]) (by simp [results, Tryd.results30, go_sem, s0, s1, s2, s3, s4, s5, s6, s7, s8, s9]) rfl ⟨_, _, _, rfl, RF, OFF, hres⟩
    · have q2 : (h2.toList == [105, 110, 118, 111, 107, 101]) = false := by
        have e := str_eqb h2 txInvoke
        rw [show txInvoke = ⟨[105, 110, 118, 111, 107, 101].toArray⟩ from rfl, ByteArray.toList_mk [105, 110, 118, 111, 107, 101]] at e
        rw [e]
        exact decide_eq_false hI
      have hres0 := Lib.hid (res_none ws ⟨n0, n1, false, 0, 0, 0, 0, 0, 0, 0⟩ (ws.drop (2 + 1)) (by rw [HH2.out]; exact hA) (by rw [HH2.out]; exact hI))
      clear hA hI
      obtain ⟨k1, k2⟩ := R3.out.cells
      go_upto_region 13 with fail
      generalize hwz : World.setCell _ _ _ = wz
      have RZ : Hid (RdAt wz r B (ws.drop (2 + 1)) false) := by
        subst hwz
        exact R3.out.setOk false
      have HOE : Hid (Only (fun i => i = r) w3 wz) := by
        subst hwz
        exact Only.setCell (F := fun i => i = r) (p := ⟨r, 1, none⟩) Only.refl (.inl rfl) _
      clear hwz k1 k2
      have HZZ := Lib.hid (HOE.out.row HZ.out (by omega))
      have HEZ := Lib.hid (HOE.out.row HEV.out (by omega))
      have OZ := Lib.hid (O3.out.trans' HOE.out)
      have AE := At10.row HEZ.out; have AZ := At10.row HZZ.out; have FZ : (wz.frozen? ⟨w.heap.size, 0, none⟩ = false ∧ wz.frozen? ⟨w.heap.size, 1, none⟩ = false ∧ wz.frozen? ⟨w.heap.size, 2, none⟩ = false ∧ wz.frozen? ⟨w.heap.size, 3, none⟩ = false ∧ wz.frozen? ⟨w.heap.size, 4, none⟩ = false ∧ wz.frozen? ⟨w.heap.size, 5, none⟩ = false ∧ wz.frozen? ⟨w.heap.size, 6, none⟩ = false ∧ wz.frozen? ⟨w.heap.size, 7, none⟩ = false ∧ wz.frozen? ⟨w.heap.size, 8, none⟩ = false ∧ wz.frozen? ⟨w.heap.size, 9, none⟩ = false) := ⟨HZZ.out.soft 0, HZZ.out.soft 1, HZZ.out.soft 2, HZZ.out.soft 3, HZZ.out.soft 4, HZZ.out.soft 5, HZZ.out.soft 6, HZZ.out.soft 7, HZZ.out.soft 8, HZZ.out.soft 9⟩; obtain ⟨x0, x1, x2, x3, x4, x5, x6, x7, x8, x9⟩ := AE; obtain ⟨y0, y1, y2, y3, y4, y5, y6, y7, y8, y9⟩ := AZ; obtain ⟨f0, f1, f2, f3, f4, f5, f6, f7, f8, f9⟩ := FZ; simp only [evZero] at y0 y1 y2 y3 y4 y5 y6 y7 y8 y9; go_wp2_with fail
      generalize hwf : World.setCell _ _ _ = wf; have HF : Row1 wf w.heap.size 42 (⟨n0, n1, false, 0, 0, 0, 0, 0, 0, 0⟩ : EvD).cells := (by subst hwf; exact ((((((((((HZZ.out.set 0 _).set 1 _).set 2 _).set 3 _).set 4 _).set 5 _).set 6 _).set 7 _).set 8 _).set 9 _)); have OF : Only (fun i => i = w.heap.size) wz wf := (by subst hwf; exact (((((((((((Only.refl : Only (fun i => i = w.heap.size) wz wz).setCell (p := ⟨w.heap.size, 0, none⟩) (.inl rfl) _).setCell (p := ⟨w.heap.size, 1, none⟩) (.inl rfl) _).setCell (p := ⟨w.heap.size, 2, none⟩) (.inl rfl) _).setCell (p := ⟨w.heap.size, 3, none⟩) (.inl rfl) _).setCell (p := ⟨w.heap.size, 4, none⟩) (.inl rfl) _).setCell (p := ⟨w.heap.size, 5, none⟩) (.inl rfl) _).setCell (p := ⟨w.heap.size, 6, none⟩) (.inl rfl) _).setCell (p := ⟨w.heap.size, 7, none⟩) (.inl rfl) _).setCell (p := ⟨w.heap.size, 8, none⟩) (.inl rfl) _).setCell (p := ⟨w.heap.size, 9, none⟩) (.inl rfl) _)); obtain ⟨s0, s1, s2, s3, s4, s5, s6, s7, s8, s9⟩ := At10.row HF; have RF := RZ.out.only OF (fun i q => by omega); have OFF := OZ.out.trans OF (fun i q => by omega); clear hwf x0 x1 x2 x3 x4 x5 x6 x7 x8 x9 y0 y1 y2 y3 y4 y5 y6 y7 y8 y9 f0 f1 f2 f3 f4 f5 f6 f7 f8 f9
      have hres := hres0.out
      exact bodyPost_ret (v := .agg #[.int .i64 n0, .int .i64 n1, .bool false, .int .i64 0, .int .i64 0, .int .i64 0, .int .i64 0, .int .i64 0, .int .i64 0, .int .i64 0]) (by simp [results, Tryd.results30, go_sem, s0, s1, s2, s3, s4, s5, s6, s7, s8, s9]) rfl ⟨_, _, _, rfl, RF, OFF, hres⟩
end Go.Proofs.YtgpnockjonicpaaDoor
