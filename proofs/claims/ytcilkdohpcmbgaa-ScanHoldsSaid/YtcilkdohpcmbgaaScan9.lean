/- The chapter's example answers true; the law ScanBounds answers true for every node that can be read. -/
import Derived.Test.YtcilkdohpcmbgaaScan8
namespace Go.Proofs.Ytcilkdohpcmbgaa
set_option linter.unusedSimpArgs false
set_option linter.unusedVariables false
open Go.RowKit

def exParts : List NCell := [⟨4, .slice none 0 0, sObject, ⟨#[61]⟩, 3⟩, ⟨4, .slice none 0 0, sInvoke, ⟨#[62, 61]⟩, 10⟩, ⟨4, .slice none 0 0, sInvoke, ⟨#[60]⟩, 20⟩]
theorem exBounds : boundsL exParts = [⟨sObject, 3, 3⟩, ⟨sInvoke, 10, 19⟩] := by
  decide +kernel
theorem exChoose : chooseL [⟨sObject, 3, 3⟩, ⟨sInvoke, 10, 19⟩] 9 [⟨3, 2⟩] [] [] = ⟨1, [3], 10, 19, 2⟩ := by
  decide +kernel

set_option maxRecDepth 100000 in
set_option maxHeartbeats 1600000 in
theorem awake_any (w : World) : Calls Try.prog 7 #[] w fun e w' => e = .returned (.bool true) ∧ Ext w w' := by
  go_enter Try.func7, Try.ntmps7
  go_wp2_with fail
  refine (compare_any _ _ _ _).mono ?_
  rintro e w1 ⟨rfl, hb1⟩
  have K1 := Lib.hid hb1
  clear hb1
  go_wp2_with fail
  refine (compare_any _ _ _ _).mono ?_
  rintro e w2 ⟨rfl, hb2⟩
  have K2 := Lib.hid (Ext.trans K1.out hb2)
  clear hb2
  go_wp2_with fail
  refine (compare_any _ _ _ _).mono ?_
  rintro e w3 ⟨rfl, hb3⟩
  have K3 := Lib.hid (Ext.trans K2.out hb3)
  clear hb3
  have hz3 := K3.out.size
  go_wp2_with fail
  refine (scanBounds_any ⟨2, .slice (some ⟨w3.heap.size, 0, none⟩) 3 3, ⟨#[]⟩, ⟨#[]⟩, 0⟩ exParts _ ⟨rfl, by simp, by simp, _, _, _, rfl⟩ ?_).mono ?_
  · refine Sl.laid (t := 24) (cs := exParts.flatMap NCell.cells) ((Row1.made w3 _ _).alloc _) rfl (by omega) (by simp [maxLen]) (fun i x hi => ?_)
    refine ⟨x.cells, ?_, rfl, flat_at NCell.cells 5 (fun _ => rfl) exParts i x hi⟩
    match i, hi with
    | 0, hi => injection hi with hi; subst hi; exact ⟨rfl, by simp, by simp, _, _, _, rfl⟩
    | 1, hi => injection hi with hi; subst hi; exact ⟨rfl, by simp, by simp, _, _, _, rfl⟩
    | 2, hi => injection hi with hi; subst hi; exact ⟨rfl, by simp, by simp, _, _, _, rfl⟩
  rintro e w4 ⟨⟨v4, rfl, hs4⟩, hb4⟩
  have K4 := Lib.hid (Ext.trans (by (repeat' (with_reducible first | exact K3.out | exact Below.refl _ _ | refine Ext.drewN ?_ _ | refine Below.drew ?_ | refine Below.setCell ?_ ?_ _ | refine Below.alloc ?_ ?_ _)) <;> (first | omega | (simp; done) | (simp; omega)) : Ext w _) hb4)
  rw [show partsL ⟨2, .slice (some ⟨w3.heap.size, 0, none⟩) 3 3, ⟨#[]⟩, ⟨#[]⟩, 0⟩ exParts = exParts from rfl, exBounds] at hs4
  obtain ⟨A4, c4, rfl⟩ := hs4.form
  have HS4 := Lib.hid hs4
  have hz4 := K4.out.size
  clear hs4 hb4
  go_wp2_with fail
  refine (choose_any _ _ _ _ _ 9 [⟨3, 2⟩] [] [] _ (HS4.out.ext (Ext.alloc _ _)) ?_ (Sl.nil _ _ _) (Sl.nil _ _ _) ?_ ?_ ?_ ?_ ?_ ?_).mono ?_
  · refine Sl.laid (Row1.made w4 71 [.int .i64 3, .int .i64 2]) rfl (by omega) (by simp [maxLen]) (fun i x hi => ?_)
    match i, hi with
    | 0, hi =>
      injection hi with hi
      subst hi
      exact ⟨_, rfl, rfl, fun j u hu => by simpa [Grp.cells] using hu⟩
  · intro i j hi hj hij; simp at hi hj; omega
  · intro i j hi; simp at hi
  · intro i j hi; simp at hi
  · simp
  · simp
  · simp
  rintro e w5 ⟨⟨fv, rfl, hs5, _⟩, hb5⟩
  rw [exChoose] at *
  dsimp only at *
  have K5 := Lib.hid (Ext.trans (by (repeat' (with_reducible first | exact K4.out | exact Below.refl _ _ | refine Ext.drewN ?_ _ | refine Below.drew ?_ | refine Below.setCell ?_ ?_ _ | refine Below.alloc ?_ ?_ _)) <;> (first | omega | (simp; done) | (simp; omega)) : Ext w _) hb5)
  have HS4 := Lib.hid ((HS4.out.ext (Ext.alloc _ _)).ext hb5)
  obtain ⟨A5, c5, rfl⟩ := hs5.form
  have HS5 := Lib.hid hs5
  have hz5 := K5.out.size
  clear hs5 hb5
  go_wp2_with fail
  refine (bounds_same _ _ [⟨sObject, 3, 3⟩, ⟨sInvoke, 10, 19⟩] _ (HS4.out.ext (by (repeat' (with_reducible first | exact Below.refl _ _ | refine Ext.drewN ?_ _ | refine Below.drew ?_ | refine Below.setCell ?_ ?_ _ | refine Below.alloc ?_ ?_ _)) <;> (first | omega | (simp; done) | (simp; omega)))) ?_).mono ?_
  · refine Sl.laid (cs := ([⟨sObject, 3, 3⟩, ⟨sInvoke, 10, 19⟩] : List Bnd).flatMap Bnd.cells) (Row1.made' (by simp) 43 _) rfl (by omega) (by simp [maxLen]) (fun i x hi => ⟨x.cells, rfl, rfl, flat_at Bnd.cells 3 (fun _ => rfl) _ i x hi⟩)
  rintro e w6 ⟨rfl, hb6⟩
  have p0 : w6.cell? ⟨w5.heap.size, 0, none⟩ = some (.int .i64 1) := by rw [hb6.cell (by simp; omega)]; simp
  have p1 : w6.cell? ⟨w5.heap.size, 1, none⟩ = some (.slice A5 1 c5) := by rw [hb6.cell (by simp; omega)]; simp
  have p2 : w6.cell? ⟨w5.heap.size, 2, none⟩ = some (.int .i64 10) := by rw [hb6.cell (by simp; omega)]; simp
  have p3 : w6.cell? ⟨w5.heap.size, 3, none⟩ = some (.int .i64 19) := by rw [hb6.cell (by simp; omega)]; simp
  have p4 : w6.cell? ⟨w5.heap.size, 4, none⟩ = some (.int .i64 2) := by rw [hb6.cell (by simp; omega)]; simp
  have hz6 := hb6.size
  simp at hz6
  have hlt6 : w5.heap.size < w6.heap.size := by omega
  have K6 := Lib.hid (Ext.trans (by (repeat' (with_reducible first | exact K5.out | exact Below.refl _ _ | refine Ext.drewN ?_ _ | refine Below.drew ?_ | refine Below.setCell ?_ ?_ _ | refine Below.alloc ?_ ?_ _)) <;> (first | omega | (simp; done) | (simp; omega)) : Ext w _) hb6)
  have HS5 := Lib.hid ((HS5.out.ext (by (repeat' (with_reducible first | exact Below.refl _ _ | refine Ext.drewN ?_ _ | refine Below.drew ?_ | refine Below.setCell ?_ ?_ _ | refine Below.alloc ?_ ?_ _)) <;> (first | omega | (simp; done) | (simp; omega)))).ext hb6)
  clear hb6
  go_wp2_with fail
  refine (ints_same _ _ [3] _ (HS5.out.ext (Ext.alloc _ _)) ?_).mono ?_
  · refine Sl.laid (Row1.made w6 3 [.int .i64 3]) rfl (by omega) (by simp [maxLen]) (fun i x hi => ?_)
    match i, hi with
    | 0, hi =>
      injection hi with hi
      subst hi
      exact ⟨_, rfl, rfl, fun j u hu => by simpa using hu⟩
  rintro e w7 ⟨rfl, hb7⟩
  have q2 : w7.cell? ⟨w5.heap.size, 2, none⟩ = some (.int .i64 10) := by rw [hb7.cell (by simp; omega), World.cell?_alloc_lt _ _ _ hlt6]; exact p2
  have q3 : w7.cell? ⟨w5.heap.size, 3, none⟩ = some (.int .i64 19) := by rw [hb7.cell (by simp; omega), World.cell?_alloc_lt _ _ _ hlt6]; exact p3
  have q4 : w7.cell? ⟨w5.heap.size, 4, none⟩ = some (.int .i64 2) := by rw [hb7.cell (by simp; omega), World.cell?_alloc_lt _ _ _ hlt6]; exact p4
  have hz7 := K6.out.size
  have K7 := Lib.hid (Ext.trans (by (repeat' (with_reducible first | exact K6.out | exact Below.refl _ _ | refine Ext.drewN ?_ _ | refine Below.drew ?_ | refine Below.setCell ?_ ?_ _ | refine Below.alloc ?_ ?_ _)) <;> (first | omega | (simp; done) | (simp; omega)) : Ext w _) hb7)
  clear hb7
  go_wp2_with fail
  go_ret
  exact ⟨rfl, K7.out⟩

/-- five cells of a block -/
abbrev Box5 (w : World) (b : Nat) (v0 v1 v2 v3 v4 : Value) : Prop := w.cell? ⟨b, 0, none⟩ = some v0 ∧ w.cell? ⟨b, 1, none⟩ = some v1 ∧ w.cell? ⟨b, 2, none⟩ = some v2 ∧ w.cell? ⟨b, 3, none⟩ = some v3 ∧ w.cell? ⟨b, 4, none⟩ = some v4
theorem Box5.ext {w w' : World} {b : Nat} {v0 v1 v2 v3 v4 : Value} (h : Box5 w b v0 v1 v2 v3 v4) (hb : Ext w w') (hlt : b < w.heap.size) : Box5 w' b v0 v1 v2 v3 v4 :=
  ⟨(hb.cell hlt).trans h.1, (hb.cell hlt).trans h.2.1, (hb.cell hlt).trans h.2.2.1, (hb.cell hlt).trans h.2.2.2.1, (hb.cell hlt).trans h.2.2.2.2⟩

set_option maxRecDepth 100000 in
set_option maxHeartbeats 1600000 in
theorem scanBoundsLaw_any (d : Nat) (n : NCell) (w : World) (hn : RN n n.cells) (hd : NOk w d n) :
    Calls Try.prog 3 #[.agg #[.int .i64 n.kind, n.kids, .string n.field, .string n.sign, .int .i64 n.value]] w fun e w' => e = .returned (.bool true) ∧ Ext w w' := by
  match d, hd with
  | d + 1, hd =>
  have HD := Lib.hid hd
  obtain ⟨ks, hks, _⟩ := hd
  obtain ⟨kind, kids, field, sign, value⟩ := n
  dsimp only at hks
  obtain ⟨A, c, rfl⟩ := hks.form
  have HKS := Lib.hid hks
  have HN := Lib.hid hn
  clear hks hn
  go_enter Try.func3, Try.ntmps3
  go_wp2_with fail
  refine (size_any (d + 1) ⟨kind, .slice A ks.length c, field, sign, value⟩ 0 _ (NOk.ext (Ext.alloc _ _) _ _ HD.out) (by omega) (by omega)).mono ?_
  rintro e w1 ⟨⟨z, rfl⟩, hb1⟩
  have X0 : Box5 w1 w.heap.size (.int .i64 kind) (.slice A ks.length c) (.string field) (.string sign) (.int .i64 value) := Box5.ext ⟨by simp, by simp, by simp, by simp, by simp⟩ hb1 (by simp)
  have hz1 := hb1.size
  simp at hz1
  have K1 := Lib.hid (Ext.trans (Ext.alloc _ _) hb1)
  clear hb1
  by_cases hz : 600 < z
  · go_wp2_with fail
    refine (awake_any _).mono ?_
    rintro e w2 ⟨rfl, hb2⟩
    go_wp2_with fail
    go_ret
    exact ⟨rfl, K1.out.trans hb2⟩
  · have hd6 : decide (600 < z) = false := by simpa using hz
    have XB := X0
    obtain ⟨b0, b1, b2, b3, b4⟩ := XB
    have hlt : w.heap.size < w1.heap.size := by omega
    go_wp2_with fail
    go_region_held3 (fun w' => w'.cell? ⟨w.heap.size, 0, none⟩ = some (.int .i64 kind) ∧ w'.cell? ⟨w.heap.size, 1, none⟩ = some (.slice A ks.length c) ∧ w'.cell? ⟨w.heap.size, 2, none⟩ = some (.string field) ∧ w'.cell? ⟨w.heap.size, 3, none⟩ = some (.string sign) ∧ w'.cell? ⟨w.heap.size, 4, none⟩ = some (.int .i64 value))
      (first | exact X4 | exact X3 | exact X2 | exact X1 | exact X0 | go_keep)
      (first
        | (go_at_call 9; refine (scanBounds_any ⟨kind, .slice A ks.length c, field, sign, value⟩ ks _ HN.out (HKS.out.ext (by (repeat' (with_reducible first | exact K1.out | exact Below.refl _ _ | refine Ext.drewN ?_ _ | refine Below.drew ?_ | refine Below.setCell ?_ ?_ _ | refine Below.alloc ?_ ?_ _)) <;> (first | omega | (simp; done) | (simp; omega))))).mono ?_; rintro e w2 ⟨⟨v2, rfl, hs2⟩, hb2'⟩; have hb2 : Ext w1 w2 := ⟨hb2'.os, hb2'.tape, hb2'.output, hb2'.size, hb2'.block⟩; clear hb2'; have X1 := X0.ext hb2 hlt; have hlt2 := Nat.lt_of_lt_of_le hlt hb2.size; have S2 := Lib.hid hs2; have K2 := Lib.hid (Ext.trans K1.out hb2); clear hs2 hb2)
        | (go_at_call 10; refine (refBounds_any ⟨kind, .slice A ks.length c, field, sign, value⟩ ks _ HN.out (HKS.out.ext K2.out)).mono ?_; rintro e w3 ⟨⟨v3, rfl, hs3⟩, hb3⟩; have X2 := X1.ext hb3 hlt2; have hlt3 := Nat.lt_of_lt_of_le hlt2 hb3.size; have S2 := Lib.hid (S2.out.ext hb3); have S3 := Lib.hid hs3; have K3 := Lib.hid (Ext.trans K2.out hb3); clear hs3 hb3)
        | (go_at_call 8; refine (bounds_same _ _ _ _ S2.out S3.out).mono ?_; rintro e w4 ⟨rfl, hb4⟩; have X3 := X2.ext hb4 hlt3; have hlt4 := Nat.lt_of_lt_of_le hlt3 hb4.size; have K4 := Lib.hid (Ext.trans K3.out hb4); clear hb4)
        | (go_at_call 7; refine (awake_any _).mono ?_; rintro e w5 ⟨rfl, hb5⟩; have X4 := X3.ext hb5 hlt4; have K5 := Lib.hid (Ext.trans K4.out hb5); clear hb5))
    go_wp2_with fail
    go_ret
    exact ⟨rfl, K5.out⟩
end Go.Proofs.Ytcilkdohpcmbgaa
