/- law26.awake: the example's plain facts. -/
/- law26.awake answers yes. -/
import Derived.Test.YtgpnockjonicpaaDoorPr1
namespace Go.Proofs.YtgpnockjonicpaaDoor
set_option linter.unusedSimpArgs false
set_option linter.unusedVariables false
open Go.RowKit

def opX : OpD := ⟨4, 1, 0, 3, 6, 5, 0, true, 0, 2, 9⟩
def lnX1 : ByteArray := ⟨#[50, 32, 49, 32, 105, 110, 118, 111, 107, 101, 32, 52, 32, 48, 32, 113, 117, 101, 117, 101, 32, 101, 110, 113, 32, 53]⟩
def lnX2 : ByteArray := ⟨#[57, 32, 49, 32, 97, 110, 115, 119, 101, 114, 32, 52, 32, 48]⟩
def txX : ByteArray := ⟨#[50, 32, 49, 32, 105, 110, 118, 111, 107, 101, 32, 52, 32, 48, 32, 113, 117, 101, 117, 101, 32, 101, 110, 113, 32, 53, 10, 57, 32, 49, 32, 97, 110, 115, 119, 101, 114, 32, 52, 32, 48, 10]⟩
theorem n0 : numS 0 = ⟨#[48]⟩ := by rw [num_small 0 (by decide) (by decide)]; rfl
theorem n1 : numS 1 = ⟨#[49]⟩ := by rw [num_small 1 (by decide) (by decide)]; rfl
theorem n2 : numS 2 = ⟨#[50]⟩ := by rw [num_small 2 (by decide) (by decide)]; rfl
theorem n4 : numS 4 = ⟨#[52]⟩ := by rw [num_small 4 (by decide) (by decide)]; rfl
theorem n5 : numS 5 = ⟨#[53]⟩ := by rw [num_small 5 (by decide) (by decide)]; rfl
theorem n9 : numS 9 = ⟨#[57]⟩ := by rw [num_small 9 (by decide) (by decide)]; rfl
theorem lineX1 : lineL (invOf opX) = lnX1 := by
  have e : lineL (invOf opX) = numS 2 ++ txSp ++ numS 1 ++ txInv ++ numS 4 ++ txSp ++ numS 0 ++ txSp ++ kindS 3 ++ txSp ++ methS 6 ++ txSp ++ numS 5 := by
    unfold lineL
    rw [if_neg (by decide), if_pos (by decide)]
    rfl
  rw [e, n0, n1, n2, n4, n5]
  rfl
theorem lineX2 : lineL (ansOf opX) = lnX2 := by
  have e : lineL (ansOf opX) = numS 9 ++ txSp ++ numS 1 ++ txAns ++ numS 4 ++ txSp ++ numS 0 := by
    unfold lineL
    rw [if_pos (by decide)]
    rfl
  rw [e, n0, n1, n4, n9]
  rfl
theorem linesX : linesL [invOf opX, ansOf opX] = txX.data.toList := by
  unfold linesL
  simp only [List.map_cons, List.map_nil, lineX1, lineX2]
  rfl
theorem histX : histL [opX] = 0 := by decide
theorem readX1 : refReadW (splitS lnX1 32) = invOf opX := by rfl
theorem readX2 : refReadW (splitS lnX2 32) = ansOf opX := by rfl
theorem accX1 : accP (splitS lnX1 32) = some (invOf opX) := by
  have h := line_acc lnX1 (by decide) (by rw [readX1, lineX1])
  rw [h, readX1]
theorem accX2 : accP (splitS lnX2 32) = some (ansOf opX) := by
  have h := line_acc lnX2 (by decide) (by rw [readX2, lineX2])
  rw [h, readX2]
theorem splitX : splitS txX 10 = [lnX1, lnX2, ⟨#[]⟩] := by rfl
theorem joinX : joinL [invOf opX, ansOf opX] = ([opX], 2, 0) := by decide
end Go.Proofs.YtgpnockjonicpaaDoor
namespace Go.Proofs.YtgpnockjonicpaaDoor
set_option linter.unusedSimpArgs false
set_option linter.unusedVariables false
open Go.RowKit

theorem parseX : parseL txX = ([opX], 0, 0) := by
  unfold parseL
  rw [if_neg (by decide), splitX, if_neg (by decide)]
  have e : readAll 0 ([lnX1, lnX2, ⟨#[]⟩] : List ByteArray).dropLast = ([invOf opX, ansOf opX], none) := by
    show readAll 0 [lnX1, lnX2] = _
    simp only [readAll, accX1, accX2]
  rw [e]
  unfold parseEnd
  simp only [joinX]
  rfl
theorem opX_sl (w : World) : Sl (w.alloc (.cells #[.int .i64 4, .int .i64 1, .int .i64 0, .int .i64 3, .int .i64 6, .int .i64 5, .int .i64 0, .bool true, .int .i64 0, .int .i64 2, .int .i64 9] 40)) 11 ROp (.slice (some ⟨w.heap.size, 0, none⟩) 1 1) [opX] := by
  have h : OwnL (w.alloc (.cells #[.int .i64 4, .int .i64 1, .int .i64 0, .int .i64 3, .int .i64 6, .int .i64 5, .int .i64 0, .bool true, .int .i64 0, .int .i64 2, .int .i64 9] 40)) w.heap.size 40 11 OpD.cells (.slice (some ⟨w.heap.size, 0, none⟩) 1 1) [opX] :=
    ⟨rfl, .inr ⟨w.heap.size, 1, #[.int .i64 4, .int .i64 1, .int .i64 0, .int .i64 3, .int .i64 6, .int .i64 5, .int .i64 0, .bool true, .int .i64 0, .int .i64 2, .int .i64 9], rfl, Nat.le_refl _, (by show (w.heap.push _)[w.heap.size]? = _; exact Array.getElem?_push_size), by decide, by decide, rfl, rfl⟩⟩
  exact h.sl op_len (fun _ => rfl)
theorem numX1 : EvNum (invOf opX) := by unfold EvNum; decide
theorem numX2 : EvNum (ansOf opX) := by unfold EvNum; decide
set_option maxRecDepth 100000 in
set_option maxHeartbeats 4000000 in
theorem awake26 : Awake26 := by
  intro m w hm
  have hw0 : 0 < w.heap.size := World.block_lt_of_cell? _ _ hm
  have HM : Hid (∀ W, Ext w W → W.cell? ⟨0, 0, none⟩ = some (.int .i64 m)) := fun W h => (h.cell (p := ⟨0, 0, none⟩) hw0).trans hm
  clear hm
  go_enter Tryd.func6, Tryd.ntmps6
  go_wp2_with fail
  have S0 := Lib.hid (opX_sl w)
  generalize hw1 : World.alloc w _ = w1 at *
  have B1 : Hid (Ext w w1) := by
    subst hw1
    exact Ext.alloc _ _
  clear hw1
  refine (print_any _ [opX] [invOf opX, ansOf opX] _ S0.out (fun o ho => by rw [List.mem_singleton.1 ho]; decide) histX (by simp) (by decide) (fun x hx => by
    simp only [List.mem_cons, List.not_mem_nil, or_false] at hx
    rcases hx with rfl | rfl
    · exact numX1
    · exact numX2) (fun x hx => by
    simp only [List.mem_cons, List.not_mem_nil, or_false] at hx
    rcases hx with rfl | rfl
    · exact .inr (by decide)
    · exact .inl rfl) (fun k hk => ?_) (fun W h => of1_any _ opX W (S0.out.ext h) rfl (by decide))).mono ?_
  · have h3 : linesL ([invOf opX, ansOf opX].take k) ++ linesL ([invOf opX, ansOf opX].drop k) = txX.data.toList := by
      rw [← linesX]
      unfold linesL
      rw [← List.flatten_append, ← List.map_append, List.take_append_drop]
    have h4 := congrArg List.length h3
    rw [List.length_append] at h4
    have h5 : txX.data.toList.length = 42 := rfl
    omega
  rintro e w2 ⟨rfl, hb2⟩
  rw [linesX]
  have S0 := Lib.hid (S0.out.ext hb2)
  have B2 := Lib.hid (Ext.trans B1.out hb2)
  clear hb2
  have ht : (⟨txX.data.toList.toArray⟩ : ByteArray) = txX := by rw [Array.toArray_toList]
  rw [ht]
  go_wp2_with fail
  refine (parse_any txX m _ (HM.out _ (by (repeat' (with_reducible first | exact B2.out | exact Below.refl _ _ | refine Ext.drewN ?_ _ | refine Below.drew ?_ | refine Below.setCell ?_ ?_ _ | refine Below.alloc ?_ ?_ _)) <;> (first | omega | (simp; done) | (simp; omega))))).mono ?_
  rintro e w3 ⟨⟨V3, rfl, hs3⟩, hb3⟩
  rw [parseX] at hs3 ⊢
  have S3 := Lib.hid hs3
  have S0 := Lib.hid (S0.out.ext hb3)
  have B3 := Lib.hid (Ext.trans B2.out hb3)
  obtain ⟨A3, c3, rfl⟩ := hs3.form
  clear hs3 hb3
  have q1 : (txX.toList == [50, 32, 49, 32, 105, 110, 118, 111, 107, 101, 32, 52, 32, 48, 32, 113, 117, 101, 117, 101, 32, 101, 110, 113, 32, 53, 10, 57, 32, 49, 32, 97, 110, 115, 119, 101, 114, 32, 52, 32, 48, 10]) = true := by
    rw [show txX = ⟨[50, 32, 49, 32, 105, 110, 118, 111, 107, 101, 32, 52, 32, 48, 32, 113, 117, 101, 117, 101, 32, 101, 110, 113, 32, 53, 10, 57, 32, 49, 32, 97, 110, 115, 119, 101, 114, 32, 52, 32, 48, 10].toArray⟩ from rfl, ByteArray.toList_mk]; rfl
  simp only [List.length_cons, List.length_nil, Nat.zero_add] at S3 ⊢
  go_wp2_with fail
  refine (ops_same _ _ [opX] _ (S0.out.ext (by (repeat' (with_reducible first | exact Below.refl _ _ | refine Ext.drewN ?_ _ | refine Below.drew ?_ | refine Below.setCell ?_ ?_ _ | refine Below.alloc ?_ ?_ _)) <;> (first | omega | (simp; done) | (simp; omega)))) (S3.out.ext (by (repeat' (with_reducible first | exact Below.refl _ _ | refine Ext.drewN ?_ _ | refine Below.drew ?_ | refine Below.setCell ?_ ?_ _ | refine Below.alloc ?_ ?_ _)) <;> (first | omega | (simp; done) | (simp; omega))))).mono ?_
  rintro e w4 ⟨rfl, hb4⟩
  have B4 := Lib.hid (Ext.trans B3.out hb4)
  clear hb4
  go_wp2_with fail
  go_ret
  exact ⟨rfl, by (repeat' (with_reducible first | exact B4.out | exact Below.refl _ _ | refine Ext.drewN ?_ _ | refine Below.drew ?_ | refine Below.setCell ?_ ?_ _ | refine Below.alloc ?_ ?_ _)) <;> (first | omega | (simp; done) | (simp; omega))⟩
end Go.Proofs.YtgpnockjonicpaaDoor
