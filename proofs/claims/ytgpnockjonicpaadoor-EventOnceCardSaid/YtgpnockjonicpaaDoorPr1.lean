/- event.Print of a history that may be, given what event.Of answers. -/
import Derived.Test.YtgpnockjonicpaaDoorBld2
import Derived.Test.YtgpnockjonicpaaDoorLine2
import Derived.Test.YtgpnockjonicpaaDoorHist5
namespace Go.Proofs.YtgpnockjonicpaaDoor
set_option linter.unusedSimpArgs false
set_option linter.unusedVariables false
open Go.RowKit

theorem Bld.ext {B b : Nat} {l : List UInt8} {w w' : World} (h : Bld B b l w) (hb : Ext w w') : Bld B b l w' := by
  have go : ∀ p, Lib.BuilderAt 63 5 B b p (Lib.byteCells l) w → Lib.BuilderAt 63 5 B b p (Lib.byteCells l) w' := fun p ⟨hB, v, hx, hown, hne⟩ => by
    have hlt : b < w.heap.size := by
      rcases Nat.lt_or_ge b w.heap.size with h' | h'
      · exact h'
      · simp [Array.getElem?_eq_none h'] at hx
    exact ⟨hB, v, (hb.block b hlt).trans hx, own_ext hown hb, hne⟩
  rcases h with h | h
  · exact .inl (go _ h)
  · exact .inr (go _ h)
def linesL (evs : List EvD) : List UInt8 := (evs.map (fun e => (lineL e).data.toList ++ [10])).flatten
theorem lines_take (evs : List EvD) (k : Nat) (h : k < evs.length) : linesL (evs.take (k + 1)) = linesL (evs.take k) ++ (lineL evs[k] ++ ⟨#[10]⟩).data.toList := by
  unfold linesL
  rw [List.take_succ_eq_append_getElem h, List.map_append, List.flatten_append]
  congr 1
  simp [ByteArray.data_append]
set_option maxRecDepth 100000 in
set_option maxHeartbeats 4000000 in
theorem print_any (V : Value) (l : List OpD) (evs : List EvD) (w : World) (hs : Sl w 11 ROp V l) (hwf : ∀ o ∈ l, -9223372036854775808 ≤ o.result ∧ o.result ≤ 9223372036854775807) (hh : histL l = 0) (hne : evs ≠ []) (hlen : evs.length ≤ 1000) (hnum : ∀ x ∈ evs, EvNum x) (hsd : ∀ x ∈ evs, x.answer = true ∨ saidB x = true) (hsz : ∀ k, k ≤ evs.length → (linesL (evs.take k)).length ≤ 100000000)
    (HOF : ∀ W, Ext w W → Calls Tryd.prog 8 #[V] W fun e w' => (∃ v, e = .returned v ∧ OwnL w' W.heap.size 42 10 EvD.cells v evs) ∧ Ext W w') :
    Calls Tryd.prog 12 #[V] w fun e w' => e = .returned (.tuple #[.string ⟨(linesL evs).toArray⟩, .int .i64 0]) ∧ Ext w w' := by
  obtain ⟨A, c, rfl⟩ := hs.form
  obtain ⟨_, hc1, hc2, hA⟩ := hs.at
  clear hA
  have HHI := Lib.hid (hist_any _ l w hs hwf)
  have HO := Lib.hid HOF
  have HNM := Lib.hid hnum
  have HSD := Lib.hid hsd
  have HSZ := Lib.hid hsz
  clear HOF hs hwf hnum hsd hsz
  rw [hh] at HHI
  go_enter Tryd.func12, Tryd.ntmps12
  go_wp2_with fail
  refine HHI.out.mono ?_
  rintro e w1 ⟨rfl, hb1⟩
  have B1 := Lib.hid hb1
  have hz1 := hb1.size
  clear hb1
  go_wp2_with fail
  refine (HO.out _ (by (repeat' (with_reducible first | exact B1.out | exact Below.refl _ _ | refine Ext.drewN ?_ _ | refine Below.drew ?_ | refine Below.setCell ?_ ?_ _ | refine Below.alloc ?_ ?_ _)) <;> (first | omega | (simp; done) | (simp; omega)))).mono ?_
  rintro e wE ⟨⟨v, rfl, hown⟩, hbE⟩
  have HBL : Hid (Bld w1.heap.size w1.heap.size [] wE) := Bld.ext (Lib.fresh_isBuilder 63 5 w1) hbE
  have hzE := hbE.size
  simp at hzE
  have BE : Hid (Ext w1 wE) := Ext.trans (Ext.alloc _ _) hbE
  obtain ⟨g, cap, cur, rfl, hg, hgx, hcap⟩ : ∃ g cap cur, v = .slice (some ⟨g, 0, none⟩) evs.length cap ∧ (w1.heap.size + 1 ≤ g) ∧ wE.heap[g]? = some (.cells cur 42 (0, 0)) ∧ (evs.length ≤ cap ∧ cap ≤ maxLen) := by
    rcases hown.2 with ⟨_, h0⟩ | ⟨g, cap, cur, hv, hg, hx, hn, hm, _⟩
    · exact absurd (List.eq_nil_of_length_eq_zero h0) hne
    · exact ⟨g, cap, cur, hv, by simpa using hg, hx, hn, hm⟩
  have HSL := Lib.hid (hown.sl (R := REv) ev_len (fun _ => rfl))
  have hge : g < wE.heap.size := by
    rcases Nat.lt_or_ge g wE.heap.size with h' | h'
    · exact h'
    · simp [Array.getElem?_eq_none h'] at hgx
  have HAP : Hid (∀ W : World, W.heap[g]? = wE.heap[g]? → Apart W g) := fun W h => ⟨cur, 42, (0, 0), h.trans hgx, by decide⟩
  obtain ⟨hc, hm⟩ := hcap
  have hm2 : cap ≤ 9223372036854775807 := by unfold maxLen at hm; omega
  have HCE : Hid (∀ (j : Nat) (hj : j < evs.length) (W : World), W.heap[g]? = wE.heap[g]? → (W.cell? ⟨g, 0 + j * 10, none⟩ = some (.int .i64 evs[j].time) ∧ W.cell? ⟨g, 0 + j * 10 + 1, none⟩ = some (.int .i64 evs[j].proc) ∧ W.cell? ⟨g, 0 + j * 10 + 2, none⟩ = some (.bool evs[j].answer) ∧ W.cell? ⟨g, 0 + j * 10 + 3, none⟩ = some (.int .i64 evs[j].id) ∧ W.cell? ⟨g, 0 + j * 10 + 4, none⟩ = some (.int .i64 evs[j].object) ∧ W.cell? ⟨g, 0 + j * 10 + 5, none⟩ = some (.int .i64 evs[j].kind) ∧ W.cell? ⟨g, 0 + j * 10 + 6, none⟩ = some (.int .i64 evs[j].method) ∧ W.cell? ⟨g, 0 + j * 10 + 7, none⟩ = some (.int .i64 evs[j].arg) ∧ W.cell? ⟨g, 0 + j * 10 + 8, none⟩ = some (.int .i64 evs[j].second) ∧ W.cell? ⟨g, 0 + j * 10 + 9, none⟩ = some (.int .i64 evs[j].result))) := fun j hj W h => by
    obtain ⟨b', o', e, _, hx⟩ := HSL.out.evs_at (by omega)
    injection e with e
    injection e with e1 e2
    subst e1 e2
    obtain ⟨x0, x1, x2, x3, x4, x5, x6, x7, x8, x9⟩ := hx j hj wE (Ext.refl _)
    have c : ∀ i, W.cell? ⟨g, i, none⟩ = wE.cell? ⟨g, i, none⟩ := fun i => by simp [World.cell?, h]
    exact ⟨(c _).trans x0, (c _).trans x1, (c _).trans x2, (c _).trans x3, (c _).trans x4, (c _).trans x5, (c _).trans x6, (c _).trans x7, (c _).trans x8, (c _).trans x9⟩
  clear hown hbE hgx
  go_wp2_with fail
  go_loopw [16] (fun i wr => ∃ (k : Nat), k ≤ evs.length ∧ i = .int .i64 k ∧ Bld w1.heap.size w1.heap.size (linesL (evs.take k)) wr ∧ Ext w1 wr ∧ wr.heap[g]? = wE.heap[g]? ∧ g < wr.heap.size) (fun i _ => evs.length - (intOf i).toNat)
  case atStart => exact ⟨0, by omega, rfl, HBL.out, BE.out, rfl, hge⟩
  case round =>
    obtain ⟨k, hk, rfl, hbl, hbr, hgr, hgl⟩ := hrel
    have HBR := Lib.hid hbl
    have B2 := Lib.hid hbr
    have HG := Lib.hid hgr
    have hzr := hbr.size
    clear hbl hbr hgr
    by_cases hlt : k < evs.length
    · have hd : decide ((k : Int) < (evs.length : Int)) = true := decide_eq_true (by omega)
      obtain ⟨e0, e1, e2, e3, e4, e5, e6, e7, e8, e9⟩ := HCE.out k hlt wr HG.out
      simp only [Nat.zero_add] at e0 e1 e2 e3 e4 e5 e6 e7 e8 e9
      have HLT := Lib.hid (lines_take evs k hlt)
      have HN := Lib.hid (HNM.out evs[k] (List.getElem_mem hlt))
      have HS := Lib.hid (HSD.out evs[k] (List.getElem_mem hlt))
      have HZ := Lib.hid (HSZ.out (k + 1) (by omega))
      generalize evs[k] = x at *
      have hsum : (linesL (evs.take k)).length + (lineL x ++ ⟨#[10]⟩ : ByteArray).size ≤ 100000000 := by
        have h1 := HZ.out
        rw [HLT.out, List.length_append, toList_size] at h1
        exact h1
      have hsx : (lineL x).size ≤ 100000000 := by
        have h2 : (lineL x ++ ⟨#[10]⟩ : ByteArray).size = (lineL x).size + 1 := ByteArray.size_append ..
        omega
      have fb : ¬ 9223372036854775807 < (lineL x).size + 1 := by omega
      have HSUM := Lib.hid hsum
      go_wp2_with fail
      refine (line_any x _ HN.out HS.out).mono ?_
      rintro e w3 ⟨rfl, hb3⟩
      have hx3 : Ext wr w3 := Ext.trans (Ext.alloc _ _) hb3
      have HBR3 := Lib.hid (HBR.out.ext hx3)
      have HG3 := Lib.hid ((hx3.block g hgl).trans HG.out)
      have hz3 := hx3.size
      have B3 := Lib.hid (Ext.trans B2.out hx3)
      clear hb3 hx3 e0 e1 e2 e3 e4 e5 e6 e7 e8 e9 hsum
      go_wp2_with fail
      refine (writeString2 w1.heap.size w1.heap.size (linesL (evs.take k)) _ _ HBR3.out (by have := HSUM.out; omega) (by omega)).mono ?_
      rintro e w4 ⟨rfl, hbl4, hb4, hk4⟩
      have HBR4 := Lib.hid hbl4
      have B4 : Hid (Ext w1 w4) := Below.trans B3.out hb4
      have HG4 : Hid (w4.heap[g]? = wE.heap[g]?) := (hk4 g (by omega) (HAP.out w3 HG3.out)).trans HG3.out
      have hz4 := hb4.size
      clear hbl4 hb4 hk4
      go_wp2_with fail
      go_roundw
      case measure => simp [intOf]; omega
      case rel => exact ⟨k + 1, by omega, by go_num, by rw [HLT.out]; exact HBR4.out, B4.out, HG4.out, by omega⟩
    · obtain rfl : k = evs.length := by omega
      have hd : decide ((evs.length : Int) < (evs.length : Int)) = false := by simp
      rw [List.take_length] at HBR
      go_wp2_with fail
      refine (Tryd.Builder_String_any w1.heap.size w1.heap.size (linesL evs) _ (HBR.out.ext (by (repeat' (with_reducible first | exact Below.refl _ _ | refine Ext.drewN ?_ _ | refine Below.drew ?_ | refine Below.setCell ?_ ?_ _ | refine Below.alloc ?_ ?_ _)) <;> (first | omega | (simp; done) | (simp; omega)))) (by omega)).mono ?_
      rintro e w5 ⟨rfl, hb5⟩
      have B5 : Hid (Ext w w5) := Ext.trans B1.out (Below.trans (B2.out) hb5)
      clear hb5
      go_wp2_with fail
      go_ret2
      exact ⟨rfl, B5.out⟩
end Go.Proofs.YtgpnockjonicpaaDoor
