/- ref28.Choose answers the path that the document defines. Conditions: none but that the lists can be read. -/
import Derived.Test.YtcilkdohpcmbgaaGrp5
namespace Go.Proofs.Ytcilkdohpcmbgaa
set_option linter.unusedSimpArgs false
set_option linter.unusedVariables false
open Go.RowKit

def ChoosePost (bs : List Bnd) (ops : Int) (og pg mg : List Grp) (e : Ending) (w' : World) : Prop :=
  ∃ fv, e = .returned (.agg #[.int .i64 (chooseL bs ops og pg mg).way, fv, .int .i64 (chooseL bs ops og pg mg).lo, .int .i64 (chooseL bs ops og pg mg).hi, .int .i64 (chooseL bs ops og pg mg).cost]) ∧ Sl w' 1 RI fv (chooseL bs ops og pg mg).front ∧ ∀ g', fv.ownBlock = some g' → ∃ cs, Row1 w' g' 3 cs

/-- a function's body; what stands behind its first statements -/
def bodyOf (f : Func) : Code := f.body.getD .skip
def dropSeq : Nat → Code → Code
  | 0, c => c
  | n + 1, .seq _ b => dropSeq n b
  | _ + 1, c => c

set_option maxRecDepth 100000 in
set_option maxHeartbeats 4000000 in
theorem refChoose_tail8 (V OV PV MV : Value) (bs : List Bnd) (ops : Int) (og pg mg : List Grp) (w wc : World) (hs : Sl w 3 RBnd V bs)
    (ho : Sl w 2 RG OV og) (hp : Sl w 2 RG PV pg) (hm : Sl w 2 RG MV mg) (idB inB enB yB : Bnd) (hid : findB sId bs = idB) (hin : findB sInvoke bs = inB) (hen : findB sReturn bs = enB) (G5 G6 G7 G8 Go : Nat)
    (hg : w.heap.size + 1 < G5 ∧ G5 < G6 ∧ G6 < G7 ∧ G7 < G8 ∧ G8 < Go) (hext : Ext w wc) (hrx : Row1 wc Go 43 yB.cells) (hst : RSt wc w.heap.size (w.heap.size + 1) G5 G6 G7 G8 ops OV PV MV idB inB enB (best2 bs ops og pg))
    (u10 u11 u12 u13 u14 u15 u16 u17 u18 u19 u20 u21 u22 u23 u24 u25 u26 u27 u28 u29 u30 u31 u32 u33 u34 u35 u36 u37 u38 u39 u40 u41 u42 u43 u44 u45 u46 u47 u48 u49 u50 u51 u52 u53 u54 u55 u56 u57 u58 u59 u60 u61 u62 u63 u64 u65 u66 u67 u68 u69 u70 u71 u72 u73 u74 u75 u76 u77 u78 u79 u80 u81 u82 u83 u84 u85 u86 u87 u88 u89 u90 u91 u92 u93 u94 u95 u96 u97 u98 u99 u100 u101 u102 u103 u104 u105 u106 u107 u108 u109 u110 u111 u112 u113 u114 u115 u116 u117 u118 u119 u120 u121 u122 u123 u124 u125 u126 u127 u128 u129 u130 u131 u132 u133 u134 u135 u136 u137 u138 u139 u140 u141 u142 u143 u144 u145 u146 u147 u148 u149 : Value) : Code.wp Try.prog (dropSeq 8 (bodyOf Try.f14)) (bodyPost Try.prog Try.f14 fun e w' => ChoosePost bs ops og pg mg e w' ∧ Ext w w') ⟨#[V, .agg #[.int .i64 ops, OV, PV, MV], undef, .pointer (some ⟨w.heap.size, 0, none⟩), .pointer (some ⟨w.heap.size + 1, 0, none⟩), .pointer (some ⟨G5, 0, none⟩), .pointer (some ⟨G6, 0, none⟩), .pointer (some ⟨G7, 0, none⟩), .pointer (some ⟨G8, 0, none⟩), .pointer (some ⟨Go, 0, none⟩), u10, u11, u12, u13, u14, u15, u16, u17, u18, u19, u20, u21, u22, u23, u24, u25, u26, u27, u28, u29, u30, u31, u32, u33, u34, u35, u36, u37, u38, u39, u40, u41, u42, u43, u44, u45, u46, u47, u48, u49, u50, u51, u52, u53, u54, u55, u56, u57, u58, u59, u60, u61, u62, u63, u64, u65, u66, u67, u68, u69, u70, u71, u72, u73, u74, u75, u76, u77, u78, u79, u80, u81, u82, u83, u84, u85, u86, u87, u88, u89, u90, u91, u92, u93, u94, u95, u96, u97, u98, u99, u100, u101, u102, u103, u104, u105, u106, u107, u108, u109, u110, u111, u112, u113, u114, u115, u116, u117, u118, u119, u120, u121, u122, u123, u124, u125, u126, u127, u128, u129, u130, u131, u132, u133, u134, u135, u136, u137, u138, u139, u140, u141, u142, u143, u144, u145, u146, u147, u148, u149], []⟩ wc := by
  have HS := Lib.hid hs
  have HO := Lib.hid ho
  have HP := Lib.hid hp
  have HM := Lib.hid hm
  have HID := Lib.hid hid
  have HIN := Lib.hid hin
  have HEN := Lib.hid hen
  have KC := Lib.hid hext
  have SC := Lib.hid hst
  have RX := Lib.hid hrx
  clear hs ho hp hm hid hin hen hext hst hrx
  obtain ⟨hg1, hg2, hg3, hg4, hGo⟩ := hg
  have n1 : ¬ (w.heap.size = G8) := by omega
  have n2 : ¬ (G8 = w.heap.size) := by omega
  have n3 : ¬ (G6 = G8) := by omega
  have n4 : ¬ (G8 = G6) := by omega
  have n5 : ¬ (G5 = G8) := by omega
  have n6 : ¬ (G8 = G5) := by omega
  have n7 : ¬ (G7 = G8) := by omega
  have n8 : ¬ (G8 = G7) := by omega
  have m1 : ¬ (Go = G8) := by omega
  have m2 : ¬ (G8 = Go) := by omega
  dsimp only
  conv => arg 2; whnf
  let Q' : Exit → Act → World → Prop := bodyPost Try.prog Try.f14 fun e w' => ChoosePost bs ops og pg mg e w' ∧ Ext w w'
  change Code.wp _ _ Q' _ _
  obtain ⟨xB, hxb⟩ : ∃ b, findB sMethod bs = b := ⟨_, rfl⟩
  have HXB := Lib.hid hxb
  clear hxb
  obtain ⟨bP, hbP⟩ : ∃ p, best2 bs ops og pg = p := ⟨_, rfl⟩
  have HBP := Lib.hid hbP
  rw [hbP] at SC
  clear hbP
  go_upto_region 13 with fail
  go_cut [] (fun wx => Ext w wx ∧ Row1 wx Go 43 xB.cells ∧ RSt wx w.heap.size (w.heap.size + 1) G5 G6 G7 G8 ops OV PV MV idB inB enB bP)
  case first =>
    go_wp2_with fail
    refine (refOf_eq _ bs _ _ xB HXB.out (HS.out.ext KC.out)).mono ?_
    rintro e w5 ⟨rfl, hb5⟩
    have RX5 := Lib.hid (RX.out.ext hb5 RX.out.lt)
    have SC5 := Lib.hid (SC.out.ext hb5)
    have KC5 := Lib.hid (Ext.trans KC.out hb5)
    clear hb5
    have o0 : w5.cell? ⟨Go, 0, none⟩ = some (.string yB.field) := RX5.out.cell 0
    have o1 : w5.cell? ⟨Go, 1, none⟩ = some (.int .i64 yB.lo) := RX5.out.cell 1
    have o2 : w5.cell? ⟨Go, 2, none⟩ = some (.int .i64 yB.hi) := RX5.out.cell 2
    have p0 := RX5.out.soft 0
    have p1 := RX5.out.soft 1
    have p2 := RX5.out.soft 2
    go_wp2_with fail
    go_meet
    exact ⟨by (repeat' (with_reducible first | exact KC5.out | exact Below.refl _ _ | refine Ext.drewN ?_ _ | refine Below.drew ?_ | refine Below.setCell ?_ ?_ _ | refine Below.alloc ?_ ?_ _)) <;> (first | omega | (simp; done) | (simp; omega)), ((RX5.out.set 0 _).set 1 _).set 2 _, SC5.out.far RX5.out (by omega) (by (repeat' (with_reducible first | exact But.refl | exact But.refl | refine But.drewN ?_ _ | refine But.drew ?_ | refine But.setCell ?_ ?_ _ | refine But.alloc ?_ _)) <;> (first | exact .inl rfl | (right; simp; done) | (right; simp; omega)))⟩
  case rest =>
  clear SC KC RX
  obtain ⟨hext, hrx, hst⟩ := hcut
  have SC := Lib.hid hst
  have KC := Lib.hid hext
  have RX := Lib.hid hrx
  clear hst hext hrx
  obtain ⟨cnt, hcnt⟩ : ∃ c, cntL xB.lo mg = c := ⟨_, rfl⟩
  have HCNT := Lib.hid hcnt
  clear hcnt
  go_upto_region 14 with fail
  go_cut [135] (fun s50 wx => s50 = .bool (takesB xB cnt bP.cost) ∧ Ext w wx ∧ Row1 wx Go 43 xB.cells ∧ RSt wx w.heap.size (w.heap.size + 1) G5 G6 G7 G8 ops OV PV MV idB inB enB bP)
  case first =>
    obtain ⟨⟨a30, a31, a32, a33⟩, _, _, _, _, _⟩ := SC.out.facts
    obtain ⟨fv, hr9, _, _⟩ := SC.out.r9
    have d4 : wc.cell? ⟨G8, 4, none⟩ = some (.int .i64 bP.cost) := hr9.cell 4
    clear hr9
    have x1 : wc.cell? ⟨Go, 1, none⟩ = some (.int .i64 xB.lo) := RX.out.cell 1
    have x2 : wc.cell? ⟨Go, 2, none⟩ = some (.int .i64 xB.hi) := RX.out.cell 2
    by_cases heq : xB.lo = xB.hi
    · have hq : (xB.lo == xB.hi) = true := by simpa using heq
      have HEQ := Lib.hid heq
      clear heq
      by_cases hlt : cnt < bP.cost
      · have hd : decide (cnt < bP.cost) = true := by simpa using hlt
        go_quiet ((go_at_call 39; exact Calls.quiet_of_same (refCount_eq _ mg _ _ _ HCNT.out (HM.out.ext (Ext.drewN KC.out _)))))
        go_wp2_with fail
        go_meet
        exact ⟨by simp [takesB, HEQ.out, hlt], by (repeat' (with_reducible first | exact KC.out | exact Below.refl _ _ | refine Ext.drewN ?_ _ | refine Below.drew ?_ | refine Below.setCell ?_ ?_ _ | refine Below.alloc ?_ ?_ _)) <;> (first | omega | (simp; done) | (simp; omega)), RX.out.ext (by (repeat' (with_reducible first | exact Below.refl _ _ | refine Ext.drewN ?_ _ | refine Below.drew ?_ | refine Below.setCell ?_ ?_ _ | refine Below.alloc ?_ ?_ _)) <;> (first | omega | (simp; done) | (simp; omega))) RX.out.lt, SC.out.ext (by (repeat' (with_reducible first | exact Below.refl _ _ | refine Ext.drewN ?_ _ | refine Below.drew ?_ | refine Below.setCell ?_ ?_ _ | refine Below.alloc ?_ ?_ _)) <;> (first | omega | (simp; done) | (simp; omega)))⟩
      · have hd : decide (cnt < bP.cost) = false := by simpa using hlt
        go_quiet ((go_at_call 39; exact Calls.quiet_of_same (refCount_eq _ mg _ _ _ HCNT.out (HM.out.ext (Ext.drewN KC.out _)))))
        go_wp2_with fail
        go_meet
        exact ⟨by simp [takesB, HEQ.out, hlt], by (repeat' (with_reducible first | exact KC.out | exact Below.refl _ _ | refine Ext.drewN ?_ _ | refine Below.drew ?_ | refine Below.setCell ?_ ?_ _ | refine Below.alloc ?_ ?_ _)) <;> (first | omega | (simp; done) | (simp; omega)), RX.out.ext (by (repeat' (with_reducible first | exact Below.refl _ _ | refine Ext.drewN ?_ _ | refine Below.drew ?_ | refine Below.setCell ?_ ?_ _ | refine Below.alloc ?_ ?_ _)) <;> (first | omega | (simp; done) | (simp; omega))) RX.out.lt, SC.out.ext (by (repeat' (with_reducible first | exact Below.refl _ _ | refine Ext.drewN ?_ _ | refine Below.drew ?_ | refine Below.setCell ?_ ?_ _ | refine Below.alloc ?_ ?_ _)) <;> (first | omega | (simp; done) | (simp; omega)))⟩
    · have hq : (xB.lo == xB.hi) = false := by simpa using heq
      go_quiet (fail)
      go_wp2_with fail
      go_meet
      exact ⟨by simp [takesB, heq], by (repeat' (with_reducible first | exact KC.out | exact Below.refl _ _ | refine Ext.drewN ?_ _ | refine Below.drew ?_ | refine Below.setCell ?_ ?_ _ | refine Below.alloc ?_ ?_ _)) <;> (first | omega | (simp; done) | (simp; omega)), RX.out.ext (by (repeat' (with_reducible first | exact Below.refl _ _ | refine Ext.drewN ?_ _ | refine Below.drew ?_ | refine Below.setCell ?_ ?_ _ | refine Below.alloc ?_ ?_ _)) <;> (first | omega | (simp; done) | (simp; omega))) RX.out.lt, SC.out.ext (by (repeat' (with_reducible first | exact Below.refl _ _ | refine Ext.drewN ?_ _ | refine Below.drew ?_ | refine Below.setCell ?_ ?_ _ | refine Below.alloc ?_ ?_ _)) <;> (first | omega | (simp; done) | (simp; omega)))⟩
  case rest =>
  obtain ⟨rfl, hext, hrx, hst⟩ := hcut
  clear SC KC RX
  have SC := Lib.hid hst
  have KC := Lib.hid hext
  have RX := Lib.hid hrx
  clear hst hext hrx
  have HNEW : Hid (chooseL bs ops og pg mg = if takesB xB cnt bP.cost = true then ⟨4, [xB.lo], idB.lo, idB.hi, cnt⟩ else bP) := by
    unfold Hid
    unfold chooseL tryP
    rw [HXB.out, HBP.out, HID.out, HCNT.out]
    by_cases hc : takesB xB cnt bP.cost = true
    · rw [if_pos hc, if_pos (takesB_iff.1 hc)]
    · rw [if_neg hc, if_neg (fun q => hc (takesB_iff.2 q))]
  go_upto_if 135 with fail
  go_cut [] (fun wx => Ext w wx ∧ Row1 wx Go 43 xB.cells ∧ RSt wx w.heap.size (w.heap.size + 1) G5 G6 G7 G8 ops OV PV MV idB inB enB (chooseL bs ops og pg mg))
  case first =>
    cases hd : takesB xB cnt bP.cost with
    | true =>
      have HC := Lib.hid hd
      go_upto_region 15 with fail
      clear hd
      obtain ⟨⟨a30, a31, a32, a33⟩, ⟨a60, a61, a62⟩, ⟨a70, a71, a72⟩, _, _, _⟩ := SC.out.facts
      obtain ⟨fv, hr9, hs9, ht9⟩ := SC.out.r9
      have hn9 := front_apart ht9 hr9 (by decide)
      have HT9 := Lib.hid ht9
      have HS9 := Lib.hid hs9
      have d0 : wc.cell? ⟨G8, 0, none⟩ = some (.int .i64 bP.way) := hr9.cell 0
      have d1 : wc.cell? ⟨G8, 1, none⟩ = some fv := hr9.cell 1
      have d2 : wc.cell? ⟨G8, 2, none⟩ = some (.int .i64 bP.lo) := hr9.cell 2
      have d3 : wc.cell? ⟨G8, 3, none⟩ = some (.int .i64 bP.hi) := hr9.cell 3
      have d4 : wc.cell? ⟨G8, 4, none⟩ = some (.int .i64 bP.cost) := hr9.cell 4
      have e0 := hr9.soft 0
      have e1 := hr9.soft 1
      have e2 := hr9.soft 2
      have e3 := hr9.soft 3
      have e4 := hr9.soft 4
      have hlt9 := hr9.lt
      have HR9 := Lib.hid hr9
      clear hr9 ht9 hs9
      have x1 : wc.cell? ⟨Go, 1, none⟩ = some (.int .i64 xB.lo) := RX.out.cell 1
      go_region_held3 (fun w' => (w'.cell? ⟨w.heap.size, 3, none⟩ = some MV ∧ w'.cell? ⟨G5, 1, none⟩ = some (.int .i64 idB.lo) ∧ w'.cell? ⟨G5, 2, none⟩ = some (.int .i64 idB.hi) ∧ w'.cell? ⟨Go, 1, none⟩ = some (.int .i64 xB.lo)))
        (first | (with_reducible exact ⟨a33, a61, a62, x1⟩) | go_keep)
        (first | (go_at_call 39; refine (refCount_eq2 _ mg _ _ _ HCNT.out (HM.out.ext (by (repeat' (with_reducible first | exact KC.out | exact Below.refl _ _ | refine Ext.drewN ?_ _ | refine Below.drew ?_ | refine Below.setCell ?_ ?_ _ | refine Below.alloc ?_ ?_ _)) <;> (first | omega | (simp; done) | (simp; omega))))).mono ?_; rintro e w6 ⟨rfl, rfl⟩))
      all_goals
        go_wp2_with fail
        go_meet
        rw [HNEW.out, if_pos HC.out]
        exact newPath_all KC.out RX.out SC.out (by omega) (fun e => m1 e) _ _ _ _ _
    | false =>
      go_wp2_with fail
      go_meet
      rw [HNEW.out, if_neg (by simpa [takesB] using hd)]
      exact ⟨KC.out, RX.out, SC.out⟩
  case rest =>
  obtain ⟨hext, hrx, hst⟩ := hcut
  clear SC KC RX HNEW HCNT HBP HXB
  have SC := Lib.hid hst
  have KC := Lib.hid hext
  have RX := Lib.hid hrx
  clear hst hext hrx
  generalize xB = yB at *
  have hst := SC.out
  have hext := KC.out
  clear SC KC RX n1 n2 n3 n4 n5 n6 n7 n8 m1 m2
  obtain ⟨fv, hr9, hs9, ht9⟩ := hst.r9
  have hn4 := front_apart ht9 hst.r4 (by decide)
  have HT9 := Lib.hid ht9
  clear ht9
  obtain ⟨A9, c9, rfl⟩ := hs9.form
  have b0 : wc.cell? ⟨G8, 0, none⟩ = some (.int .i64 (chooseL bs ops og pg mg).way) := hr9.cell 0
  have b1 : wc.cell? ⟨G8, 1, none⟩ = some (.slice A9 (chooseL bs ops og pg mg).front.length c9) := hr9.cell 1
  have b2 : wc.cell? ⟨G8, 2, none⟩ = some (.int .i64 (chooseL bs ops og pg mg).lo) := hr9.cell 2
  have b3 : wc.cell? ⟨G8, 3, none⟩ = some (.int .i64 (chooseL bs ops og pg mg).hi) := hr9.cell 3
  have b4 : wc.cell? ⟨G8, 4, none⟩ = some (.int .i64 (chooseL bs ops og pg mg).cost) := hr9.cell 4
  have c0 : wc.cell? ⟨w.heap.size + 1, 0, none⟩ = some (.int .i64 0) := hst.r4.cell 0
  have f0 : wc.frozen? ⟨w.heap.size + 1, 0, none⟩ = false := hst.r4.soft 0
  have c1 : wc.cell? ⟨w.heap.size + 1, 1, none⟩ = some (.slice none 0 0) := hst.r4.cell 1
  have f1 : wc.frozen? ⟨w.heap.size + 1, 1, none⟩ = false := hst.r4.soft 1
  have c2 : wc.cell? ⟨w.heap.size + 1, 2, none⟩ = some (.int .i64 0) := hst.r4.cell 2
  have f2 : wc.frozen? ⟨w.heap.size + 1, 2, none⟩ = false := hst.r4.soft 2
  have c3 : wc.cell? ⟨w.heap.size + 1, 3, none⟩ = some (.int .i64 0) := hst.r4.cell 3
  have f3 : wc.frozen? ⟨w.heap.size + 1, 3, none⟩ = false := hst.r4.soft 3
  have c4 : wc.cell? ⟨w.heap.size + 1, 4, none⟩ = some (.int .i64 0) := hst.r4.cell 4
  have f4 : wc.frozen? ⟨w.heap.size + 1, 4, none⟩ = false := hst.r4.soft 4
  have hr4lt := hst.r4.lt
  have SC := Lib.hid hst
  have KC := Lib.hid hext
  have HS9 := Lib.hid hs9
  clear hst hext hr9 hs9
  go_wp2_with fail
  refine bodyPost_ret (v := .agg #[.int .i64 (chooseL bs ops og pg mg).way, .slice A9 (chooseL bs ops og pg mg).front.length c9, .int .i64 (chooseL bs ops og pg mg).lo, .int .i64 (chooseL bs ops og pg mg).hi, .int .i64 (chooseL bs ops og pg mg).cost]) (by simp [results, Try.results14, go_sem, b0, b1, b2, b3, b4, c0, c1, c2, c3, c4]) rfl ⟨⟨_, rfl, ?_, ?_⟩, ?_⟩
  · exact HS9.out.but (g := w.heap.size + 1) (by (repeat' (with_reducible first | exact But.refl | exact But.refl | refine But.drewN ?_ _ | refine But.drew ?_ | refine But.setCell ?_ ?_ _ | refine But.alloc ?_ _)) <;> (first | exact .inl rfl | (right; simp; done) | (right; simp; omega))) hn4
  · exact front_but HT9.out (g := w.heap.size + 1) (by (repeat' (with_reducible first | exact But.refl | exact But.refl | refine But.drewN ?_ _ | refine But.drew ?_ | refine But.setCell ?_ ?_ _ | refine But.alloc ?_ _)) <;> (first | exact .inl rfl | (right; simp; done) | (right; simp; omega))) hn4
  · (repeat' (with_reducible first | exact KC.out | exact Below.refl _ _ | refine Ext.drewN ?_ _ | refine Below.drew ?_ | refine Below.setCell ?_ ?_ _ | refine Below.alloc ?_ ?_ _)) <;> (first | omega | (simp; done) | (simp; omega))

set_option maxRecDepth 100000 in
set_option maxHeartbeats 4000000 in
theorem refChoose_tail6 (V OV PV MV : Value) (bs : List Bnd) (ops : Int) (og pg mg : List Grp) (w wc : World) (hs : Sl w 3 RBnd V bs)
    (ho : Sl w 2 RG OV og) (hp : Sl w 2 RG PV pg) (hm : Sl w 2 RG MV mg) (idB inB enB yB : Bnd) (hid : findB sId bs = idB) (hin : findB sInvoke bs = inB) (hen : findB sReturn bs = enB) (G5 G6 G7 G8 Go : Nat)
    (hg : w.heap.size + 1 < G5 ∧ G5 < G6 ∧ G6 < G7 ∧ G7 < G8 ∧ G8 < Go) (hext : Ext w wc) (hrx : Row1 wc Go 43 yB.cells) (hst : RSt wc w.heap.size (w.heap.size + 1) G5 G6 G7 G8 ops OV PV MV idB inB enB (best1 bs ops og))
    (u10 u11 u12 u13 u14 u15 u16 u17 u18 u19 u20 u21 u22 u23 u24 u25 u26 u27 u28 u29 u30 u31 u32 u33 u34 u35 u36 u37 u38 u39 u40 u41 u42 u43 u44 u45 u46 u47 u48 u49 u50 u51 u52 u53 u54 u55 u56 u57 u58 u59 u60 u61 u62 u63 u64 u65 u66 u67 u68 u69 u70 u71 u72 u73 u74 u75 u76 u77 u78 u79 u80 u81 u82 u83 u84 u85 u86 u87 u88 u89 u90 u91 u92 u93 u94 u95 u96 u97 u98 u99 u100 u101 u102 u103 u104 u105 u106 u107 u108 u109 u110 u111 u112 u113 u114 u115 u116 u117 u118 u119 u120 u121 u122 u123 u124 u125 u126 u127 u128 u129 u130 u131 u132 u133 u134 u135 u136 u137 u138 u139 u140 u141 u142 u143 u144 u145 u146 u147 u148 u149 : Value) : Code.wp Try.prog (dropSeq 6 (bodyOf Try.f14)) (bodyPost Try.prog Try.f14 fun e w' => ChoosePost bs ops og pg mg e w' ∧ Ext w w') ⟨#[V, .agg #[.int .i64 ops, OV, PV, MV], undef, .pointer (some ⟨w.heap.size, 0, none⟩), .pointer (some ⟨w.heap.size + 1, 0, none⟩), .pointer (some ⟨G5, 0, none⟩), .pointer (some ⟨G6, 0, none⟩), .pointer (some ⟨G7, 0, none⟩), .pointer (some ⟨G8, 0, none⟩), .pointer (some ⟨Go, 0, none⟩), u10, u11, u12, u13, u14, u15, u16, u17, u18, u19, u20, u21, u22, u23, u24, u25, u26, u27, u28, u29, u30, u31, u32, u33, u34, u35, u36, u37, u38, u39, u40, u41, u42, u43, u44, u45, u46, u47, u48, u49, u50, u51, u52, u53, u54, u55, u56, u57, u58, u59, u60, u61, u62, u63, u64, u65, u66, u67, u68, u69, u70, u71, u72, u73, u74, u75, u76, u77, u78, u79, u80, u81, u82, u83, u84, u85, u86, u87, u88, u89, u90, u91, u92, u93, u94, u95, u96, u97, u98, u99, u100, u101, u102, u103, u104, u105, u106, u107, u108, u109, u110, u111, u112, u113, u114, u115, u116, u117, u118, u119, u120, u121, u122, u123, u124, u125, u126, u127, u128, u129, u130, u131, u132, u133, u134, u135, u136, u137, u138, u139, u140, u141, u142, u143, u144, u145, u146, u147, u148, u149], []⟩ wc := by
  have HS := Lib.hid hs
  have HO := Lib.hid ho
  have HP := Lib.hid hp
  have HM := Lib.hid hm
  have HID := Lib.hid hid
  have HIN := Lib.hid hin
  have HEN := Lib.hid hen
  have KC := Lib.hid hext
  have SC := Lib.hid hst
  have RX := Lib.hid hrx
  clear hs ho hp hm hid hin hen hext hst hrx
  obtain ⟨hg1, hg2, hg3, hg4, hGo⟩ := hg
  have n1 : ¬ (w.heap.size = G8) := by omega
  have n2 : ¬ (G8 = w.heap.size) := by omega
  have n3 : ¬ (G6 = G8) := by omega
  have n4 : ¬ (G8 = G6) := by omega
  have n5 : ¬ (G5 = G8) := by omega
  have n6 : ¬ (G8 = G5) := by omega
  have n7 : ¬ (G7 = G8) := by omega
  have n8 : ¬ (G8 = G7) := by omega
  have m1 : ¬ (Go = G8) := by omega
  have m2 : ¬ (G8 = Go) := by omega
  dsimp only
  conv => arg 2; whnf
  let Q' : Exit → Act → World → Prop := bodyPost Try.prog Try.f14 fun e w' => ChoosePost bs ops og pg mg e w' ∧ Ext w w'
  change Code.wp _ _ Q' _ _
  obtain ⟨xB, hxb⟩ : ∃ b, findB sProc bs = b := ⟨_, rfl⟩
  have HXB := Lib.hid hxb
  clear hxb
  obtain ⟨bP, hbP⟩ : ∃ p, best1 bs ops og = p := ⟨_, rfl⟩
  have HBP := Lib.hid hbP
  rw [hbP] at SC
  clear hbP
  go_upto_region 10 with fail
  go_cut [] (fun wx => Ext w wx ∧ Row1 wx Go 43 xB.cells ∧ RSt wx w.heap.size (w.heap.size + 1) G5 G6 G7 G8 ops OV PV MV idB inB enB bP)
  case first =>
    go_wp2_with fail
    refine (refOf_eq _ bs _ _ xB HXB.out (HS.out.ext KC.out)).mono ?_
    rintro e w5 ⟨rfl, hb5⟩
    have RX5 := Lib.hid (RX.out.ext hb5 RX.out.lt)
    have SC5 := Lib.hid (SC.out.ext hb5)
    have KC5 := Lib.hid (Ext.trans KC.out hb5)
    clear hb5
    have o0 : w5.cell? ⟨Go, 0, none⟩ = some (.string yB.field) := RX5.out.cell 0
    have o1 : w5.cell? ⟨Go, 1, none⟩ = some (.int .i64 yB.lo) := RX5.out.cell 1
    have o2 : w5.cell? ⟨Go, 2, none⟩ = some (.int .i64 yB.hi) := RX5.out.cell 2
    have p0 := RX5.out.soft 0
    have p1 := RX5.out.soft 1
    have p2 := RX5.out.soft 2
    go_wp2_with fail
    go_meet
    exact ⟨by (repeat' (with_reducible first | exact KC5.out | exact Below.refl _ _ | refine Ext.drewN ?_ _ | refine Below.drew ?_ | refine Below.setCell ?_ ?_ _ | refine Below.alloc ?_ ?_ _)) <;> (first | omega | (simp; done) | (simp; omega)), ((RX5.out.set 0 _).set 1 _).set 2 _, SC5.out.far RX5.out (by omega) (by (repeat' (with_reducible first | exact But.refl | exact But.refl | refine But.drewN ?_ _ | refine But.drew ?_ | refine But.setCell ?_ ?_ _ | refine But.alloc ?_ _)) <;> (first | exact .inl rfl | (right; simp; done) | (right; simp; omega)))⟩
  case rest =>
  clear SC KC RX
  obtain ⟨hext, hrx, hst⟩ := hcut
  have SC := Lib.hid hst
  have KC := Lib.hid hext
  have RX := Lib.hid hrx
  clear hst hext hrx
  obtain ⟨cnt, hcnt⟩ : ∃ c, cntL xB.lo pg = c := ⟨_, rfl⟩
  have HCNT := Lib.hid hcnt
  clear hcnt
  go_upto_region 11 with fail
  go_cut [105] (fun s50 wx => s50 = .bool (takesB xB cnt bP.cost) ∧ Ext w wx ∧ Row1 wx Go 43 xB.cells ∧ RSt wx w.heap.size (w.heap.size + 1) G5 G6 G7 G8 ops OV PV MV idB inB enB bP)
  case first =>
    obtain ⟨⟨a30, a31, a32, a33⟩, _, _, _, _, _⟩ := SC.out.facts
    obtain ⟨fv, hr9, _, _⟩ := SC.out.r9
    have d4 : wc.cell? ⟨G8, 4, none⟩ = some (.int .i64 bP.cost) := hr9.cell 4
    clear hr9
    have x1 : wc.cell? ⟨Go, 1, none⟩ = some (.int .i64 xB.lo) := RX.out.cell 1
    have x2 : wc.cell? ⟨Go, 2, none⟩ = some (.int .i64 xB.hi) := RX.out.cell 2
    by_cases heq : xB.lo = xB.hi
    · have hq : (xB.lo == xB.hi) = true := by simpa using heq
      have HEQ := Lib.hid heq
      clear heq
      by_cases hlt : cnt < bP.cost
      · have hd : decide (cnt < bP.cost) = true := by simpa using hlt
        go_quiet ((go_at_call 39; exact Calls.quiet_of_same (refCount_eq _ pg _ _ _ HCNT.out (HP.out.ext (Ext.drewN KC.out _)))))
        go_wp2_with fail
        go_meet
        exact ⟨by simp [takesB, HEQ.out, hlt], by (repeat' (with_reducible first | exact KC.out | exact Below.refl _ _ | refine Ext.drewN ?_ _ | refine Below.drew ?_ | refine Below.setCell ?_ ?_ _ | refine Below.alloc ?_ ?_ _)) <;> (first | omega | (simp; done) | (simp; omega)), RX.out.ext (by (repeat' (with_reducible first | exact Below.refl _ _ | refine Ext.drewN ?_ _ | refine Below.drew ?_ | refine Below.setCell ?_ ?_ _ | refine Below.alloc ?_ ?_ _)) <;> (first | omega | (simp; done) | (simp; omega))) RX.out.lt, SC.out.ext (by (repeat' (with_reducible first | exact Below.refl _ _ | refine Ext.drewN ?_ _ | refine Below.drew ?_ | refine Below.setCell ?_ ?_ _ | refine Below.alloc ?_ ?_ _)) <;> (first | omega | (simp; done) | (simp; omega)))⟩
      · have hd : decide (cnt < bP.cost) = false := by simpa using hlt
        go_quiet ((go_at_call 39; exact Calls.quiet_of_same (refCount_eq _ pg _ _ _ HCNT.out (HP.out.ext (Ext.drewN KC.out _)))))
        go_wp2_with fail
        go_meet
        exact ⟨by simp [takesB, HEQ.out, hlt], by (repeat' (with_reducible first | exact KC.out | exact Below.refl _ _ | refine Ext.drewN ?_ _ | refine Below.drew ?_ | refine Below.setCell ?_ ?_ _ | refine Below.alloc ?_ ?_ _)) <;> (first | omega | (simp; done) | (simp; omega)), RX.out.ext (by (repeat' (with_reducible first | exact Below.refl _ _ | refine Ext.drewN ?_ _ | refine Below.drew ?_ | refine Below.setCell ?_ ?_ _ | refine Below.alloc ?_ ?_ _)) <;> (first | omega | (simp; done) | (simp; omega))) RX.out.lt, SC.out.ext (by (repeat' (with_reducible first | exact Below.refl _ _ | refine Ext.drewN ?_ _ | refine Below.drew ?_ | refine Below.setCell ?_ ?_ _ | refine Below.alloc ?_ ?_ _)) <;> (first | omega | (simp; done) | (simp; omega)))⟩
    · have hq : (xB.lo == xB.hi) = false := by simpa using heq
      go_quiet (fail)
      go_wp2_with fail
      go_meet
      exact ⟨by simp [takesB, heq], by (repeat' (with_reducible first | exact KC.out | exact Below.refl _ _ | refine Ext.drewN ?_ _ | refine Below.drew ?_ | refine Below.setCell ?_ ?_ _ | refine Below.alloc ?_ ?_ _)) <;> (first | omega | (simp; done) | (simp; omega)), RX.out.ext (by (repeat' (with_reducible first | exact Below.refl _ _ | refine Ext.drewN ?_ _ | refine Below.drew ?_ | refine Below.setCell ?_ ?_ _ | refine Below.alloc ?_ ?_ _)) <;> (first | omega | (simp; done) | (simp; omega))) RX.out.lt, SC.out.ext (by (repeat' (with_reducible first | exact Below.refl _ _ | refine Ext.drewN ?_ _ | refine Below.drew ?_ | refine Below.setCell ?_ ?_ _ | refine Below.alloc ?_ ?_ _)) <;> (first | omega | (simp; done) | (simp; omega)))⟩
  case rest =>
  obtain ⟨rfl, hext, hrx, hst⟩ := hcut
  clear SC KC RX
  have SC := Lib.hid hst
  have KC := Lib.hid hext
  have RX := Lib.hid hrx
  clear hst hext hrx
  have HNEW : Hid (best2 bs ops og pg = if takesB xB cnt bP.cost = true then ⟨3, [xB.lo], inB.lo, inB.hi, cnt⟩ else bP) := by
    unfold Hid
    unfold best2 tryP
    rw [HXB.out, HBP.out, HIN.out, HCNT.out]
    by_cases hc : takesB xB cnt bP.cost = true
    · rw [if_pos hc, if_pos (takesB_iff.1 hc)]
    · rw [if_neg hc, if_neg (fun q => hc (takesB_iff.2 q))]
  go_upto_if 105 with fail
  go_cut [] (fun wx => Ext w wx ∧ Row1 wx Go 43 xB.cells ∧ RSt wx w.heap.size (w.heap.size + 1) G5 G6 G7 G8 ops OV PV MV idB inB enB (best2 bs ops og pg))
  case first =>
    cases hd : takesB xB cnt bP.cost with
    | true =>
      have HC := Lib.hid hd
      go_upto_region 12 with fail
      clear hd
      obtain ⟨⟨a30, a31, a32, a33⟩, ⟨a60, a61, a62⟩, ⟨a70, a71, a72⟩, _, _, _⟩ := SC.out.facts
      obtain ⟨fv, hr9, hs9, ht9⟩ := SC.out.r9
      have hn9 := front_apart ht9 hr9 (by decide)
      have HT9 := Lib.hid ht9
      have HS9 := Lib.hid hs9
      have d0 : wc.cell? ⟨G8, 0, none⟩ = some (.int .i64 bP.way) := hr9.cell 0
      have d1 : wc.cell? ⟨G8, 1, none⟩ = some fv := hr9.cell 1
      have d2 : wc.cell? ⟨G8, 2, none⟩ = some (.int .i64 bP.lo) := hr9.cell 2
      have d3 : wc.cell? ⟨G8, 3, none⟩ = some (.int .i64 bP.hi) := hr9.cell 3
      have d4 : wc.cell? ⟨G8, 4, none⟩ = some (.int .i64 bP.cost) := hr9.cell 4
      have e0 := hr9.soft 0
      have e1 := hr9.soft 1
      have e2 := hr9.soft 2
      have e3 := hr9.soft 3
      have e4 := hr9.soft 4
      have hlt9 := hr9.lt
      have HR9 := Lib.hid hr9
      clear hr9 ht9 hs9
      have x1 : wc.cell? ⟨Go, 1, none⟩ = some (.int .i64 xB.lo) := RX.out.cell 1
      go_region_held3 (fun w' => (w'.cell? ⟨w.heap.size, 2, none⟩ = some PV ∧ w'.cell? ⟨G6, 1, none⟩ = some (.int .i64 inB.lo) ∧ w'.cell? ⟨G6, 2, none⟩ = some (.int .i64 inB.hi) ∧ w'.cell? ⟨Go, 1, none⟩ = some (.int .i64 xB.lo)))
        (first | (with_reducible exact ⟨a32, a71, a72, x1⟩) | go_keep)
        (first | (go_at_call 39; refine (refCount_eq2 _ pg _ _ _ HCNT.out (HP.out.ext (by (repeat' (with_reducible first | exact KC.out | exact Below.refl _ _ | refine Ext.drewN ?_ _ | refine Below.drew ?_ | refine Below.setCell ?_ ?_ _ | refine Below.alloc ?_ ?_ _)) <;> (first | omega | (simp; done) | (simp; omega))))).mono ?_; rintro e w6 ⟨rfl, rfl⟩))
      all_goals
        go_wp2_with fail
        go_meet
        rw [HNEW.out, if_pos HC.out]
        exact newPath_all KC.out RX.out SC.out (by omega) (fun e => m1 e) _ _ _ _ _
    | false =>
      go_wp2_with fail
      go_meet
      rw [HNEW.out, if_neg (by simpa [takesB] using hd)]
      exact ⟨KC.out, RX.out, SC.out⟩
  case rest =>
  obtain ⟨hext, hrx, hst⟩ := hcut
  clear SC KC RX HNEW HCNT HBP HXB
  have SC := Lib.hid hst
  have KC := Lib.hid hext
  have RX := Lib.hid hrx
  clear hst hext hrx
  generalize xB = yB at *
  refine ‹∀ (a : Act) (w : World), Code.wp _ _ _ a w → _› _ _ ?_
  exact refChoose_tail8 V OV PV MV bs ops og pg mg w _ HS.out HO.out HP.out HM.out idB inB enB yB HID.out HIN.out HEN.out G5 G6 G7 G8 Go ⟨hg1, hg2, hg3, hg4, hGo⟩ KC.out RX.out SC.out _ _ _ _ _ _ _ _ _ _ _ _ _ _ _ _ _ _ _ _ _ _ _ _ _ _ _ _ _ _ _ _ _ _ _ _ _ _ _ _ _ _ _ _ _ _ _ _ _ _ _ _ _ _ _ _ _ _ _ _ _ _ _ _ _ _ _ _ _ _ _ _ _ _ _ _ _ _ _ _ _ _ _ _ _ _ _ _ _ _ _ _ _ _ _ _ _ _ _ _ _ _ _ _ _ _ _ _ _ _ _ _ _ _ _ _ _ _ _ _ _ _ _ _ _ _ _ _ _ _ _ _ _ _ _ _ _ _ _ _

set_option maxRecDepth 100000 in
set_option maxHeartbeats 20000000 in
theorem refChoose_any (V OV PV MV : Value) (bs : List Bnd) (ops : Int) (og pg mg : List Grp) (w : World) (hs : Sl w 3 RBnd V bs)
    (ho : Sl w 2 RG OV og) (hp : Sl w 2 RG PV pg) (hm : Sl w 2 RG MV mg) :
    Calls Try.prog 14 #[V, .agg #[.int .i64 ops, OV, PV, MV]] w fun e w' => ChoosePost bs ops og pg mg e w' ∧ Ext w w' := by
  have HS := Lib.hid hs
  have HO := Lib.hid ho
  have HP := Lib.hid hp
  have HM := Lib.hid hm
  clear hs ho hp hm
  obtain ⟨idB, hid⟩ : ∃ b, findB sId bs = b := ⟨_, rfl⟩
  obtain ⟨inB, hin⟩ : ∃ b, findB sInvoke bs = b := ⟨_, rfl⟩
  obtain ⟨enB, hen⟩ : ∃ b, findB sReturn bs = b := ⟨_, rfl⟩
  have HID := Lib.hid hid
  have HIN := Lib.hid hin
  have HEN := Lib.hid hen
  clear hid hin hen
  go_enter Try.func14, Try.ntmps14
  go_wp2_with fail
  refine (refOf_eq _ bs _ _ idB HID.out (HS.out.ext (by (repeat' (with_reducible first | exact Below.refl _ _ | refine Ext.drewN ?_ _ | refine Below.drew ?_ | refine Below.setCell ?_ ?_ _ | refine Below.alloc ?_ ?_ _)) <;> (first | omega | (simp; done) | (simp; omega))))).mono ?_
  rintro e w1 ⟨rfl, hb1⟩
  have K1 := Lib.hid (Ext.trans (by (repeat' (with_reducible first | exact Below.refl _ _ | refine Ext.drewN ?_ _ | refine Below.drew ?_ | refine Below.setCell ?_ ?_ _ | refine Below.alloc ?_ ?_ _)) <;> (first | omega | (simp; done) | (simp; omega)) : Ext w _) hb1)
  have HR3 := Lib.hid (((Row1.made w 40 [.int .i64 ops, OV, PV, MV]).alloc _).ext hb1 (by simp; omega))
  have HR4 := Lib.hid ((Row1.made' (w := w.alloc (.cells #[.int .i64 ops, OV, PV, MV] 40)) (n := w.heap.size + 1) (by simp) 49 [.int .i64 0, .slice none 0 0, .int .i64 0, .int .i64 0, .int .i64 0]).ext hb1 (by simp))
  clear hb1
  go_wp2_with fail
  refine (refOf_eq _ bs _ _ inB HIN.out (HS.out.ext K1.out)).mono ?_
  rintro e w2 ⟨rfl, hb2⟩
  have K2 := Lib.hid (Ext.trans K1.out hb2)
  have HR3 := Lib.hid (HR3.out.ext hb2 HR3.out.lt)
  have HR4 := Lib.hid (HR4.out.ext hb2 HR4.out.lt)
  clear hb2
  go_wp2_with fail
  refine (refOf_eq _ bs _ _ enB HEN.out (HS.out.ext K2.out)).mono ?_
  rintro e w3 ⟨rfl, hb3⟩
  have K3 := Lib.hid (Ext.trans K2.out hb3)
  have HR3 := Lib.hid (HR3.out.ext hb3 HR3.out.lt)
  have HR4 := Lib.hid (HR4.out.ext hb3 HR4.out.lt)
  clear hb3
  have hz := HR4.out.lt
  have hz3 : w.heap.size < w3.heap.size := by omega
  have hz4 : w.heap.size < w3.heap.size + 1 := by omega
  have hz5 : w.heap.size < w3.heap.size + 1 + 1 := by omega
  have hz6 : w.heap.size < w3.heap.size + 1 + 1 + 1 := by omega
  have c30 := HR3.out.cell 0
  simp at c30
  go_upto_region 3 with fail
  have S4 : RSt ((((w3.alloc (.cells #[.string idB.field, .int .i64 idB.lo, .int .i64 idB.hi] 43)).alloc (.cells #[.string inB.field, .int .i64 inB.lo, .int .i64 inB.hi] 43)).alloc (.cells #[.string enB.field, .int .i64 enB.lo, .int .i64 enB.hi] 43)).alloc (.cells #[.int .i64 0, .slice none 0 0, .int .i64 idB.lo, .int .i64 idB.hi, .int .i64 ops] 49)) w.heap.size (w.heap.size + 1) w3.heap.size (w3.heap.size + 1) (w3.heap.size + 1 + 1) (w3.heap.size + 1 + 1 + 1) ops OV PV MV idB inB enB ⟨0, [], idB.lo, idB.hi, ops⟩ :=
      ⟨(((HR3.out.alloc _).alloc _).alloc _).alloc _, (((HR4.out.alloc _).alloc _).alloc _).alloc _,
      (((Row1.made _ _ idB.cells).alloc _).alloc _).alloc _, ((Row1.made' (by simp) _ inB.cells).alloc _).alloc _,
      (Row1.made' (by simp) _ enB.cells).alloc _, ⟨.slice none 0 0, Row1.made' (by simp) _ [.int .i64 0, .slice none 0 0, .int .i64 idB.lo, .int .i64 idB.hi, .int .i64 ops], Sl.nil _ _ _, by simp [Value.ownBlock]⟩, by omega⟩
  have HS4 := Lib.hid S4
  clear S4
  go_cut [5, 6, 7, 8, 32] (fun s5 s6 s7 s8 s32 wx => ∃ G5 G6 G7 G8, s5 = .pointer (some ⟨G5, 0, none⟩) ∧ s6 = .pointer (some ⟨G6, 0, none⟩) ∧ s7 = .pointer (some ⟨G7, 0, none⟩) ∧ s8 = .pointer (some ⟨G8, 0, none⟩) ∧ (w.heap.size + 1 < G5 ∧ G5 < G6 ∧ G6 < G7 ∧ G7 < G8) ∧ s32 = .bool (decide (idB.lo = idB.hi ∧ 1 < ops)) ∧ Ext w wx ∧ RSt wx w.heap.size (w.heap.size + 1) G5 G6 G7 G8 ops OV PV MV idB inB enB ⟨0, [], idB.lo, idB.hi, ops⟩)
  case first =>
    by_cases heq : idB.lo = idB.hi
    · have hq : (idB.lo == idB.hi) = true := by simpa using heq
      have HEQ := Lib.hid heq
      clear heq
      by_cases hop : 1 < ops
      · have hd : decide (1 < ops) = true := by simpa using hop
        go_wp2_with fail
        go_meet
        exact ⟨_, _, _, _, rfl, rfl, rfl, rfl, by omega, by simp [HEQ.out, hop], by (repeat' (with_reducible first | exact K3.out | exact Below.refl _ _ | refine Ext.drewN ?_ _ | refine Below.drew ?_ | refine Below.setCell ?_ ?_ _ | refine Below.alloc ?_ ?_ _)) <;> (first | omega | (simp; done) | (simp; omega)), HS4.out⟩
      · have hd : decide (1 < ops) = false := by simpa using hop
        go_wp2_with fail
        go_meet
        exact ⟨_, _, _, _, rfl, rfl, rfl, rfl, by omega, by simp [HEQ.out, hop], by (repeat' (with_reducible first | exact K3.out | exact Below.refl _ _ | refine Ext.drewN ?_ _ | refine Below.drew ?_ | refine Below.setCell ?_ ?_ _ | refine Below.alloc ?_ ?_ _)) <;> (first | omega | (simp; done) | (simp; omega)), HS4.out⟩
    · have hq : (idB.lo == idB.hi) = false := by simpa using heq
      go_wp2_with fail
      go_meet
      exact ⟨_, _, _, _, rfl, rfl, rfl, rfl, by omega, by simp [heq], by (repeat' (with_reducible first | exact K3.out | exact Below.refl _ _ | refine Ext.drewN ?_ _ | refine Below.drew ?_ | refine Below.setCell ?_ ?_ _ | refine Below.alloc ?_ ?_ _)) <;> (first | omega | (simp; done) | (simp; omega)), HS4.out⟩
  case rest =>
  clear HR3 HR4 K3 K1 K2 HS4 hz3 hz4 hz5 hz6 c30 hz
  obtain ⟨G5, G6, G7, G8, rfl, rfl, rfl, rfl, ⟨hg1, hg2, hg3, hg4⟩, rfl, hext, hst⟩ := hcut
  have KC := Lib.hid hext
  have SC := Lib.hid hst
  clear hext hst
  have n1 : ¬ (w.heap.size = G8) := by omega
  have n2 : ¬ (G8 = w.heap.size) := by omega
  have n3 : ¬ (G6 = G8) := by omega
  have n4 : ¬ (G8 = G6) := by omega
  have n5 : ¬ (G5 = G8) := by omega
  have n6 : ¬ (G8 = G5) := by omega
  have n7 : ¬ (G7 = G8) := by omega
  have n8 : ¬ (G8 = G7) := by omega
  have HB0 : Hid (best0 bs ops = ⟨0, [], idB.lo, idB.hi, if idB.lo = idB.hi then min 1 ops else ops⟩) := by unfold Hid best0; rw [HID.out]
  go_upto_if 32 with fail
  go_cut [] (fun wx => Ext w wx ∧ RSt wx w.heap.size (w.heap.size + 1) G5 G6 G7 G8 ops OV PV MV idB inB enB (best0 bs ops))
  case first =>
    obtain ⟨fv, hr9, hs9, ht9⟩ := SC.out.r9
    have hn9 := front_apart ht9 hr9 (by decide)
    have HT9 := Lib.hid ht9
    have e4 := hr9.soft 4
    have d4 : wc.cell? ⟨G8, 4, none⟩ = some (.int .i64 ops) := hr9.cell 4
    have HR9 := Lib.hid hr9
    clear ht9 hr9
    by_cases hc : idB.lo = idB.hi ∧ 1 < ops
    · have hd : decide (idB.lo = idB.hi ∧ 1 < ops) = true := by simpa using hc
      have HC := Lib.hid hc
      clear hc
      go_wp2_with fail
      go_meet
      rw [HB0.out, if_pos HC.out.1, show min 1 ops = 1 by have := HC.out.2; omega]
      exact ⟨by (repeat' (with_reducible first | exact KC.out | exact Below.refl _ _ | refine Ext.drewN ?_ _ | refine Below.drew ?_ | refine Below.setCell ?_ ?_ _ | refine Below.alloc ?_ ?_ _)) <;> (first | omega | (simp; done) | (simp; omega)), SC.out.but (by (repeat' (with_reducible first | exact But.refl | exact But.refl | refine But.drewN ?_ _ | refine But.drew ?_ | refine But.setCell ?_ ?_ _ | refine But.alloc ?_ _)) <;> (first | exact .inl rfl | (right; simp; done) | (right; simp; omega))) ⟨fv, HR9.out.set 4 _, hs9.but (by (repeat' (with_reducible first | exact But.refl | exact But.refl | refine But.drewN ?_ _ | refine But.drew ?_ | refine But.setCell ?_ ?_ _ | refine But.alloc ?_ _)) <;> (first | exact .inl rfl | (right; simp; done) | (right; simp; omega))) hn9, front_but HT9.out (by (repeat' (with_reducible first | exact But.refl | exact But.refl | refine But.drewN ?_ _ | refine But.drew ?_ | refine But.setCell ?_ ?_ _ | refine But.alloc ?_ _)) <;> (first | exact .inl rfl | (right; simp; done) | (right; simp; omega))) hn9⟩⟩
    · have hd : decide (idB.lo = idB.hi ∧ 1 < ops) = false := by simpa using hc
      have HC := Lib.hid hc
      clear hc
      go_wp2_with fail
      go_meet
      rw [HB0.out, show (if idB.lo = idB.hi then min 1 ops else ops) = ops by split <;> (have := HC.out; omega)]
      exact ⟨KC.out, SC.out⟩
  case rest =>
  obtain ⟨hext, hst⟩ := hcut
  clear KC SC HB0
  have KC := Lib.hid hext
  have SC := Lib.hid hst
  clear hext hst
  obtain ⟨xB, hxb⟩ : ∃ b, findB sObject bs = b := ⟨_, rfl⟩
  have HXB := Lib.hid hxb
  clear hxb
  obtain ⟨bP, hbP⟩ : ∃ p, best0 bs ops = p := ⟨_, rfl⟩
  have HBP := Lib.hid hbP
  rw [hbP] at SC
  clear hbP
  have hzp : G8 < wc.heap.size := by obtain ⟨fv, h, _⟩ := SC.out.r9; exact h.lt
  go_upto_region 5 with fail
  go_cut [9] (fun s9 wx => ∃ Go, s9 = .pointer (some ⟨Go, 0, none⟩) ∧ G8 < Go ∧ Ext w wx ∧ Row1 wx Go 43 xB.cells ∧ RSt wx w.heap.size (w.heap.size + 1) G5 G6 G7 G8 ops OV PV MV idB inB enB bP)
  case first =>
    go_wp2_with fail
    refine (refOf_eq _ bs _ _ xB HXB.out (HS.out.ext KC.out)).mono ?_
    rintro e w5 ⟨rfl, hb5⟩
    have HB5 := Lib.hid hb5
    have hz5 : G8 < w5.heap.size := Nat.lt_of_lt_of_le hzp hb5.size
    clear hb5
    go_wp2_with fail
    go_meet
    exact ⟨w5.heap.size, rfl, by omega, by (repeat' (with_reducible first | exact (Ext.trans KC.out HB5.out) | exact Below.refl _ _ | refine Ext.drewN ?_ _ | refine Below.drew ?_ | refine Below.setCell ?_ ?_ _ | refine Below.alloc ?_ ?_ _)) <;> (first | omega | (simp; done) | (simp; omega)), Row1.made _ _ xB.cells, (SC.out.ext HB5.out).ext (Ext.alloc _ _)⟩
  case rest =>
  clear SC KC hzp
  obtain ⟨Go, rfl, hGo, hext, hrx, hst⟩ := hcut
  have m1 : ¬ (Go = G8) := by omega
  have m2 : ¬ (G8 = Go) := by omega
  have SC := Lib.hid hst
  have KC := Lib.hid hext
  have RX := Lib.hid hrx
  clear hst hext hrx
  obtain ⟨cnt, hcnt⟩ : ∃ c, cntL xB.lo og = c := ⟨_, rfl⟩
  have HCNT := Lib.hid hcnt
  clear hcnt
  go_upto_region 6 with fail
  go_cut [50] (fun s50 wx => s50 = .bool (takesB xB cnt bP.cost) ∧ Ext w wx ∧ Row1 wx Go 43 xB.cells ∧ RSt wx w.heap.size (w.heap.size + 1) G5 G6 G7 G8 ops OV PV MV idB inB enB bP)
  case first =>
    obtain ⟨⟨a30, a31, a32, a33⟩, _, _, _, _, _⟩ := SC.out.facts
    obtain ⟨fv, hr9, _, _⟩ := SC.out.r9
    have d4 : wc.cell? ⟨G8, 4, none⟩ = some (.int .i64 bP.cost) := hr9.cell 4
    clear hr9
    have x1 : wc.cell? ⟨Go, 1, none⟩ = some (.int .i64 xB.lo) := RX.out.cell 1
    have x2 : wc.cell? ⟨Go, 2, none⟩ = some (.int .i64 xB.hi) := RX.out.cell 2
    by_cases heq : xB.lo = xB.hi
    · have hq : (xB.lo == xB.hi) = true := by simpa using heq
      have HEQ := Lib.hid heq
      clear heq
      by_cases hlt : cnt < bP.cost
      · have hd : decide (cnt < bP.cost) = true := by simpa using hlt
        go_quiet ((go_at_call 39; exact Calls.quiet_of_same (refCount_eq _ og _ _ _ HCNT.out (HO.out.ext (Ext.drewN KC.out _)))))
        go_wp2_with fail
        go_meet
        exact ⟨by simp [takesB, HEQ.out, hlt], by (repeat' (with_reducible first | exact KC.out | exact Below.refl _ _ | refine Ext.drewN ?_ _ | refine Below.drew ?_ | refine Below.setCell ?_ ?_ _ | refine Below.alloc ?_ ?_ _)) <;> (first | omega | (simp; done) | (simp; omega)), RX.out.ext (by (repeat' (with_reducible first | exact Below.refl _ _ | refine Ext.drewN ?_ _ | refine Below.drew ?_ | refine Below.setCell ?_ ?_ _ | refine Below.alloc ?_ ?_ _)) <;> (first | omega | (simp; done) | (simp; omega))) RX.out.lt, SC.out.ext (by (repeat' (with_reducible first | exact Below.refl _ _ | refine Ext.drewN ?_ _ | refine Below.drew ?_ | refine Below.setCell ?_ ?_ _ | refine Below.alloc ?_ ?_ _)) <;> (first | omega | (simp; done) | (simp; omega)))⟩
      · have hd : decide (cnt < bP.cost) = false := by simpa using hlt
        go_quiet ((go_at_call 39; exact Calls.quiet_of_same (refCount_eq _ og _ _ _ HCNT.out (HO.out.ext (Ext.drewN KC.out _)))))
        go_wp2_with fail
        go_meet
        exact ⟨by simp [takesB, HEQ.out, hlt], by (repeat' (with_reducible first | exact KC.out | exact Below.refl _ _ | refine Ext.drewN ?_ _ | refine Below.drew ?_ | refine Below.setCell ?_ ?_ _ | refine Below.alloc ?_ ?_ _)) <;> (first | omega | (simp; done) | (simp; omega)), RX.out.ext (by (repeat' (with_reducible first | exact Below.refl _ _ | refine Ext.drewN ?_ _ | refine Below.drew ?_ | refine Below.setCell ?_ ?_ _ | refine Below.alloc ?_ ?_ _)) <;> (first | omega | (simp; done) | (simp; omega))) RX.out.lt, SC.out.ext (by (repeat' (with_reducible first | exact Below.refl _ _ | refine Ext.drewN ?_ _ | refine Below.drew ?_ | refine Below.setCell ?_ ?_ _ | refine Below.alloc ?_ ?_ _)) <;> (first | omega | (simp; done) | (simp; omega)))⟩
    · have hq : (xB.lo == xB.hi) = false := by simpa using heq
      go_quiet (fail)
      go_wp2_with fail
      go_meet
      exact ⟨by simp [takesB, heq], by (repeat' (with_reducible first | exact KC.out | exact Below.refl _ _ | refine Ext.drewN ?_ _ | refine Below.drew ?_ | refine Below.setCell ?_ ?_ _ | refine Below.alloc ?_ ?_ _)) <;> (first | omega | (simp; done) | (simp; omega)), RX.out.ext (by (repeat' (with_reducible first | exact Below.refl _ _ | refine Ext.drewN ?_ _ | refine Below.drew ?_ | refine Below.setCell ?_ ?_ _ | refine Below.alloc ?_ ?_ _)) <;> (first | omega | (simp; done) | (simp; omega))) RX.out.lt, SC.out.ext (by (repeat' (with_reducible first | exact Below.refl _ _ | refine Ext.drewN ?_ _ | refine Below.drew ?_ | refine Below.setCell ?_ ?_ _ | refine Below.alloc ?_ ?_ _)) <;> (first | omega | (simp; done) | (simp; omega)))⟩
  case rest =>
  obtain ⟨rfl, hext, hrx, hst⟩ := hcut
  clear SC KC RX
  have SC := Lib.hid hst
  have KC := Lib.hid hext
  have RX := Lib.hid hrx
  clear hst hext hrx
  have HNEW : Hid (best1 bs ops og = if takesB xB cnt bP.cost = true then (if byRetB inB enB = true then ⟨2, [xB.lo], enB.lo, enB.hi, cnt⟩ else ⟨1, [xB.lo], inB.lo, inB.hi, cnt⟩) else bP) := by
    unfold Hid
    have hby : ByRet bs ↔ byRetB inB enB = true := by unfold ByRet byRetB; rw [HIN.out, HEN.out]; simp
    unfold best1 tryP
    rw [HXB.out, HBP.out, HIN.out, HEN.out, HCNT.out]
    by_cases hc : takesB xB cnt bP.cost = true
    · rw [if_pos hc, if_pos (takesB_iff.1 hc), if_pos (takesB_iff.1 hc)]
      by_cases h : byRetB inB enB = true
      · rw [if_pos h, if_pos (hby.2 h)]
      · rw [if_neg h, if_neg (fun q => h (hby.1 q))]
    · rw [if_neg hc, if_neg (fun q => hc (takesB_iff.2 q)), if_neg (fun q => hc (takesB_iff.2 q)), ite_self]
  go_upto_if 50 with fail
  go_cut [] (fun wx => Ext w wx ∧ Row1 wx Go 43 xB.cells ∧ RSt wx w.heap.size (w.heap.size + 1) G5 G6 G7 G8 ops OV PV MV idB inB enB (best1 bs ops og))
  case first =>
    cases hd : takesB xB cnt bP.cost with
    | true =>
      have HC := Lib.hid hd
      go_upto_region 7 with fail
      clear hd
      go_cut [] (fun wx => Ext w wx ∧ Row1 wx Go 43 xB.cells ∧ RSt wx w.heap.size (w.heap.size + 1) G5 G6 G7 G8 ops OV PV MV idB inB enB ⟨1, [xB.lo], inB.lo, inB.hi, cnt⟩)
      case first =>
        obtain ⟨⟨a30, a31, a32, a33⟩, ⟨a60, a61, a62⟩, ⟨a70, a71, a72⟩, _, _, _⟩ := SC.out.facts
        obtain ⟨fv, hr9, hs9, ht9⟩ := SC.out.r9
        have hn9 := front_apart ht9 hr9 (by decide)
        have HT9 := Lib.hid ht9
        have HS9 := Lib.hid hs9
        have d0 : wc.cell? ⟨G8, 0, none⟩ = some (.int .i64 bP.way) := hr9.cell 0
        have d1 : wc.cell? ⟨G8, 1, none⟩ = some fv := hr9.cell 1
        have d2 : wc.cell? ⟨G8, 2, none⟩ = some (.int .i64 bP.lo) := hr9.cell 2
        have d3 : wc.cell? ⟨G8, 3, none⟩ = some (.int .i64 bP.hi) := hr9.cell 3
        have d4 : wc.cell? ⟨G8, 4, none⟩ = some (.int .i64 bP.cost) := hr9.cell 4
        have e0 := hr9.soft 0
        have e1 := hr9.soft 1
        have e2 := hr9.soft 2
        have e3 := hr9.soft 3
        have e4 := hr9.soft 4
        have hlt9 := hr9.lt
        have HR9 := Lib.hid hr9
        clear hr9 ht9 hs9
        have x1 : wc.cell? ⟨Go, 1, none⟩ = some (.int .i64 xB.lo) := RX.out.cell 1
        go_region_held3 (fun w' => (w'.cell? ⟨w.heap.size, 1, none⟩ = some OV ∧ w'.cell? ⟨G6, 1, none⟩ = some (.int .i64 inB.lo) ∧ w'.cell? ⟨G6, 2, none⟩ = some (.int .i64 inB.hi) ∧ w'.cell? ⟨Go, 1, none⟩ = some (.int .i64 xB.lo)))
          (first | (with_reducible exact ⟨a31, a71, a72, x1⟩) | go_keep)
          (first | (go_at_call 39; refine (refCount_eq2 _ og _ _ _ HCNT.out (HO.out.ext (by (repeat' (with_reducible first | exact KC.out | exact Below.refl _ _ | refine Ext.drewN ?_ _ | refine Below.drew ?_ | refine Below.setCell ?_ ?_ _ | refine Below.alloc ?_ ?_ _)) <;> (first | omega | (simp; done) | (simp; omega))))).mono ?_; rintro e w6 ⟨rfl, rfl⟩))
        all_goals
          go_wp2_with fail
          go_meet
          exact newPath_all KC.out RX.out SC.out (by omega) (fun e => m1 e) _ _ _ _ _
      case rest =>
      obtain ⟨hext, hrx, hst⟩ := hcut
      clear SC KC RX
      have SC := Lib.hid hst
      have KC := Lib.hid hext
      have RX := Lib.hid hrx
      clear hst hext hrx
      go_upto_region 8 with fail
      go_cut [81] (fun s81 wx => s81 = .bool (byRetB inB enB) ∧ Ext w wx ∧ Row1 wx Go 43 xB.cells ∧ RSt wx w.heap.size (w.heap.size + 1) G5 G6 G7 G8 ops OV PV MV idB inB enB ⟨1, [xB.lo], inB.lo, inB.hi, cnt⟩)
      case first =>
        obtain ⟨_, _, ⟨a70, a71, a72⟩, a80, a81, a82⟩ := SC.out.facts
        by_cases h1 : inB.lo = -9223372036854775808
        · by_cases h2 : inB.hi = 9223372036854775807
          · by_cases h3 : 0 < enB.lo
            · have q1 : (inB.lo == -9223372036854775808) = true := by simpa using h1
              have q2 : (inB.hi == 9223372036854775807) = true := by simpa using h2
              have q3 : decide (0 < enB.lo) = true := by simpa using h3
              have HH : Hid (byRetB inB enB = true) := by unfold Hid byRetB; simp [h1, h2, h3]
              clear h1 h2
              go_wp2_with fail
              go_meet
              exact ⟨by rw [HH.out], KC.out, RX.out, SC.out⟩
            · by_cases h4 : enB.hi < 0
              · have q1 : (inB.lo == -9223372036854775808) = true := by simpa using h1
                have q2 : (inB.hi == 9223372036854775807) = true := by simpa using h2
                have q3 : decide (0 < enB.lo) = false := by simpa using h3
                have q4 : decide (enB.hi < 0) = true := by simpa using h4
                have HH : Hid (byRetB inB enB = true) := by unfold Hid byRetB; simp [h1, h2, h4]
                clear h1 h2
                go_wp2_with fail
                go_meet
                exact ⟨by rw [HH.out], KC.out, RX.out, SC.out⟩
              · have q1 : (inB.lo == -9223372036854775808) = true := by simpa using h1
                have q2 : (inB.hi == 9223372036854775807) = true := by simpa using h2
                have q3 : decide (0 < enB.lo) = false := by simpa using h3
                have q4 : decide (enB.hi < 0) = false := by simpa using h4
                have HH : Hid (byRetB inB enB = false) := by unfold Hid byRetB; simp [h3, h4]
                clear h1 h2
                go_wp2_with fail
                go_meet
                exact ⟨by rw [HH.out], KC.out, RX.out, SC.out⟩
          · have q1 : (inB.lo == -9223372036854775808) = true := by simpa using h1
            have q2 : (inB.hi == 9223372036854775807) = false := by simpa using h2
            have HH : Hid (byRetB inB enB = false) := by unfold Hid byRetB; simp [h2]
            clear h1
            go_wp2_with fail
            go_meet
            exact ⟨by rw [HH.out], KC.out, RX.out, SC.out⟩
        · have q1 : (inB.lo == -9223372036854775808) = false := by simpa using h1
          have HH : Hid (byRetB inB enB = false) := by unfold Hid byRetB; simp [h1]
          go_wp2_with fail
          go_meet
          exact ⟨by rw [HH.out], KC.out, RX.out, SC.out⟩
      case rest =>
      obtain ⟨rfl, hext, hrx, hst⟩ := hcut
      clear SC KC RX
      have SC := Lib.hid hst
      have KC := Lib.hid hext
      have RX := Lib.hid hrx
      clear hst hext hrx
      cases hr : byRetB inB enB with
      | true =>
        have HRB := Lib.hid hr
        go_wp2_with fail
        obtain ⟨_, _, _, a80, a81, a82⟩ := SC.out.facts
        obtain ⟨fv, hr9, hs9, ht9⟩ := SC.out.r9
        have hn9 := front_apart ht9 hr9 (by decide)
        have HT9 := Lib.hid ht9
        have HS9 := Lib.hid hs9
        have d0 : wc.cell? ⟨G8, 0, none⟩ = some (.int .i64 1) := hr9.cell 0
        have d1 : wc.cell? ⟨G8, 1, none⟩ = some fv := hr9.cell 1
        have d2 : wc.cell? ⟨G8, 2, none⟩ = some (.int .i64 inB.lo) := hr9.cell 2
        have d3 : wc.cell? ⟨G8, 3, none⟩ = some (.int .i64 inB.hi) := hr9.cell 3
        have d4 : wc.cell? ⟨G8, 4, none⟩ = some (.int .i64 cnt) := hr9.cell 4
        have e0 := hr9.soft 0
        have e1 := hr9.soft 1
        have e2 := hr9.soft 2
        have e3 := hr9.soft 3
        have e4 := hr9.soft 4
        have hlt9 := hr9.lt
        have HR9 := Lib.hid hr9
        clear hr9 ht9 hs9
        clear hr
        go_region_held3 (fun w' => (w'.cell? ⟨G7, 1, none⟩ = some (.int .i64 enB.lo) ∧ w'.cell? ⟨G7, 2, none⟩ = some (.int .i64 enB.hi)))
          (first | (with_reducible exact ⟨a81, a82⟩) | go_keep)
          (first | fail)
        all_goals
          go_wp2_with fail
          go_meet
          rw [HNEW.out, if_pos HC.out, if_pos HRB.out]
          go_light

          exact turnPath_all KC.out RX.out SC.out (by omega) (fun e => m1 e) _ _ _
      | false =>
        have HRB := Lib.hid hr
        go_wp2_with fail
        go_meet
        rw [HNEW.out, if_pos HC.out, if_neg (by rw [HRB.out]; decide)]
        exact ⟨KC.out, RX.out, SC.out⟩
    | false =>
      go_wp2_with fail
      go_meet
      rw [HNEW.out, if_neg (by simpa [takesB] using hd)]
      exact ⟨KC.out, RX.out, SC.out⟩
  case rest =>
  obtain ⟨hext, hrx, hst⟩ := hcut
  clear SC KC RX HNEW HCNT HBP HXB
  have SC := Lib.hid hst
  have KC := Lib.hid hext
  have RX := Lib.hid hrx
  clear hst hext hrx
  generalize xB = yB at *
  refine ‹∀ (a : Act) (w : World), Code.wp _ _ _ a w → _› _ _ ?_
  exact refChoose_tail6 V OV PV MV bs ops og pg mg w _ HS.out HO.out HP.out HM.out idB inB enB yB HID.out HIN.out HEN.out G5 G6 G7 G8 Go ⟨hg1, hg2, hg3, hg4, hGo⟩ KC.out RX.out SC.out _ _ _ _ _ _ _ _ _ _ _ _ _ _ _ _ _ _ _ _ _ _ _ _ _ _ _ _ _ _ _ _ _ _ _ _ _ _ _ _ _ _ _ _ _ _ _ _ _ _ _ _ _ _ _ _ _ _ _ _ _ _ _ _ _ _ _ _ _ _ _ _ _ _ _ _ _ _ _ _ _ _ _ _ _ _ _ _ _ _ _ _ _ _ _ _ _ _ _ _ _ _ _ _ _ _ _ _ _ _ _ _ _ _ _ _ _ _ _ _ _ _ _ _ _ _ _ _ _ _ _ _ _ _ _ _ _ _ _ _
end Go.Proofs.Ytcilkdohpcmbgaa
