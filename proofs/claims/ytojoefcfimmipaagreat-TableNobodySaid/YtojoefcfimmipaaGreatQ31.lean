/- The records of a tree are given (walker.walk), at any depth. Conditions: pages that bear a tree; rounds that keep their word. -/
/- The iterator of any tree (From), and whether a tree is empty. Conditions: pages that bear a tree. -/
import Derived.Test.YtojoefcfimmipaaGreatQ26
import Derived.Test.YtojoefcfimmipaaGreatQ28
namespace Go.Proofs.YtojoefcfimmipaaGreat
set_option linter.unusedSimpArgs false
set_option linter.unusedVariables false
open Go.RowKit
theorem fromKV_flat {α : Type} (f : α → List KV) (k : ByteArray) : ∀ l : List α, fromKV (l.flatMap f) k = l.flatMap (fun c => fromKV (f c) k)
  | [] => rfl
  | a :: r => by
    rw [List.flatMap_cons, List.flatMap_cons, ← fromKV_flat f k r]
    unfold fromKV
    rw [List.filter_append]
def outK {d : Nat} (key : ByteArray) (ts : List (TT d)) (i : Nat) : List KV := (ts.take i).flatMap (fun c => fromKV (listT d c) key)
theorem outK_step {d : Nat} (key : ByteArray) (ts : List (TT d)) (i : Nat) (c : TT d) (hc : ts[i]? = some c) : outK key ts (i + 1) = outK key ts i ++ fromKV (listT d c) key := by
  unfold outK
  rw [List.take_add_one, hc, List.flatMap_append]
  simp
theorem outK_zero {d : Nat} {t : TT (d + 1)} (h : okT (d + 1) t) (key : ByteArray) : outK key (InT.kids t) (downN (InT.keys t) key) = [] := by
  have := (around (t := t) h key).1
  unfold outK
  rw [← fromKV_flat]
  exact filter_no (fun x hx => by rw [this x hx]; rfl)
theorem outK_all {d : Nat} (key : ByteArray) (t : TT (d + 1)) : outK key (InT.kids t) (InT.kids t).length = fromKV (listT (d + 1) t) key := by
  unfold outK
  rw [List.take_length, ← fromKV_flat]
  rfl
theorem outK_pre {d : Nat} (key : ByteArray) (ts : List (TT d)) {i j : Nat} (h : i ≤ j) : outK key ts i <+: outK key ts j := by
  unfold outK
  obtain ⟨r, hr⟩ := List.take_prefix_take_left (l := ts) h
  rw [← hr, List.flatMap_append]
  exact List.prefix_append _ _
def nodesT (d : Nat) (t : TT d) : Nat := (pagesT d t).length
def nodesK {d : Nat} (ts : List (TT d)) (i : Nat) : Nat := ((ts.drop i).map (nodesT d)).sum
theorem nodesK_step {d : Nat} (ts : List (TT d)) (i : Nat) (c : TT d) (hc : ts[i]? = some c) : nodesK ts i = nodesT d c + nodesK ts (i + 1) := by
  obtain ⟨h, rfl⟩ := List.getElem?_eq_some_iff.1 hc
  unfold nodesK
  rw [List.drop_eq_getElem_cons h, List.map_cons, List.sum_cons]
theorem nodesK_le {d : Nat} (ts : List (TT d)) : ∀ i, nodesK ts i ≤ nodesK ts 0
  | 0 => Nat.le_refl _
  | i + 1 => by
    have ih := nodesK_le ts i
    cases h : ts[i]? with
    | none =>
      have h1 := List.getElem?_eq_none_iff.1 h
      unfold nodesK
      rw [List.drop_eq_nil_of_le (by omega)]
      exact Nat.zero_le _
    | some c => have := nodesK_step ts i c h; omega
theorem nodesT_inner {d : Nat} (t : TT (d + 1)) : nodesT (d + 1) t = 1 + nodesK (InT.kids t) 0 := by
  unfold nodesT nodesK
  show (InT.at_ t :: (InT.kids t).flatMap (pagesT d)).length = _
  rw [List.length_cons, List.length_flatMap, List.drop_zero]
  have : (fun a => (pagesT d a).length) = nodesT d := rfl
  rw [this]; omega
def WalkP (wb t l p i : Nat) (S : StoreD) (K : Nat → Prop) (key : ByteArray) (lf : Nat) (F G : Nat → Prop) (J Jx : List KV → (Nat → Prop) → World → Prop) (pre out : List KV) (w : World) (e : Ending) (w' : World) : Prop :=
  ∃ (lf' : Nat) (F2 G2 : Nat → Prop), lf ≤ lf' ∧ lf' ≤ 2000 ∧ ItT p t i S K F2 w' ∧ Dis F2 G2 w' ∧ Keeps (fun i => Un F G i ∨ i = wb) (fun i => Un F2 G2 i ∨ i = wb) w w' ∧ WalkRow w' wb t l key lf' ∧ ¬ Un F2 G2 wb ∧
    ((e = .returned (.bool true) ∧ J (pre ++ out) G2 w') ∨ (e = .returned (.bool false) ∧ ∃ q, q <+: out ∧ Jx (pre ++ q) G2 w'))
structure InnS (wb p t i l : Nat) (S : StoreD) (K : Nat → Prop) (key : ByteArray) (lv : Nat) (J : List KV → (Nat → Prop) → World → Prop) (F G : Nat → Prop) (wa : World) (pre : List KV) (Fr Gr : Nat → Prop) (wr : World) : Prop where
  it : ItT p t i S K Fr wr
  dis : Dis Fr Gr wr
  keep : Keeps (fun i => Un F G i ∨ i = wb) (fun i => Un Fr Gr i ∨ i = wb) wa wr
  row : WalkRow wr wb t l key lv
  nwb : ¬ Un Fr Gr wb
  j : J pre Gr wr
set_option maxRecDepth 100000 in
set_option maxHeartbeats 8000000 in
theorem walk_inner {t p i d0 : Nat} {F G K : Nat → Prop} {S : StoreD} {J Jx : List KV → (Nat → Prop) → World → Prop} {Ok : List KV → KV → Prop} (l wb D lf lfz : Nat) (key : ByteArray) (T : TT (d0 + 1)) (pre : List KV) (w : World)
    (hit : ItT p t i S K F w) (hdis : Dis F G w) (hwb : WalkRow w wb t l key ((lf + 1 : Nat) : Int)) (hnw : ¬ Un F G wb) (hon : onT S (d0 + 1) T) (hok : okT (d0 + 1) T) (hD : D ≤ 1000) (hJ : Abides J)
    (hOk : ∀ q x, q ++ [x] <+: fromKV (listT (d0 + 1) T) key → Ok (pre ++ q) x) (h0 : J pre G w) (hlz : lfz + nodesK (InT.kids T) 0 ≤ lf) (hlf : lf < 2000)
    (hIH : ∀ (F G : Nat → Prop) (pre : List KV) (w : World) (c : TT d0) (lf : Nat), c ∈ InT.kids T → ItT p t i S K F w → Dis F G w → WalkRow w wb t l key ((lf + nodesT d0 c : Nat) : Int) → ¬ Un F G wb → J pre G w → (∀ q x, q ++ [x] <+: fromKV (listT d0 c) key → Ok (pre ++ q) x) → lf + nodesT d0 c ≤ 2000 →
      Calls Tryz.prog 122 #[.pointer (some ⟨wb, 0, none⟩), .int .i64 (atT d0 c), .int .i64 D] w (WalkP wb t l p i S K key lf F G J Jx pre (fromKV (listT d0 c) key) w)) :
    Calls Tryz.prog 122 #[.pointer (some ⟨wb, 0, none⟩), .int .i64 (InT.at_ T), .int .i64 ((D + 1 : Nat) : Int)] w (WalkP wb t l p i S K key lfz F G J Jx pre (fromKV (listT (d0 + 1) T) key) w) := by
  have hkid := kids_int (S := S) hon.2 (by have := hit.1.most; exact this)
  have hpg := onT_page (d0 + 1) T hon
  have hmany := hpg.ok.many
  have hkl : (InT.kids T).length = (InT.keys T).length + 1 := hok.2.1
  have hj := downN_le (k := key) hok.1
  have HOUT0 : Hid (outK key (InT.kids T) (downN (InT.keys T) key) = []) := outK_zero hok key
  have HOUTC : Hid (outK key (InT.kids T) (InT.kids T).length = fromKV (listT (d0 + 1) T) key) := outK_all key T
  have HOUTS : Hid (∀ i c, (InT.kids T)[i]? = some c → outK key (InT.kids T) (i + 1) = outK key (InT.kids T) i ++ fromKV (listT d0 c) key) := fun i c q => outK_step key _ i c q
  have HNS : Hid (∀ i c, (InT.kids T)[i]? = some c → nodesK (InT.kids T) i = nodesT d0 c + nodesK (InT.kids T) (i + 1)) := fun i c q => nodesK_step _ i c q
  have HNJ : Hid (lfz + nodesK (InT.kids T) (downN (InT.keys T) key) ≤ lf) := Lib.hid (by have := nodesK_le (InT.kids T) (downN (InT.keys T) key); omega)
  have HKIDS : Hid (∀ W G kv vv cv, NodeAs W G (nodeT (d0 + 1) T) kv vv cv → ∃ cb cc, cv = .slice (some ⟨cb, 0, none⟩) (InT.kids T).length cc ∧ G cb ∧ cb < W.heap.size ∧ ∀ i c, (InT.kids T)[i]? = some c → W.cell? ⟨cb, i, none⟩ = some (.int .i64 (atT d0 c))) := fun W G kv vv cv q => by
    have hl : (nodeT (d0 + 1) T).kids.length = (InT.kids T).length := List.length_map _
    obtain ⟨cb, cc, hcv, hcb, _⟩ := own_at q.kids 0 (by rw [hl]; omega)
    rw [hl] at hcv
    refine ⟨cb, cc, hcv, q.fc cb (by rw [hcv]; rfl), hcb, fun i c hc => ?_⟩
    have hi := (List.getElem?_eq_some_iff.1 hc).1
    obtain ⟨cb', cc', hcv', _, hcell⟩ := own_at q.kids i (by rw [hl]; exact hi)
    rw [hcv] at hcv'
    injection hcv' with e1 e2 e3
    injection e1 with e1
    injection e1 with e1
    subst e1
    rw [hcell]
    show some (Value.int .i64 ((((InT.kids T).map fun c => (atT d0 c : Int))[i]?).getD 0)) = _
    rw [List.getElem?_map, hc]; rfl
  have HDN0 : Hid (∀ W kv vv cv G, NodeAs W G (nodeT (d0 + 1) T) kv vv cv → Calls Tryz.prog 126 #[.agg #[.bool false, kv, vv, cv], .string key] W fun e w' => e = .returned (.int .i64 (downN (InT.keys T) key)) ∧ Ext W w') := fun W kv vv cv G q => down_any key W q hok.1 (by show (InT.keys T).length ≤ 1000000; have : (nodeT (d0 + 1) T).keys = InT.keys T := rfl; rw [this] at hmany; omega)
  have HIT := Lib.hid hit
  obtain ⟨h1, h2, h3, _⟩ := hit
  have hne : t ≠ wb := Row1.apart h2 hwb (by decide)
  have hG0 : ¬ G wb := fun q => hnw (.inr q)
  have hF0 : ¬ F wb := fun q => hnw (.inl q)
  obtain ⟨lv, hlv⟩ : ∃ lv : Nat, lf + 1 = lv := ⟨_, rfl⟩
  rw [hlv] at hwb
  have T1 : IntKind.i64.wrap ((lv : Int) - 1) = (lf : Int) := by rw [IntKind.wrap_i64]; omega
  have T2 : decide ((lf : Int) < 0) = false := decide_eq_false (by omega)
  obtain ⟨dv, hdv⟩ : ∃ dv : Nat, D + 1 = dv := ⟨_, rfl⟩
  rw [hdv]
  have T3 : ((dv : Int) == 0) = false := by simp; omega
  have T4 : (dv : Int) - 1 = (D : Int) := by omega
  have HT4 := Lib.hid T4
  have T5 : dv ≤ 1001 := by omega
  have T6 : 0 < dv := by omega
  have z3 : w.cell? ⟨wb, 3, none⟩ = some (.int .i64 lv) := hwb.cell 3
  have y3 : w.frozen? ⟨wb, 3, none⟩ = false := hwb.soft 3
  have hoA : Only (fun j => j = wb) w (w.setCell ⟨wb, 3, none⟩ (.int .i64 lf)) := only1 w wb 3 _
  have hwA : WalkRow (w.setCell ⟨wb, 3, none⟩ (.int .i64 lf)) wb t l key lf := hwb.set 3 _
  have x0 : (w.setCell ⟨wb, 3, none⟩ (.int .i64 lf)).cell? ⟨wb, 0, none⟩ = some (.pointer (some ⟨t, 0, none⟩)) := hwA.cell 0
  have htA : TreeRow (w.setCell ⟨wb, 3, none⟩ (.int .i64 lf)) t p i := hoA.row h2 (fun q => hne q)
  have cL := load2_any (InT.at_ T) (nodeT (d0 + 1) T) (w.setCell ⟨wb, 3, none⟩ (.int .i64 lf)) htA (h1.only hoA (fun j q q' => by subst q'; exact hF0 q)) hpg
  rw [show (nodeT (d0 + 1) T).leaf = false from rfl] at cL
  have HWA := Lib.hid hwA
  have HTA := Lib.hid htA
  have HOA := Lib.hid hoA
  have HD := Lib.hid hdis
  have HNW := Lib.hid hnw
  have HJ := Lib.hid hJ
  have HOK := Lib.hid hOk
  have H0 := Lib.hid h0
  have HNT := Lib.hid h3
  have HIH := Lib.hid hIH
  have HSA : Hid ((w.setCell ⟨wb, 3, none⟩ (.int .i64 lf)).heap.size = w.heap.size) := setCell_size _ _ _
  have HWL := Lib.hid hwb.lt
  have HTL := Lib.hid h2.lt
  have HTW : Hid (¬ t = wb) := hne
  have HCN : Hid ((InT.kids T).length ≤ 256) := Lib.hid (by have h8 : (nodeT (d0 + 1) T).keys = InT.keys T := rfl; rw [h8] at hmany; omega)
  have HJC : Hid (downN (InT.keys T) key ≤ (InT.kids T).length) := Lib.hid (by omega)
  have HLF := Lib.hid hlf
  generalize hnode : nodeT (d0 + 1) T = n at *
  generalize hata : InT.at_ T = a at *
  generalize hdn : downN (InT.keys T) key = dn at *
  obtain ⟨C, hC⟩ : ∃ C, (InT.kids T).length = C := ⟨_, rfl⟩
  rw [hC] at HKIDS HCN HJC HOUTC
  have HC := Lib.hid hC
  clear h1 h2 h3 hdis hwb hnw hon hok hD hJ hOk h0 hlf hlv hoA hwA htA hG0 hF0 hIH hkid hpg hmany hkl hj hlz hdv hnode hata hdn hC T4
  go_enter Tryz.func122, Tryz.ntmps122
  go_upto_region 6 with (first
    | (go_at_call 104; (with_reducible refine cL.mono ?_); clear cL; rintro e w2 ⟨kA, kn, kc, vA, vn, vc, cA, cn, cc, B, F1, rfl, hn1, hp1, hk1, hB, hF1, hBW⟩
       have HW2 : Hid (WalkRow w2 wb t l key lf) := hk1.only.row HWA.out (fun q => HNW.out (.inl q))
       have x3 : (w2.alloc (.cells #[.bool false, .slice kA kn kc, .slice vA vn vc, .slice cA cn cc] 186)).cell? ⟨wb, 3, none⟩ = some (.int .i64 lf) := (Row1.alloc HW2.out _).cell 3
       have HN1 := Lib.hid hn1; have HP1 := Lib.hid hp1; have HK1 := Lib.hid hk1; have HB := Lib.hid hB; have HF1 := Lib.hid hF1; have HBW := Lib.hid hBW
       clear hn1 hp1 hk1 hB hF1 hBW))
  obtain ⟨cb, cc9, hcv, hcbB, hcbl, hcells⟩ := HKIDS.out _ _ _ _ _ HN1.out
  injection hcv with e1 e2 e3
  subst e1 e2
  obtain ⟨wa, hwa⟩ : ∃ wa, w2.alloc (.cells #[.bool false, .slice kA kn kc, .slice vA vn vc, .slice (some ⟨cb, 0, none⟩) cn cc] 186) = wa := ⟨_, rfl⟩
  rw [hwa]
  have hxa : Ext w2 wa := hwa ▸ Ext.alloc _ _
  have hra : Row1 wa w2.heap.size 186 [.bool false, .slice kA kn kc, .slice vA vn vc, .slice (some ⟨cb, 0, none⟩) cn cc] := hwa ▸ Row1.made w2 _ _
  have hsz2 := HK1.out.only.size
  rw [HSA.out] at hsz2
  have HBW' : Hid (w.heap.size ≤ B) := by have := HB.out; rw [HSA.out] at this; exact this
  have HUN : Hid (∀ b, B ≤ b ∨ b = wb → ¬ Un F1 G b) := fun b q => by
    rcases q with q | q
    · exact fun r => r.elim (fun r => by have := HF1.out b r; omega) (fun r => by have := (HD.out.2 b r).1; have := HBW'.out; omega)
    · subst q
      exact fun r => r.elim (fun r => HK1.out.out (by rw [HSA.out]; exact HWL.out) (fun q => HNW.out (.inl q)) r) (fun r => HNW.out (.inr r))
  have HUB : Hid (∀ b, B ≤ b → ¬ (Un F1 G b ∨ b = wb)) := fun b q r => r.elim (HUN.out b (.inl q)) (fun r => by have := HWL.out; have := HBW'.out; omega)
  have hita : ItT p t i S K F1 wa := ((HIT.out.only HOA.out (fun j q q' => by subst q'; exact HNW.out (.inl q)) (fun q => HTW.out q)).keeps HP1.out HK1.out).ext hxa
  have hdisa : Dis F1 G wa := ⟨fun i q => by have := HF1.out i q; have := HBW.out; have := hxa.size; omega, fun i q => ⟨by have := (HD.out.2 i q).1; have := hxa.size; omega, fun r => by
    rcases HK1.out.new i r with s | s
    · exact (HD.out.2 i q).2 s
    · rw [HSA.out] at s; have := (HD.out.2 i q).1; omega⟩⟩
  have hoa : Only (fun i => ¬ G i) w wa := ((HOA.out.mono (fun i q => .inl (fun r => by subst q; exact HNW.out (.inr r)))).trans' (HK1.out.only.mono (fun i q => .inl (fun r => (HD.out.2 i r).2 q)))).ext hxa
  have hja : J pre G wa := HJ.out _ _ _ _ H0.out (fun i q => (HD.out.2 i q).1) hoa
  have HS0 : Hid (∀ W, Ext wa W → InnS wb p t i l S K key lf J F1 G wa (pre ++ outK key (InT.kids T) dn) F1 G W) := fun W hW =>
    ⟨hita.ext hW, ⟨fun i q => Nat.lt_of_lt_of_le (hdisa.1 i q) hW.size, fun i q => ⟨Nat.lt_of_lt_of_le (hdisa.2 i q).1 hW.size, (hdisa.2 i q).2⟩⟩, Keeps.of hW, (HW2.out.ext hxa HW2.out.lt).ext hW (Nat.lt_of_lt_of_le HW2.out.lt hxa.size), HUN.out wb (.inr rfl), by rw [HOUT0.out, List.append_nil]; exact HJ.out _ _ _ _ hja (fun i q => (hdisa.2 i q).1) (Only.of hW)⟩
  have HRA := Lib.hid hra
  have HXA := Lib.hid hxa
  have HKWA : Hid (Keeps (fun i => Un F G i ∨ i = wb) (fun i => Un F1 G i ∨ i = wb) w wa) := ⟨((HOA.out.mono (fun i q => .inl (.inr q))).trans' (HK1.out.only.mono (fun i q => .inl (.inl (.inl q))))).ext hxa, fun i q => by
    rcases q with (q | q) | q
    · rcases HK1.out.new i q with r | r
      · exact .inl (.inl (.inl r))
      · rw [HSA.out] at r; exact .inr r
    · exact .inl (.inl (.inr q))
    · exact .inl (.inr q)⟩
  have HNA : Hid (NodeAs wa (fun i => B ≤ i) n (.slice kA kn kc) (.slice vA vn vc) (.slice (some ⟨cb, 0, none⟩) cn cc)) := HN1.out.ext hxa
  have HCB : Hid (B ≤ cb ∧ cb < wa.heap.size) := ⟨hcbB, Nat.lt_of_lt_of_le hcbl hxa.size⟩
  have HCELL : Hid (∀ i c, (InT.kids T)[i]? = some c → wa.cell? ⟨cb, i, none⟩ = some (.int .i64 (atT d0 c))) := fun i c hc => (hxa.cell (p := ⟨cb, i, none⟩) hcbl).trans (hcells i c hc)
  have HKS : Hid (∀ W, Ext wa W → W.cell? ⟨wb, 1, none⟩ = some (.string key) ∧ W.cell? ⟨w2.heap.size, 0, none⟩ = some (.bool false) ∧ W.cell? ⟨w2.heap.size, 1, none⟩ = some (.slice kA kn kc) ∧ W.cell? ⟨w2.heap.size, 2, none⟩ = some (.slice vA vn vc) ∧ W.cell? ⟨w2.heap.size, 3, none⟩ = some (.slice (some ⟨cb, 0, none⟩) cn cc)) := fun W hW => by
    have r1 := (HS0.out W hW).row
    have r2 := HRA.out.ext hW HRA.out.lt
    exact ⟨r1.cell 1, r2.cell 0, r2.cell 1, r2.cell 2, r2.cell 3⟩
  clear hwa hxa hra hita hdisa hoa hja hsz2 hcbB hcbl hcells e3 x3
  refine wp_region_held_drew (S := fun W => W.cell? ⟨wb, 1, none⟩ = some (.string key) ∧ W.cell? ⟨w2.heap.size, 0, none⟩ = some (.bool false) ∧ W.cell? ⟨w2.heap.size, 1, none⟩ = some (.slice kA kn kc) ∧ W.cell? ⟨w2.heap.size, 2, none⟩ = some (.slice vA vn vc) ∧ W.cell? ⟨w2.heap.size, 3, none⟩ = some (.slice (some ⟨cb, 0, none⟩) cn cc)) (by kernel_rfl) (HKS.out _ (by (repeat' (with_reducible first | exact Below.refl _ _ | refine Ext.drewN ?_ _ | refine Below.drew ?_ | refine Below.setCell ?_ ?_ _ | refine Below.alloc ?_ ?_ _)) <;> (first | omega | (simp; done) | (simp; omega)))) (fun hHeld => ?_)
  refine' tk 0 ?_; (try simp only [Act.put, List.setIfInBounds_toArray, List.set_cons_zero, List.set_cons_succ])
  refine' tk 1 ?_; (try simp only [Act.put, List.setIfInBounds_toArray, List.set_cons_zero, List.set_cons_succ])
  refine' tk 2 ?_; (try simp only [Act.put, List.setIfInBounds_toArray, List.set_cons_zero, List.set_cons_succ])
  refine' tk 3 ?_; (try simp only [Act.put, List.setIfInBounds_toArray, List.set_cons_zero, List.set_cons_succ])
  refine' tk 4 ?_; (try simp only [Act.put, List.setIfInBounds_toArray, List.set_cons_zero, List.set_cons_succ])
  refine stp 5 (fun K hK => ?_); go_simp
  (with_reducible refine (HDN0.out _ _ _ _ _ (HNA.out.ext ?_)).mono ?_)
  · (repeat' (with_reducible first | exact Below.refl _ _ | refine Ext.drewN ?_ _ | refine Below.drew ?_ | refine Below.setCell ?_ ?_ _ | refine Below.alloc ?_ ?_ _)) <;> (first | omega | (simp; done) | (simp; omega))
  rintro e w4 ⟨rfl, hb4⟩
  have HB4 : Hid (Ext wa w4) := Ext.trans (by (repeat' (with_reducible first | exact Below.refl _ _ | refine Ext.drewN ?_ _ | refine Below.drew ?_ | refine Below.setCell ?_ ?_ _ | refine Below.alloc ?_ ?_ _)) <;> (first | omega | (simp; done) | (simp; omega))) hb4
  clear hb4
  (try dsimp only)
  (try go_simp)
  refine hK.out _ _ (HKS.out _ HB4.out) (fun hHeld => ?_)
  clear hK K
  (try simp only [Act.put, List.setIfInBounds_toArray, List.set_cons_zero, List.set_cons_succ])
  refine' tk 6 ?_; (try simp only [Act.put, List.setIfInBounds_toArray, List.set_cons_zero, List.set_cons_succ])
  refine wpAnyH_done (by kernel_rfl) ?_ _
  have HS4 := Lib.hid (HS0.out w4 HB4.out)
  go_wp2_with fail
  go_loopw [9] (fun x wr => ∃ (q lv : Nat) (Fr Gr : Nat → Prop), dn ≤ q ∧ q ≤ cn ∧ x = .int .i64 q ∧ lv ≤ 2000 ∧ Hid (lfz + nodesK (InT.kids T) q ≤ lv) ∧ Hid (InnS wb p t i l S K key lv J F1 G wa (pre ++ outK key (InT.kids T) q) Fr Gr wr)) (fun x _ => cn - (intOf x).toNat)
  case atStart => exact ⟨dn, lf, F1, G, Nat.le_refl _, HJC.out, rfl, by have := HLF.out; omega, HNJ, HS4⟩
  case round =>
    obtain ⟨q, lv9, Fr, Gr, hq1, hq2, rfl, hlv9, hns, hs⟩ := hrel
    have hrw : Row1 wr w2.heap.size 186 [.bool false, .slice kA kn kc, .slice vA vn vc, .slice (some ⟨cb, 0, none⟩) cn cc] := hs.out.keep.only.row HRA.out (HUB.out _ HBW.out)
    have x3 : wr.cell? ⟨w2.heap.size, 3, none⟩ = some (.slice (some ⟨cb, 0, none⟩) cn cc) := hrw.cell 3
    have hqb : q ≤ 256 := by have := HCN.out; omega
    clear hrw
    by_cases hqc : q < cn
    · have q1 : decide ((q : Int) < (cn : Int)) = true := decide_eq_true (by omega)
      have q2 : (q : Int) < (cn : Int) := by omega
      obtain ⟨c, hc⟩ : ∃ c, (InT.kids T)[q]? = some c := ⟨_, List.getElem?_eq_getElem (by have := HC.out; omega)⟩
      have x4 : wr.cell? ⟨cb, q, none⟩ = some (.int .i64 (atT d0 c)) := (World.cell?_of_block (hs.out.keep.only.block cb HCB.out.2 (HUB.out cb HCB.out.1))).trans (HCELL.out q c hc)
      have hn9 := HNS.out q c hc
      have ho9 := HOUTS.out q c hc
      obtain ⟨lx, hlx⟩ : ∃ lx, lx + nodesT d0 c = lv9 := ⟨lv9 - nodesT d0 c, by have := hns.out; omega⟩
      have hrow9 := hs.out.row
      rw [← hlx] at hrow9
      have cW := HIH.out Fr Gr (pre ++ outK key (InT.kids T) q) wr c lx (List.mem_of_getElem? hc) hs.out.it hs.out.dis hrow9 hs.out.nwb hs.out.j (fun r x hr => by
        have h1 : outK key (InT.kids T) q ++ (r ++ [x]) <+: fromKV (listT (d0 + 1) T) key := by
          have h2 : outK key (InT.kids T) (q + 1) <+: fromKV (listT (d0 + 1) T) key := by rw [← HOUTC.out]; exact outK_pre key _ (by omega)
          rw [ho9] at h2
          exact ((List.prefix_append_right_inj _).2 hr).trans h2
        have := HOK.out (outK key (InT.kids T) q ++ r) x (by rw [List.append_assoc]; exact h1)
        rw [List.append_assoc]; exact this) (by omega)
      rw [← HT4.out] at cW
      have HN9 := Lib.hid hn9
      have HO9 := Lib.hid ho9
      have HLX := Lib.hid hlx
      clear hn9 ho9 hlx hc hrow9
      go_upto_if 66 with (first
        | (go_at_call 122; refine cW.mono ?_; clear cW; rintro e w8 ⟨lf', F8, G8, p0, p00, p1, p2, p3, p4, p5, p6⟩
           obtain ⟨yb, rfl, p7⟩ : ∃ yb : Bool, e = .returned (.bool yb) ∧ ((yb = true ∧ J (pre ++ outK key (InT.kids T) q ++ fromKV (listT d0 c) key) G8 w8) ∨ (yb = false ∧ ∃ r, r <+: fromKV (listT d0 c) key ∧ Jx (pre ++ outK key (InT.kids T) q ++ r) G8 w8)) := by
             rcases p6 with ⟨rfl, r⟩ | ⟨rfl, r⟩
             · exact ⟨true, rfl, .inl ⟨rfl, r⟩⟩
             · exact ⟨false, rfl, .inr ⟨rfl, r⟩⟩
           have P0 := Lib.hid p0; have P00 := Lib.hid p00; have P1 := Lib.hid p1; have P2 := Lib.hid p2; have P3 := Lib.hid p3; have P4 := Lib.hid p4; have P5 := Lib.hid p5; have P7 := Lib.hid p7
           clear p0 p00 p1 p2 p3 p4 p5 p6 p7))
      have HK8 : Hid (Keeps (fun i => Un F1 G i ∨ i = wb) (fun i => Un F8 G8 i ∨ i = wb) wa w8) := Keeps.trans hs.out.keep P3.out
      cases yb with
      | true =>
        have hj8 : J (pre ++ outK key (InT.kids T) (q + 1)) G8 w8 := by
          rcases P7.out with ⟨_, r⟩ | ⟨r, _⟩
          · rw [HO9.out, ← List.append_assoc]; exact r
          · cases r
        have HNX : Hid (InnS wb p t i l S K key lf' J F1 G wa (pre ++ outK key (InT.kids T) (q + 1)) F8 G8 w8) := ⟨P1.out, P2.out, HK8.out, P4.out, P5.out, hj8⟩
        have HNL : Hid (lfz + nodesK (InT.kids T) (q + 1) ≤ lf') := Lib.hid (by have := hns.out; have := HN9.out; have := HLX.out; have := P0.out; omega)
        have HLF' : lf' ≤ 2000 := P00.out
        clear hj8
        simp only [Bool.not_true]
        go_wp2_with fail
        go_roundw
        case rel => exact ⟨q + 1, lf', F8, G8, by omega, by omega, by go_num, HLF', HNL, HNX⟩
        case measure => simp only [intOf]; omega
      | false =>
        have HDN : Hid (WalkP wb t l p i S K key lfz F G J Jx pre (fromKV (listT (d0 + 1) T) key) w (.returned (.bool false)) w8) := by
          refine ⟨lf', F8, G8, by have := hns.out; have := HN9.out; have := HLX.out; have := P0.out; omega, P00.out, P1.out, P2.out, Keeps.trans HKWA.out HK8.out, P4.out, P5.out, .inr ⟨rfl, ?_⟩⟩
          rcases P7.out with ⟨r, _⟩ | ⟨_, r, hr, hjx⟩
          · cases r
          · refine ⟨outK key (InT.kids T) q ++ r, ?_, by rw [← List.append_assoc]; exact hjx⟩
            have h2 : outK key (InT.kids T) (q + 1) <+: fromKV (listT (d0 + 1) T) key := by rw [← HOUTC.out]; exact outK_pre key _ (by omega)
            rw [HO9.out] at h2
            exact ((List.prefix_append_right_inj _).2 hr).trans h2
        simp only [Bool.not_false]
        go_wp2_with fail
        go_ret
        exact HDN.out
    · obtain rfl : q = cn := by omega
      have q1 : decide ((q : Int) < (q : Int)) = false := decide_eq_false (by omega)
      have HDN : Hid (WalkP wb t l p i S K key lfz F G J Jx pre (fromKV (listT (d0 + 1) T) key) w (.returned (.bool true)) wr) := by
        refine ⟨lv9, Fr, Gr, by have := hns.out; omega, hlv9, hs.out.it, hs.out.dis, Keeps.trans HKWA.out hs.out.keep, hs.out.row, hs.out.nwb, .inl ⟨rfl, ?_⟩⟩
        rw [← HOUTC.out]; exact hs.out.j
      clear hs
      go_wp2_with fail
      go_ret
      exact HDN.out
theorem walkT_any {t p i : Nat} {K : Nat → Prop} {S : StoreD} {J Jx : List KV → (Nat → Prop) → World → Prop} {Ok : List KV → KV → Prop} (l wb : Nat) (key : ByteArray) (hJ : Abides J) (hY : YieldsO Tryz.prog l (ItT p t i S K) J Jx Ok) (d : Nat) :
    ∀ (F G : Nat → Prop) (D : Nat) (T : TT d) (pre : List KV) (w : World) (lf : Nat), ItT p t i S K F w → Dis F G w → WalkRow w wb t l key ((lf + nodesT d T : Nat) : Int) → ¬ Un F G wb → onT S d T → okT d T → J pre G w → (∀ q x, q ++ [x] <+: fromKV (listT d T) key → Ok (pre ++ q) x) → lf + nodesT d T ≤ 2000 → d < D → D ≤ 1000 →
      Calls Tryz.prog 122 #[.pointer (some ⟨wb, 0, none⟩), .int .i64 (atT d T), .int .i64 D] w (WalkP wb t l p i S K key lf F G J Jx pre (fromKV (listT d T) key) w) := by
  induction d with
  | zero =>
    intro F G D T pre w lf hit hdis hwb hnw hon hok h0 hOk hlf hd hD
    have ho : outL (nodeT 0 T) key (nodeT 0 T).keys.length = fromKV (listT 0 T) key := by
      unfold outL fromKV
      have hv : (LeafT.vals T).length = (LeafT.keys T).length := hok.2.1
      rw [List.take_of_length_le (by rw [List.length_zip]; exact Nat.min_le_left _ _)]
      rfl
    have hn1 : nodesT 0 T = 1 := rfl
    rw [hn1] at hwb hlf
    refine (walk_leaf (Ok := Ok) l wb (LeafT.at_ T) D lf key (nodeT 0 T) pre w hit hdis hwb hnw hon rfl hd hJ hY (fun q x r => hOk q x (by rw [← ho]; exact r)) h0 (by omega)).mono ?_
    rintro e w' ⟨F2, G2, r1, r2, r3, r4, r5, r6⟩
    rw [ho] at r6
    exact ⟨lf, F2, G2, Nat.le_refl _, by omega, r1, r2, r3, r4, r5, r6⟩
  | succ d ih =>
    intro F G D T pre w lf hit hdis hwb hnw hon hok h0 hOk hlf hd hD
    obtain ⟨D', rfl⟩ : ∃ D', D = D' + 1 := ⟨D - 1, by omega⟩
    have hn1 := nodesT_inner T
    rw [show lf + nodesT (d + 1) T = (lf + nodesK (InT.kids T) 0) + 1 by omega] at hwb
    exact walk_inner (Ok := Ok) l wb D' (lf + nodesK (InT.kids T) 0) lf key T pre w hit hdis hwb hnw hon hok (by omega) hJ hOk h0 (Nat.le_refl _) (by omega) (fun F G pre w c lf hc q1 q2 q3 q4 q5 q6 q7 => ih F G D' c pre w lf q1 q2 q3 q4 (hon.2 c hc) (hok.2.2.2.1 c hc) q5 q6 q7 (by omega) (by omega))
end Go.Proofs.YtojoefcfimmipaaGreat
namespace Go.Proofs.YtojoefcfimmipaaGreat
set_option linter.unusedSimpArgs false
set_option linter.unusedVariables false
open Go.RowKit Go.Shelf
attribute [local go_sem] Oper.semAt_some
theorem nodup_le {l : List Nat} (h : l.Nodup) {n : Nat} (hb : ∀ b ∈ l, b < n) : l.length ≤ n := by
  have h1 : l.Perm ((List.range n).filter (fun b => decide (b ∈ l))) := by
    rw [List.perm_ext_iff_of_nodup h (List.nodup_range.filter _)]
    intro b
    rw [List.mem_filter, List.mem_range, decide_eq_true_iff]
    exact ⟨fun q => ⟨hb b q, q⟩, fun q => q.2⟩
  have h2 := List.length_filter_le (fun b => decide (b ∈ l)) (List.range n)
  rw [h1.length_eq]
  rwa [List.length_range] at h2
set_option maxRecDepth 100000 in
set_option maxHeartbeats 4000000 in
theorem fromT_any {t p i m tb kb : Nat} {S : StoreD} {K : Nat → Prop} (key : ByteArray) (T : TrD) (w : World) (hT : TrS S i T) (hd : T.fine) (hi : i < 16) (htb : Row1 w tb 36 [.pointer (some ⟨t, 0, none⟩)]) (hkb : Row1 w kb 9 [.string key]) (hK1 : K tb) (hK2 : K kb) :
    SeqB Tryz.prog m 121 #[.pointer (some ⟨tb, 0, none⟩), .pointer (some ⟨kb, 0, none⟩)] (ItT p t i S K) (fromKV T.list key) w := by
  intro l J Jx W F G hx hit hdis hJ hJx hY h0
  refine callsIn_wide.2 ?_
  have hY' : YieldsO Tryz.prog l (ItT p t i S K) J Jx (fun pre x => pre ++ [x] <+: fromKV T.list key) := fun pre x W1 F1 G1 q1 q2 q3 q4 => yieldAt_wide (hY pre x W1 F1 G1 q1 q2 q3 q4)
  have cR := troot_any W hit.2.1 hit.2.2.1 hit.1 hi
  have htW := htb.ext hx htb.lt
  have hkW := hkb.ext hx hkb.lt
  have a0 : W.cell? ⟨tb, 0, none⟩ = some (.pointer (some ⟨t, 0, none⟩)) := htW.cell 0
  have HIT := Lib.hid hit
  have HD := Lib.hid hdis
  have HJ := Lib.hid hJ
  have HY := Lib.hid hY'
  have H0 := Lib.hid h0
  have HTB := Lib.hid htW
  have HKB := Lib.hid hkW
  have HK1 := Lib.hid hK1
  have HK2 := Lib.hid hK2
  clear hx hit hdis hJ hJx hY hY' h0 htb hkb htW hkW hK1 hK2
  cases T with
  | no =>
    rw [show rootS S i = 0 from hT] at cR
    go_enter Tryz.func121, Tryz.ntmps121
    go_wp2_with (first
      | (go_at_call 100; (with_reducible refine cR.mono ?_); clear cR; rintro e w1 ⟨rfl, F1, hp1, hk1⟩; have HP1 := Lib.hid hp1; have HK1 := Lib.hid hk1; clear hp1 hk1))
    go_end0
    obtain ⟨F2, q1, q2, q3, q4, _⟩ := step_pager HIT.out HD.out HJ.out H0.out HP1.out HK1.out
    exact ⟨⟨_, rfl⟩, F2, G, q1, q2, q3, .inl ⟨_, rfl, q4⟩⟩
  | yes d T =>
    obtain ⟨hr, hon, hok, hnd⟩ := hT
    have hd' : d < 31 := hd
    have hm : S.head.pages ≤ 1024 := HIT.out.1.most
    have hnod : nodesT d T ≤ 1024 := nodup_le hnd (fun b hb => by have := (onT_given d T hon b hb).2.1; omega)
    have ha2 := (onT_given d T hon _ (pagesT_at d T)).1
    rw [hr] at cR
    obtain ⟨lf, hlf⟩ : ∃ lf, lf + nodesT d T = 1024 := ⟨1024 - nodesT d T, by omega⟩
    have HON := Lib.hid hon
    have HOKT := Lib.hid hok
    have HLF := Lib.hid hlf
    have HROW : Hid (∀ W b, WalkRow W b t l key 1024 → WalkRow W b t l key ((lf + nodesT d T : Nat) : Int)) := Lib.hid (fun W b q => by rw [hlf]; exact q)
    obtain ⟨a, ha⟩ : ∃ a, atT d T = a := ⟨_, rfl⟩
    rw [ha] at cR ha2
    have HA := Lib.hid ha
    have T1 : ((a : Int) == 0) = false := by simp; omega
    have T2 : ((a : Int) != 0) = true := by simp; omega
    clear hr hon hok hnd ha hm hnod hlf
    go_enter Tryz.func121, Tryz.ntmps121
    go_wp2_with (first
      | (go_at_call 100; (with_reducible refine cR.mono ?_); clear cR; rintro e w1 ⟨rfl, F1, hp1, hk1⟩
         obtain ⟨F2, q1, q2, q3, q4, q5⟩ := step_pager HIT.out HD.out HJ.out H0.out hp1 hk1
         have b0 : w1.cell? ⟨tb, 0, none⟩ = some (.pointer (some ⟨t, 0, none⟩)) := (q5.only.row HTB.out (HIT.out.2.2.2 _ HK1.out).1).cell 0
         have b1 : w1.cell? ⟨kb, 0, none⟩ = some (.string key) := (q5.only.row HKB.out (HIT.out.2.2.2 _ HK2.out).1).cell 0
         have hxa : Ext w1 (w1.alloc (.cells #[.pointer (some ⟨t, 0, none⟩), .string key, .func (.yield l) #[] #[], .int .i64 1024] 206)) := Ext.alloc _ _
         have cW := walkT_any (Ok := fun pre x => pre ++ [x] <+: fromKV (listT d T) key) l w1.heap.size key HJ.out HY.out d F2 G 32 T [] (w1.alloc (.cells #[.pointer (some ⟨t, 0, none⟩), .string key, .func (.yield l) #[] #[], .int .i64 1024] 206)) lf (q1.ext hxa)
           ⟨fun i q => Nat.lt_of_lt_of_le (q2.1 i q) hxa.size, fun i q => ⟨Nat.lt_of_lt_of_le (q2.2 i q).1 hxa.size, (q2.2 i q).2⟩⟩ (HROW.out _ _ (Row1.made w1 _ _)) (fun q => q.elim (fun q => by have := q2.1 _ q; omega) (fun q => by have := (q2.2 _ q).1; omega)) HON.out HOKT.out (HJ.out _ _ _ _ q4 (fun i q => (q2.2 i q).1) (Only.of hxa)) (fun q x h => h) (by have := HLF.out; omega) (by omega) (by decide)
         rw [HA.out] at cW
         have HQ3 := Lib.hid q3
         clear hp1 hk1 q1 q2 q3 q4 q5 hxa)
      | (go_at_call 122; refine cW.mono ?_; clear cW; rintro e w4 ⟨lf4, F4, G4, _, _, r1, r2, r3, r4, r5, r6⟩
         obtain ⟨yb, rfl, r7⟩ : ∃ yb : Bool, e = .returned (.bool yb) ∧ ((yb = true ∧ J ([] ++ fromKV (listT d T) key) G4 w4) ∨ (yb = false ∧ ∃ q, q <+: fromKV (listT d T) key ∧ Jx ([] ++ q) G4 w4)) := by
           rcases r6 with ⟨rfl, q⟩ | ⟨rfl, q⟩
           · exact ⟨true, rfl, .inl ⟨rfl, q⟩⟩
           · exact ⟨false, rfl, .inr ⟨rfl, q⟩⟩
         have R1 := Lib.hid r1; have R2 := Lib.hid r2; have R3 := Lib.hid r3; have R5 := Lib.hid r5; have R7 := Lib.hid r7
         clear r1 r2 r3 r4 r5 r6 r7))
    go_end0
    refine ⟨⟨_, rfl⟩, F4, G4, R1.out, R2.out, ?_, ?_⟩
    · have hs := HQ3.out.only.size
      refine ⟨(HQ3.out.only.ext (Ext.alloc _ _)).trans R3.out.only (fun i q => ?_), fun i q => ?_⟩
      · rcases q with q | q
        · exact HQ3.out.new i q
        · exact .inr (by omega)
      · rcases R3.out.new i (.inl q) with (r | r) | r
        · exact HQ3.out.new i r
        · exact .inr (by omega)
        · rw [World.size_alloc] at r; exact .inr (by omega)
    · rcases R7.out with ⟨_, q⟩ | ⟨_, q, h1, h2⟩
      · exact .inl ⟨_, rfl, q⟩
      · exact .inr ⟨q, h1, h2⟩
end Go.Proofs.YtojoefcfimmipaaGreat
