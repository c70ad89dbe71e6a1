/- The records of a leaf are given (walker.walk at a leaf). Conditions: a page that bears a leaf; rounds that keep their word. -/
/- The iterator of a tree of one leaf, or none (From). Conditions: a page that bears a leaf. -/
/- A drawn region within a round of a range over a function, walked as anywhere (no defer statement in it). No conditions. -/
import Derived.Test.YtojoefcfimmipaaGreatQ24
namespace Go.Proofs.YtojoefcfimmipaaGreat
set_option linter.unusedSimpArgs false
set_option linter.unusedVariables false
open Go.RowKit
abbrev KV := ByteArray × ByteArray
def encKV (x : KV) : Array Value := #[.string x.1, .string x.2]
def ItT (p t i : Nat) (S : StoreD) (K F : Nat → Prop) (W : World) : Prop := PagerAt W p F S ∧ TreeRow W t p i ∧ ¬ F t ∧ ∀ b, K b → ¬ F b ∧ b < W.heap.size
theorem ItT.ext {p t i : Nat} {S : StoreD} {K F : Nat → Prop} {W W' : World} (h : ItT p t i S K F W) (hb : Ext W W') : ItT p t i S K F W' := ⟨h.1.ext hb, h.2.1.ext hb h.2.1.lt, h.2.2.1, fun b q => ⟨(h.2.2.2 b q).1, Nat.lt_of_lt_of_le (h.2.2.2 b q).2 hb.size⟩⟩
theorem ItT.keeps {p t i : Nat} {S : StoreD} {K F F' : Nat → Prop} {W W' : World} (h : ItT p t i S K F W) (hp : PagerAt W' p F' S) (hk : Keeps F F' W W') : ItT p t i S K F' W' := ⟨hp, hk.only.row h.2.1 h.2.2.1, hk.out h.2.1.lt h.2.2.1, fun b q => ⟨hk.out (h.2.2.2 b q).2 (h.2.2.2 b q).1, Nat.lt_of_lt_of_le (h.2.2.2 b q).2 hk.only.size⟩⟩
theorem ItT.abides {p t i B : Nat} {S : StoreD} {K : Nat → Prop} (ht : t < B) : ItAbides B (ItT p t i S K) := fun F W W' h ho =>
  ⟨h.1.only ho (fun j q q' => q'.1 q), ho.row h.2.1 (fun q => by omega), h.2.2.1, fun b q => ⟨(h.2.2.2 b q).1, Nat.lt_of_lt_of_le (h.2.2.2 b q).2 ho.size⟩⟩
theorem ItT.only {p t i : Nat} {S : StoreD} {K F G : Nat → Prop} {W W' : World} (h : ItT p t i S K F W) (ho : Only G W W') (hF : ∀ j, F j → ¬ G j) (ht : ¬ G t) : ItT p t i S K F W' :=
  ⟨h.1.only ho hF, ho.row h.2.1 ht, h.2.2.1, fun b q => ⟨(h.2.2.2 b q).1, Nat.lt_of_lt_of_le (h.2.2.2 b q).2 ho.size⟩⟩
abbrev WalkRow (w : World) (b t l : Nat) (key : ByteArray) (left : Int) : Prop := Row1 w b 206 [.pointer (some ⟨t, 0, none⟩), .string key, .func (.yield l) #[] #[], .int .i64 left]
def outL (n : NodeD) (key : ByteArray) (j : Nat) : List KV := ((n.keys.zip n.vals).take j).filter (fun x => !ltB x.1 key)
theorem outL_step (n : NodeD) (key : ByteArray) (j : Nat) (hv : n.vals.length = n.keys.length) (hj : j < n.keys.length) (k v : ByteArray) (hk : n.keys[j]? = some k) (hvv : n.vals[j]? = some v) :
    outL n key (j + 1) = outL n key j ++ (if ltB k key = true then [] else [(k, v)]) := by
  unfold outL
  have hz : (n.keys.zip n.vals)[j]? = some (k, v) := by rw [List.getElem?_zip_eq_some]; exact ⟨hk, hvv⟩
  rw [List.take_add_one, hz, List.filter_append]
  congr 1
  simp only [Option.toList, List.filter]
  cases ltB k key <;> rfl
/-- what a round does for the iterator -/
def YieldsO (P : Program) (l : Nat) (It : (Nat → Prop) → World → Prop) (J Jx : List KV → (Nat → Prop) → World → Prop) (Ok : List KV → KV → Prop) : Prop :=
  ∀ pre x W1 F1 G1, J pre G1 W1 → It F1 W1 → Dis F1 G1 W1 → Ok pre x → YieldAt Fence.wide 0 P l (encKV x) W1 fun e W' =>
    ∃ F2 G2, It F2 W' ∧ Dis F2 G2 W' ∧ Keeps (Un F1 G1) (Un F2 G2) W1 W' ∧ ((e = .returned (.bool true) ∧ J (pre ++ [x]) G2 W') ∨ (e = .returned (.bool false) ∧ Jx (pre ++ [x]) G2 W'))
def WalkPost (wb t l p i : Nat) (S : StoreD) (K : Nat → Prop) (key : ByteArray) (lf : Nat) (F G : Nat → Prop) (J Jx : List KV → (Nat → Prop) → World → Prop) (pre out : List KV) (w : World) (e : Ending) (w' : World) : Prop :=
  ∃ F2 G2, ItT p t i S K F2 w' ∧ Dis F2 G2 w' ∧ Keeps (fun i => Un F G i ∨ i = wb) (fun i => Un F2 G2 i ∨ i = wb) w w' ∧ WalkRow w' wb t l key lf ∧ ¬ Un F2 G2 wb ∧
    ((e = .returned (.bool true) ∧ J (pre ++ out) G2 w') ∨ (e = .returned (.bool false) ∧ ∃ q, q <+: out ∧ Jx (pre ++ q) G2 w'))
structure LeafS (p t i : Nat) (S : StoreD) (K : Nat → Prop) (J : List KV → (Nat → Prop) → World → Prop) (F G : Nat → Prop) (wa : World) (pre : List KV) (Fr Gr : Nat → Prop) (wr : World) : Prop where
  it : ItT p t i S K Fr wr
  dis : Dis Fr Gr wr
  keep : Keeps (Un F G) (Un Fr Gr) wa wr
  j : J pre Gr wr
theorem LeafS.ext {p t i : Nat} {S : StoreD} {K : Nat → Prop} {J : List KV → (Nat → Prop) → World → Prop} {F G : Nat → Prop} {wa : World} {pre : List KV} {Fr Gr : Nat → Prop} {wr W : World} (h : LeafS p t i S K J F G wa pre Fr Gr wr) (hJ : Abides J) (hb : Ext wr W) : LeafS p t i S K J F G wa pre Fr Gr W :=
  ⟨h.it.ext hb, ⟨fun i q => Nat.lt_of_lt_of_le (h.dis.1 i q) hb.size, fun i q => ⟨Nat.lt_of_lt_of_le (h.dis.2 i q).1 hb.size, (h.dis.2 i q).2⟩⟩, h.keep.ext hb, hJ _ _ _ _ h.j (fun i q => (h.dis.2 i q).1) (Only.of hb)⟩
set_option maxRecDepth 100000 in
set_option maxHeartbeats 4000000 in
theorem walk_leaf {t p i : Nat} {F G K : Nat → Prop} {S : StoreD} {J Jx : List KV → (Nat → Prop) → World → Prop} {Ok : List KV → KV → Prop} (l wb a d lf : Nat) (key : ByteArray) (n : NodeD) (pre : List KV) (w : World)
    (hit : ItT p t i S K F w) (hdis : Dis F G w) (hwb : WalkRow w wb t l key ((lf + 1 : Nat) : Int)) (hnw : ¬ Un F G wb) (hp : PageN S a n) (hl : n.leaf = true) (hd : 0 < d) (hJ : Abides J)
    (hY : YieldsO Tryz.prog l (ItT p t i S K) J Jx Ok) (hOk : ∀ q x, q ++ [x] <+: outL n key n.keys.length → Ok (pre ++ q) x) (h0 : J pre G w) (hlf : lf < 2000) :
    Calls Tryz.prog 122 #[.pointer (some ⟨wb, 0, none⟩), .int .i64 a, .int .i64 d] w (WalkPost wb t l p i S K key lf F G J Jx pre (outL n key n.keys.length) w) := by
  have HIT := Lib.hid hit
  obtain ⟨h1, h2, h3, _⟩ := hit
  have hne : t ≠ wb := Row1.apart h2 hwb (by decide)
  have hG0 : ¬ G wb := fun q => hnw (.inr q)
  have hF0 : ¬ F wb := fun q => hnw (.inl q)
  obtain ⟨lv, hlv⟩ : ∃ lv : Nat, lf + 1 = lv := ⟨_, rfl⟩
  rw [hlv] at hwb
  have T1 : IntKind.i64.wrap ((lv : Int) - 1) = (lf : Int) := by rw [IntKind.wrap_i64]; omega
  have T2 : decide ((lf : Int) < 0) = false := decide_eq_false (by omega)
  have T3 : ((d : Int) == 0) = false := by simp; omega
  have z3 : w.cell? ⟨wb, 3, none⟩ = some (.int .i64 lv) := hwb.cell 3
  have y3 : w.frozen? ⟨wb, 3, none⟩ = false := hwb.soft 3
  have hoA : Only (fun j => j = wb) w (w.setCell ⟨wb, 3, none⟩ (.int .i64 lf)) := only1 w wb 3 _
  have hwA : WalkRow (w.setCell ⟨wb, 3, none⟩ (.int .i64 lf)) wb t l key lf := hwb.set 3 _
  have x0 : (w.setCell ⟨wb, 3, none⟩ (.int .i64 lf)).cell? ⟨wb, 0, none⟩ = some (.pointer (some ⟨t, 0, none⟩)) := hwA.cell 0
  have htA : TreeRow (w.setCell ⟨wb, 3, none⟩ (.int .i64 lf)) t p i := hoA.row h2 (fun q => hne q)
  have cL := load2_any a n (w.setCell ⟨wb, 3, none⟩ (.int .i64 lf)) htA (h1.only hoA (fun j q q' => by subst q'; exact hF0 q)) hp
  rw [hl] at cL
  have HWA := Lib.hid hwA
  have HTA := Lib.hid htA
  have HOA := Lib.hid hoA
  have HD := Lib.hid hdis
  have HNW := Lib.hid hnw
  have HJ := Lib.hid hJ
  have HY := Lib.hid hY
  have HOK := Lib.hid hOk
  have H0 := Lib.hid h0
  have HNT := Lib.hid h3
  have HVL : Hid (n.vals.length = n.keys.length) := (hp.ok.leafs hl).1
  have HMANY : Hid (n.keys.length ≤ 255) := hp.ok.many
  have HSA : Hid ((w.setCell ⟨wb, 3, none⟩ (.int .i64 lf)).heap.size = w.heap.size) := setCell_size _ _ _
  have HWL := Lib.hid hwb.lt
  have HTL := Lib.hid h2.lt
  have HTW : Hid (¬ t = wb) := hne
  clear h1 h2 h3 hdis hwb hnw hp hl hd hJ hY hOk h0 hlf hlv hoA hwA htA hG0 hF0
  go_enter Tryz.func122, Tryz.ntmps122
  go_wp2_with (first
    | (go_at_call 104; (with_reducible refine cL.mono ?_); clear cL; rintro e w2 ⟨kA, kn, kc, vA, vn, vc, cA, cn, cc, B, F1, rfl, hn1, hp1, hk1, hB, hF1, hBW⟩
       have HW2 : Hid (WalkRow w2 wb t l key lf) := hk1.only.row HWA.out (fun q => HNW.out (.inl q))
       have x3 : (w2.alloc (.cells #[.bool true, .slice kA kn kc, .slice vA vn vc, .slice cA cn cc] 186)).cell? ⟨wb, 3, none⟩ = some (.int .i64 lf) := (Row1.alloc HW2.out _).cell 3
       have HN1 := Lib.hid hn1; have HP1 := Lib.hid hp1; have HK1 := Lib.hid hk1; have HB := Lib.hid hB; have HF1 := Lib.hid hF1; have HBW := Lib.hid hBW
       clear hn1 hp1 hk1 hB hF1 hBW))
  obtain ⟨wa, hwa⟩ : ∃ wa, w2.alloc (.cells #[.bool true, .slice kA kn kc, .slice vA vn vc, .slice cA cn cc] 186) = wa := ⟨_, rfl⟩
  rw [hwa]
  have hxa : Ext w2 wa := hwa ▸ Ext.alloc _ _
  have hra : Row1 wa w2.heap.size 186 [.bool true, .slice kA kn kc, .slice vA vn vc, .slice cA cn cc] := hwa ▸ Row1.made w2 _ _
  have hsz2 := HK1.out.only.size
  rw [HSA.out] at hsz2
  have HBW' : Hid (w.heap.size ≤ B) := by have := HB.out; rw [HSA.out] at this; exact this
  have HUN : Hid (∀ b, B ≤ b ∨ b = wb → ¬ Un F1 G b) := fun b q => by
    rcases q with q | q
    · exact fun r => r.elim (fun r => by have := HF1.out b r; omega) (fun r => by have := (HD.out.2 b r).1; have := HBW'.out; omega)
    · subst q
      exact fun r => r.elim (fun r => HK1.out.out (by rw [HSA.out]; exact HWL.out) (fun q => HNW.out (.inl q)) r) (fun r => HNW.out (.inr r))
  have HKEEP : Hid (∀ Fr Gr W, Keeps (Un F1 G) (Un Fr Gr) wa W → ∀ b, (B ≤ b ∨ b = wb) → b < wa.heap.size → W.heap[b]? = wa.heap[b]?) := fun Fr Gr W q b hb hlt => q.only.block b hlt (HUN.out b hb)
  have hita : ItT p t i S K F1 wa := ((HIT.out.only HOA.out (fun j q q' => by subst q'; exact HNW.out (.inl q)) (fun q => HTW.out q)).keeps HP1.out HK1.out).ext hxa
  have hdisa : Dis F1 G wa := ⟨fun i q => by have := HF1.out i q; have := HBW.out; have := hxa.size; omega, fun i q => ⟨by have := (HD.out.2 i q).1; have := hxa.size; omega, fun r => by
    rcases HK1.out.new i r with s | s
    · exact (HD.out.2 i q).2 s
    · rw [HSA.out] at s; have := (HD.out.2 i q).1; omega⟩⟩
  have hoa : Only (fun i => ¬ G i) w wa := ((HOA.out.mono (fun i q => .inl (fun r => by subst q; exact HNW.out (.inr r)))).trans' (HK1.out.only.mono (fun i q => .inl (fun r => (HD.out.2 i r).2 q)))).ext hxa
  have hja : J pre G wa := HJ.out _ _ _ _ H0.out (fun i q => (HD.out.2 i q).1) hoa
  have HS0 : Hid (LeafS p t i S K J F1 G wa (pre ++ outL n key 0) F1 G wa) := ⟨hita, hdisa, Keeps.refl, by simpa [outL] using hja⟩
  have HRA := Lib.hid hra
  have HXA := Lib.hid hxa
  have HWA2 : Hid (WalkRow wa wb t l key lf) := HW2.out.ext hxa HW2.out.lt
  have HKN : Hid (kn = n.keys.length) := by obtain ⟨A, c, q⟩ := HN1.out.keys.form; injection q
  have HVN : Hid (vn = n.vals.length) := by obtain ⟨A, c, q⟩ := HN1.out.vals.form; injection q
  have HKWA : Hid (Keeps (fun i => Un F G i ∨ i = wb) (fun i => Un F1 G i ∨ i = wb) w wa) := ⟨((HOA.out.mono (fun i q => .inl (.inr q))).trans' (HK1.out.only.mono (fun i q => .inl (.inl (.inl q))))).ext hxa, fun i q => by
    rcases q with (q | q) | q
    · rcases HK1.out.new i q with r | r
      · exact .inl (.inl (.inl r))
      · rw [HSA.out] at r; exact .inr r
    · exact .inl (.inl (.inr q))
    · exact .inl (.inr q)⟩
  clear hwa hxa hra hita hdisa hoa hja hsz2
  go_loopw [70] (fun x wr => ∃ (j : Nat) (Fr Gr : Nat → Prop), j ≤ kn ∧ x = .int .i64 j ∧ Hid (LeafS p t i S K J F1 G wa (pre ++ outL n key j) Fr Gr wr)) (fun x _ => kn - (intOf x).toNat)
  case atStart => exact ⟨0, F1, G, by omega, rfl, HS0⟩
  case round =>
    obtain ⟨j, Fr, Gr, hj, rfl, hs⟩ := hrel
    by_cases hjk : j < kn
    · have q1 : decide ((j : Int) < kn) = true := decide_eq_true (by omega)
      have q1' : decide (j < kn) = true := decide_eq_true hjk
      have hw1 : IntKind.i64.wrap ((j : Int) + 1) = (j : Int) + 1 := by rw [IntKind.wrap_i64]; have := HMANY.out; have := HKN.out; omega
      obtain ⟨kb, kc9, hkv, hkb, hkcell⟩ := own_atS HN1.out.keys j (by have := HKN.out; omega)
      obtain ⟨vb, vc9, hvv, hvb, hvcell⟩ := own_atS HN1.out.vals j (by have := HKN.out; have := HVL.out; omega)
      injection hkv with e1 e2 e3
      injection hvv with f1 f2 f3
      have hkB : B ≤ kb := HN1.out.fk kb (by rw [e1]; rfl)
      have hvB : B ≤ vb := HN1.out.fv vb (by rw [f1]; rfl)
      have hvn : j < vn := by have := HKN.out; have := HVN.out; have := HVL.out; omega
      have hvn' : (j : Int) < vn := by omega
      subst e1 f1
      obtain ⟨k, hk⟩ : ∃ k, n.keys[j]? = some k := ⟨_, List.getElem?_eq_getElem (by have := HKN.out; omega)⟩
      obtain ⟨v, hv⟩ : ∃ v, n.vals[j]? = some v := ⟨_, List.getElem?_eq_getElem (by have := HVN.out; omega)⟩
      rw [hk] at hkcell
      rw [hv] at hvcell
      simp only [Option.getD_some] at hkcell hvcell
      have hxa := HXA.out
      have HST : Hid (outL n key (j + 1) = outL n key j ++ (if ltB k key = true then [] else [(k, v)])) := outL_step n key j HVL.out (by have := HKN.out; omega) k v hk hv
      have HSS : Hid (∀ Fr Gr W, Keeps (Un F1 G) (Un Fr Gr) wa W → W.cell? ⟨wb, 1, none⟩ = some (.string key) ∧ W.cell? ⟨wb, 2, none⟩ = some (.func (.yield l) #[] #[]) ∧ W.cell? ⟨w2.heap.size, 2, none⟩ = some (.slice (some ⟨vb, 0, none⟩) vn vc) ∧ W.cell? ⟨vb, j, none⟩ = some (.string v) ∧ W.cell? ⟨kb, j, none⟩ = some (.string k)) := fun Fr Gr W q => by
        have h9 := HKEEP.out _ _ _ q
        have r1 := HWA2.out.same (h9 wb (.inr rfl) HWA2.out.lt)
        have r2 := HRA.out.same (h9 w2.heap.size (.inl HBW.out) HRA.out.lt)
        exact ⟨r1.cell 1, r1.cell 2, r2.cell 2, (World.cell?_of_block (h9 vb (.inl hvB) (Nat.lt_of_lt_of_le hvb hxa.size))).trans ((hxa.cell (p := ⟨vb, j, none⟩) hvb).trans hvcell), (World.cell?_of_block (h9 kb (.inl hkB) (Nat.lt_of_lt_of_le hkb hxa.size))).trans ((hxa.cell (p := ⟨kb, j, none⟩) hkb).trans hkcell)⟩
      have hks := hs.out.keep
      obtain ⟨_, _, _, _, u5⟩ := HSS.out _ _ _ hks
      have HOKX : Hid (ltB k key = false → Ok (pre ++ outL n key j) (k, v)) := fun q => HOK.out _ _ (by
        have h9 : outL n key (j + 1) <+: outL n key n.keys.length := by
          unfold outL
          refine List.IsPrefix.filter _ ?_
          exact List.take_prefix_take_left (by have := HKN.out; omega)
        rw [HST.out, if_neg (by rw [q]; decide)] at h9
        exact h9)
      obtain ⟨lt, hlt⟩ : ∃ lt, ltB k key = lt := ⟨_, rfl⟩
      have HLT := Lib.hid hlt
      have hlt2 : Op.bytesLess k.toList key.toList = lt := hlt
      have HKS := Lib.hid hks
      clear hk hv hkcell hvcell hxa hks hkB hvB e2 e3 f2 f3 hkb hvb hlt
      cases lt with
      | true =>
        go_upto_region 15 with fail
        refine wp_region_held_drew (S := fun W => W.cell? ⟨wb, 1, none⟩ = some (.string key) ∧ W.cell? ⟨wb, 2, none⟩ = some (.func (.yield l) #[] #[]) ∧ W.cell? ⟨w2.heap.size, 2, none⟩ = some (.slice (some ⟨vb, 0, none⟩) vn vc) ∧ W.cell? ⟨vb, j, none⟩ = some (.string v) ∧ W.cell? ⟨kb, j, none⟩ = some (.string k)) (by kernel_rfl) (HSS.out _ _ _ (HKS.out.ext (by (repeat' (with_reducible first | exact Below.refl _ _ | refine Ext.drewN ?_ _ | refine Below.drew ?_ | refine Below.setCell ?_ ?_ _ | refine Below.alloc ?_ ?_ _)) <;> (first | omega | (simp; done) | (simp; omega))))) (fun hHeld => ?_)
        refine' tk 0 ?_; (try simp only [Act.put, List.setIfInBounds_toArray, List.set_cons_zero, List.set_cons_succ])
        refine' tk 1 ?_; (try simp only [Act.put, List.setIfInBounds_toArray, List.set_cons_zero, List.set_cons_succ])
        refine' tk 2 ?_; (try simp only [Act.put, List.setIfInBounds_toArray, List.set_cons_zero, List.set_cons_succ])
        refine' tk 3 ?_; (try simp only [Act.put, List.setIfInBounds_toArray, List.set_cons_zero, List.set_cons_succ])
        refine' tk 4 ?_; (try simp only [Act.put, List.setIfInBounds_toArray, List.set_cons_zero, List.set_cons_succ])
        refine' tk 5 ?_; (try simp only [Act.put, List.setIfInBounds_toArray, List.set_cons_zero, List.set_cons_succ])
        refine' tk 6 ?_; (try simp only [Act.put, List.setIfInBounds_toArray, List.set_cons_zero, List.set_cons_succ])
        refine' tkn 7 ?_; (try simp only [Act.put, List.setIfInBounds_toArray, List.set_cons_zero, List.set_cons_succ])
        refine' tkn 8 ?_; (try simp only [Act.put, List.setIfInBounds_toArray, List.set_cons_zero, List.set_cons_succ])
        refine' tkn 9 ?_; (try simp only [Act.put, List.setIfInBounds_toArray, List.set_cons_zero, List.set_cons_succ])
        refine' tkn 10 ?_; (try simp only [Act.put, List.setIfInBounds_toArray, List.set_cons_zero, List.set_cons_succ])
        refine' tkn 11 ?_; (try simp only [Act.put, List.setIfInBounds_toArray, List.set_cons_zero, List.set_cons_succ])
        refine' tkn 12 ?_; (try simp only [Act.put, List.setIfInBounds_toArray, List.set_cons_zero, List.set_cons_succ])
        refine' tkn 13 ?_; (try simp only [Act.put, List.setIfInBounds_toArray, List.set_cons_zero, List.set_cons_succ])
        refine' tkn 14 ?_; (try simp only [Act.put, List.setIfInBounds_toArray, List.set_cons_zero, List.set_cons_succ])
        refine' tkn 15 ?_; (try simp only [Act.put, List.setIfInBounds_toArray, List.set_cons_zero, List.set_cons_succ])
        refine' tkn 16 ?_; (try simp only [Act.put, List.setIfInBounds_toArray, List.set_cons_zero, List.set_cons_succ])
        refine' tkn 17 ?_; (try simp only [Act.put, List.setIfInBounds_toArray, List.set_cons_zero, List.set_cons_succ])
        refine' tkn 18 ?_; (try simp only [Act.put, List.setIfInBounds_toArray, List.set_cons_zero, List.set_cons_succ])
        refine' tk 19 ?_; (try simp only [Act.put, List.setIfInBounds_toArray, List.set_cons_zero, List.set_cons_succ])
        refine wpAnyH_done (by kernel_rfl) ?_ _
        go_wp2_with fail
        go_roundw
        case rel => exact ⟨j + 1, Fr, Gr, by omega, by go_num, Lib.hid (by rw [HST.out, if_pos HLT.out, List.append_nil]; exact hs.out.ext HJ.out (by (repeat' (with_reducible first | exact Below.refl _ _ | refine Ext.drewN ?_ _ | refine Below.drew ?_ | refine Below.setCell ?_ ?_ _ | refine Below.alloc ?_ ?_ _)) <;> (first | omega | (simp; done) | (simp; omega))))⟩
        case measure => simp only [intOf]; omega
      | false =>
        have hsd := hs.out.ext HJ.out (show Ext wr wr.drew from Below.drew (Ext.refl _))
        obtain ⟨fn9, tm9, as9, bo9, hy9, hR9⟩ := HY.out (pre ++ outL n key j) (k, v) wr.drew Fr Gr hsd.j hsd.it hsd.dis (HOKX.out HLT.out)
        have hy8 : (Instr.yield l #[.string k, .string v]).run Tryz.prog wr.drew = .ok (.round l fn9 tm9 as9 bo9) wr.drew := hy9
        have HYIELD := Lib.hid hy8
        have HR9 := Lib.hid hR9
        have HKD : Hid (Keeps (Un F1 G) (Un Fr Gr) wa wr.drew) := hsd.keep
        clear hsd hy9 hy8 hR9
        go_upto_region 15 with fail
        refine region_W (S := fun W => W.cell? ⟨wb, 1, none⟩ = some (.string key) ∧ W.cell? ⟨wb, 2, none⟩ = some (.func (.yield l) #[] #[]) ∧ W.cell? ⟨w2.heap.size, 2, none⟩ = some (.slice (some ⟨vb, 0, none⟩) vn vc) ∧ W.cell? ⟨vb, j, none⟩ = some (.string v) ∧ W.cell? ⟨kb, j, none⟩ = some (.string k)) (by kernel_rfl) (HSS.out _ _ _ HKD.out) (fun hHeld => ?_)
        refine' tkW 0 ?_; (try simp only [Act.put, List.setIfInBounds_toArray, List.set_cons_zero, List.set_cons_succ])
        refine' tkW 1 ?_; (try simp only [Act.put, List.setIfInBounds_toArray, List.set_cons_zero, List.set_cons_succ])
        refine' tkW 2 ?_; (try simp only [Act.put, List.setIfInBounds_toArray, List.set_cons_zero, List.set_cons_succ])
        refine' tkW 3 ?_; (try simp only [Act.put, List.setIfInBounds_toArray, List.set_cons_zero, List.set_cons_succ])
        refine' tkW 4 ?_; (try simp only [Act.put, List.setIfInBounds_toArray, List.set_cons_zero, List.set_cons_succ])
        refine' tkW 5 ?_; (try simp only [Act.put, List.setIfInBounds_toArray, List.set_cons_zero, List.set_cons_succ])
        refine' tkW 6 ?_; (try simp only [Act.put, List.setIfInBounds_toArray, List.set_cons_zero, List.set_cons_succ])
        refine' tkW 7 ?_; (try simp only [Act.put, List.setIfInBounds_toArray, List.set_cons_zero, List.set_cons_succ])
        refine' tkW 8 ?_; (try simp only [Act.put, List.setIfInBounds_toArray, List.set_cons_zero, List.set_cons_succ])
        refine' tkW 9 ?_; (try simp only [Act.put, List.setIfInBounds_toArray, List.set_cons_zero, List.set_cons_succ])
        refine' tkW 10 ?_; (try simp only [Act.put, List.setIfInBounds_toArray, List.set_cons_zero, List.set_cons_succ])
        refine' tkW 11 ?_; (try simp only [Act.put, List.setIfInBounds_toArray, List.set_cons_zero, List.set_cons_succ])
        refine' tkW 12 ?_; (try simp only [Act.put, List.setIfInBounds_toArray, List.set_cons_zero, List.set_cons_succ])
        refine' tkW 13 ?_; (try simp only [Act.put, List.setIfInBounds_toArray, List.set_cons_zero, List.set_cons_succ])
        refine' tkW 14 ?_; (try simp only [Act.put, List.setIfInBounds_toArray, List.set_cons_zero, List.set_cons_succ])
        refine' tkW 15 ?_; (try simp only [Act.put, List.setIfInBounds_toArray, List.set_cons_zero, List.set_cons_succ])
        refine' tkW 16 ?_; (try simp only [Act.put, List.setIfInBounds_toArray, List.set_cons_zero, List.set_cons_succ])
        refine' anyW_round (i := 17) (o := ?zoi17b) (by kernel_rfl) ?zhi17b ?zhw17b ?zhe17b ?zrest17b; (case zhi17b => simp only [List.getElem?_toArray, List.getElem?_cons_succ, List.getElem?_cons_zero]; exact rfl); (case zhw17b => rfl); (case zhe17b => go_simp; exact HYIELD.out)
        refine RoundIn.mono HR9.out ?_
        rintro e W9 ⟨F9, G9, p1, p2, p3, p4⟩
        have HK9 : Hid (Keeps (Un F1 G) (Un F9 G9) wa W9) := Keeps.trans HKD.out p3
        obtain ⟨yb, rfl, p5⟩ : ∃ yb : Bool, e = .returned (.bool yb) ∧ ((yb = true ∧ J (pre ++ outL n key j ++ [(k, v)]) G9 W9) ∨ (yb = false ∧ Jx (pre ++ outL n key j ++ [(k, v)]) G9 W9)) := by
          rcases p4 with ⟨rfl, q⟩ | ⟨rfl, q⟩
          · exact ⟨true, rfl, .inl ⟨rfl, q⟩⟩
          · exact ⟨false, rfl, .inr ⟨rfl, q⟩⟩
        have HP1' := Lib.hid p1
        have HP2' := Lib.hid p2
        have HP5 := Lib.hid p5
        clear p1 p2 p3 p4 p5
        refine ⟨_, rfl, (HSS.out _ _ _ HK9.out), fun hHeld => ?_⟩
        (try simp only [Act.put, List.setIfInBounds_toArray, List.set_cons_zero, List.set_cons_succ])
        refine' tkW 18 ?_; (try simp only [Act.put, List.setIfInBounds_toArray, List.set_cons_zero, List.set_cons_succ])
        refine' tkW 19 ?_; (try simp only [Act.put, List.setIfInBounds_toArray, List.set_cons_zero, List.set_cons_succ])
        refine anyW_done (by kernel_rfl) ?_ _
        cases yb with
        | true =>
          go_wp2_with fail
          go_roundw
          case rel => exact ⟨j + 1, F9, G9, by omega, by go_num, Lib.hid (by
            rw [HST.out, if_neg (by rw [HLT.out]; decide)]
            refine ⟨HP1'.out, HP2'.out, HK9.out, ?_⟩
            rcases HP5.out with ⟨_, q⟩ | ⟨q, _⟩
            · rw [← List.append_assoc]; exact q
            · cases q)⟩
          case measure => simp only [intOf]; omega
        | false =>
          have HDN : Hid (WalkPost wb t l p i S K key lf F G J Jx pre (outL n key n.keys.length) w (.returned (.bool false)) W9) := by
            have hk := HKEEP.out _ _ _ HK9.out
            refine ⟨F9, G9, HP1'.out, HP2'.out, ?_, HWA2.out.same (hk wb (.inr rfl) HWA2.out.lt), HK9.out.out HWA2.out.lt (HUN.out wb (.inr rfl)), .inr ⟨rfl, outL n key (j + 1), ?_, ?_⟩⟩
            · refine ⟨HKWA.out.only.trans HK9.out.only (fun i q => HKWA.out.new i (.inl q)), fun i q => ?_⟩
              rcases q with q | q
              · rcases HK9.out.new i q with r | r
                · exact HKWA.out.new i (.inl r)
                · exact .inr (Nat.le_trans HKWA.out.only.size r)
              · exact .inl (.inr q)
            · unfold outL
              refine List.IsPrefix.filter _ ?_
              exact List.take_prefix_take_left (by have := HKN.out; omega)
            · rw [HST.out, if_neg (by rw [HLT.out]; decide)]
              rcases HP5.out with ⟨q, _⟩ | ⟨_, q⟩
              · cases q
              · rw [← List.append_assoc]; exact q
          go_wp2_with fail
          go_ret
          exact HDN.out
    · obtain rfl : j = kn := by omega
      have HDN : Hid (WalkPost wb t l p i S K key lf F G J Jx pre (outL n key n.keys.length) w (.returned (.bool true)) wr) := by
        have hk := HKEEP.out _ _ _ hs.out.keep
        refine ⟨Fr, Gr, hs.out.it, hs.out.dis, ?_, HWA2.out.same (hk wb (.inr rfl) HWA2.out.lt), hs.out.keep.out HWA2.out.lt (HUN.out wb (.inr rfl)), .inl ⟨rfl, by rw [← HKN.out]; exact hs.out.j⟩⟩
        refine ⟨HKWA.out.only.trans hs.out.keep.only (fun i q => HKWA.out.new i (.inl q)), fun i q => ?_⟩
        rcases q with q | q
        · rcases hs.out.keep.new i q with r | r
          · exact HKWA.out.new i (.inl r)
          · exact .inr (Nat.le_trans HKWA.out.only.size r)
        · exact .inl (.inr q)
      clear hs
      go_wp2_with fail
      go_ret
      exact HDN.out
end Go.Proofs.YtojoefcfimmipaaGreat
namespace Go.Proofs.YtojoefcfimmipaaGreat
set_option linter.unusedSimpArgs false
set_option linter.unusedVariables false
open Go.RowKit
theorem yieldAt_wide {P : Program} {l m : Nat} {args : Array Value} {W : World} {R : Ending → World → Prop} (h : YieldAt Fence.wide m P l args W R) : YieldAt Fence.wide 0 P l args W R := by
  obtain ⟨fn, tmps, assign, body, h1, h2⟩ := h
  exact ⟨fn, tmps, assign, body, h1, h2.1, fun c cs _ => h2.2 c cs (room_wide _)⟩
/-- a step of the pager, between two rounds -/
theorem step_pager {p t i : Nat} {S : StoreD} {K F F1 G : Nat → Prop} {W w1 : World} {α : Type} {J : α → (Nat → Prop) → World → Prop} {pre : α} (hit : ItT p t i S K F W) (hd : Dis F G W) (hJ : Abides J) (h0 : J pre G W) (hp : PagerAt w1 p F1 S) (hk : Keeps F F1 W w1) :
    ∃ F2, ItT p t i S K F2 w1 ∧ Dis F2 G w1 ∧ Keeps (Un F G) (Un F2 G) W w1 ∧ J pre G w1 ∧ Keeps F F2 W w1 := by
  have hk2 : Keeps F (fun i => F1 i ∧ i < w1.heap.size) W w1 := hk.shrink
  refine ⟨fun i => F1 i ∧ i < w1.heap.size, hit.keeps hp.shrink hk2, ⟨fun i q => q.2, fun i q => ⟨Nat.lt_of_lt_of_le (hd.2 i q).1 hk.only.size, hk2.out (hd.2 i q).1 (hd.2 i q).2⟩⟩, ⟨hk.only.mono (fun i q => .inl (.inl q)), fun i q => ?_⟩, hJ _ _ _ _ h0 (fun i q => (hd.2 i q).1) (hk.only.mono (fun i q => .inl (fun r => (hd.2 i r).2 q))), hk2⟩
  rcases q with q | q
  · rcases hk2.new i q with r | r
    · exact .inl (.inl r)
    · exact .inr r
  · exact .inl (.inr q)
def SeqB (P : Program) (n g : Nat) (lb : Array Value) (It : (Nat → Prop) → World → Prop) (out : List KV) (w : World) : Prop :=
  SeqO Fence.wide n P g lb encKV It (fun xs => xs = out) (fun pre => pre <+: out) (fun pre x => pre ++ [x] <+: out) w
end Go.Proofs.YtojoefcfimmipaaGreat
namespace Go.Proofs.YtojoefcfimmipaaGreat
set_option linter.unusedSimpArgs false
set_option linter.unusedVariables false
open Go.RowKit
section
variable {P : Program} {ops : Array Oper} {Q : Exit → Act → World → Prop} {S : World → Prop}
theorem askW_round {o : Oper} {a : Act} {K : Act → World → Prop} (l n : Nat) : ∀ r, askW P o a K Q r → o.uponIn (Fence.wide.inRound l) n P a K Q r := fun r hh => by
  have hd : (Fence.wide.inRound l).depth.isSome = true → 1 ≤ n := fun q => by simp [Fence.wide, Fence.inRound] at q
  cases r with
  | ok x w' =>
    cases x <;> simp only [askW, Oper.upon, Oper.uponIn] at hh ⊢
    case value v => exact hh
    case skip => exact hh
    case defer d => exact hh
    case enter f args => exact ⟨hd, CallsIn.inRound l ((callsIn_wide (n := n - 1)).2 hh)⟩
    case row row args =>
      refine ⟨hd, fun c cs _ => ?_⟩
      obtain ⟨v, w'', h1, h2⟩ := hh c cs
      exact ⟨v, w'', h1, stepsIn_wide.2 h2⟩
    case round l f tmps assign body => exact ⟨hd, hh.1, fun c cs _ => hh.2 c cs (room_wide _)⟩
  | halt x w' => cases x <;> simp only [askW, Oper.upon, Oper.uponIn] at hh ⊢ <;> exact hh
theorem opsIn_round (l n : Nat) (hnd : ∀ (i : Nat) (o : Oper), ops[i]? = some o → ∀ c, o.op ≠ .defer c) (i : Nat) (rest : List Nat) (a : Act) (w : World) (h : opW P ops Q i (wpOpsIn (Fence.wide.inRound l) n P ops Q rest) a w) : wpOpsIn (Fence.wide.inRound l) n P ops Q (i :: rest) a w := by
  unfold opW at h
  simp only [wpOpsIn]
  cases ho : ops[i]? with
  | none => simp only [ho] at h; exact h
  | some o =>
    simp only [ho] at h ⊢
    split
    · rename_i hw
      simp only [hw, if_true] at h
      refine ⟨fun _ _ => trivial, ?_⟩
      rw [Oper.semAt_eq _ _ _ (hnd i o ho)]
      exact askW_round l n _ h
    · rename_i hw
      simp only [hw] at h
      exact ⟨fun _ _ => trivial, h⟩
theorem anyW_inRound (l n : Nat) (hnd : ∀ (i : Nat) (o : Oper), ops[i]? = some o → ∀ c, o.op ≠ .defer c) : ∀ (fuel t : Nat) (listed : Array Bool) (a : Act) (w : World), anyW P ops Q S fuel listed a w → wpOpsIn (Fence.wide.inRound l) n P ops Q (Region.linearise.go .any ops fuel t listed []) a w := by
  intro fuel
  induction fuel with
  | zero => intro t listed a w h; simpa [Region.linearise.go, wpOpsIn] using h.2
  | succ fuel ih =>
    intro t listed a w h
    obtain ⟨h0, h1⟩ := h
    simp only [Region.linearise.go]
    change wpOpsIn (Fence.wide.inRound l) n P ops Q (match (Region.ready .any ops listed)[t % (Region.ready .any ops listed).length]? with
      | some i => Region.linearise.go .any ops fuel (t / (Region.ready .any ops listed).length) (listed.setIfInBounds i true) [i]
      | none => [].reverse) a w
    cases hi : (Region.ready .any ops listed)[t % (Region.ready .any ops listed).length]? with
    | none =>
      have hnil : Region.ready .any ops listed = [] := by
        cases hr : Region.ready .any ops listed with
        | nil => rfl
        | cons x xs =>
          rw [hr, List.getElem?_eq_none_iff] at hi
          exact absurd (Nat.mod_lt t (show 0 < (x :: xs).length by simp)) (by omega)
      simpa [wpOpsIn] using h0 hnil
    | some i =>
      simp only []
      rw [linearise_go_acc, List.reverse_singleton, List.singleton_append]
      exact opsIn_round l n hnd _ _ _ _ (opW_mono (fun a w q => ih _ _ a w q.2) (h1 i (List.mem_of_getElem? hi)))
def noDef (ops : Array Oper) : Bool := ops.toList.all fun o => match o.op with | .defer _ => false | _ => true
theorem noDef_spec (h : noDef ops = true) : ∀ (i : Nat) (o : Oper), ops[i]? = some o → ∀ c, o.op ≠ .defer c := fun i o ho c e => by
  unfold noDef at h
  rw [List.all_eq_true] at h
  have h1 := h o (by rw [Array.mem_toList_iff]; exact Array.mem_of_getElem? ho)
  rw [e] at h1
  cases h1
theorem region_R {id : Nat} {a : Act} {w : World} {l n : Nat} (hm : P.follows .mixedOrders = true) (hnd : noDef ops = true) (hS : S w.drew)
    (h : S w.drew → anyW P ops Q S ops.size (Array.replicate ops.size false) a w.drew) : (Code.region id ops true).wpIn (Fence.wide.inRound l) n P Q a w := by
  refine wpIn_region_draw fun t => ?_
  simp only [Region.schedule, hm, Bool.true_or, if_true]
  exact anyW_inRound l n (noDef_spec hnd) ops.size t _ a _ (h hS)
/-- an operation that is no round -/
theorem askW_of {o : Oper} {a : Act} {K : Act → World → Prop} : ∀ r, o.upon P a K Q r → askW P o a K Q r := fun r hh => by
  cases r with
  | ok x w' => cases x <;> first | exact hh | exact hh.elim
  | halt x w' => exact hh
def AllReadyW (P : Program) (ops : Array Oper) (Q : Exit → Act → World → Prop) (S : World → Prop) (fuel : Nat) (listed : Array Bool) (a : Act) (w : World) (rs : List Nat) : Prop :=
  ∀ i ∈ rs, opW P ops Q i (fun a' w' => S w' ∧ anyW P ops Q S fuel (listed.setIfInBounds i true) a' w') a w
theorem AllReadyW.nil {fuel : Nat} {listed : Array Bool} {a : Act} {w : World} : AllReadyW P ops Q S fuel listed a w [] := fun _ h => by cases h
theorem AllReadyW.cons {fuel : Nat} {listed : Array Bool} {a : Act} {w : World} {i : Nat} {o : Oper} {rs : List Nat} (ho : ops[i]? = some o)
    (h : ∀ K' : Act → World → Prop, Shut (∀ a w, S w → (S w → anyW P ops Q S fuel (listed.setIfInBounds i true) a w) → K' a w) → if Region.wanted o (yielded ops a.tmps) = true then Oper.wp P o a w K' Q else K' (a.put o.dst undef) w)
    (hs : AllReadyW P ops Q S fuel listed a w rs) : AllReadyW P ops Q S fuel listed a w (i :: rs) := fun j hj => by
  rcases List.mem_cons.1 hj with rfl | hj
  · have h1 := h _ (fun a w h1 h2 => ⟨h1, h2 h1⟩ : Shut (∀ a w, S w → (S w → anyW P ops Q S fuel (listed.setIfInBounds j true) a w) → (S w ∧ anyW P ops Q S fuel (listed.setIfInBounds j true) a w)))
    unfold opW
    simp only [ho]
    split
    · rename_i hw
      rw [if_pos hw] at h1
      exact askW_of _ h1
    · rename_i hw
      rw [if_neg hw] at h1
      exact h1
  · exact hs j hj
theorem anyW_ready {rs : List Nat} {fuel : Nat} {listed : Array Bool} {a : Act} {w : World} (hr : Region.ready .any ops listed = rs) (hne : rs ≠ [])
    (h : AllReadyW P ops Q S fuel listed a w rs) : anyW P ops Q S (fuel + 1) listed a w := ⟨fun h0 => absurd (hr.symm.trans h0) hne, fun i hi => h i (hr ▸ hi)⟩
theorem stpW (i : Nat) {o : Oper} {fuel : Nat} {listed : Array Bool} {a : Act} {w : World}
    (h : ∀ K' : Act → World → Prop, Shut (∀ a w, S w → (S w → anyW P ops Q S fuel (listed.setIfInBounds i true) a w) → K' a w) → if Region.wanted o (yielded ops a.tmps) = true then Oper.wp P o a w K' Q else K' (a.put o.dst undef) w)
    (hr : Region.ready .any ops listed = [i] := by kernel_rfl) (ho : ops[i]? = some o := by exact rfl) : anyW P ops Q S (fuel + 1) listed a w :=
  anyW_ready hr (by simp) (AllReadyW.cons ho h AllReadyW.nil)
/-- a piece of code that ends as code ends that goes on -/
def onlyN (K : Act → World → Prop) : Exit → Act → World → Prop
  | .normal, a, w => K a w
  | _, _, _ => False
theorem wpIn_onlyN {F : Fence} {n : Nat} {c : Code} {K : Act → World → Prop} {a : Act} {w : World} (h : c.wpIn F n P (onlyN K) a w) : c.wpIn F n P (Exit.then K Q) a w :=
  wpIn_mono h (by
    intro e a w q
    cases e <;> first | exact q | exact q.elim)
end
end Go.Proofs.YtojoefcfimmipaaGreat
