/- What a statement of layer 13 finds in a table: as many operations as are asked for, out of those under a key. Conditions: a table's trees. -/
/- The example of layer 13: what it puts and finds (plain law), Put of an operation that is not there. Conditions: a table's trees, room. -/
/- The example of layer 13 holds: the walk. Conditions: none. -/
import Derived.Test.YtojoefcfimmipaaGreatQ37
import Derived.Test.YtojoefcfimmipaaGreatQ36
import Derived.Test.YtojoefcfimmipaaGreatQ35
namespace Go.Proofs.YtojoefcfimmipaaGreat
set_option linter.unusedSimpArgs false
set_option linter.unusedVariables false
open Go.RowKit
set_option maxRecDepth 100000 in
set_option maxHeartbeats 4000000 in
theorem found13_any {A : Option Addr} {n c tb p : Nat} {ts : Nat → Nat} {F : Nat → Prop} {S : StoreD} {Ts : Nat → TrD} {l all : List OpD} {k : Nat} (way most : Nat) (fl : List Int) (w : World)
    (ht : TblAt w tb p ts F) (hp : PagerAt w p F S) (hT : Tab S Ts (fun _ => l)) (hd : ∀ i, i < 5 → depT (Ts i) ≤ 31) (hw : way < 5)
    (hs : Sl w 1 (fun x cs => cs = encN x) (.slice A n c) fl) (hl : ∀ x ∈ fl, In64 x) (h4 : fl.length ≤ 4) (hf : Finds Ts way (bts (keyL fl)) l all k) (hal : all.length ≤ 100000) (hm : 0 < most) :
    Calls Tryz.prog 30 #[tp tb, .int .i64 (way : Nat), .slice A n c, .int .i64 (most : Nat)] w fun e w' =>
      ∃ (A' : Option Addr) (c' j : Nat) (F2 : Nat → Prop), e = .returned (.slice A' j c') ∧ OwnL w' 0 53 11 OpD.cells (.slice A' j c') (all.take j) ∧ j ≤ k ∧ j ≤ all.length ∧ (j = k ∨ most ≤ j) ∧ TblAt w' tb p ts F2 ∧ PagerAt w' p F2 S ∧ Keeps F F2 w w' := by
  have cF : Hid (∀ W, Calls Tryz.prog 78 #[tp tb, .int .i64 (way : Nat), .slice A n c] W (FindR (A := A) (n := n) (c := c) (some ⟨tb, 0, none⟩) (way : Nat) W)) := fun W => find_any _ _ W
  obtain ⟨W0, hW0⟩ : ∃ W0, (w.alloc (.cells #[.int .i64 (most : Nat)] 3)).alloc (.cells #[.slice none 0 0] 64) = W0 := ⟨_, rfl⟩
  have HX0 : Hid (Ext w W0) := by unfold Hid; rw [← hW0]; exact (Ext.alloc _ _).trans (Ext.alloc _ _)
  have HR0 : Hid (Row1 W0 (w.heap.size + 1) 64 [.slice none 0 0]) := by unfold Hid; rw [← hW0]; exact Row1.made' (by simp) _ _
  have HR9 : Hid (Row1 W0 w.heap.size 3 [.int .i64 (most : Nat)]) := by unfold Hid; rw [← hW0]; exact (Row1.made w _ _).alloc _
  have hs0 : W0.heap.size = w.heap.size + 2 := by rw [← hW0]; simp
  have HLT : Hid (tb < w.heap.size ∧ ∀ j, j < 5 → ts j < w.heap.size) := ⟨ht.row.lt, fun j hj => (ht.tree j hj).lt⟩
  have cC : Hid (∀ (bt bw bf : Nat) (W : World), Ext W0 W → W0.heap.size ≤ bt → W0.heap.size ≤ bw → Row1 W bt 55 [tp tb] → Row1 W bw 3 [.int .i64 (way : Nat)] → Row1 W bf 54 [.slice A n c] →
      Calls Tryz.prog 133 #[.func (.func 79) #[] #[.pointer (some ⟨w.heap.size + 1, 0, none⟩), .pointer (some ⟨w.heap.size, 0, none⟩)], .pointer (some ⟨bf, 0, none⟩), .pointer (some ⟨bt, 0, none⟩), .pointer (some ⟨bw, 0, none⟩)] W fun e w' =>
        (∃ v, e = .returned v) ∧ ∃ (A' : Option Addr) (c' j : Nat) (F2 : Nat → Prop), Row1 w' (w.heap.size + 1) 64 [.slice A' j c'] ∧ OwnL w' 0 53 11 OpD.cells (.slice A' j c') (all.take j) ∧ j ≤ k ∧ j ≤ all.length ∧ (j = k ∨ most ≤ j) ∧ TblAt w' tb p ts F2 ∧ PagerAt w' p F2 S ∧ Keeps F F2 w w') := fun bt bw bf W hW hbt hbw h1 h2 h3 => by
    have hx : Ext w W := HX0.out.trans hW
    have hz := HX0.out.size
    have htF : TblAt W tb p ts (fun i => F i ∧ i < w.heap.size) := TblAt.ext (F := fun i => F i ∧ i < w.heap.size) ⟨ht.row, ht.tree, fun q => ht.out q.1, fun j hj q => ht.outs j hj q.1⟩ hx
    have hpF : PagerAt W p (fun i => F i ∧ i < w.heap.size) S := PagerAt.ext (F := fun i => F i ∧ i < w.heap.size) hp.shrink hx
    have hzW := hW.size
    refine (findC_any (bl := w.heap.size + 1) (bm := w.heap.size) (Gc := fun i => i = w.heap.size + 1 ∨ i = w.heap.size) (most := (most : Int)) way fl W htF hpF hT hd hw h1 h2 h3 (fun q => by have := q.2; omega) (fun q => by have := q.2; omega) (hs.ext hx) hl h4 hf hal
      ⟨⟨none, 0, OwnL.nil _ _ _ _ _, HR0.out.ext hW HR0.out.lt, fun k q => by cases q⟩, HR9.out.ext hW HR9.out.lt, .inl rfl, .inr rfl⟩ (fun i q => ?_)).mono ?_
    · have l1 := HLT.out.1
      have l2 := HLT.out.2
      refine ⟨by omega, fun r => by have := r.2; omega, by omega, by omega, by omega, fun j hj e => by have := l2 j hj; omega⟩
    · rintro e w' ⟨hv, F2, G2, j, hjk, hja, hjm, ht2, hp2, hfj, hk2⟩
      obtain ⟨A', c', ho, hr, _⟩ := hfj.list
      have hlen : (all.take j).length = j := by rw [List.length_take]; omega
      rw [hlen] at ho hr
      refine ⟨hv, A', c', j, F2, hr, ho, hjk, hja, by omega, ht2, hp2, ⟨(Only.of hx).trans hk2.only (fun i q => ?_), fun i q => ?_⟩⟩
      · rcases q with q | q | q
        · exact .inl q.1
        · exact .inr (by omega)
        · exact .inr (by omega)
      · rcases hk2.new i (.inl q) with (r | r | r) | r
        · exact .inl r.1
        · exact .inr (by omega)
        · exact .inr (by omega)
        · exact .inr (by omega)
  clear ht hp hT hd hs hl hf hs0
  have hnf := fun (W : World) (ya yb : Array Value) => run_seqNe 133 ya yb W
  have c9 : W0.cell? ⟨w.heap.size, 0, none⟩ = some (.int .i64 (most : Nat)) := HR9.out.cell 0
  have q1 : decide ((most : Int) ≤ 0) = false := decide_eq_false (by omega)
  have q2 : ¬ (most : Int) ≤ 0 := by omega
  go_enter Tryz.func30, Tryz.ntmps30
  go_upto_region 2 with fail
  clear hW0
  go_wp2_with (first
    | (go_at_call 78; (with_reducible refine (cF.out _).mono ?_); clear cF; rintro e w1 ⟨bt, bw, bf, rfl, hx1, hb1, hb2, hb3, hr1, hr2, hr3⟩; have HX1 := Lib.hid hx1; have HB1 := Lib.hid hb1; have HB2 := Lib.hid hb2; have HR1 := Lib.hid hr1; have HR2 := Lib.hid hr2; have HR3 := Lib.hid hr3; clear hx1 hr1 hr2 hr3 hb1 hb2 hb3)
    | (go_at_call 133; (with_reducible refine (cC.out _ _ _ _ HX1.out HB1.out HB2.out HR1.out HR2.out HR3.out).mono ?_); clear cC; rintro e w2 ⟨⟨v2, rfl⟩, A2, c2, j2, F2, hr0, ho2, hj1, hj2, hj3, ht2, hp2, hk2⟩; have HFIN : Hid (OwnL w2 0 53 11 OpD.cells (.slice A2 j2 c2) (all.take j2) ∧ j2 ≤ k ∧ j2 ≤ all.length ∧ (j2 = k ∨ most ≤ j2) ∧ TblAt w2 tb p ts F2 ∧ PagerAt w2 p F2 S ∧ Keeps F F2 w w2) := ⟨ho2, hj1, hj2, hj3, ht2, hp2, hk2⟩; have c0 : w2.cell? ⟨w.heap.size + 1, 0, none⟩ = some (.slice A2 j2 c2) := hr0.cell 0; clear hr0 ho2 hj1 hj2 hj3 ht2 hp2 hk2))
  go_ret
  exact ⟨A2, c2, j2, F2, rfl, HFIN.out⟩
end Go.Proofs.YtojoefcfimmipaaGreat
namespace Go.Proofs.YtojoefcfimmipaaGreat
set_option linter.unusedSimpArgs false
set_option linter.unusedVariables false
open Go.RowKit
def opAa : OpD := ⟨1, 0, 3, 6, 13, 0, 0, false, 0, 9, 0⟩
def opAb : OpD := ⟨2, 0, 3, 6, 13, 0, 0, false, 0, 4, 0⟩
theorem opAa_ok : opChk opAa = 0 := by decide
theorem opAb_ok : opChk opAb = 0 := by decide
theorem rise_ext : ∀ (l r : List KV), RiseK l → RiseK r → (∀ x, x ∈ l ↔ x ∈ r) → l = r
  | [], [], _, _, _ => rfl
  | [], y :: r, _, _, h => absurd ((h y).2 List.mem_cons_self) (by simp)
  | x :: l, [], _, _, h => absurd ((h x).1 List.mem_cons_self) (by simp)
  | x :: l, y :: r, hl, hr, h => by
    have h1 := List.pairwise_cons.1 hl
    have h2 := List.pairwise_cons.1 hr
    have e : x = y := by
      rcases List.mem_cons.1 ((h x).1 List.mem_cons_self) with e | hx
      · exact e
      · rcases List.mem_cons.1 ((h y).2 List.mem_cons_self) with e | hy
        · exact e.symm
        · have a := h1.1 y hy
          have b := h2.1 x hx
          rw [ltB_asymm a] at b
          cases b
    subst e
    rw [rise_ext l r h1.2 h2.2 (fun z => ⟨fun hz => by
      rcases List.mem_cons.1 ((h z).1 (List.mem_cons_of_mem _ hz)) with e | q
      · have a := h1.1 z hz; subst e; rw [ltB_irrefl] at a; cases a
      · exact q, fun hz => by
      rcases List.mem_cons.1 ((h z).2 (List.mem_cons_of_mem _ hz)) with e | q
      · have a := h2.1 z hz; subst e; rw [ltB_irrefl] at a; cases a
      · exact q⟩)]
theorem ab_lt : ltB (wayK 1 opAb) (wayK 1 opAa) = true := by kernel_rfl
theorem a_front : ltB (wayK 1 opAa) (bts (keyL [3])) = false := by kernel_rfl
theorem b_front : ltB (wayK 1 opAb) (bts (keyL [3])) = false := by kernel_rfl
theorem a_under : underB (wayK 1 opAa) (bts (keyL [3])) = true := by kernel_rfl
theorem b_under : underB (wayK 1 opAb) (bts (keyL [3])) = true := by kernel_rfl
theorem awake_finds {S : StoreD} {Ts : Nat → TrD} (hT : Tab S Ts (fun _ => [opAb, opAa])) : Finds Ts 1 (bts (keyL [3])) [opAb, opAa] [opAb, opAa] 2 := by
  have hl : (Ts 1).list = [kvW 1 opAb, kvW 1 opAa] := by
    refine rise_ext _ _ (hT.tr 1 (by omega)).rise (List.pairwise_cons.2 ⟨fun x hx => ?_, List.pairwise_cons.2 ⟨fun x hx => (by cases hx), List.Pairwise.nil⟩⟩) (fun x => ?_)
    · rw [List.mem_singleton] at hx; subst hx; exact ab_lt
    · rw [hT.mem 1 (by omega)]
      constructor
      · rintro ⟨o, ho, rfl⟩
        rcases List.mem_cons.1 ho with rfl | ho
        · exact List.mem_cons_self
        · rw [List.mem_singleton] at ho; subst ho; exact List.mem_cons_of_mem _ List.mem_cons_self
      · intro hx
        rcases List.mem_cons.1 hx with rfl | hx
        · exact ⟨opAb, List.mem_cons_self, rfl⟩
        · rw [List.mem_singleton] at hx; subst hx; exact ⟨opAa, List.mem_cons_of_mem _ List.mem_cons_self, rfl⟩
  refine ⟨?_, fun o ho => ho, fun i h hi => ?_, fun h => absurd h (by simp), by simp⟩
  · rw [hl]
    refine filter_all (fun x hx => ?_)
    rcases List.mem_cons.1 hx with rfl | hx
    · show (!ltB (wayK 1 opAb) _) = true; rw [b_front]; rfl
    · rw [List.mem_singleton] at hx; subst hx; show (!ltB (wayK 1 opAa) _) = true; rw [a_front]; rfl
  · match i, hi with
    | 0, _ => exact b_under
    | 1, _ => exact a_under
theorem tab_none {n room : Nat} (hf : FullV (readyS0 n room)) : Tab (readyS0 n room) (fun _ => .no) (fun _ => []) :=
  ⟨ready_fm hf, fun i _ => ready_no n room i, fun _ _ _ _ _ b hb => absurd hb (by simp [TrD.pages]), fun _ _ o ho => absurd ho (by simp), fun _ _ => List.Pairwise.nil, fun _ _ x => ⟨fun h => absurd h (by simp [TrD.list]), fun ⟨o, ho, _⟩ => absurd ho (by simp)⟩⟩
theorem needs_dep {Ts : Nat → TrD} {m : Nat} : ∀ k, (∀ i, i < k → depT (Ts i) ≤ m) → needs Ts k ≤ k * (m + 1)
  | 0, _ => by simp [needs]
  | k + 1, h => by
    have h1 := needs_dep k (fun i hi => h i (by omega))
    have h2 := h k (by omega)
    have h3 := need_dep (Ts k)
    show needs Ts k + (Ts k).need ≤ _
    rw [Nat.add_mul]
    omega
structure PutDone (tb p : Nat) (ts : Nat → Nat) (o : OpD) (l : List OpD) (m : Nat) (S : StoreD) (F : Nat → Prop) (w w' : World) (S' : StoreD) (Ts' : Nat → TrD) (F' : Nat → Prop) : Prop where
  at_ : TblAt w' tb p ts F'
  pag : PagerAt w' p F' S'
  keep : Keeps F F' w w'
  tab : Tab S' Ts' (fun _ => o :: l)
  dep : ∀ i, i < 5 → depT (Ts' i) ≤ m + 1
  room : roomS S ≤ roomS S' + 5 * (m + 1)
theorem put_fresh {tb p : Nat} {ts : Nat → Nat} {F : Nat → Prop} {S : StoreD} {Ts : Nat → TrD} {l : List OpD} (o : OpD) (m : Nat) (w : World) (ht : TblAt w tb p ts F) (hp : PagerAt w p F S) (hT : Tab S Ts (fun _ => l)) (ho : opChk o = 0)
    (hno : ∀ x ∈ l, x.id ≠ o.id) (hd : ∀ i, i < 5 → depT (Ts i) ≤ m) (hm : m ≤ 31) (hr : 5 * (m + 1) ≤ roomS S) :
    Calls Tryz.prog 25 #[tp tb, o.val] w fun e w' => e = .returned (.int .i64 0) ∧ ∃ S' Ts' F', PutDone tb p ts o l m S F w w' S' Ts' F' := by
  have hin := OpIn.of ho
  have hid : In64 o.id := by have := hin.id; unfold In64; omega
  have hg : getL l o.id = none := by
    unfold getL
    rw [List.find?_eq_none]
    intro x hx
    have := hno x hx
    simpa using this
  have hn := needs_dep 5 hd
  refine (tblPut_ok o w ht hp ho (fun W F1 h1 h2 => (tblDel_none o.id W h1 h2 hT (by have := hd 0 (by omega); omega) hid hg).mono ?_) hT (fun i _ => hno) (fun i hi => by have := hd i hi; omega) (by omega)).mono ?_
  · rintro e w' ⟨rfl, F', h3, h4, h5⟩
    exact ⟨6, .inr rfl, rfl, F', h3, h4, h5⟩
  · rintro e w' ⟨rfl, S', Ts', F', hk⟩
    refine ⟨rfl, S', Ts', F', hk.at_, hk.pag, hk.keep, hk.tab.congr (fun i _ => rfl) (fun i hi => by rw [if_pos hi]), fun i hi => ?_, by have := hk.room; omega⟩
    obtain ⟨Sa, Sb, hb⟩ := hk.done i hi
    have := putTR_dep hb
    have := hd i hi
    omega
end Go.Proofs.YtojoefcfimmipaaGreat
namespace Go.Proofs.YtojoefcfimmipaaGreat
set_option linter.unusedSimpArgs false
set_option linter.unusedVariables false
open Go.RowKit
theorem sl_built {w : World} {b : Nat} (l : List OpD) (h : Row1 w b 53 (l.flatMap OpD.cells)) (hl : l.length ≤ 100) : Sl w 11 ROp (.slice (some ⟨b, 0, none⟩) l.length l.length) l :=
  OwnL.sl (base := 0) op_len (fun _ => rfl) (OwnL.ofRow (spare := []) (by rw [List.append_nil]; exact h) (Nat.zero_le _) (Nat.le_refl _) (by omega) (by rw [List.append_nil]; exact (flat_len OpD.cells 11 op_len l).symm ▸ rfl) op_len)
theorem sl_three {w : World} {b : Nat} (h : Row1 w b 3 [.int .i64 3]) : Sl w 1 (fun x cs => cs = encN x) (.slice (some ⟨b, 0, none⟩) 1 1) [3] :=
  OwnL.sl (base := 0) (enc := encN) encN_len (fun _ => rfl) (OwnL.ofRow (spare := []) (l := [(3 : Int)]) (enc := encN) h (Nat.zero_le _) (Nat.le_refl _) (by decide) rfl encN_len)
set_option maxRecDepth 100000 in
set_option maxHeartbeats 4000000 in
theorem awake13_any (w : World) : Calls Tryz.prog 32 #[] w fun e w' => e = .returned (.bool true) ∧ Ext w w' := by
  have cB := begun13_any w
  go_enter Tryz.func32, Tryz.ntmps32
  go_upto_region 2 with (go_at_call 36; (with_reducible refine cB.mono ?_); clear cB; rintro e w1 ⟨d, p, tb, ts, F, rfl, ht, hb, hz⟩; have HT := Lib.hid ht; have HB := Lib.hid hb; clear ht hb hz)
  obtain ⟨oa, hoa⟩ : ∃ oa, opAa = oa := ⟨_, rfl⟩
  obtain ⟨ob, hob⟩ : ∃ ob, opAb = ob := ⟨_, rfl⟩
  go_upto_region 4 with fail
  generalize hW4 : World.alloc (World.alloc w1 _) _ = W4
  have HX4 : Hid (Ext w1 W4) := by unfold Hid; rw [← hW4]; exact (Ext.alloc _ _).trans (Ext.alloc _ _)
  have HRA : Hid (Row1 W4 w1.heap.size 53 oa.cells) := by unfold Hid; rw [← hW4, ← hoa]; exact (Row1.made w1 _ opAa.cells).alloc _
  have HRB : Hid (Row1 W4 (w1.heap.size + 1) 53 ob.cells) := by unfold Hid; rw [← hW4, ← hob]; exact Row1.made' (by simp) _ opAb.cells
  have HOA : Hid (opChk oa = 0 ∧ opChk ob = 0 ∧ oa.id ≠ ob.id ∧ ∀ (S : StoreD) (Ts : Nat → TrD), Tab S Ts (fun _ => [ob, oa]) → Finds Ts 1 (bts (keyL [3])) [ob, oa] [ob, oa] 2) := by
    unfold Hid; rw [← hoa, ← hob]; exact ⟨opAa_ok, opAb_ok, by decide, fun S Ts h => awake_finds h⟩
  clear hoa hob hW4
  obtain ⟨F0, hF0⟩ : ∃ F0 : Nat → Prop, (fun i => F i ∧ i < w1.heap.size) = F0 := ⟨_, rfl⟩
  have HF0 : Hid (∀ i, F0 i → i < w1.heap.size ∧ w.heap.size ≤ i) := fun i q => by rw [← hF0] at q; exact ⟨q.2, HB.out.new i q.1⟩
  have HT4 : Hid (TblAt W4 tb p ts F0) := by
    unfold Hid; rw [← hF0]
    exact TblAt.ext (F := fun i => F i ∧ i < w1.heap.size) ⟨HT.out.row, HT.out.tree, fun q => HT.out.out q.1, fun j hj q => HT.out.outs j hj q.1⟩ HX4.out
  have HP4 : Hid (PagerAt W4 p F0 (readyS0 1800 860)) := by
    unfold Hid; rw [← hF0]
    exact PagerAt.ext (F := fun i => F i ∧ i < w1.heap.size) HB.out.pag.shrink HX4.out
  clear hF0
  have HXW : Hid (Ext w W4) := HB.out.ext.trans HX4.out
  clear HT HB
  generalize w1.heap.size = ba at *
  have HS : Hid (∀ (F' : Nat → Prop) (W W' : World), Keeps F0 F' W4 W → Ext W W' → (W'.cell? ⟨ba, 0, none⟩ = some (.int .i64 oa.id) ∧ W'.cell? ⟨ba, 1, none⟩ = some (.int .i64 oa.proc) ∧ W'.cell? ⟨ba, 2, none⟩ = some (.int .i64 oa.object) ∧ W'.cell? ⟨ba, 3, none⟩ = some (.int .i64 oa.kind) ∧ W'.cell? ⟨ba, 4, none⟩ = some (.int .i64 oa.method) ∧ W'.cell? ⟨ba, 5, none⟩ = some (.int .i64 oa.arg) ∧ W'.cell? ⟨ba, 6, none⟩ = some (.int .i64 oa.second) ∧ W'.cell? ⟨ba, 7, none⟩ = some (.bool oa.done) ∧ W'.cell? ⟨ba, 8, none⟩ = some (.int .i64 oa.result) ∧ W'.cell? ⟨ba, 9, none⟩ = some (.int .i64 oa.invoke) ∧ W'.cell? ⟨ba, 10, none⟩ = some (.int .i64 oa.ret)) ∧ (W'.cell? ⟨(ba + 1), 0, none⟩ = some (.int .i64 ob.id) ∧ W'.cell? ⟨(ba + 1), 1, none⟩ = some (.int .i64 ob.proc) ∧ W'.cell? ⟨(ba + 1), 2, none⟩ = some (.int .i64 ob.object) ∧ W'.cell? ⟨(ba + 1), 3, none⟩ = some (.int .i64 ob.kind) ∧ W'.cell? ⟨(ba + 1), 4, none⟩ = some (.int .i64 ob.method) ∧ W'.cell? ⟨(ba + 1), 5, none⟩ = some (.int .i64 ob.arg) ∧ W'.cell? ⟨(ba + 1), 6, none⟩ = some (.int .i64 ob.second) ∧ W'.cell? ⟨(ba + 1), 7, none⟩ = some (.bool ob.done) ∧ W'.cell? ⟨(ba + 1), 8, none⟩ = some (.int .i64 ob.result) ∧ W'.cell? ⟨(ba + 1), 9, none⟩ = some (.int .i64 ob.invoke) ∧ W'.cell? ⟨(ba + 1), 10, none⟩ = some (.int .i64 ob.ret))) := fun F' W W' hk hx => by
    have r1 := hk.only.row HRA.out (fun q => by have := (HF0.out _ q).1; omega)
    have r2 := hk.only.row HRB.out (fun q => by have := (HF0.out _ q).1; omega)
    exact ⟨At11.row (r1.ext hx r1.lt), At11.row (r2.ext hx r2.lt)⟩
  have HFIN : Hid (∀ (F' : Nat → Prop) (W W' : World), Keeps F0 F' W4 W → Ext W W' → Ext w W') := fun F' W W' hk hx => (hk.fresh HXW.out (fun i q => (HF0.out i q).2)).1.trans hx
  have cP1 : Hid (∀ W, Ext W4 W → Calls Tryz.prog 25 #[.pointer (some ⟨tb, 0, none⟩), .agg #[.int .i64 oa.id, .int .i64 oa.proc, .int .i64 oa.object, .int .i64 oa.kind, .int .i64 oa.method, .int .i64 oa.arg, .int .i64 oa.second, .bool oa.done, .int .i64 oa.result, .int .i64 oa.invoke, .int .i64 oa.ret]] W fun e w' => e = .returned (.int .i64 0) ∧ ∃ S1 Ts1 F1, PutDone tb p ts oa [] 0 (readyS0 1800 860) F0 W4 w' S1 Ts1 F1) := fun W hW => by
    have hr : roomS (readyS0 1800 860) = 936 := ready_room 1800 860
    refine (put_fresh oa 0 W (HT4.out.ext hW) (HP4.out.ext hW) (tab_none HP4.out.full) HOA.out.1 (fun x hx => by cases hx) (fun i _ => Nat.le_refl _) (by omega) (by omega)).mono ?_
    rintro e w' ⟨rfl, S1, Ts1, F1, h⟩
    exact ⟨rfl, S1, Ts1, F1, h.at_, h.pag, (Keeps.of hW).trans h.keep, h.tab, h.dep, h.room⟩
  have cP2 : Hid (∀ (S1 : StoreD) (Ts1 : Nat → TrD) (F1 : Nat → Prop) (w5 W : World), PutDone tb p ts oa [] 0 (readyS0 1800 860) F0 W4 w5 S1 Ts1 F1 → Ext w5 W → Calls Tryz.prog 25 #[.pointer (some ⟨tb, 0, none⟩), .agg #[.int .i64 ob.id, .int .i64 ob.proc, .int .i64 ob.object, .int .i64 ob.kind, .int .i64 ob.method, .int .i64 ob.arg, .int .i64 ob.second, .bool ob.done, .int .i64 ob.result, .int .i64 ob.invoke, .int .i64 ob.ret]] W fun e w' => e = .returned (.int .i64 0) ∧
      ∃ S2 Ts2 F2, TblAt w' tb p ts F2 ∧ PagerAt w' p F2 S2 ∧ Tab S2 Ts2 (fun _ => [ob, oa]) ∧ (∀ i, i < 5 → depT (Ts2 i) ≤ 31) ∧ Keeps F0 F2 W4 w' ∧ ∀ i, F2 i → i < w'.heap.size) := fun S1 Ts1 F1 w5 W h hW => by
    have hr : roomS (readyS0 1800 860) = 936 := ready_room 1800 860
    have hr1 := h.room
    refine (put_fresh ob 1 W (h.at_.ext hW) (h.pag.ext hW) h.tab HOA.out.2.1 (fun x hx => by rw [List.mem_singleton] at hx; subst hx; exact HOA.out.2.2.1) h.dep (by omega) (by omega)).mono ?_
    rintro e w' ⟨rfl, S2, Ts2, F2, k⟩
    refine ⟨rfl, S2, Ts2, fun i => F2 i ∧ i < w'.heap.size, ⟨k.at_.row, k.at_.tree, fun q => k.at_.out q.1, fun j hj q => k.at_.outs j hj q.1⟩, k.pag.shrink, k.tab, fun i hi => by have := k.dep i hi; omega, (h.keep.trans ((Keeps.of hW).trans k.keep)).shrink, fun i q => q.2⟩
  have cF : Hid (∀ (S2 : StoreD) (Ts2 : Nat → TrD) (F2 : Nat → Prop) (w6 W : World) (B : Nat), TblAt w6 tb p ts F2 → PagerAt w6 p F2 S2 → Tab S2 Ts2 (fun _ => [ob, oa]) → (∀ i, i < 5 → depT (Ts2 i) ≤ 31) → Ext w6 W → Row1 W B 3 [.int .i64 3] →
      Calls Tryz.prog 30 #[.pointer (some ⟨tb, 0, none⟩), .int .i64 1, .slice (some ⟨B, 0, none⟩) 1 1, .int .i64 9] W fun e w' => ∃ A c F3, e = .returned (.slice A 2 c) ∧ OwnL w' 0 53 11 OpD.cells (.slice A 2 c) [ob, oa] ∧ Keeps F2 F3 W w') := fun S2 Ts2 F2 w6 W B h1 h2 h3 h4 hx hr => by
    refine (found13_any 1 9 [3] W (h1.ext hx) (h2.ext hx) h3 h4 (by omega) (sl_three hr) (fun x q => by rw [List.mem_singleton] at q; subst q; unfold In64; omega) (by simp) (HOA.out.2.2.2 S2 Ts2 h3) (by simp) (by omega)).mono ?_
    rintro e w' ⟨A', c', j, F3, rfl, ho, hj1, hj2, hj3, _, _, hk⟩
    obtain rfl : j = 2 := by omega
    exact ⟨A', c', F3, rfl, ho, hk⟩
  have cO : Hid (∀ (V U : Value) (W : World), Sl W 11 ROp V [ob, oa] → Sl W 11 ROp U [ob, oa] → Calls Tryz.prog 39 #[V, U] W fun e w' => e = .returned (.bool true) ∧ Ext W w') := fun V U W h1 h2 => ops_same V U _ W h1 h2
  have HSO : Hid (∀ (W : World) (V : Value), OwnL W 0 53 11 OpD.cells V [ob, oa] → Sl W 11 ROp V [ob, oa]) := fun W V h => h.sl op_len (fun _ => rfl)
  have HSB : Hid (∀ (W : World) (B : Nat), Row1 W B 53 [.int .i64 ob.id, .int .i64 ob.proc, .int .i64 ob.object, .int .i64 ob.kind, .int .i64 ob.method, .int .i64 ob.arg, .int .i64 ob.second, .bool ob.done, .int .i64 ob.result, .int .i64 ob.invoke, .int .i64 ob.ret, .int .i64 oa.id, .int .i64 oa.proc, .int .i64 oa.object, .int .i64 oa.kind, .int .i64 oa.method, .int .i64 oa.arg, .int .i64 oa.second, .bool oa.done, .int .i64 oa.result, .int .i64 oa.invoke, .int .i64 oa.ret] → Sl W 11 ROp (.slice (some ⟨B, 0, none⟩) 2 2) [ob, oa]) := fun W B h => sl_built [ob, oa] h (by simp)
  clear HX4 HRA HRB HOA HT4 HP4 HXW
  refine wp_region_held_drew (S := fun W => (W.cell? ⟨ba, 0, none⟩ = some (.int .i64 oa.id) ∧ W.cell? ⟨ba, 1, none⟩ = some (.int .i64 oa.proc) ∧ W.cell? ⟨ba, 2, none⟩ = some (.int .i64 oa.object) ∧ W.cell? ⟨ba, 3, none⟩ = some (.int .i64 oa.kind) ∧ W.cell? ⟨ba, 4, none⟩ = some (.int .i64 oa.method) ∧ W.cell? ⟨ba, 5, none⟩ = some (.int .i64 oa.arg) ∧ W.cell? ⟨ba, 6, none⟩ = some (.int .i64 oa.second) ∧ W.cell? ⟨ba, 7, none⟩ = some (.bool oa.done) ∧ W.cell? ⟨ba, 8, none⟩ = some (.int .i64 oa.result) ∧ W.cell? ⟨ba, 9, none⟩ = some (.int .i64 oa.invoke) ∧ W.cell? ⟨ba, 10, none⟩ = some (.int .i64 oa.ret)) ∧ (W.cell? ⟨(ba + 1), 0, none⟩ = some (.int .i64 ob.id) ∧ W.cell? ⟨(ba + 1), 1, none⟩ = some (.int .i64 ob.proc) ∧ W.cell? ⟨(ba + 1), 2, none⟩ = some (.int .i64 ob.object) ∧ W.cell? ⟨(ba + 1), 3, none⟩ = some (.int .i64 ob.kind) ∧ W.cell? ⟨(ba + 1), 4, none⟩ = some (.int .i64 ob.method) ∧ W.cell? ⟨(ba + 1), 5, none⟩ = some (.int .i64 ob.arg) ∧ W.cell? ⟨(ba + 1), 6, none⟩ = some (.int .i64 ob.second) ∧ W.cell? ⟨(ba + 1), 7, none⟩ = some (.bool ob.done) ∧ W.cell? ⟨(ba + 1), 8, none⟩ = some (.int .i64 ob.result) ∧ W.cell? ⟨(ba + 1), 9, none⟩ = some (.int .i64 ob.invoke) ∧ W.cell? ⟨(ba + 1), 10, none⟩ = some (.int .i64 ob.ret))) (by kernel_rfl) (HS.out _ _ _ Keeps.refl (by (repeat' (with_reducible first | exact Below.refl _ _ | refine Ext.drewN ?_ _ | refine Below.drew ?_ | refine Below.setCell ?_ ?_ _ | refine Below.alloc ?_ ?_ _)) <;> (first | omega | (simp; done) | (simp; omega)))) (fun hHeld => ?_)
  refine' tk 0 ?_; (try simp only [Act.put, List.setIfInBounds_toArray, List.set_cons_zero, List.set_cons_succ])
  refine' tk 1 ?_; (try simp only [Act.put, List.setIfInBounds_toArray, List.set_cons_zero, List.set_cons_succ])
  refine stp 2 (fun K hK => ?_); go_simp
  (with_reducible refine (cP1.out _ ?_).mono ?_)
  · (repeat' (with_reducible first | exact Below.refl _ _ | refine Ext.drewN ?_ _ | refine Below.drew ?_ | refine Below.setCell ?_ ?_ _ | refine Below.alloc ?_ ?_ _)) <;> (first | omega | (simp; done) | (simp; omega))
  rintro e w5 ⟨rfl, S1, Ts1, F1, hd1⟩
  have HD1 := Lib.hid hd1
  clear hd1
  (try dsimp only)
  (try go_simp)
  refine hK.out _ _ (HS.out _ _ _ HD1.out.keep (Ext.refl _)) (fun hHeld => ?_)
  clear hK K
  (try simp only [Act.put, List.setIfInBounds_toArray, List.set_cons_zero, List.set_cons_succ])
  refine' tk 3 ?_; (try simp only [Act.put, List.setIfInBounds_toArray, List.set_cons_zero, List.set_cons_succ])
  refine' tk 4 ?_; (try simp only [Act.put, List.setIfInBounds_toArray, List.set_cons_zero, List.set_cons_succ])
  refine' tk 5 ?_; (try simp only [Act.put, List.setIfInBounds_toArray, List.set_cons_zero, List.set_cons_succ])
  refine' tk 6 ?_; (try simp only [Act.put, List.setIfInBounds_toArray, List.set_cons_zero, List.set_cons_succ])
  refine stp 7 (fun K hK => ?_); go_simp
  (with_reducible refine (cP2.out _ _ _ _ _ HD1.out ?_).mono ?_)
  · (repeat' (with_reducible first | exact Below.refl _ _ | refine Ext.drewN ?_ _ | refine Below.drew ?_ | refine Below.setCell ?_ ?_ _ | refine Below.alloc ?_ ?_ _)) <;> (first | omega | (simp; done) | (simp; omega))
  rintro e w6 ⟨rfl, S2, Ts2, F2, h1, h2, h3, h4, h5, h6⟩
  have HD2 : Hid (TblAt w6 tb p ts F2 ∧ PagerAt w6 p F2 S2 ∧ Tab S2 Ts2 (fun _ => [ob, oa]) ∧ (∀ i, i < 5 → depT (Ts2 i) ≤ 31)) := ⟨h1, h2, h3, h4⟩
  have HK6 := Lib.hid h5
  have HF6 := Lib.hid h6
  clear h1 h2 h3 h4 h5 h6
  (try dsimp only)
  (try go_simp)
  refine hK.out _ _ (HS.out _ _ _ HK6.out (Ext.refl _)) (fun hHeld => ?_)
  clear hK K
  (try simp only [Act.put, List.setIfInBounds_toArray, List.set_cons_zero, List.set_cons_succ])
  refine' tk 8 ?_; (try simp only [Act.put, List.setIfInBounds_toArray, List.set_cons_zero, List.set_cons_succ])
  refine' tk 9 ?_; (try simp only [Act.put, List.setIfInBounds_toArray, List.set_cons_zero, List.set_cons_succ])
  refine' tk 10 ?_; (try simp only [Act.put, List.setIfInBounds_toArray, List.set_cons_zero, List.set_cons_succ])
  refine' tk 11 ?_; (try simp only [Act.put, List.setIfInBounds_toArray, List.set_cons_zero, List.set_cons_succ])
  refine' tk 14 ?_; (try simp only [Act.put, List.setIfInBounds_toArray, List.set_cons_zero, List.set_cons_succ])
  refine' tk 15 ?_; (try simp only [Act.put, List.setIfInBounds_toArray, List.set_cons_zero, List.set_cons_succ])
  refine wpAnyH_ready (rs := [12, 16]) (by kernel_rfl) (by simp) ?_; refine AllReadyH.cons rfl (fun K hK => ?_) (AllReadyH.cons rfl (fun K hK => ?_) (AllReadyH.nil))
  · go_simp
    generalize hw7 : World.alloc _ _ = w7
    have HX7 : Hid (Ext w6 w7 ∧ Row1 w7 w6.heap.size 3 [.int .i64 3]) := by unfold Hid; rw [← hw7]; exact ⟨Ext.alloc _ _, Row1.made w6 _ [.int .i64 3]⟩
    clear hw7
    refine hK.out _ _ (HS.out _ _ _ HK6.out HX7.out.1) (fun hHeld => ?_)
    clear hK K
    (try simp only [Act.put, List.setIfInBounds_toArray, List.set_cons_zero, List.set_cons_succ])
    refine wpAnyH_ready (rs := [13, 16]) (by kernel_rfl) (by simp) ?_; refine AllReadyH.cons rfl (fun K hK => ?_) (AllReadyH.cons rfl (fun K hK => ?_) (AllReadyH.nil))
    · go_simp
      (with_reducible refine (cF.out _ _ _ _ _ _ HD2.out.1 HD2.out.2.1 HD2.out.2.2.1 HD2.out.2.2.2 HX7.out.1 HX7.out.2).mono ?_)
      rintro e w8 ⟨A8, c8, F8, rfl, ho8, hk8⟩
      have HO8 := Lib.hid ho8
      have HK8 : Hid (Keeps F0 F8 W4 w8) := (HK6.out.ext HX7.out.1).trans hk8
      clear ho8 hk8
      (try dsimp only)
      (try go_simp)
      refine hK.out _ _ (HS.out _ _ _ HK8.out (Ext.refl _)) (fun hHeld => ?_)
      clear hK K
      (try simp only [Act.put, List.setIfInBounds_toArray, List.set_cons_zero, List.set_cons_succ])
      refine stp 16 (fun K hK => ?_); go_simp
      generalize hw9 : World.alloc _ _ = w9
      have HX9 : Hid (Ext w8 w9 ∧ Row1 w9 w8.heap.size 53 [.int .i64 ob.id, .int .i64 ob.proc, .int .i64 ob.object, .int .i64 ob.kind, .int .i64 ob.method, .int .i64 ob.arg, .int .i64 ob.second, .bool ob.done, .int .i64 ob.result, .int .i64 ob.invoke, .int .i64 ob.ret, .int .i64 oa.id, .int .i64 oa.proc, .int .i64 oa.object, .int .i64 oa.kind, .int .i64 oa.method, .int .i64 oa.arg, .int .i64 oa.second, .bool oa.done, .int .i64 oa.result, .int .i64 oa.invoke, .int .i64 oa.ret]) := by unfold Hid; rw [← hw9]; exact ⟨Ext.alloc _ _, Row1.made w8 _ _⟩
      clear hw9
      refine hK.out _ _ (HS.out _ _ _ HK8.out HX9.out.1) (fun hHeld => ?_)
      clear hK K
      (try simp only [Act.put, List.setIfInBounds_toArray, List.set_cons_zero, List.set_cons_succ])
      refine stp 17 (fun K hK => ?_); go_simp
      (with_reducible refine (cO.out _ _ _ (HSO.out _ _ (HO8.out.ext HX9.out.1)) (HSB.out _ _ HX9.out.2)).mono ?_)
      rintro e w10 ⟨rfl, hx10⟩
      have HE : Hid (Keeps F0 F8 W4 w8 ∧ Ext w8 w10) := ⟨HK8.out, HX9.out.1.trans hx10⟩
      clear hx10
      (try dsimp only)
      (try go_simp)
      refine hK.out _ _ (HS.out _ _ _ HE.out.1 HE.out.2) (fun hHeld => ?_)
      clear hK K
      (try simp only [Act.put, List.setIfInBounds_toArray, List.set_cons_zero, List.set_cons_succ])
      refine' tk 18 ?_; (try simp only [Act.put, List.setIfInBounds_toArray, List.set_cons_zero, List.set_cons_succ])
      refine' tk 19 ?_; (try simp only [Act.put, List.setIfInBounds_toArray, List.set_cons_zero, List.set_cons_succ])
      refine wpAnyH_done (by kernel_rfl) ?_ _
      go_wp2_with fail
      go_ret
      exact ⟨rfl, HFIN.out _ _ _ HE.out.1 HE.out.2⟩
    · go_simp
      generalize hw8 : World.alloc _ _ = w8
      have HX8 : Hid (Ext w7 w8 ∧ Row1 w8 w7.heap.size 53 [.int .i64 ob.id, .int .i64 ob.proc, .int .i64 ob.object, .int .i64 ob.kind, .int .i64 ob.method, .int .i64 ob.arg, .int .i64 ob.second, .bool ob.done, .int .i64 ob.result, .int .i64 ob.invoke, .int .i64 ob.ret, .int .i64 oa.id, .int .i64 oa.proc, .int .i64 oa.object, .int .i64 oa.kind, .int .i64 oa.method, .int .i64 oa.arg, .int .i64 oa.second, .bool oa.done, .int .i64 oa.result, .int .i64 oa.invoke, .int .i64 oa.ret]) := by unfold Hid; rw [← hw8]; exact ⟨Ext.alloc _ _, Row1.made w7 _ _⟩
      have HG8 : Hid (Ext w6 w8 ∧ Row1 w8 w6.heap.size 3 [.int .i64 3]) := ⟨HX7.out.1.trans HX8.out.1, HX7.out.2.ext HX8.out.1 HX7.out.2.lt⟩
      have HN8 : Hid (¬ F2 w7.heap.size) := fun q => by have := HF6.out _ q; have := HX7.out.1.size; omega
      clear hw8
      refine hK.out _ _ (HS.out _ _ _ HK6.out HG8.out.1) (fun hHeld => ?_)
      clear hK K
      (try simp only [Act.put, List.setIfInBounds_toArray, List.set_cons_zero, List.set_cons_succ])
      refine stp 13 (fun K hK => ?_); go_simp
      (with_reducible refine (cF.out _ _ _ _ _ _ HD2.out.1 HD2.out.2.1 HD2.out.2.2.1 HD2.out.2.2.2 HG8.out.1 HG8.out.2).mono ?_)
      rintro e w9 ⟨A9, c9, F9, rfl, ho9, hk9⟩
      have HO9 := Lib.hid ho9
      have HR9 : Hid (Row1 w9 w7.heap.size 53 [.int .i64 ob.id, .int .i64 ob.proc, .int .i64 ob.object, .int .i64 ob.kind, .int .i64 ob.method, .int .i64 ob.arg, .int .i64 ob.second, .bool ob.done, .int .i64 ob.result, .int .i64 ob.invoke, .int .i64 ob.ret, .int .i64 oa.id, .int .i64 oa.proc, .int .i64 oa.object, .int .i64 oa.kind, .int .i64 oa.method, .int .i64 oa.arg, .int .i64 oa.second, .bool oa.done, .int .i64 oa.result, .int .i64 oa.invoke, .int .i64 oa.ret]) := hk9.only.row HX8.out.2 HN8.out
      have HK9 : Hid (Keeps F0 F9 W4 w9) := (HK6.out.ext HG8.out.1).trans hk9
      clear ho9 hk9
      (try dsimp only)
      (try go_simp)
      refine hK.out _ _ (HS.out _ _ _ HK9.out (Ext.refl _)) (fun hHeld => ?_)
      clear hK K
      (try simp only [Act.put, List.setIfInBounds_toArray, List.set_cons_zero, List.set_cons_succ])
      refine stp 17 (fun K hK => ?_); go_simp
      (with_reducible refine (cO.out _ _ _ (HSO.out _ _ HO9.out) (HSB.out _ _ HR9.out)).mono ?_)
      rintro e w10 ⟨rfl, hx10⟩
      have HE : Hid (Keeps F0 F9 W4 w9 ∧ Ext w9 w10) := ⟨HK9.out, hx10⟩
      clear hx10
      (try dsimp only)
      (try go_simp)
      refine hK.out _ _ (HS.out _ _ _ HE.out.1 HE.out.2) (fun hHeld => ?_)
      clear hK K
      (try simp only [Act.put, List.setIfInBounds_toArray, List.set_cons_zero, List.set_cons_succ])
      refine' tk 18 ?_; (try simp only [Act.put, List.setIfInBounds_toArray, List.set_cons_zero, List.set_cons_succ])
      refine' tk 19 ?_; (try simp only [Act.put, List.setIfInBounds_toArray, List.set_cons_zero, List.set_cons_succ])
      refine wpAnyH_done (by kernel_rfl) ?_ _
      go_wp2_with fail
      go_ret
      exact ⟨rfl, HFIN.out _ _ _ HE.out.1 HE.out.2⟩
  · go_simp
    generalize hw7 : World.alloc _ _ = w7
    have HX7 : Hid (Ext w6 w7 ∧ Row1 w7 w6.heap.size 53 [.int .i64 ob.id, .int .i64 ob.proc, .int .i64 ob.object, .int .i64 ob.kind, .int .i64 ob.method, .int .i64 ob.arg, .int .i64 ob.second, .bool ob.done, .int .i64 ob.result, .int .i64 ob.invoke, .int .i64 ob.ret, .int .i64 oa.id, .int .i64 oa.proc, .int .i64 oa.object, .int .i64 oa.kind, .int .i64 oa.method, .int .i64 oa.arg, .int .i64 oa.second, .bool oa.done, .int .i64 oa.result, .int .i64 oa.invoke, .int .i64 oa.ret]) := by unfold Hid; rw [← hw7]; exact ⟨Ext.alloc _ _, Row1.made w6 _ _⟩
    have HN7 : Hid (¬ F2 w6.heap.size) := fun q => by have := HF6.out _ q; omega
    clear hw7
    refine hK.out _ _ (HS.out _ _ _ HK6.out HX7.out.1) (fun hHeld => ?_)
    clear hK K
    (try simp only [Act.put, List.setIfInBounds_toArray, List.set_cons_zero, List.set_cons_succ])
    refine stp 12 (fun K hK => ?_); go_simp
    generalize hw8 : World.alloc _ _ = w8
    have HX8 : Hid (Ext w6 w8 ∧ Row1 w8 w7.heap.size 3 [.int .i64 3]) := by unfold Hid; rw [← hw8]; exact ⟨HX7.out.1.trans (Ext.alloc _ _), Row1.made w7 _ [.int .i64 3]⟩
    have HR8 : Hid (Row1 w8 w6.heap.size 53 [.int .i64 ob.id, .int .i64 ob.proc, .int .i64 ob.object, .int .i64 ob.kind, .int .i64 ob.method, .int .i64 ob.arg, .int .i64 ob.second, .bool ob.done, .int .i64 ob.result, .int .i64 ob.invoke, .int .i64 ob.ret, .int .i64 oa.id, .int .i64 oa.proc, .int .i64 oa.object, .int .i64 oa.kind, .int .i64 oa.method, .int .i64 oa.arg, .int .i64 oa.second, .bool oa.done, .int .i64 oa.result, .int .i64 oa.invoke, .int .i64 oa.ret]) := by unfold Hid; rw [← hw8]; exact HX7.out.2.alloc _
    clear hw8
    refine hK.out _ _ (HS.out _ _ _ HK6.out HX8.out.1) (fun hHeld => ?_)
    clear hK K
    (try simp only [Act.put, List.setIfInBounds_toArray, List.set_cons_zero, List.set_cons_succ])
    refine stp 13 (fun K hK => ?_); go_simp
    (with_reducible refine (cF.out _ _ _ _ _ _ HD2.out.1 HD2.out.2.1 HD2.out.2.2.1 HD2.out.2.2.2 HX8.out.1 HX8.out.2).mono ?_)
    rintro e w9 ⟨A9, c9, F9, rfl, ho9, hk9⟩
    have HO9 := Lib.hid ho9
    have HR9 : Hid (Row1 w9 w6.heap.size 53 [.int .i64 ob.id, .int .i64 ob.proc, .int .i64 ob.object, .int .i64 ob.kind, .int .i64 ob.method, .int .i64 ob.arg, .int .i64 ob.second, .bool ob.done, .int .i64 ob.result, .int .i64 ob.invoke, .int .i64 ob.ret, .int .i64 oa.id, .int .i64 oa.proc, .int .i64 oa.object, .int .i64 oa.kind, .int .i64 oa.method, .int .i64 oa.arg, .int .i64 oa.second, .bool oa.done, .int .i64 oa.result, .int .i64 oa.invoke, .int .i64 oa.ret]) := hk9.only.row HR8.out HN7.out
    have HK9 : Hid (Keeps F0 F9 W4 w9) := (HK6.out.ext HX8.out.1).trans hk9
    clear ho9 hk9
    (try dsimp only)
    (try go_simp)
    refine hK.out _ _ (HS.out _ _ _ HK9.out (Ext.refl _)) (fun hHeld => ?_)
    clear hK K
    (try simp only [Act.put, List.setIfInBounds_toArray, List.set_cons_zero, List.set_cons_succ])
    refine stp 17 (fun K hK => ?_); go_simp
    (with_reducible refine (cO.out _ _ _ (HSO.out _ _ HO9.out) (HSB.out _ _ HR9.out)).mono ?_)
    rintro e w10 ⟨rfl, hx10⟩
    have HE : Hid (Keeps F0 F9 W4 w9 ∧ Ext w9 w10) := ⟨HK9.out, hx10⟩
    clear hx10
    (try dsimp only)
    (try go_simp)
    refine hK.out _ _ (HS.out _ _ _ HE.out.1 HE.out.2) (fun hHeld => ?_)
    clear hK K
    (try simp only [Act.put, List.setIfInBounds_toArray, List.set_cons_zero, List.set_cons_succ])
    refine' tk 18 ?_; (try simp only [Act.put, List.setIfInBounds_toArray, List.set_cons_zero, List.set_cons_succ])
    refine' tk 19 ?_; (try simp only [Act.put, List.setIfInBounds_toArray, List.set_cons_zero, List.set_cons_succ])
    refine wpAnyH_done (by kernel_rfl) ?_ _
    go_wp2_with fail
    go_ret
    exact ⟨rfl, HFIN.out _ _ _ HE.out.1 HE.out.2⟩
end Go.Proofs.YtojoefcfimmipaaGreat
