/- find.Sorted: operations in a query's order, cut at its limit. Conditions: fewer than 10^8 operations. -/
import Derived.Test.YtcilkdohpcmbgaaSorted2
import Derived.Test.YtcilkdohpcmbgaaLaidO
import Derived.Shelf.SlSortCmp.NoneTotal
import Derived.Laws.Cover3
namespace Go.Proofs.Ytcilkdohpcmbgaa
set_option linter.unusedSimpArgs false
set_option linter.unusedVariables false
open Go.RowKit Go.Sort Go.Shelf Go.Proofs

theorem run_eql_slice_nil {P : Program} (w : World) (t e : TypeId) (a : Option Addr) (l c : Nat) (h : P.underlying t = some (.slice e)) : (binOp .eql t (.slice a l c) (.slice none 0 0)).run P w = .ok (.bool a.isNone) w := by
  simp only [binOp]
  simp [run_equal_slice_nil w t e a l c h]
instance : Inhabited OpD := ⟨opZero⟩
theorem Try.isAggO : ∀ w, (isAgg (Try.laysSortO_ren.t 24)).run Try.prog w = .ok true w := fun w => by kernel_rfl
theorem Try.sizeOfO : ∀ w, (Go.sizeOf (Try.laysSortO_ren.t 24)).run Try.prog w = .ok 11 w := fun w => by kernel_rfl

theorem sortOps_any (v : Value) (l : List OpD) (base : Nat) (w : World) (h : OwnL w base 58 11 OpD.cells v l) (hn : l.length ≤ 1000000000) (qb : Nat) (ord : ByteArray) (down : Bool) (hq : qb < base) (h5 : w.cell? ⟨qb, 5, none⟩ = some (.string ord)) (h6 : w.cell? ⟨qb, 6, none⟩ = some (.bool down)) :
    Calls Try.prog 46 #[v, .func (.func 47) #[] #[.pointer (some ⟨qb, 0, none⟩)]] w fun e w' => e = .returned (.tuple #[]) ∧ (∃ l' : List OpD, l'.Perm l ∧ l'.Pairwise (fun a b => aheadB ord down b a = false) ∧ Sl w' 11 ROp v l') ∧ w.grownBy w' v.ownBlock := by
  have h' : w.ownsRow base 58 11 v l.length (l.flatMap OpD.cells) := h
  obtain ⟨A, c, rfl, hc1, hc2, hx⟩ := own_form h'
  by_cases h0 : l.length = 0
  · obtain rfl : l = [] := List.eq_nil_of_length_eq_zero h0
    have hcon := AnyF.slices_SortFunc_none Try.laysSortO A c (.func (.func 47) #[] #[.pointer (some ⟨qb, 0, none⟩)]) w
    change Calls Try.prog 46 _ _ _ at hcon
    refine hcon.mono ?_
    rintro e w' ⟨rfl, rfl⟩
    exact ⟨rfl, ⟨[], List.Perm.refl _, List.Pairwise.nil, ⟨A, c, rfl, by simp, by simpa [maxLen] using hc2, fun h => absurd h (by simp)⟩⟩, World.grownBy.refl _ _⟩
  · obtain ⟨g, rfl, hgb, hgl, _, _⟩ := hx (by omega)
    have eg : ∀ args w, (callFunc 47 args).run Try.prog w = .ok (.enter 47 args) w := enters_of Try.func47 (by kernel_rfl) rfl
    have hH := holdsK_of_own (enc := OpD.cells) (k := 11) (fun _ => rfl) h'
    have hcmp : CmpLays Try.prog 47 #[.pointer (some ⟨qb, 0, none⟩)] OpD.cells 11 (cmpO ord down) g 0 l.toArray.size w := by
      intro m os dk _ x y
      have hg := grownBy_sortK (w := w) (g := g) (m := m) (os := os) (k := 11) (enc := OpD.cells) dk
      have hb := hg.block qb (by have := World.block_lt_of_cell? _ _ h5; simpa using this) (by intro e; injection e with e; omega)
      exact sortedClo_any x y qb ord down _ ((World.cell?_of_block (w := w) hb).trans h5) ((World.cell?_of_block (w := w) hb).trans h6)
    have hcon := AnyQ.slices_SortFunc Try.laysSortO 11 Try.isAggO Try.sizeOfO OpD.cells (fun _ => rfl) (fun x v hv => op_one x v hv) (cmpO ord down) (swoO ord down) 47 #[.pointer (some ⟨qb, 0, none⟩)] g 0 c l.toArray w eg hcmp hH hgl (by simp; omega)
    change Calls Try.prog 46 _ _ _ at hcon
    simp only [List.size_toArray] at hcon
    refine hcon.mono ?_
    rintro e w' ⟨rfl, d', n, os, hp, hs, rfl⟩
    have hds : d'.size = l.length := by have := hp.1; simpa using this
    refine ⟨rfl, ⟨d'.toList, by simpa using permIn_perm (d := l.toArray) (by simpa using hp), ?_, ?_⟩, grownBy_sortK d'⟩
    · refine (sortedIn_pairwise hds.symm hs).imp fun {a b} h => ?_
      rw [ltO] at h
      exact h
    · exact sl_of_holdsK (enc := OpD.cells) (k := 11) (R := ROp) (fun _ => rfl) (fun _ => rfl) (holdsK_sortWorldK_c OpD.cells 11 w g 0 l.toArray d' n os hH hgl (by simpa using hds)) hds.symm hc1 (by simpa [maxLen] using hc2) (by simp [sortWorldK, putRowK, putRow, mapBlock, grow, Sort.ahead]; omega)

set_option maxRecDepth 100000 in
set_option maxHeartbeats 800000 in
theorem opsClone_any (V : Value) (l : List OpD) (w : World) (hs : Sl w 11 ROp V l) (hn : l.length ≤ 1000000000) :
    Calls Try.prog 45 #[V] w fun e w' => (∃ v, e = .returned v ∧ OwnL w' w.heap.size 58 11 OpD.cells v l) ∧ Ext w w' := by
  obtain ⟨A, c, rfl⟩ := hs.form
  have HS := Lib.hid hs
  have hnn := fun (a : Option Addr) (l c : Nat) (w : World) => run_eql_slice_nil (P := Try.prog) w 33 58 a l c Try.underlying33
  obtain ⟨_, hc1, hc2, hA⟩ := hs.at
  cases A with
  | none =>
    obtain rfl : l = [] := by
      rcases Nat.eq_zero_or_pos l.length with e | e
      · exact List.eq_nil_of_length_eq_zero e
      · obtain ⟨_, _, h, _⟩ := hA e
        cases h
    clear hs hA
    go_enter Try.func45, Try.ntmps45
    go_wp2_with fail
    go_ret
    exact ⟨⟨_, rfl, OwnL.nil _ _ _ _ _⟩, by (repeat' (with_reducible first | exact Below.refl _ _ | refine Ext.drewN ?_ _ | refine Below.drew ?_ | refine Below.setCell ?_ ?_ _ | refine Below.alloc ?_ ?_ _)) <;> (first | omega | (simp; done) | (simp; omega))⟩
  | some ad =>
    clear hs hA
    go_enter Try.func45, Try.ntmps45
    go_wp2_with (at_builtin; go_loud (refine wpList_more elOp op_len op_one rfl (.tmp 5) (.tmp 6) rfl _ [] rfl (OwnL.made _ _ _ _) (by first | (simp; done) | (simp; omega) | omega) _ _ _ l rfl rfl ?la2 (by simpa using hn) (by decide) ?_))
    case la2 => exact Src.sl op_len (by decide) (fun _ _ h => h) (HS.out.ext (by (repeat' (with_reducible first | exact Below.refl _ _ | refine Ext.drewN ?_ _ | refine Below.drew ?_ | refine Below.setCell ?_ ?_ _ | refine Below.alloc ?_ ?_ _)) <;> (first | omega | (simp; done) | (simp; omega))))
    intro pA pc wp hp1 hgp
    have X1 := Lib.hid ((OwnL.made w 58 11 OpD.cells).grown (a := w) (by (repeat' (with_reducible first | exact Below.refl _ _ | refine Ext.drewN ?_ _ | refine Below.drew ?_ | refine Below.setCell ?_ ?_ _ | refine Below.alloc ?_ ?_ _)) <;> (first | omega | (simp; done) | (simp; omega))) hgp (by simp))
    have O1 := Lib.hid hp1
    clear hp1 hgp
    go_wp2_with fail
    go_ret
    exact ⟨⟨_, rfl, O1.out⟩, X1.out⟩
set_option maxRecDepth 100000 in
set_option maxHeartbeats 2000000 in
theorem findSorted_any (V : Value) (l : List OpD) (nk : Int) (nA : Option Addr) (nm nc : Nat) (nf ns : ByteArray) (nv : Int) (ord : ByteArray) (down : Bool) (limit : Int) (count : Bool) (w : World) (hs : Sl w 11 ROp V l) (hn : l.length ≤ 1000000000) (hlim : -9223372036854775808 ≤ limit ∧ limit ≤ 9223372036854775807) :
    Calls Try.prog 24 #[V, .agg #[.int .i64 nk, .slice nA nm nc, .string nf, .string ns, .int .i64 nv, .string ord, .bool down, .int .i64 limit, .bool count]] w fun e w' =>
      (∃ l' v, e = .returned v ∧ Sl w' 11 ROp v (cutL limit l') ∧ l'.Perm l ∧ l'.Pairwise (fun a b => aheadB ord down b a = false)) ∧ Ext w w' := by
  obtain ⟨A, c, rfl⟩ := hs.form
  have HS := Lib.hid hs
  clear hs
  have hmf : ∀ (fn : Fn) (first cap : Array Value) (w : World), (Instr.makeFunc fn first cap).run Try.prog w = .ok (.func fn first cap) w := fun _ _ _ _ => rfl
  have HBOX : Hid (∀ W : World, Ext (w.alloc (.cells #[.int .i64 nk, .slice nA nm nc, .string nf, .string ns, .int .i64 nv, .string ord, .bool down, .int .i64 limit, .bool count] 55)) W →
      W.cell? ⟨w.heap.size, 5, none⟩ = some (.string ord) ∧ W.cell? ⟨w.heap.size, 6, none⟩ = some (.bool down) ∧ W.cell? ⟨w.heap.size, 7, none⟩ = some (.int .i64 limit)) :=
    fun W hb => ⟨by rw [hb.cell (by first | (simp; done) | (simp; omega) | omega)]; go_simp, by rw [hb.cell (by first | (simp; done) | (simp; omega) | omega)]; go_simp, by rw [hb.cell (by first | (simp; done) | (simp; omega) | omega)]; go_simp⟩
  go_enter Try.func24, Try.ntmps24
  go_wp2_with fail
  refine (opsClone_any _ l _ (HS.out.ext (by (repeat' (with_reducible first | exact Below.refl _ _ | refine Ext.drewN ?_ _ | refine Below.drew ?_ | refine Below.setCell ?_ ?_ _ | refine Below.alloc ?_ ?_ _)) <;> (first | omega | (simp; done) | (simp; omega)))) hn).mono ?_
  rintro e w1 ⟨⟨v, rfl, ho⟩, hb1⟩
  obtain ⟨vA, vc, rfl⟩ := ho.form
  have HO := Lib.hid ho
  have KB := Lib.hid hb1
  obtain ⟨c5, c6, c7⟩ := HBOX.out _ hb1
  clear ho hb1
  go_wp2_with fail
  refine (sortOps_any _ l _ _ HO.out hn w.heap.size ord down (by simp) c5 c6).mono ?_
  rintro e w2 ⟨rfl, ⟨l', hpe, hpw, hsl⟩, hgr⟩
  have KB2 := Lib.hid (HO.out.grown KB.out hgr (by simp))
  have K3 : Hid (Ext w w2) := Ext.trans (Ext.alloc _ _) KB2.out
  have HLL := Lib.hid hpe.length_eq
  have HPE := Lib.hid hpe
  have HPW := Lib.hid hpw
  have HSL := Lib.hid hsl
  clear c5 c6 c7 hpe hpw hsl hgr
  obtain ⟨c5, c6, c7⟩ := HBOX.out _ KB2.out
  obtain ⟨hco1, hco2⟩ : l.length ≤ vc ∧ vc ≤ 9223372036854775807 := by obtain ⟨_, h1, h2, _⟩ := HSL.out.at; have := HLL.out; exact ⟨by omega, h2⟩
  by_cases h0 : 0 ≤ limit
  · obtain ⟨m, rfl⟩ : ∃ m : Nat, limit = m := ⟨limit.toNat, by omega⟩
    by_cases h1 : m < l.length
    · have q1 : decide ((m : Int) < (l.length : Int)) = true := by simp; omega
      have HC : Hid (cutL m l' = l'.take m) := by have := HLL.out; unfold Hid cutL; rw [if_pos ⟨by omega, by omega⟩]; simp
      have hmv : m ≤ vc := by omega
      go_wp2_with fail
      go_ret
      refine ⟨⟨l', _, rfl, ?_, HPE.out, HPW.out⟩, by (repeat' (with_reducible first | exact K3.out | exact Below.refl _ _ | refine Ext.drewN ?_ _ | refine Below.drew ?_ | refine Below.setCell ?_ ?_ _ | refine Below.alloc ?_ ?_ _)) <;> (first | omega | (simp; done) | (simp; omega))⟩
      rw [HC.out]
      exact HSL.out.take (by omega)
    · have q1 : decide ((m : Int) < (l.length : Int)) = false := by simp; omega
      have HC : Hid (cutL m l' = l') := by have := HLL.out; unfold Hid cutL; rw [if_neg (by omega)]
      go_wp2_with fail
      go_ret
      refine ⟨⟨l', _, rfl, ?_, HPE.out, HPW.out⟩, by (repeat' (with_reducible first | exact K3.out | exact Below.refl _ _ | refine Ext.drewN ?_ _ | refine Below.drew ?_ | refine Below.setCell ?_ ?_ _ | refine Below.alloc ?_ ?_ _)) <;> (first | omega | (simp; done) | (simp; omega))⟩
      rw [HC.out]
      exact HSL.out
  · have q1 : decide ((0 : Int) ≤ limit) = false := by simp; omega
    have HC : Hid (cutL limit l' = l') := by unfold Hid cutL; rw [if_neg (by omega)]
    go_wp2_with fail
    go_ret
    refine ⟨⟨l', _, rfl, ?_, HPE.out, HPW.out⟩, by (repeat' (with_reducible first | exact K3.out | exact Below.refl _ _ | refine Ext.drewN ?_ _ | refine Below.drew ?_ | refine Below.setCell ?_ ?_ _ | refine Below.alloc ?_ ?_ _)) <;> (first | omega | (simp; done) | (simp; omega))⟩
    rw [HC.out]
    exact HSL.out

/-- what is sorted twice is the same -/
theorem perm_sorted_eq {α : Type} {R : α → α → Prop} : ∀ (l1 l2 : List α), l1.Perm l2 → l1.Pairwise R → l2.Pairwise R → (∀ a ∈ l1, ∀ b ∈ l1, R a b → R b a → a = b) → l1 = l2
  | [], l2, hp, _, _, _ => (List.nil_perm.1 hp).symm
  | a :: r, [], hp, _, _, _ => absurd hp.length_eq (by simp)
  | a :: r, b :: s, hp, h1, h2, ha => by
    have hab : a = b := by
      have ma : a ∈ b :: s := hp.subset (by simp)
      have mb : b ∈ a :: r := hp.symm.subset (by simp)
      rcases List.mem_cons.1 ma with e | e
      · exact e
      rcases List.mem_cons.1 mb with e' | e'
      · exact e'.symm
      exact ha a (by simp) b mb ((List.pairwise_cons.1 h1).1 b e') ((List.pairwise_cons.1 h2).1 a e)
    subst hab
    rw [perm_sorted_eq r s (List.Perm.cons_inv hp) (List.pairwise_cons.1 h1).2 (List.pairwise_cons.1 h2).2 (fun x hx y hy => ha x (by simp [hx]) y (by simp [hy]))]
theorem ahead_asymm (ord : ByteArray) (down : Bool) (a b : OpD) (h1 : aheadB ord down a b = false) (h2 : aheadB ord down b a = false) : a.id = b.id := by
  unfold aheadB at *
  generalize fieldI ord a = x at *
  generalize fieldI ord b = y at *
  cases down <;> simp at * <;> (repeat' split at *) <;> (try simp at *) <;> omega
theorem ahead_trans (ord : ByteArray) (down : Bool) (a b c : OpD) (h1 : aheadB ord down b a = false) (h2 : aheadB ord down c b = false) : aheadB ord down c a = false := by
  have := (swoO ord down).ntrans c b a
  rw [ltO, ltO, ltO] at this
  exact this h2 h1
theorem insO_perm (ord : ByteArray) (down : Bool) (o : OpD) : ∀ xs : List OpD, (insO ord down o xs).Perm (o :: xs)
  | [] => List.Perm.refl _
  | x :: r => by
    unfold insO
    split
    · exact ((insO_perm ord down o r).cons x).trans (List.Perm.swap _ _ _)
    · exact List.Perm.refl _
theorem insO_sorted (ord : ByteArray) (down : Bool) (o : OpD) : ∀ xs : List OpD, xs.Pairwise (fun a b => aheadB ord down b a = false) → (insO ord down o xs).Pairwise (fun a b => aheadB ord down b a = false)
  | [], _ => by simp [insO]
  | x :: r, h => by
    obtain ⟨hx, hr⟩ := List.pairwise_cons.1 h
    unfold insO
    split
    · rename_i ha
      refine List.pairwise_cons.2 ⟨fun y hy => ?_, insO_sorted ord down o r hr⟩
      rcases List.mem_cons.1 ((insO_perm ord down o r).subset hy) with rfl | hy
      · cases hq : aheadB ord down y x
        · rfl
        · have h3 := (swoO ord down).trans x y x
          rw [ltO, ltO, ltO] at h3
          have h4 := (swoO ord down).irrefl x
          rw [ltO, h3 ha hq] at h4
          cases h4
      · exact hx y hy
    · rename_i ha
      have ha' : aheadB ord down x o = false := by simpa using ha
      refine List.pairwise_cons.2 ⟨fun y hy => ?_, h⟩
      rcases List.mem_cons.1 hy with rfl | hy
      · exact ha'
      · exact ahead_trans ord down o x y ha' (hx y hy)
theorem runL_all (ord : ByteArray) (down : Bool) (l0 : List OpD) (t : ND) (ht : ∀ o, trueT l0 o t = true) (l : List OpD) : (runL ord down l0 t l).Perm l ∧ (runL ord down l0 t l).Pairwise (fun a b => aheadB ord down b a = false) := by
  have h : ∀ (l out : List OpD), out.Pairwise (fun a b => aheadB ord down b a = false) → (l.foldl (runStep ord down l0 t) out).Perm (l ++ out) ∧ (l.foldl (runStep ord down l0 t) out).Pairwise (fun a b => aheadB ord down b a = false) := by
    intro l
    induction l with
    | nil => intro out h; exact ⟨List.Perm.refl _, h⟩
    | cons x r ih =>
      intro out h
      have hs : runStep ord down l0 t out x = insO ord down x out := by unfold runStep; rw [if_pos (ht x)]
      rw [List.foldl_cons, hs]
      obtain ⟨h1, h2⟩ := ih (insO ord down x out) (insO_sorted ord down x out h)
      refine ⟨h1.trans ?_, h2⟩
      exact ((insO_perm ord down x out).append_left r).trans List.perm_middle
  have := h l [] List.Pairwise.nil
  rw [List.append_nil] at this
  exact this
/-- operations of different numbers, in a query's order: there is one such list -/
theorem sorted_run (ord : ByteArray) (down : Bool) (l0 : List OpD) (t : ND) (ht : ∀ o, trueT l0 o t = true) (l l' : List OpD) (hn : (l.map OpD.id).Nodup) (hp : l'.Perm l) (hs : l'.Pairwise (fun a b => aheadB ord down b a = false)) : l' = runL ord down l0 t l := by
  obtain ⟨h1, h2⟩ := runL_all ord down l0 t ht l
  refine perm_sorted_eq _ _ (hp.trans h1.symm) hs h2 (fun a ha b hb h3 h4 => ?_)
  have he := ahead_asymm ord down a b h4 h3
  have ma := hp.subset ha
  have mb := hp.subset hb
  obtain ⟨i, hi, rfl⟩ := List.mem_iff_getElem.1 ma
  obtain ⟨j, hj, rfl⟩ := List.mem_iff_getElem.1 mb
  have hij : i = j := by
    have := (List.nodup_iff_pairwise_ne.1 hn)
    rw [List.pairwise_iff_getElem] at this
    rcases Nat.lt_trichotomy i j with h | h | h
    · exact absurd (by rw [List.getElem_map, List.getElem_map]; exact he) (this i j (by simpa using hi) (by simpa using hj) h)
    · exact h
    · exact absurd (by rw [List.getElem_map, List.getElem_map]; exact he.symm) (this j i (by simpa using hj) (by simpa using hi) h)
  subst hij
  rfl
end Go.Proofs.Ytcilkdohpcmbgaa
