/- slices.SortStableFunc at events, by event.order: what it was given, sorted, equals in their order. Conditions: fewer than 10^9 events, a row of the call's own. -/
import Derived.Test.YtgpnockjonicpaaDoorStab5
import Derived.Test.YtgpnockjonicpaaDoorEv3
import Derived.Test.YtgpnockjonicpaaDoorLaidO
namespace Go.Proofs.YtgpnockjonicpaaDoor
set_option linter.unusedSimpArgs false
set_option linter.unusedVariables false
open Go.RowKit Go.Sort Go.Shelf Go.Proofs

instance : Inhabited EvD := ⟨⟨0, 0, false, 0, 0, 0, 0, 0, 0, 0⟩⟩
theorem Tryd.stL : StL Tryd.prog 10 where
  mixed := Tryd.laysSortO.mixed
  fS := Tryd.func96
  fR := Tryd.func82
  fM := Tryd.func55
  t0 := Tryd.underlying0
  a0 := Tryd.isAgg0
  z0 := Tryd.sizeOf0
  v0 := Tryd.zeroValue0
  t3 := Tryd.underlying3
  a3 := Tryd.isAgg3
  z3 := Tryd.sizeOf3
  v3 := Tryd.zeroValue3
  t4 := Tryd.underlying4
  a4 := Tryd.isAgg4
  z4 := Tryd.sizeOf4
  v4 := Tryd.zeroValue4
  t22 := Tryd.underlying25
  a22 := Tryd.isAgg25
  z22 := Tryd.sizeOf25
  v22 := Tryd.zeroValue25
  t25 := Tryd.underlying46
  a25 := Tryd.isAgg46
  z25 := Tryd.sizeOf46
  v25 := Tryd.zeroValue46
  t90 := Tryd.underlying93
  a90 := Tryd.isAgg93
  z90 := Tryd.sizeOf93
  v90 := Tryd.zeroValue93
  aE := Tryd.isAgg42
  zE := Tryd.sizeOf42

/-- less, of events -/
theorem swoEv : SWO (fun a b : EvD × Nat => decide (evCmp a.1 b.1 < 0)) where
  irrefl x := by
    rw [ltE]; unfold aheadE; simp
  trans x y z h1 h2 := by
    rw [ltE] at *
    unfold aheadE at *
    cases h3 : x.1.answer <;> cases h4 : y.1.answer <;> cases h5 : z.1.answer <;> simp only [h3, h4, h5] at * <;> split at h1 <;> split at h2 <;> split <;> simp_all <;> omega
  ntrans x y z h1 h2 := by
    rw [ltE] at *
    unfold aheadE at *
    cases h3 : x.1.answer <;> cases h4 : y.1.answer <;> cases h5 : z.1.answer <;> simp only [h3, h4, h5] at * <;> split at h1 <;> split at h2 <;> split <;> simp_all <;> omega
/-- sorted, equals in their order -/
def StableOf (xs xs' : List EvD) : Prop := ∃ ys : List (EvD × Nat), ys.Perm xs.zipIdx ∧ ys.Pairwise (fun a b => lt2 (fun a b : EvD × Nat => decide (evCmp a.1 b.1 < 0)) (fun x => x.2) b a = false) ∧ xs' = ys.map (fun x => x.1)
def tenc (x : EvD × Nat) : List Value := x.1.cells
theorem tflat (xs : List EvD) (n : Nat) : (xs.zipIdx n).flatMap tenc = xs.flatMap EvD.cells := by
  induction xs generalizing n with
  | nil => rfl
  | cons x r ih => simp only [List.zipIdx_cons, List.flatMap_cons, ih]; rfl

set_option maxRecDepth 100000 in
set_option maxHeartbeats 4000000 in
theorem stable0_any (A : Option Addr) (c : Nat) (w : World) : Calls Tryd.prog 31 #[.slice A 0 c, .int .i64 0, .func (.func 17) #[] #[]] w fun e w' => e = .returned (.tuple #[]) ∧ w = w' := by
  have hI : Calls Tryd.prog 54 #[.slice A 0 c, .int .i64 0, .int .i64 0, .func (.func 17) #[] #[]] w fun e w' => e = .returned (.tuple #[]) ∧ w = w' := by
    go_enter Tryd.func54, Tryd.ntmps54
    go_wp2_with fail
    go_loopw [8] (fun i wr => i = .int .i64 1 ∧ w = wr) (fun _ _ => 0)
    case atStart => exact ⟨rfl, rfl⟩
    case round =>
      obtain ⟨rfl, rfl⟩ := hrel
      go_wp2_with fail
      go_end0
      exact ⟨rfl, rfl⟩
  go_enter Tryd.func31, Tryd.ntmps31
  go_wp2_with fail
  go_loopw [7, 8] (fun i j wr => i = .int .i64 0 ∧ j = .int .i64 20 ∧ w = wr) (fun _ _ _ => 0)
  case atStart => exact ⟨rfl, rfl, rfl⟩
  case round =>
    obtain ⟨rfl, rfl, rfl⟩ := hrel
    go_wp2_with fail
    refine hI.mono ?_
    rintro e w1 ⟨rfl, rfl⟩
    go_wp2_with fail
    go_loopw [6, 7, 8, 9] (fun i _ _ _ wr => i = .int .i64 20 ∧ w = wr) (fun _ _ _ _ _ => 0)
    case atStart => exact ⟨rfl, rfl⟩
    case round =>
      obtain ⟨rfl, rfl⟩ := hrel
      go_wp2_with fail
      go_end0
      exact ⟨rfl, rfl⟩

section
variable {α : Type} [Inhabited α]
/-- behind a sort the same slice owns the row -/
theorem own_sortK {w : World} {base k n cap g m : Nat} {e : TypeId} {enc : α → List Value} (hk : ∀ x, (enc x).length = k) {xs : List α} (h : w.ownsRow base e k (.slice (some ⟨g, 0, none⟩) n cap) n (xs.flatMap enc)) (d' : Array α) (os : Array Obj) (hd : d'.size = n) :
    (sortWorldK enc k w g 0 m d' os).ownsRow base e k (.slice (some ⟨g, 0, none⟩) n cap) n (d'.toList.flatMap enc) := by
  rcases h.2 with ⟨h0, _⟩ | ⟨g', cap', cur, hv, hbase, hb, h1, h2, h3, h4⟩
  · cases h0
  · injection hv with e1 e2 e3
    injection e1 with e1
    injection e1 with e1
    subst e1 e3
    have hg : g < w.heap.size := (Array.getElem?_eq_some_iff.1 hb).1
    have hlen : (d'.toList.flatMap enc).length = n * k := by rw [flat_len enc k hk]; simp [hd]
    have hcur : n * k ≤ cur.size := by rw [h3]; exact Nat.mul_le_mul_right k h1
    refine ⟨hlen, .inr ⟨g, cap, putCells id 0 (flatK enc k d') cur, rfl, hbase, ?_, h1, h2, by simp [putCells, h3], ?_⟩⟩
    · unfold sortWorldK putRowK
      rw [heap_grow_old _ _ (by simpa [putRow, mapBlock, Sort.ahead] using hg)]
      simp [putRow, mapBlock, Sort.ahead, Array.getElem?_modify, hb, onCells]
    · apply List.ext_getElem?
      intro j
      by_cases hj : j < n * k
      · have k0 : 0 < k := by rcases Nat.eq_zero_or_pos k with e | e; (subst e; omega); exact e
        have hjk : j / k < d'.size := by rw [hd]; exact Nat.div_lt_of_lt_mul (by rw [Nat.mul_comm]; exact hj)
        have hm : j % k < k := Nat.mod_lt _ k0
        have hv : (enc d'[j / k]!)[j % k]? = some ((enc d'[j / k]!)[j % k]'(by rw [hk]; exact hm)) := List.getElem?_eq_getElem _
        have hx : d'.toList[j / k]? = some d'[j / k]! := by
          rw [List.getElem?_eq_getElem (by simpa using hjk)]; simp [hjk]
        have e1 := flat_at enc k hk d'.toList (j / k) _ hx (j % k) _ hv
        have hdm : j / k * k + j % k = j := by rw [Nat.mul_comm]; exact Nat.div_add_mod j k
        rw [hdm] at e1
        rw [e1, List.getElem?_take_of_lt hj, Array.getElem?_toList]
        have e2 := get_flatK enc k d' j (by rw [hd]; exact hj)
        have hjs : j < (flatK enc k d').size := by rw [size_flatK, hd]; exact hj
        have e3 : (putCells id 0 (flatK enc k d') cur)[j]? = some ((flatK enc k d')[j]!) := by
          have hjc : j < cur.size := by omega
          simp [putCells, hjc, hd]
          intro hh
          omega
        rw [e3, e2]
        rw [getElem!_pos _ _ (by rw [hk]; exact hm)]
      · rw [List.getElem?_take_eq_none (by omega), List.getElem?_eq_none (by rw [hlen]; omega)]
end

set_option maxRecDepth 100000 in
set_option maxHeartbeats 4000000 in
theorem stable_any (v : Value) (xs : List EvD) (base : Nat) (w : World) (h : OwnL w base 42 10 EvD.cells v xs) (hn : xs.length ≤ 1000000000) :
    Calls Tryd.prog 16 #[v, .func (.func 17) #[] #[]] w fun e w' => e = .returned (.tuple #[]) ∧ (∃ xs', StableOf xs xs' ∧ OwnL w' base 42 10 EvD.cells v xs') ∧ w.grownBy w' v.ownBlock := by
  have h' : w.ownsRow base 42 10 v xs.zipIdx.length (xs.zipIdx.flatMap tenc) := by
    rw [tflat]; simp only [List.length_zipIdx]; exact h
  obtain ⟨A, c, rfl, hc1, hc2, hx⟩ := own_form h'
  have key : Calls Tryd.prog 31 #[.slice A xs.zipIdx.length c, .int .i64 xs.zipIdx.length, .func (.func 17) #[] #[]] w fun e w' => e = .returned (.tuple #[]) ∧ (∃ xs', StableOf xs xs' ∧ OwnL w' base 42 10 EvD.cells (.slice A xs.zipIdx.length c) xs') ∧ w.grownBy w' (Value.slice A xs.zipIdx.length c).ownBlock := by
    by_cases h0 : xs.length = 0
    · obtain rfl : xs = [] := List.eq_nil_of_length_eq_zero h0
      refine (stable0_any A c w).mono ?_
      rintro e w' ⟨rfl, rfl⟩
      exact ⟨rfl, ⟨[], ⟨[], List.Perm.refl _, List.Pairwise.nil, rfl⟩, h⟩, World.grownBy.refl _ _⟩
    · obtain ⟨g, rfl, _, hgl, _, _⟩ := hx (by simp; omega)
      have eg : ∀ args w, (callFunc 17 args).run Tryd.prog w = .ok (.enter 17 args) w := enters_of Tryd.func17 (by kernel_rfl) rfl
      have eI : ∀ args w, (callFunc 54 args).run Tryd.prog w = .ok (.enter 54 args) w := enters_of Tryd.func54 (by kernel_rfl) rfl
      have hH : HoldsK tenc 10 w g 0 xs.zipIdx.toArray := holdsK_of_own (enc := tenc) (k := 10) (fun _ => rfl) h'
      have hC : ∀ W, CmpLays Tryd.prog 17 #[] tenc 10 (fun x y => evCmp x.1 y.1) g 0 xs.zipIdx.toArray.size W := fun W m os dk _ x y => evOrder_any x.1 y.1 _
      have R : RowK tenc 10 w g 0 xs.zipIdx.toArray := ⟨fun _ => rfl, fun x => ev_one x.1, hH, hgl⟩
      have hI : ∀ (a b : Nat) (d : Array (EvD × Nat)) (W : World), a ≤ b → b ≤ d.size → xs.zipIdx.toArray.size = d.size → SWK tenc 10 w g 0 d W →
          Calls Tryd.prog 54 #[.slice (some ⟨g, 0, none⟩) d.size c, .int .i64 a, .int .i64 b, .func (.func 17) #[] #[]] W fun e w' => e = .returned (.tuple #[]) ∧ SWK tenc 10 w g 0 (insertionSort (ltOf fun x y => evCmp x.1 y.1) d a b) w' := fun a b d W hab hb hs S => by
        have hcon := AnyQ.insertionSortCmpFunc Tryd.laysInsE 10 Tryd.isAgg42 Tryd.sizeOf42 tenc (fun _ => rfl) (fun x => ev_one x.1) (fun x y => evCmp x.1 y.1) 17 #[] g 0 c a b d W eg (fun m os dk _ x y => evOrder_any x.1 y.1 _) (S.holds hgl hH hs.symm) (S.lt hgl) hab hb (by
          have : d.size = xs.length := by rw [← hs]; simp
          omega)
        refine hcon.mono ?_
        rintro e w' ⟨rfl, n, os, rfl⟩
        exact ⟨rfl, S.on hgl n _ os (insertionSort_holds (lt := ltOf fun x y : EvD × Nat => evCmp x.1 y.1) swoEv d a b hab hb).1.1⟩
      have hcon := stable_gen Tryd.stL Tryd.func31 eI tenc (fun x y => evCmp x.1 y.1) swoEv (fun x => x.2) 17 #[] g 0 c xs.zipIdx.toArray xs.zipIdx.toArray w w eg (hC w) hI R rfl (SWK.start hH) (by simpa using hn) (fun i hi => by
        have hi' : i < xs.zipIdx.length := by simpa using hi
        simp at hi
        simp [getElem!_pos, hi])
      simp only [List.size_toArray] at hcon
      refine hcon.mono ?_
      rintro e w' ⟨rfl, d', hp, hs, n, os, rfl⟩
      have hds : d'.size = xs.zipIdx.length := by have := hp.1; simpa using this
      refine ⟨rfl, ⟨d'.toList.map (fun x => x.1), ⟨d'.toList, by simpa using permIn_perm (d := xs.zipIdx.toArray) (by simpa using hp), sortedIn_pairwise hds.symm hs, rfl⟩, ?_⟩, grownBy_sortK d'⟩
      have ho := own_sortK (enc := tenc) (k := 10) (m := n) (fun _ => rfl) h' d' os hds
      have e1 : d'.toList.flatMap tenc = (d'.toList.map (fun x => x.1)).flatMap EvD.cells := by rw [List.flatMap_map]; rfl
      rw [e1] at ho
      have e2 : (d'.toList.map (fun x => x.1)).length = xs.zipIdx.length := by simpa using hds
      unfold OwnL
      rw [e2]
      exact ho
  simp only [List.length_zipIdx] at key ⊢
  go_enter Tryd.func16, Tryd.ntmps16
  go_wp2_with fail
  refine key.mono ?_
  rintro e w1 ⟨rfl, h1⟩
  go_wp2_with fail
  go_end0
  exact ⟨rfl, h1⟩
end Go.Proofs.YtgpnockjonicpaaDoor
