/- scan: the first bound of a field; how many operations have a number. No conditions but that the lists can be read. -/
import Derived.Test.YtcilkdohpcmbgaaScan1
namespace Go.Proofs.Ytcilkdohpcmbgaa
set_option linter.unusedSimpArgs false
set_option linter.unusedVariables false
open Go.RowKit

def findB (f : ByteArray) : List Bnd → Bnd
  | [] => ⟨f, -9223372036854775808, 9223372036854775807⟩
  | b :: r => if b.field.toList = f.toList then b else findB f r
theorem findB_hit (f : ByteArray) : ∀ (xs : List Bnd) (k : Nat) (h : k < xs.length), xs[k].field.toList = f.toList → (∀ j (hj : j < k), xs[j].field.toList ≠ f.toList) → findB f xs = xs[k]
  | [], _, h, _, _ => absurd h (by simp)
  | b :: r, 0, _, h1, _ => by
    have e : b.field.toList = f.toList := h1
    simp only [findB]
    rw [if_pos e]; rfl
  | b :: r, k + 1, h, h1, h2 => by
    have e : ¬ b.field.toList = f.toList := h2 0 (by omega)
    simp only [findB]
    rw [if_neg e]
    exact findB_hit f r k (by simpa using h) h1 (fun j hj => h2 (j + 1) (by omega))
theorem findB_miss (f : ByteArray) : ∀ (xs : List Bnd), (∀ j (hj : j < xs.length), xs[j].field.toList ≠ f.toList) → findB f xs = ⟨f, -9223372036854775808, 9223372036854775807⟩
  | [], _ => rfl
  | b :: r, h => by
    have e : ¬ b.field.toList = f.toList := h 0 (by simp)
    simp only [findB]
    rw [if_neg e]
    exact findB_miss f r (fun j hj => h (j + 1) (by simp; omega))

set_option maxHeartbeats 400000 in
theorem refOf_any (v : Value) (xs : List Bnd) (f : ByteArray) (w : World) (hs : Sl w 3 RBnd v xs) :
    Calls Try.prog 38 #[v, .string f] w fun e w' => e = .returned (.agg #[.string (findB f xs).field, .int .i64 (findB f xs).lo, .int .i64 (findB f xs).hi]) ∧ Ext w w' := by
  obtain ⟨A, c, rfl⟩ := hs.form
  obtain ⟨_, hc1, hc2, hA⟩ := hs.at
  go_enter Try.func38, Try.ntmps38
  go_wp2
  go_loop [5] (fun i => ∃ k : Nat, k ≤ xs.length ∧ i = .int .i64 k ∧ ∀ j (hj : j < xs.length), j < k → xs[j].field.toList ≠ f.toList) (fun i => xs.length - (intOf i).toNat)
  case atStart => exact ⟨0, Nat.zero_le _, rfl, fun j _ h => absurd h (by omega)⟩
  case round =>
    obtain ⟨k, hk, rfl, hf⟩ := hrel
    have HF := Lib.hid hf
    clear hf
    by_cases hlt : k < xs.length
    · obtain ⟨b, off, rfl, hb, hx⟩ := hA (by omega)
      obtain ⟨cs, rfl, _, hcs⟩ := hx k hlt
      have h0 := hcs 0 _ rfl
      have h1 := hcs 1 _ rfl
      have h2 := hcs 2 _ rfl
      simp only [Nat.add_zero] at h0
      clear hx hcs
      by_cases heq : xs[k].field.toList = f.toList
      · have hq : (xs[k].field.toList == f.toList) = true := by simpa using heq
        go_wp2_with fail
        rw [findB_hit f xs k hlt heq (fun j hj => HF.out j (by omega) hj)]
        refine bodyPost_ret (v := .agg #[.string xs[k].field, .int .i64 xs[k].lo, .int .i64 xs[k].hi]) (by simp [results, Try.results38, go_sem]) rfl ⟨rfl, by (repeat' (with_reducible first | exact Below.refl _ _ | refine Ext.drewN ?_ _ | refine Below.drew ?_ | refine Below.setCell ?_ ?_ _ | refine Below.alloc ?_ ?_ _)) <;> (first | omega | (simp; done) | (simp; omega))⟩
      · have hq : (xs[k].field.toList == f.toList) = false := by simpa using heq
        go_wp2_with fail
        go_round
        case rel =>
          refine ⟨k + 1, by omega, by go_num, fun j hj hjk => ?_⟩
          by_cases e : j = k
          · subst e; exact heq
          · exact HF.out j hj (by omega)
        case measure => simp [intOf]; omega
    · go_wp2
      rw [findB_miss f xs (fun j hj => HF.out j hj (by omega))]
      refine bodyPost_ret (v := .agg #[.string f, .int .i64 (-9223372036854775808), .int .i64 9223372036854775807]) (by simp [results, Try.results38, go_sem]) rfl ⟨rfl, by (repeat' (with_reducible first | exact Below.refl _ _ | refine Ext.drewN ?_ _ | refine Below.drew ?_ | refine Below.setCell ?_ ?_ _ | refine Below.alloc ?_ ?_ _)) <;> (first | omega | (simp; done) | (simp; omega))⟩

theorem of1_any (g : ByteArray) (a b : Int) (p : Nat) (f : ByteArray) (w : World) (hp : w.cell? ⟨p, 0, none⟩ = some (.string f)) (hpl : p < w.heap.size) :
    Calls Try.prog 54 #[.agg #[.string g, .int .i64 a, .int .i64 b], .pointer (some ⟨p, 0, none⟩)] w fun e w' => e = .returned (.bool (g.toList == f.toList)) ∧ Ext w w' := by
  go_enter Try.func54, Try.ntmps54
  go_wp2
  go_ret
  exact ⟨by simp, by (repeat' (with_reducible first | exact Below.refl _ _ | refine Ext.drewN ?_ _ | refine Below.drew ?_ | refine Below.setCell ?_ ?_ _ | refine Below.alloc ?_ ?_ _)) <;> (first | omega | (simp; done) | (simp; omega))⟩

def IdxR (xs : List Bnd) (f : ByteArray) (e : Ending) : Prop :=
  ∃ r : Int, e = .returned (.int .i64 r) ∧ ((r = -1 ∧ ∀ j (hj : j < xs.length), xs[j].field.toList ≠ f.toList) ∨
    ∃ k, ∃ h : k < xs.length, r = k ∧ xs[k].field.toList = f.toList ∧ ∀ j (hj : j < k), xs[j].field.toList ≠ f.toList)

set_option maxHeartbeats 400000 in
theorem indexFunc_any (v : Value) (xs : List Bnd) (p : Nat) (f : ByteArray) (w : World) (hs : Sl w 3 RBnd v xs) (hp : w.cell? ⟨p, 0, none⟩ = some (.string f)) (hpl : p < w.heap.size) :
    Calls Try.prog 53 #[v, .func (.func 54) #[] #[.pointer (some ⟨p, 0, none⟩)]] w fun e w' => IdxR xs f e ∧ Ext w w' := by
  obtain ⟨A, c, rfl⟩ := hs.form
  obtain ⟨_, hc1, hc2, hA⟩ := hs.at
  go_enter Try.func53, Try.ntmps53
  go_wp2_with fail
  go_loopw [8] (fun i wr => ∃ k : Nat, k ≤ xs.length ∧ i = .int .i64 k ∧ Ext w wr ∧ ∀ j (hj : j < xs.length), j < k → xs[j].field.toList ≠ f.toList) (fun i _ => xs.length - (intOf i).toNat)
  case atStart => exact ⟨0, Nat.zero_le _, rfl, Ext.refl _, fun j _ h => absurd h (by omega)⟩
  case round =>
    obtain ⟨k, hk, rfl, hb, hf⟩ := hrel
    have HF := Lib.hid hf
    have HB := Lib.hid hb
    clear hf hb
    by_cases hlt : k < xs.length
    · obtain ⟨b, off, rfl, hbl, hx⟩ := hA (by omega)
      obtain ⟨cs, rfl, _, hcs⟩ := hx k hlt
      have hw := fun j u hu => (HB.out.cell (p := ⟨b, off + k * 3 + j, none⟩) hbl).trans (hcs j u hu)
      have h0 := hw 0 _ rfl
      have h1 := hw 1 _ rfl
      have h2 := hw 2 _ rfl
      simp only [Nat.add_zero] at h0
      clear hx hcs hw
      go_wp2_with fail
      refine (of1_any _ _ _ p f _ ((HB.out.cell (p := ⟨p, 0, none⟩) hpl).trans hp) (Nat.lt_of_lt_of_le hpl HB.out.size)).mono ?_
      rintro e w1 ⟨rfl, hb1⟩
      have HB1 := Lib.hid (Ext.trans HB.out hb1)
      clear hb1
      by_cases heq : xs[k].field.toList = f.toList
      · have hq : (xs[k].field.toList == f.toList) = true := by simpa using heq
        go_wp2_with fail
        go_ret
        exact ⟨⟨_, rfl, .inr ⟨k, hlt, rfl, heq, fun j hj => HF.out j (by omega) hj⟩⟩, HB1.out⟩
      · have hq : (xs[k].field.toList == f.toList) = false := by simpa using heq
        go_wp2_with fail
        go_roundw
        case rel => 
          refine ⟨k + 1, by omega, by go_num, HB1.out, fun j hj hjk => ?_⟩
          by_cases e : j = k
          · subst e; exact heq
          · exact HF.out j hj (by omega)
        case measure => simp [intOf]; omega
    · go_wp2_with fail
      go_ret
      exact ⟨⟨_, rfl, .inl ⟨rfl, fun j hj => HF.out j hj (by omega)⟩⟩, HB.out⟩

set_option maxHeartbeats 400000 in
theorem scanOf_any (v : Value) (xs : List Bnd) (f : ByteArray) (w : World) (hs : Sl w 3 RBnd v xs) :
    Calls Try.prog 34 #[v, .string f] w fun e w' => e = .returned (.agg #[.string (findB f xs).field, .int .i64 (findB f xs).lo, .int .i64 (findB f xs).hi]) ∧ Ext w w' := by
  obtain ⟨A, c, rfl⟩ := hs.form
  have hs0 := Lib.hid hs
  obtain ⟨_, hc1, hc2, hA⟩ := hs.at
  have hmf : ∀ (fn : Fn) (first cap : Array Value) (w : World), (Instr.makeFunc fn first cap).run Try.prog w = .ok (.func fn first cap) w := fun _ _ _ _ => rfl
  go_enter Try.func34, Try.ntmps34
  go_wp2_with fail
  refine (indexFunc_any _ xs w.heap.size f _ (hs0.out.ext (by (repeat' (with_reducible first | exact Below.refl _ _ | refine Ext.drewN ?_ _ | refine Below.drew ?_ | refine Below.setCell ?_ ?_ _ | refine Below.alloc ?_ ?_ _)) <;> (first | omega | (simp; done) | (simp; omega)))) (by simp) (by simp; omega)).mono ?_
  rintro e w1 ⟨⟨r, rfl, hr⟩, hb1⟩
  obtain ⟨hcl, hfl⟩ := bcell hb1
  have hsz := hb1.size
  simp at hsz
  have HB := Lib.hid (Ext.trans (by (repeat' (with_reducible first | exact Below.refl _ _ | refine Ext.drewN ?_ _ | refine Below.drew ?_ | refine Below.setCell ?_ ?_ _ | refine Below.alloc ?_ ?_ _)) <;> (first | omega | (simp; done) | (simp; omega)) : Ext w _) hb1)
  clear hb1
  rcases hr with ⟨rfl, hr⟩ | ⟨k, hk, rfl, h1, h2⟩
  · have HR := Lib.hid (findB_miss f xs hr)
    clear hr
    go_wp2_with fail
    rw [HR.out]
    refine bodyPost_ret (v := .agg #[.string f, .int .i64 (-9223372036854775808), .int .i64 9223372036854775807]) (by simp [results, Try.results34, go_sem, hcl]) rfl ⟨rfl, by (repeat' (with_reducible first | exact HB.out | exact Below.refl _ _ | refine Ext.drewN ?_ _ | refine Below.drew ?_ | refine Below.setCell ?_ ?_ _ | refine Below.alloc ?_ ?_ _)) <;> (first | omega | (simp; done) | (simp; omega))⟩
  · have HR := Lib.hid (findB_hit f xs k hk h1 h2)
    clear h1 h2
    obtain ⟨b, off, rfl, hbl, hx⟩ := hA (by omega)
    obtain ⟨cs, rfl, _, hcs⟩ := hx k hk
    have hw := fun j u hu => (HB.out.cell (p := ⟨b, off + k * 3 + j, none⟩) hbl).trans (hcs j u hu)
    have h0 := hw 0 _ rfl
    have h1 := hw 1 _ rfl
    have h2 := hw 2 _ rfl
    simp only [Nat.add_zero] at h0
    clear hx hcs hw hs
    go_wp2_with fail
    rw [HR.out]
    refine bodyPost_ret (v := .agg #[.string xs[k].field, .int .i64 xs[k].lo, .int .i64 xs[k].hi]) (by simp [results, Try.results34, go_sem, hcl]) rfl ⟨rfl, by (repeat' (with_reducible first | exact HB.out | exact Below.refl _ _ | refine Ext.drewN ?_ _ | refine Below.drew ?_ | refine Below.setCell ?_ ?_ _ | refine Below.alloc ?_ ?_ _)) <;> (first | omega | (simp; done) | (simp; omega))⟩
end Go.Proofs.Ytcilkdohpcmbgaa
