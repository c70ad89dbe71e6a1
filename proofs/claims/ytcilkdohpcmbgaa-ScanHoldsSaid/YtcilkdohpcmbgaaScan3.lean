/- scan.count: how many operations a sorted list of groups tells of a number; two lists of numbers that are one. Conditions: the groups rise. -/
import Derived.Test.YtcilkdohpcmbgaaScan2
namespace Go.Proofs.Ytcilkdohpcmbgaa
set_option linter.unusedSimpArgs false
set_option linter.unusedVariables false
open Go.RowKit

structure Grp where
  val : Int
  cnt : Int
deriving DecidableEq
def Grp.cells (g : Grp) : List Value := [.int .i64 g.val, .int .i64 g.cnt]
def RG (g : Grp) (cs : List Value) : Prop := cs = g.cells
def Rising (gs : List Grp) : Prop := ∀ i j (hi : i < gs.length) (hj : j < gs.length), i < j → gs[i].val < gs[j].val
def cntL (v : Int) : List Grp → Int
  | [] => 0
  | g :: r => if g.val = v then g.cnt else cntL v r
theorem cntL_hit (v : Int) : ∀ (gs : List Grp) (k : Nat) (h : k < gs.length), gs[k].val = v → (∀ j (hj : j < k), gs[j].val ≠ v) → cntL v gs = gs[k].cnt
  | [], _, h, _, _ => absurd h (by simp)
  | g :: r, 0, _, h1, _ => by
    have e : g.val = v := h1
    simp only [cntL]
    rw [if_pos e]; rfl
  | g :: r, k + 1, h, h1, h2 => by
    have e : ¬ g.val = v := h2 0 (by omega)
    simp only [cntL]
    rw [if_neg e]
    exact cntL_hit v r k (by simpa using h) h1 (fun j hj => h2 (j + 1) (by omega))
theorem cntL_miss (v : Int) : ∀ (gs : List Grp), (∀ j (hj : j < gs.length), gs[j].val ≠ v) → cntL v gs = 0
  | [], _ => rfl
  | g :: r, h => by
    have e : ¬ g.val = v := h 0 (by simp)
    simp only [cntL]
    rw [if_neg e]
    exact cntL_miss v r (fun j hj => h (j + 1) (by simp; omega))

theorem count1_any (a c v : Int) (w : World) :
    Calls Try.prog 56 #[.agg #[.int .i64 a, .int .i64 c], .int .i64 v] w fun e w' => e = .returned (.int .i64 (cmpI a v)) ∧ Ext w w' := by
  go_enter Try.func56, Try.ntmps56
  go_wp2_with (go_at_call 50; refine (cmpCompare_any _ _ _).mono ?_; rintro e w' ⟨rfl, rfl⟩)
  go_ret
  exact ⟨rfl, by (repeat' (with_reducible first | exact Below.refl _ _ | refine Ext.drewN ?_ _ | refine Below.drew ?_ | refine Below.setCell ?_ ?_ _ | refine Below.alloc ?_ ?_ _)) <;> (first | omega | (simp; done) | (simp; omega))⟩

def BsR (gs : List Grp) (v : Int) (e : Ending) : Prop :=
  ∃ (i : Nat) (ok : Bool), e = .returned (.tuple #[.int .i64 i, .bool ok]) ∧ i ≤ gs.length ∧ (∀ j (hj : j < gs.length), j < i → gs[j].val < v) ∧
    (ok = true → ∃ h : i < gs.length, gs[i].val = v) ∧ (ok = false → ∀ j (hj : j < gs.length), gs[j].val ≠ v)

set_option maxRecDepth 100000 in
set_option maxHeartbeats 800000 in
theorem binarySearch_any (V : Value) (gs : List Grp) (v : Int) (w : World) (hs : Sl w 2 RG V gs) (hr : Rising gs) (hn : gs.length ≤ 1000000000) :
    Calls Try.prog 55 #[V, .int .i64 v, .func (.func 56) #[] #[]] w fun e w' => BsR gs v e ∧ Ext w w' := by
  obtain ⟨A, c, rfl⟩ := hs.form
  obtain ⟨_, hc1, hc2, hA⟩ := hs.at
  have HR := Lib.hid hr
  clear hr
  go_enter Try.func55, Try.ntmps55
  go_wp2_with fail
  go_loopw [9, 10] (fun i j wr => ∃ lo hi : Nat, lo ≤ hi ∧ hi ≤ gs.length ∧ i = .int .i64 lo ∧ j = .int .i64 hi ∧ Ext w wr ∧
      (∀ k (hk : k < gs.length), k < lo → gs[k].val < v) ∧ (∀ k (hk : k < gs.length), hi ≤ k → v ≤ gs[k].val)) (fun i j _ => (intOf j).toNat - (intOf i).toNat)
  case atStart => exact ⟨0, gs.length, by omega, by omega, rfl, rfl, Ext.refl _, fun k _ h => absurd h (by omega), fun k _ h => absurd h (by omega)⟩
  case round =>
    obtain ⟨lo, hi, h1, h2, rfl, rfl, hb, hlow, hhigh⟩ := hrel
    have HB := Lib.hid hb
    have HL := Lib.hid hlow
    have HH := Lib.hid hhigh
    clear hb hlow hhigh
    by_cases hlt : lo < hi
    · obtain ⟨b, off, rfl, hbl, hx⟩ := hA (by omega)
      have hm : (lo + hi) / 2 < gs.length := by omega
      obtain ⟨cs, rfl, _, hcs⟩ := hx ((lo + hi) / 2) hm
      have hw := fun j u hu => (HB.out.cell (p := ⟨b, off + (lo + hi) / 2 * 2 + j, none⟩) hbl).trans (hcs j u hu)
      have h3 := hw 0 _ rfl
      have h4 := hw 1 _ rfl
      simp only [Nat.add_zero] at h3
      clear hx hcs hw
      have HC := Lib.hid (show gs[(lo + hi) / 2].val < v ∨ v ≤ gs[(lo + hi) / 2].val by omega)
      go_wp2_with fail
      refine (count1_any _ _ _ _).mono ?_
      rintro e w1 ⟨rfl, hb1⟩
      have HB1 := Lib.hid (Ext.trans HB.out hb1)
      clear hb1
      rcases HC.out with h | h
      · have hd : decide (cmpI gs[(lo + hi) / 2].val v < 0) = true := by simp [cmpI, h]
        go_wp2_with fail
        go_roundw
        case rel =>
          refine ⟨(lo + hi) / 2 + 1, hi, by omega, by omega, by rw [show ((lo : Int) + (hi : Int)) / 2 + 1 = (((lo + hi) / 2 + 1 : Nat) : Int) by omega], rfl, HB1.out, fun k hk hkl => ?_, HH.out⟩
          rcases Nat.lt_or_ge k ((lo + hi) / 2) with hl | hl
          · exact Int.lt_trans (HR.out k _ hk hm hl) h
          · obtain rfl : k = (lo + hi) / 2 := by omega
            exact h
        case measure => simp [intOf]; omega
      · have hd : decide (cmpI gs[(lo + hi) / 2].val v < 0) = false := by simp [cmpI, Int.not_lt.2 h]; split <;> simp
        go_wp2_with fail
        go_roundw
        case rel =>
          refine ⟨lo, (lo + hi) / 2, by omega, by omega, rfl, by rw [show ((lo : Int) + (hi : Int)) / 2 = (((lo + hi) / 2 : Nat) : Int) by omega], HB1.out, HL.out, fun k hk hkl => ?_⟩
          rcases Nat.lt_or_ge ((lo + hi) / 2) k with hl | hl
          · have := HR.out _ _ hm hk hl; omega
          · obtain rfl : k = (lo + hi) / 2 := by omega
            exact h
        case measure => simp [intOf]; omega
    · obtain rfl : hi = lo := by omega
      by_cases hlen : hi < gs.length
      · obtain ⟨b, off, rfl, hbl, hx⟩ := hA (by omega)
        obtain ⟨cs, rfl, _, hcs⟩ := hx hi hlen
        have hw := fun j u hu => (HB.out.cell (p := ⟨b, off + hi * 2 + j, none⟩) hbl).trans (hcs j u hu)
        have h3 := hw 0 _ rfl
        have h4 := hw 1 _ rfl
        simp only [Nat.add_zero] at h3
        clear hx hcs hw
        go_wp2_with fail
        refine (count1_any _ _ _ _).mono ?_
        rintro e w1 ⟨rfl, hb1⟩
        have HB1 := Lib.hid (Ext.trans HB.out hb1)
        clear hb1
        go_wp2_with fail
        go_ret2
        refine ⟨⟨hi, _, rfl, h2, HL.out, fun h => ⟨hlen, ?_⟩, fun h j hj => ?_⟩, HB1.out⟩
        · simp [cmpI] at h; split at h <;> first | omega | (split at h <;> omega)
        · have hne : gs[hi].val ≠ v := by intro e; simp [cmpI, e] at h
          rcases Nat.lt_or_ge j hi with hl | hl
          · have := HL.out j hj hl; omega
          · have h5 := HH.out hi hlen (Nat.le_refl _)
            rcases Nat.lt_or_ge hi j with hl2 | hl2
            · have := HR.out _ _ hlen hj hl2; omega
            · obtain rfl : j = hi := by omega
              exact hne
      · go_wp2_with fail
        go_ret2
        refine ⟨⟨hi, false, by rfl, h2, HL.out, (by intro h; cases h), fun _ j hj => ?_⟩, HB.out⟩
        have := HL.out j hj (by omega); omega
end Go.Proofs.Ytcilkdohpcmbgaa
