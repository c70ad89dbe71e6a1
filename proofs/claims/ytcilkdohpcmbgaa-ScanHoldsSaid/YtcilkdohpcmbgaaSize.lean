/- ref19.Size answers a number, whatever the tree; the words for a query's nodes. No conditions but that the tree can be read. -/
import Derived.Test.YtcilkdohpcmbgaaBase
namespace Go.Proofs.Ytcilkdohpcmbgaa
set_option linter.unusedSimpArgs false
set_option linter.unusedVariables false
open Go.RowKit

/-- a node's own five cells -/
structure NCell where
  kind : Int
  kids : Value
  field : ByteArray
  sign : ByteArray
  value : Int
def NCell.cells (n : NCell) : List Value := [.int .i64 n.kind, n.kids, .string n.field, .string n.sign, .int .i64 n.value]
def RN (n : NCell) (cs : List Value) : Prop := cs = n.cells ∧ -9223372036854775808 ≤ n.value ∧ n.value ≤ 9223372036854775807 ∧ ∃ A m c, n.kids = .slice A m c
/-- a node that can be read, so deep -/
def NOk (w : World) : Nat → NCell → Prop
  | 0, _ => False
  | d + 1, n => ∃ ks, Sl w 5 RN n.kids ks ∧ ∀ k ∈ ks, NOk w d k
theorem NOk.ext {w w' : World} (hb : Ext w w') : ∀ (d : Nat) (n : NCell), NOk w d n → NOk w' d n
  | 0, _, h => h
  | d + 1, n, ⟨ks, h1, h2⟩ => ⟨ks, h1.ext hb, fun k hk => NOk.ext hb d k (h2 k hk)⟩

theorem NOk.more {w : World} : ∀ (d : Nat) (n : NCell), NOk w d n → NOk w (d + 1) n
  | 0, _, h => h.elim
  | d + 1, n, ⟨ks, h1, h2⟩ => ⟨ks, h1, fun k hk => NOk.more d k (h2 k hk)⟩

def SomeInt (e : Ending) : Prop := ∃ z : Int, e = .returned (.int .i64 z)

set_option maxHeartbeats 400000 in
theorem size_any (d : Nat) : ∀ (n : NCell) (deep : Int) (w : World), NOk w d n → 0 ≤ deep → deep ≤ 61 →
    Calls Try.prog 6 #[.agg #[.int .i64 n.kind, n.kids, .string n.field, .string n.sign, .int .i64 n.value], .int .i64 deep] w fun e w' => SomeInt e ∧ Ext w w' := by
  induction d with
  | zero => intro _ _ _ h; exact h.elim
  | succ d ih =>
    intro n deep w hn hd0 hd1
    have IH := Lib.hid ih
    clear ih
    obtain ⟨kind, kids, field, sign, value⟩ := n
    obtain ⟨ks, hks, hk⟩ := hn
    have HK := Lib.hid hk
    clear hk
    dsimp only at hks
    obtain ⟨A, c, rfl⟩ := hks.form
    obtain ⟨_, hc1, hc2, hA⟩ := hks.at
    by_cases hdeep : deep ≤ 60
    · have hdd : decide (60 < deep) = false := by simp; omega
      go_enter Try.func6, Try.ntmps6
      go_wp2_with fail
      go_loopw [5, 6] (fun k i wr => ∃ (z : Int) (j : Nat), k = .int .i64 z ∧ j ≤ ks.length ∧ i = .int .i64 j ∧ Below (w.heap.size + 1) (w.alloc (.cells #[.int .i64 kind, .slice A ks.length c, .string field, .string sign, .int .i64 value] 24)) wr)
        (fun _ i _ => ks.length - (intOf i).toNat)
      case atStart => exact ⟨_, 0, rfl, by omega, rfl, Below.refl _ _⟩
      case round =>
        obtain ⟨z, j, rfl, hj, rfl, hb⟩ := hrel
        have hbox : wr.cell? ⟨w.heap.size, 1, none⟩ = some (.slice A ks.length c) := by rw [hb.cell (by simp)]; simp
        have hext : Ext w wr := (Ext.alloc w _).trans (hb.mono (by simp))
        have HB := Lib.hid hb
        have HX := Lib.hid hext
        clear hb hext
        by_cases hlt : j < ks.length
        · by_cases hz : z ≤ 3000
          · obtain ⟨b, off, rfl, hbw, hx⟩ := hA (by omega)
            obtain ⟨cs, ⟨rfl, _⟩, _, hcs⟩ := hx j hlt
            have hw := fun j' u hu => (HX.out.cell (p := ⟨b, off + j * 5 + j', none⟩) hbw).trans (hcs j' u hu)
            have h0 := hw 0 _ rfl
            have h1 := hw 1 _ rfl
            have h2 := hw 2 _ rfl
            have h3 := hw 3 _ rfl
            have h4 := hw 4 _ rfl
            simp only [Nat.add_zero] at h0
            clear hx hcs hw
            go_wp2_with fail
            refine (IH.out ks[j] _ _ (NOk.ext HX.out _ _ (HK.out _ (List.getElem_mem hlt))) (by omega) (by omega)).mono ?_
            rintro e w1 ⟨⟨z1, rfl⟩, hb1⟩
            have HB1 := Lib.hid (HB.out.trans (hb1.mono (by have := HB.out.size; simp at this; omega)))
            clear hb1
            go_wp2_with fail
            go_roundw
            case rel => exact ⟨_, j + 1, rfl, by omega, by go_num, HB1.out⟩
            case measure => simp [intOf]; omega
          · go_wp2_with fail
            go_ret
            exact ⟨⟨_, rfl⟩, HX.out⟩
        · go_wp2_with fail
          go_ret
          exact ⟨⟨_, rfl⟩, HX.out⟩
    · go_enter Try.func6, Try.ntmps6
      go_wp2_with fail
      go_ret
      exact ⟨⟨_, rfl⟩, by (repeat' (with_reducible first | exact Below.refl _ _ | refine Ext.drewN ?_ _ | refine Below.drew ?_ | refine Below.setCell ?_ ?_ _ | refine Below.alloc ?_ ?_ _)) <;> (first | omega | (simp; done) | (simp; omega))⟩
end Go.Proofs.Ytcilkdohpcmbgaa
