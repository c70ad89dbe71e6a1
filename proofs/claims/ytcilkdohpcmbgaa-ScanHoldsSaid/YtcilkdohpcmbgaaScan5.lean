/- What the closure of scan.Choose does to the best path: it takes a path of less cost. Conditions: the groups rise, and are fewer than 10^9. -/
import Derived.Test.YtcilkdohpcmbgaaScan4
namespace Go.Proofs.Ytcilkdohpcmbgaa
set_option linter.unusedSimpArgs false
set_option linter.unusedVariables false
open Go.RowKit

structure Pth where
  way : Int
  front : List Int
  lo : Int
  hi : Int
  cost : Int
deriving DecidableEq
/-- block 'g' holds a path -/
def PthAt (w : World) (g : Nat) (p : Pth) : Prop := ∃ fv, Row1 w g 47 [.int .i64 p.way, fv, .int .i64 p.lo, .int .i64 p.hi, .int .i64 p.cost] ∧ Sl w 1 RI fv p.front ∧
  ∀ g', fv.ownBlock = some g' → ∃ cs, Row1 w g' 3 cs
theorem PthAt.ext {W W' : World} {g : Nat} {p : Pth} (h : PthAt W g p) (hb : Ext W W') : PthAt W' g p := by
  obtain ⟨fv, h1, h2, h3⟩ := h
  exact ⟨fv, h1.ext hb h1.lt, h2.ext hb, fun g' e => by obtain ⟨cs, h⟩ := h3 g' e; exact ⟨cs, h.ext hb h.lt⟩⟩
theorem front_apart {W : World} {g : Nat} {t : TypeId} {cs : List Value} {fv : Value} (h : ∀ g', fv.ownBlock = some g' → ∃ cs, Row1 W g' 3 cs) (hr : Row1 W g t cs) (ht : 3 ≠ t) : fv.ownBlock ≠ some g := by
  intro e
  obtain ⟨cs', h'⟩ := h g e
  exact h'.apart hr ht rfl
theorem front_but {W W' : World} {g : Nat} {fv : Value} (h : ∀ g', fv.ownBlock = some g' → ∃ cs, Row1 W g' 3 cs) (hb : But g W W') (hne : fv.ownBlock ≠ some g) : ∀ g', fv.ownBlock = some g' → ∃ cs, Row1 W' g' 3 cs := by
  intro g' e
  obtain ⟨cs, h'⟩ := h g' e
  exact ⟨cs, h'.grown hb (fun q => hne (by rw [e, q]))⟩

def tryP (way : Int) (f : Bnd) (gs : List Grp) (next : Bnd) (p : Pth) : Pth :=
  if f.lo = f.hi ∧ cntL f.lo gs < p.cost then ⟨way, [f.lo], next.lo, next.hi, cntL f.lo gs⟩ else p

set_option maxHeartbeats 400000 in
theorem choose1_any (way : Int) (f next : Bnd) (V : Value) (gs : List Grp) (g : Nat) (p : Pth) (w : World) (hs : Sl w 2 RG V gs) (hr : Rising gs) (hn : gs.length ≤ 1000000000) (hp : PthAt w g p) :
    Calls Try.prog 36 #[.int .i64 way, .agg #[.string f.field, .int .i64 f.lo, .int .i64 f.hi], V, .agg #[.string next.field, .int .i64 next.lo, .int .i64 next.hi], .pointer (some ⟨g, 0, none⟩)] w
      fun e w' => e = .returned (.tuple #[]) ∧ PthAt w' g (tryP way f gs next p) ∧ But g w w' := by
  have HP := Lib.hid hp
  obtain ⟨fv, hrow, _, _⟩ := hp
  have hgl := hrow.lt
  have hc4 := hrow.cell 4
  have hc0 := hrow.cell 0
  have hc1 := hrow.cell 1
  have hc2 := hrow.cell 2
  have hc3 := hrow.cell 3
  have hs0 := hrow.soft 0
  have hs1 := hrow.soft 1
  have hs2 := hrow.soft 2
  have hs3 := hrow.soft 3
  have hs4 := hrow.soft 4
  simp at hc0 hc1 hc2 hc3 hc4
  have HROW := Lib.hid hrow
  have HS := Lib.hid hs
  have HR := Lib.hid hr
  clear hrow hs hr
  go_enter Try.func36, Try.ntmps36
  go_wp2_with fail
  refine (boundOne_any _ _ _ _).mono ?_
  rintro e w1 ⟨rfl, hb1⟩
  obtain ⟨hcl, hfl⟩ := bcell hb1
  have hsz := hb1.size
  simp at hsz
  have HB1 := Lib.hid (Ext.trans (by (repeat' (with_reducible first | exact Below.refl _ _ | refine Ext.drewN ?_ _ | refine Below.drew ?_ | refine Below.setCell ?_ ?_ _ | refine Below.alloc ?_ ?_ _)) <;> (first | omega | (simp; done) | (simp; omega)) : Ext w _) hb1)
  clear hb1
  have hz0 : w.heap.size < w1.heap.size := by omega
  have hz1 : w.heap.size + 1 < w1.heap.size := by omega
  have hgl1 : g < w1.heap.size := by omega
  by_cases heq : f.lo = f.hi
  · have hq : (f.lo == f.hi) = true := by simpa using heq
    have HEQ := Lib.hid heq
    clear heq
    go_wp2_with fail
    refine (scanCount_any _ gs _ _ (HS.out.ext HB1.out) HR.out hn).mono ?_
    rintro e w2 ⟨rfl, hb2⟩
    have he1 : w2.cell? ⟨w.heap.size, 1, none⟩ = some (.int .i64 f.lo) := by rw [hb2.cell (by simp; omega), hcl _ _ (by simp; omega)]; simp
    have he2 : w2.cell? ⟨w.heap.size + 1, 1, none⟩ = some (.int .i64 next.lo) := by rw [hb2.cell (by simp; omega), hcl _ _ (by simp)]; simp
    have he3 : w2.cell? ⟨w.heap.size + 1, 2, none⟩ = some (.int .i64 next.hi) := by rw [hb2.cell (by simp; omega), hcl _ _ (by simp)]; simp
    clear hcl hfl
    have hsz2 := hb2.size
    have hy0 : w.heap.size < w2.heap.size := by omega
    have hy1 : w.heap.size + 1 < w2.heap.size := by omega
    have hy2 : g < w2.heap.size := by omega
    have HB2 := Lib.hid (Ext.trans HB1.out hb2)
    clear hb2
    have hd4 : w2.cell? ⟨g, 4, none⟩ = some (.int .i64 p.cost) := (HB2.out.cell hgl).trans hc4
    have hd0 : w2.cell? ⟨g, 0, none⟩ = some (.int .i64 p.way) := (HB2.out.cell hgl).trans hc0
    have hd1 : w2.cell? ⟨g, 1, none⟩ = some fv := (HB2.out.cell hgl).trans hc1
    have hd2 : w2.cell? ⟨g, 2, none⟩ = some (.int .i64 p.lo) := (HB2.out.cell hgl).trans hc2
    have hd3 : w2.cell? ⟨g, 3, none⟩ = some (.int .i64 p.hi) := (HB2.out.cell hgl).trans hc3
    have hgs : ∀ i, w2.frozen? ⟨g, i, none⟩ = false := (HROW.out.ext HB2.out hgl).soft
    by_cases hlt : cntL f.lo gs < p.cost
    · have hd : decide (cntL f.lo gs < p.cost) = true := by simpa using hlt
      go_wp2_with fail
      go_end0
      refine ⟨rfl, ?_, ?_⟩
      · rw [tryP, if_pos ⟨HEQ.out, hlt⟩]
        refine ⟨.slice (some ⟨w2.heap.size, 0, none⟩) 1 1, ((((((HROW.out.ext HB2.out hgl).set 0 _).set 1 _).set 2 _).set 3 _).set 4 _).alloc _, ?_, ?_⟩
        · refine Sl.laid (Row1.made' (by simp only [setCell_size]) 3 [.int .i64 f.lo]) rfl (by omega) (by simp [maxLen]) (fun i x hi => ?_)
          match i, hi with
          | 0, hi =>
            injection hi with hi
            subst hi
            exact ⟨_, rfl, rfl, fun j u hu => by simpa using hu⟩
        · intro g' e
          obtain rfl : w2.heap.size = g' := by simpa [Value.ownBlock] using e
          exact ⟨_, Row1.made' (by simp only [setCell_size]) 3 [.int .i64 f.lo]⟩
      · (repeat' (with_reducible first | exact But.of HB2.out | exact But.refl | refine But.drewN ?_ _ | refine But.drew ?_ | refine But.setCell ?_ ?_ _ | refine But.alloc ?_ _)) <;> (first | exact .inl rfl | (right; simp; done) | (right; simp; omega))
    · have hd : decide (cntL f.lo gs < p.cost) = false := by simpa using hlt
      go_wp2_with fail
      go_end0
      refine ⟨rfl, ?_, But.of HB2.out⟩
      rw [tryP, if_neg (fun h => absurd h.2 (by omega))]
      exact HP.out.ext HB2.out
  · have hq : (f.lo == f.hi) = false := by simpa using heq
    go_wp2_with fail
    refine bodyPost_ret (results_none rfl _ _ _) rfl ?_
    refine ⟨rfl, ?_, But.of HB1.out⟩
    rw [tryP, if_neg (fun h => heq h.1)]
    exact HP.out.ext HB1.out
end Go.Proofs.Ytcilkdohpcmbgaa
