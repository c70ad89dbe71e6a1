/- ref28.Choose answers the path that the document defines. Conditions: none but that the lists can be read. -/
import Derived.Test.YtcilkdohpcmbgaaGrp3
namespace Go.Proofs.Ytcilkdohpcmbgaa
set_option linter.unusedSimpArgs false
set_option linter.unusedVariables false
open Go.RowKit

/-- block 'g' holds a path -/
def RPthAt (w : World) (g : Nat) (p : Pth) : Prop := ∃ fv, Row1 w g 49 [.int .i64 p.way, fv, .int .i64 p.lo, .int .i64 p.hi, .int .i64 p.cost] ∧ Sl w 1 RI fv p.front ∧
  ∀ g', fv.ownBlock = some g' → ∃ cs, Row1 w g' 3 cs
theorem RPthAt.ext {W W' : World} {g : Nat} {p : Pth} (h : RPthAt W g p) (hb : Ext W W') : RPthAt W' g p := by
  obtain ⟨fv, h1, h2, h3⟩ := h
  exact ⟨fv, h1.ext hb h1.lt, h2.ext hb, fun g' e => by obtain ⟨cs, h⟩ := h3 g' e; exact ⟨cs, h.ext hb h.lt⟩⟩

/-- what lies in memory while a path is chosen -/
structure RSt (W : World) (g3 g4 g6 g7 g8 g9 : Nat) (ops : Int) (OV PV MV : Value) (id inv en : Bnd) (p : Pth) : Prop where
  r3 : Row1 W g3 40 [.int .i64 ops, OV, PV, MV]
  r4 : Row1 W g4 49 [.int .i64 0, .slice none 0 0, .int .i64 0, .int .i64 0, .int .i64 0]
  r6 : Row1 W g6 43 id.cells
  r7 : Row1 W g7 43 inv.cells
  r8 : Row1 W g8 43 en.cells
  r9 : RPthAt W g9 p
  n49 : g4 ≠ g9
section
variable {W W' : World} {g3 g4 g6 g7 g8 g9 : Nat} {ops : Int} {OV PV MV : Value} {id inv en : Bnd} {p p' : Pth}
theorem RSt.ext (h : RSt W g3 g4 g6 g7 g8 g9 ops OV PV MV id inv en p) (hb : Ext W W') : RSt W' g3 g4 g6 g7 g8 g9 ops OV PV MV id inv en p :=
  ⟨h.r3.ext hb h.r3.lt, h.r4.ext hb h.r4.lt, h.r6.ext hb h.r6.lt, h.r7.ext hb h.r7.lt, h.r8.ext hb h.r8.lt, h.r9.ext hb, h.n49⟩
theorem RSt.but (h : RSt W g3 g4 g6 g7 g8 g9 ops OV PV MV id inv en p) (hb : But g9 W W') (hp : RPthAt W' g9 p') : RSt W' g3 g4 g6 g7 g8 g9 ops OV PV MV id inv en p' := by
  obtain ⟨fv, h1, h2, h3⟩ := h.r9
  have q := fun e : some g3 = some g9 => h.r3.apart h1 (by decide) (by injection e)
  have q6 := fun e : some g6 = some g9 => h.r6.apart h1 (by decide) (by injection e)
  have q7 := fun e : some g7 = some g9 => h.r7.apart h1 (by decide) (by injection e)
  have q8 := fun e : some g8 = some g9 => h.r8.apart h1 (by decide) (by injection e)
  exact ⟨h.r3.grown hb q, h.r4.grown hb (fun e => h.n49 (by injection e)), h.r6.grown hb q6, h.r7.grown hb q7, h.r8.grown hb q8, hp, h.n49⟩
end

def RFactsAt (W : World) (g3 g4 g6 g7 g8 g9 : Nat) (ops : Int) (OV PV MV : Value) (id inv en : Bnd) (p : Pth) : Prop :=
  (W.cell? ⟨g3, 0, none⟩ = some (.int .i64 ops) ∧ W.cell? ⟨g3, 1, none⟩ = some OV ∧ W.cell? ⟨g3, 2, none⟩ = some PV ∧ W.cell? ⟨g3, 3, none⟩ = some MV) ∧
  (W.cell? ⟨g6, 0, none⟩ = some (.string id.field) ∧ W.cell? ⟨g6, 1, none⟩ = some (.int .i64 id.lo) ∧ W.cell? ⟨g6, 2, none⟩ = some (.int .i64 id.hi)) ∧
  (W.cell? ⟨g7, 0, none⟩ = some (.string inv.field) ∧ W.cell? ⟨g7, 1, none⟩ = some (.int .i64 inv.lo) ∧ W.cell? ⟨g7, 2, none⟩ = some (.int .i64 inv.hi)) ∧
  (W.cell? ⟨g8, 0, none⟩ = some (.string en.field) ∧ W.cell? ⟨g8, 1, none⟩ = some (.int .i64 en.lo) ∧ W.cell? ⟨g8, 2, none⟩ = some (.int .i64 en.hi))
theorem RSt.facts {W : World} {g3 g4 g6 g7 g8 g9 : Nat} {ops : Int} {OV PV MV : Value} {id inv en : Bnd} {p : Pth} (h : RSt W g3 g4 g6 g7 g8 g9 ops OV PV MV id inv en p) :
    RFactsAt W g3 g4 g6 g7 g8 g9 ops OV PV MV id inv en p :=
  ⟨⟨h.r3.cell 0, h.r3.cell 1, h.r3.cell 2, h.r3.cell 3⟩, ⟨h.r6.cell 0, h.r6.cell 1, h.r6.cell 2⟩, ⟨h.r7.cell 0, h.r7.cell 1, h.r7.cell 2⟩, ⟨h.r8.cell 0, h.r8.cell 1, h.r8.cell 2⟩⟩


theorem refOf_eq (v : Value) (xs : List Bnd) (f : ByteArray) (w : World) (b : Bnd) (h : findB f xs = b) (hs : Sl w 3 RBnd v xs) :
    Calls Try.prog 38 #[v, .string f] w fun e w' => e = .returned (.agg #[.string b.field, .int .i64 b.lo, .int .i64 b.hi]) ∧ Ext w w' := by
  subst h
  exact refOf_any v xs f w hs
theorem refCount_eq (V : Value) (gs : List Grp) (v c : Int) (w : World) (h : cntL v gs = c) (hs : Sl w 2 RG V gs) :
    Calls Try.prog 39 #[V, .int .i64 v] w fun e w' => e = .returned (.int .i64 c) ∧ w' = w :=
  (refCount_any V gs v w hs).mono fun _ _ ⟨h1, h2⟩ => ⟨by rw [← h]; exact h1, h2.symm⟩

theorem refCount_eq2 (V : Value) (gs : List Grp) (v c : Int) (w : World) (h : cntL v gs = c) (hs : Sl w 2 RG V gs) :
    Calls Try.prog 39 #[V, .int .i64 v] w fun e w' => e = .returned (.int .i64 c) ∧ w = w' :=
  (refCount_any V gs v w hs).mono fun _ _ ⟨h1, h2⟩ => ⟨by rw [← h]; exact h1, h2⟩
def takesB (f : Bnd) (c cost : Int) : Bool := decide (f.lo = f.hi ∧ c < cost)
theorem takesB_iff {f : Bnd} {c cost : Int} : takesB f c cost = true ↔ f.lo = f.hi ∧ c < cost := by simp [takesB]
theorem takesB_not {f : Bnd} {c cost : Int} (h : takesB f c cost = false) : ¬ (f.lo = f.hi ∧ c < cost) := by simpa [takesB] using h

theorem Row1.drew {w : World} {g : Nat} {t : TypeId} {cs : List Value} (h : Row1 w g t cs) : Row1 w.drew g t cs := h
theorem RSt.far {W W' : World} {g3 g4 g6 g7 g8 g9 go : Nat} {ops : Int} {OV PV MV : Value} {id inv en : Bnd} {p : Pth} {cs : List Value} (h : RSt W g3 g4 g6 g7 g8 g9 ops OV PV MV id inv en p) (hx : Row1 W go 43 cs)
    (hne : g3 ≠ go ∧ g4 ≠ go ∧ g6 ≠ go ∧ g7 ≠ go ∧ g8 ≠ go ∧ g9 ≠ go) (hb : But go W W') : RSt W' g3 g4 g6 g7 g8 g9 ops OV PV MV id inv en p := by
  obtain ⟨a3, a4, a6, a7, a8, a9⟩ := hne
  obtain ⟨fv, h1, h2, h3⟩ := h.r9
  have q := front_apart h3 hx (by decide)
  exact ⟨h.r3.grown hb (fun e => a3 (by injection e)), h.r4.grown hb (fun e => a4 (by injection e)), h.r6.grown hb (fun e => a6 (by injection e)), h.r7.grown hb (fun e => a7 (by injection e)), h.r8.grown hb (fun e => a8 (by injection e)),
    ⟨fv, h1.grown hb (fun e => a9 (by injection e)), h2.but hb q, front_but h3 hb q⟩, h.n49⟩
/-- the world behind 'best = Path{..}' -/
def newPathW (W : World) (g9 : Nat) (way x lo hi cnt : Int) : World :=
  (((((W.setCell ⟨g9, 0, none⟩ (.int .i64 way)).setCell ⟨g9, 1, none⟩ (.slice (some ⟨W.heap.size, 0, none⟩) 1 1)).setCell ⟨g9, 2, none⟩ (.int .i64 lo)).setCell ⟨g9, 3, none⟩ (.int .i64 hi)).setCell ⟨g9, 4, none⟩ (.int .i64 cnt)).alloc (.cells #[.int .i64 x] 3)
theorem newPath_but (W : World) (g9 : Nat) (way x lo hi cnt : Int) : But g9 W (newPathW W g9 way x lo hi cnt) := by
  unfold newPathW
  (repeat' (with_reducible first | exact But.refl | exact But.refl | refine But.drewN ?_ _ | refine But.drew ?_ | refine But.setCell ?_ ?_ _ | refine But.alloc ?_ _)) <;> (first | exact .inl rfl | (right; simp; done) | (right; simp; omega))
theorem newPath_new (W : World) (g9 : Nat) (way x lo hi cnt : Int) : Row1 (newPathW W g9 way x lo hi cnt) W.heap.size 3 [.int .i64 x] := by
  unfold newPathW
  exact Row1.made' (by simp only [setCell_size]) 3 [.int .i64 x]
theorem newPath_row {W : World} {g9 : Nat} {a0 a1 a2 a3 a4 : Value} {t : TypeId} (h : Row1 W g9 t [a0, a1, a2, a3, a4]) (way x lo hi cnt : Int) :
    Row1 (newPathW W g9 way x lo hi cnt) g9 t [.int .i64 way, .slice (some ⟨W.heap.size, 0, none⟩) 1 1, .int .i64 lo, .int .i64 hi, .int .i64 cnt] := by
  unfold newPathW
  have h0 : Row1 (W.setCell ⟨g9, 0, none⟩ (.int .i64 way)) g9 t [.int .i64 way, a1, a2, a3, a4] := h.set 0 _
  generalize W.setCell ⟨g9, 0, none⟩ (.int .i64 way) = W0 at *
  have h1 : Row1 (W0.setCell ⟨g9, 1, none⟩ (.slice (some ⟨W.heap.size, 0, none⟩) 1 1)) g9 t [.int .i64 way, .slice (some ⟨W.heap.size, 0, none⟩) 1 1, a2, a3, a4] := h0.set 1 _
  generalize W0.setCell ⟨g9, 1, none⟩ (.slice (some ⟨W.heap.size, 0, none⟩) 1 1) = W1 at *
  have h2 : Row1 (W1.setCell ⟨g9, 2, none⟩ (.int .i64 lo)) g9 t [.int .i64 way, .slice (some ⟨W.heap.size, 0, none⟩) 1 1, .int .i64 lo, a3, a4] := h1.set 2 _
  generalize W1.setCell ⟨g9, 2, none⟩ (.int .i64 lo) = W2 at *
  have h3 : Row1 (W2.setCell ⟨g9, 3, none⟩ (.int .i64 hi)) g9 t [.int .i64 way, .slice (some ⟨W.heap.size, 0, none⟩) 1 1, .int .i64 lo, .int .i64 hi, a4] := h2.set 3 _
  generalize W2.setCell ⟨g9, 3, none⟩ (.int .i64 hi) = W3 at *
  have h4 : Row1 (W3.setCell ⟨g9, 4, none⟩ (.int .i64 cnt)) g9 t [.int .i64 way, .slice (some ⟨W.heap.size, 0, none⟩) 1 1, .int .i64 lo, .int .i64 hi, .int .i64 cnt] := h3.set 4 _
  exact h4.alloc _
theorem newPath_pth {W : World} {g9 : Nat} {p : Pth} (h : RPthAt W g9 p) (way x lo hi cnt : Int) : RPthAt (newPathW W g9 way x lo hi cnt) g9 ⟨way, [x], lo, hi, cnt⟩ := by
  obtain ⟨fv, hr9, _, _⟩ := h
  refine ⟨_, newPath_row hr9 way x lo hi cnt, Sl.laid (newPath_new W g9 way x lo hi cnt) rfl (by omega) (by simp [maxLen]) (fun i y hi => ?_), fun g' e => ?_⟩
  · match i, hi with
    | 0, hi => injection hi with hi; subst hi; exact ⟨_, rfl, rfl, fun j u hu => by simpa using hu⟩
  · obtain rfl : W.heap.size = g' := by simpa [Value.ownBlock] using e
    exact ⟨_, newPath_new W g9 way x lo hi cnt⟩
theorem newPath_all {w W : World} {g3 g4 g6 g7 g8 g9 go : Nat} {ops : Int} {OV PV MV : Value} {id inv en : Bnd} {p : Pth} {cs : List Value} (hk : Ext w W) (hx : Row1 W go 43 cs) (h : RSt W g3 g4 g6 g7 g8 g9 ops OV PV MV id inv en p)
    (hw : w.heap.size ≤ g9) (hne : go ≠ g9) (way x lo hi cnt : Int) :
    Ext w (newPathW W g9 way x lo hi cnt).drew ∧ Row1 (newPathW W g9 way x lo hi cnt).drew go 43 cs ∧ RSt (newPathW W g9 way x lo hi cnt).drew g3 g4 g6 g7 g8 g9 ops OV PV MV id inv en ⟨way, [x], lo, hi, cnt⟩ := by
  have hb := newPath_but W g9 way x lo hi cnt
  have hp := newPath_pth h.r9 way x lo hi cnt
  generalize newPathW W g9 way x lo hi cnt = W' at *
  have hst := h.but hb hp
  exact ⟨(((But.of hk).trans hb).drew).fresh hw, (hx.grown hb (fun e => hne (by injection e))).drew, hst.ext (Below.drew (Ext.refl _))⟩
/-- the world behind 'best.Way, best.From, best.To = ..' -/
def turnPathW (W : World) (g9 : Nat) (way lo hi : Int) : World := ((W.setCell ⟨g9, 0, none⟩ (.int .i64 way)).setCell ⟨g9, 2, none⟩ (.int .i64 lo)).setCell ⟨g9, 3, none⟩ (.int .i64 hi)
theorem turnPath_but (W : World) (g9 : Nat) (way lo hi : Int) : But g9 W (turnPathW W g9 way lo hi) := by
  unfold turnPathW
  (repeat' (with_reducible first | exact But.refl | exact But.refl | refine But.drewN ?_ _ | refine But.drew ?_ | refine But.setCell ?_ ?_ _ | refine But.alloc ?_ _)) <;> (first | exact .inl rfl | (right; simp; done) | (right; simp; omega))
theorem turnPath_row {W : World} {g9 : Nat} {a0 a1 a2 a3 a4 : Value} {t : TypeId} (h : Row1 W g9 t [a0, a1, a2, a3, a4]) (way lo hi : Int) :
    Row1 (turnPathW W g9 way lo hi) g9 t [.int .i64 way, a1, .int .i64 lo, .int .i64 hi, a4] := by
  unfold turnPathW
  have h0 : Row1 (W.setCell ⟨g9, 0, none⟩ (.int .i64 way)) g9 t [.int .i64 way, a1, a2, a3, a4] := h.set 0 _
  generalize W.setCell ⟨g9, 0, none⟩ (.int .i64 way) = W1 at *
  have h2 : Row1 (W1.setCell ⟨g9, 2, none⟩ (.int .i64 lo)) g9 t [.int .i64 way, a1, .int .i64 lo, a3, a4] := h0.set 2 _
  generalize W1.setCell ⟨g9, 2, none⟩ (.int .i64 lo) = W2 at *
  exact h2.set 3 _
theorem turnPath_all {w W : World} {g3 g4 g6 g7 g8 g9 go : Nat} {ops : Int} {OV PV MV : Value} {id inv en : Bnd} {p : Pth} {cs : List Value} (hk : Ext w W) (hx : Row1 W go 43 cs) (h : RSt W g3 g4 g6 g7 g8 g9 ops OV PV MV id inv en p)
    (hw : w.heap.size ≤ g9) (hne : go ≠ g9) (way lo hi : Int) :
    Ext w (turnPathW W g9 way lo hi).drew ∧ Row1 (turnPathW W g9 way lo hi).drew go 43 cs ∧ RSt (turnPathW W g9 way lo hi).drew g3 g4 g6 g7 g8 g9 ops OV PV MV id inv en ⟨way, p.front, lo, hi, p.cost⟩ := by
  have hb := turnPath_but W g9 way lo hi
  obtain ⟨fv, hr9, hs9, ht9⟩ := h.r9
  have hn9 := front_apart ht9 hr9 (by decide)
  have hp : RPthAt (turnPathW W g9 way lo hi) g9 ⟨way, p.front, lo, hi, p.cost⟩ := ⟨fv, turnPath_row hr9 way lo hi, hs9.but hb hn9, front_but ht9 hb hn9⟩
  generalize turnPathW W g9 way lo hi = W' at *
  have hst := h.but hb hp
  exact ⟨(((But.of hk).trans hb).drew).fresh hw, (hx.grown hb (fun e => hne (by injection e))).drew, hst.ext (Below.drew (Ext.refl _))⟩
def byRetB (inv en : Bnd) : Bool := decide (inv.lo = -9223372036854775808 ∧ inv.hi = 9223372036854775807 ∧ (0 < en.lo ∨ en.hi < 0))

end Go.Proofs.Ytcilkdohpcmbgaa
