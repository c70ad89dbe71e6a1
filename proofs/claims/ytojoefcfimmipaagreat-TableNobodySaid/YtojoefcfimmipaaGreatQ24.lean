/- A range over a function whose iterator turns memory of its own between two rounds: what it owns, what the consumer owns. No conditions. -/
/- A drawn region that holds a call of 'yield': its loads may be taken first. No conditions. -/
import Derived.RangeFuncFrom
import Derived.RangeFuncNested
import Derived.RangeFuncCalls
import Derived.Test.YtojoefcfimmipaaGreatQ23
namespace Go.Proofs.YtojoefcfimmipaaGreat
set_option linter.unusedSimpArgs false
set_option linter.unusedVariables false
open Go.RowKit
/-- what the iterator owns and what the consumer owns: all there, and apart -/
def Dis (F G : Nat → Prop) (W : World) : Prop := (∀ i, F i → i < W.heap.size) ∧ ∀ i, G i → i < W.heap.size ∧ ¬ F i
/-- what a consumer knows hangs on its own blocks alone -/
def Abides {β : Type} (J : β → (Nat → Prop) → World → Prop) : Prop := ∀ s G W W', J s G W → (∀ i, G i → i < W.heap.size) → Only (fun i => ¬ G i) W W' → J s G W'
/-- what an iterator knows hangs on its own blocks, and on what lay there ahead of the loop -/
def ItAbides (B : Nat) (It : (Nat → Prop) → World → Prop) : Prop := ∀ F W W', It F W → Only (fun i => ¬ F i ∧ B ≤ i) W W' → It F W'
abbrev Un (F G : Nat → Prop) : Nat → Prop := fun i => F i ∨ G i
def SeqO {α : Type} (Fn : Fence) (n : Nat) (P : Program) (g : Nat) (lb : Array Value) (encs : α → Array Value) (It : (Nat → Prop) → World → Prop) (S Sp : List α → Prop) (Ok : List α → α → Prop) (w : World) : Prop :=
  ∀ (l : Nat) (J Jx : List α → (Nat → Prop) → World → Prop) (W : World) (F G : Nat → Prop), Ext w W → It F W → Dis F G W → Abides J → Abides Jx →
    (∀ pre x W1 F1 G1, J pre G1 W1 → It F1 W1 → Dis F1 G1 W1 → Ok pre x → YieldAt Fn (n - 1) P l (encs x) W1 fun e W' =>
      ∃ F2 G2, It F2 W' ∧ Dis F2 G2 W' ∧ Keeps (Un F1 G1) (Un F2 G2) W1 W' ∧ ((e = .returned (.bool true) ∧ J (pre ++ [x]) G2 W') ∨ (e = .returned (.bool false) ∧ Jx (pre ++ [x]) G2 W'))) →
    J [] G W →
    CallsIn Fn n P g (#[.func (.yield l) #[] #[]] ++ lb) W fun e W' => (∃ v, e = .returned v) ∧ ∃ F2 G2, It F2 W' ∧ Dis F2 G2 W' ∧ Keeps (Un F G) (Un F2 G2) W W' ∧ ((∃ xs, S xs ∧ J xs G2 W') ∨ (∃ pre, Sp pre ∧ Jx pre G2 W'))
/-- how the body of a round may be left -/
def ownPostO {α : Type} (It : (Nat → Prop) → World → Prop) (I : List α → (Nat → Prop) → World → Prop) (Ix : Code → List α → (Nat → Prop) → World → Prop) (xs : List α) (F1 G1 : Nat → Prop) (W : World) : Exit → Act → World → Prop
  | .normal, _, W' => ∃ F2 G2, It F2 W' ∧ Dis F2 G2 W' ∧ Keeps (Un F1 G1) (Un F2 G2) W W' ∧ I xs G2 W'
  | .ret, _, W' => ∃ F2 G2, It F2 W' ∧ Dis F2 G2 W' ∧ Keeps (Un F1 G1) (Un F2 G2) W W' ∧ Ix .ret xs G2 W'
  | .exit id, _, W' => ∃ F2 G2, It F2 W' ∧ Dis F2 G2 W' ∧ Keeps (Un F1 G1) (Un F2 G2) W W' ∧ Ix (.exit id) xs G2 W'
  | .goto t, _, W' => ∃ F2 G2, It F2 W' ∧ Dis F2 G2 W' ∧ Keeps (Un F1 G1) (Un F2 G2) W W' ∧ Ix (.goto t) xs G2 W'
  | .panic _, _, _ => False
  | .outgrown, _, _ => False
theorem Only.putObj (W : World) (l : Nat) (o : Obj) : Only (fun i => i = l) W (W.putObj l o) := ⟨rfl, rfl, rfl, by simp, fun i _ hn => World.putObj_heap_other hn⟩
section
variable {Fn : Fence} {n : Nat} {P : Program}
theorem wpIn_rangeFunc_A {α : Type} {g : Operand} {ps : Array Tmp} {assign body : Code} {Q : Exit → Act → World → Prop} {a : Act} {w : World}
    (hro : Fn.round = none) (h1 : 1 ≤ n) {gf : Nat} {lb : Array Value} (hg : a.eval g = .func (.func gf) #[] lb) (hFg : Fn.fn gf) (eg : ∀ args w, (callFunc gf args).run P w = .ok (.enter gf args) w)
    {encs : α → Array Value} {It : (Nat → Prop) → World → Prop} {S Sp : List α → Prop} {Ok : List α → α → Prop} {w0 : World} (hseq : SeqO Fn (n - 1) P gf lb encs It S Sp Ok w0)
    (hb0 : Ext w0 w) (hps : ∀ x, (encs x).size = ps.size) (F G : Nat → Prop) (hIt : ItAbides w0.heap.size It) (hit : It F w) (hdis : Dis F G w)
    (I : List α → (Nat → Prop) → World → Prop) (Ix : Code → List α → (Nat → Prop) → World → Prop) (hI : Abides I) (hIx : ∀ c, Abides (Ix c)) (h0 : I [] G w) (As : α → World → Act → World → Prop) (hAs : ∀ x W a1 W1, As x W a1 W1 → Ext W W1)
    (hassign : ∀ (l : Nat) (x : α) (W : World) (K : Act → World → Prop), (∀ a1 W1, As x W a1 W1 → K a1 W1) →
      assign.wpIn (Fn.inRound l) (n - 1 - 1) P (Exit.then K (fun _ _ _ => False)) { tmps := (ps.zip (encs x)).foldl (fun t (p, v) => t.setIfInBounds p v) a.tmps, defers := [] } W)
    (hbody : ∀ (l : Nat) (pre : List α) (x : α) (W0 : World) (a1 : Act) (W1 W : World) (F1 G1 : Nat → Prop), As x W0 a1 W1 → l < W0.heap.size → ¬ F1 l → ¬ G1 l → Only (fun i => i = l) W1 W → W.heap.size = W1.heap.size → Dis F1 G1 W0 → I pre G1 W → It F1 W → Dis F1 G1 W → Ok pre x → body.wpIn (Fn.inRound l) (n - 1 - 1) P (ownPostO It I Ix (pre ++ [x]) F1 G1 W) a1 W)
    (hdone : ∀ (D : Nat) (xs : List α) (W : World) (F1 G1 : Nat → Prop), w.heap.size ≤ D → S xs → I xs G1 W → It F1 W → Dis F1 G1 W → ¬ F1 D → ¬ G1 D → Keeps (Un F G) (Un F1 G1) w W → W.heap[D]? = some (.deferred (some [])) → Q .normal { a with defers := { target := .collected D, args := #[] } :: a.defers } W)
    (hstop : ∀ (D : Nat) (c : Code) (pre : List α) (W : World) (F1 G1 : Nat → Prop), w.heap.size ≤ D → Sp pre → Ix c pre G1 W → It F1 W → Dis F1 G1 W → ¬ F1 D → ¬ G1 D → Keeps (Un F G) (Un F1 G1) w W → W.heap[D]? = some (.deferred (some [])) → c.wpIn Fn n P Q { a with defers := { target := .collected D, args := #[] } :: a.defers } W) :
    (Code.rangeFunc g ps assign body).wpIn Fn n P Q a w := by
  refine wpIn_rangeFunc ?_
  intro fn hfn
  rw [hro]
  obtain ⟨rec, hrec⟩ : ∃ rec : LoopState → Option Code → Loop, rec = fun st pe => { state := st, pending := pe, fn, tmps := a.tmps, params := ps, assign, body, defers := w.heap.size } := ⟨_, rfl⟩
  obtain ⟨W1, hW1⟩ : ∃ W1, (w.alloc (.deferred (some []))).alloc (.loop (rec .ready none)) = W1 := ⟨_, rfl⟩
  have hL1 : W1.heap[w.heap.size + 1]? = some (.loop (rec .ready none)) := by
    rw [← hW1]; have := World.alloc_heap_new (w.alloc (.deferred (some []))) (.loop (rec .ready none)); rwa [World.size_alloc] at this
  have hK1 : W1.heap[w.heap.size]? = some (.deferred (some [])) := by
    rw [← hW1]; exact (Below.heap_alloc _ _ _ (by simp)).trans (World.alloc_heap_new w _)
  have hx1 : Ext w W1 := by rw [← hW1]; exact Ext.trans (Ext.alloc _ _) (Ext.alloc _ _)
  have hs1 : W1.heap.size = w.heap.size + 2 := by rw [← hW1]; simp
  have hsz0 : w0.heap.size ≤ w.heap.size := hb0.size
  have hI1 : I [] G W1 := hI _ _ _ _ h0 (fun i q => (hdis.2 i q).1) (Only.of hx1)
  have hit1 : It F W1 := hIt _ _ _ hit (Only.of hx1)
  refine ⟨w.heap.size + 1, [{ target := .collected w.heap.size, args := #[] }], W1, { target := .fn (.func gf) lb, args := #[.func (.yield (w.heap.size + 1)) #[] #[]] }, W1, gf,
    #[.func (.yield (w.heap.size + 1)) #[] #[]] ++ lb, W1, ?_, ?_, ?_, ?_, fun _ => h1, ?_⟩
  · rw [← hW1, hrec]; exact run_enterLoop_outer _ _ _ _ _
  · simp only [resolve, hg]
    simp [go_sem]
  · intro f' hf'; simp [Target.leads] at hf'; subst hf'; exact hFg
  · simp [invoke, go_sem, eg]
  · have hdis1 : Dis F (fun i => G i ∨ i = w.heap.size + 1 ∨ i = w.heap.size) W1 := ⟨fun i q => by have := hdis.1 i q; omega, fun i q => by
      rcases q with q | q | q
      · exact ⟨by have := (hdis.2 i q).1; omega, (hdis.2 i q).2⟩
      · exact ⟨by omega, fun r => by have := hdis.1 i r; omega⟩
      · exact ⟨by omega, fun r => by have := hdis.1 i r; omega⟩⟩
    refine (hseq (w.heap.size + 1)
      (fun pre G' W => ∃ G, G' = (fun i => G i ∨ i = w.heap.size + 1 ∨ i = w.heap.size) ∧ ¬ G (w.heap.size + 1) ∧ ¬ G w.heap.size ∧ I pre G W ∧ W.heap[w.heap.size + 1]? = some (.loop (rec .ready none)) ∧ W.heap[w.heap.size]? = some (.deferred (some [])))
      (fun pre G' W => ∃ c G, G' = (fun i => G i ∨ i = w.heap.size + 1 ∨ i = w.heap.size) ∧ ¬ G (w.heap.size + 1) ∧ ¬ G w.heap.size ∧ Ix c pre G W ∧ W.heap[w.heap.size + 1]? = some (.loop (rec .done (some c))) ∧ W.heap[w.heap.size]? = some (.deferred (some [])))
      W1 F (fun i => G i ∨ i = w.heap.size + 1 ∨ i = w.heap.size) (Ext.trans hb0 hx1) hit1 hdis1
      (fun pre G' W W' hs hlt ho => by
        obtain ⟨G, rfl, n1, n2, hi, hl, hk⟩ := hs
        exact ⟨G, rfl, n1, n2, hI _ _ _ _ hi (fun i q => hlt i (.inl q)) (ho.mono (fun i q => .inl (fun r => q (.inl r)))), (ho.block _ (hlt _ (.inr (.inl rfl))) (fun q => q (.inr (.inl rfl)))).trans hl, (ho.block _ (hlt _ (.inr (.inr rfl))) (fun q => q (.inr (.inr rfl)))).trans hk⟩)
      (fun pre G' W W' hs hlt ho => by
        obtain ⟨c, G, rfl, n1, n2, hi, hl, hk⟩ := hs
        exact ⟨c, G, rfl, n1, n2, hIx c _ _ _ _ hi (fun i q => hlt i (.inl q)) (ho.mono (fun i q => .inl (fun r => q (.inl r)))), (ho.block _ (hlt _ (.inr (.inl rfl))) (fun q => q (.inr (.inl rfl)))).trans hl, (ho.block _ (hlt _ (.inr (.inr rfl))) (fun q => q (.inr (.inr rfl)))).trans hk⟩)
      ?_ ⟨G, rfl, fun q => by have := (hdis.2 _ q).1; omega, fun q => by have := (hdis.2 _ q).1; omega, hI1, hL1, hK1⟩).mono ?_
    · rintro pre x W0 F1 G1' ⟨G1, rfl, n1, n2, hi0, hl0, hk0⟩ hitW0 hdisW0 hok
      have hlt0 : w.heap.size + 1 < W0.heap.size := (Array.getElem?_eq_some_iff.1 hl0).1
      have hy := run_yield (P := P) (args := encs x) hl0 (by rw [hrec]; exact hps x)
      rw [hrec] at hy
      refine ⟨fn, _, assign, body, hy, roundIn_of_wpIn hfn (hassign _ x W0 _ (fun a1 W hA => ?_))⟩
      have hxa := hAs _ _ _ _ hA
      have hza := hxa.size
      have hl := (hxa.block _ hlt0).trans hl0
      have hk := (hxa.block _ (by omega : w.heap.size < W0.heap.size)).trans hk0
      have hi : I pre G1 W := hI _ _ _ _ hi0 (fun i q => (hdisW0.2 i (.inl q)).1) (Only.of hxa)
      have hitW : It F1 W := hIt _ _ _ hitW0 (Only.of hxa)
      have hdisW : Dis F1 (fun i => G1 i ∨ i = w.heap.size + 1 ∨ i = w.heap.size) W := ⟨fun i q => Nat.lt_of_lt_of_le (hdisW0.1 i q) hza, fun i q => ⟨Nat.lt_of_lt_of_le (hdisW0.2 i q).1 hza, (hdisW0.2 i q).2⟩⟩
      have hlt : w.heap.size + 1 < W.heap.size := (Array.getElem?_eq_some_iff.1 hl).1
      have hF1 : ¬ F1 (w.heap.size + 1) := (hdisW.2 _ (.inr (.inl rfl))).2
      have hF0 : ¬ F1 w.heap.size := (hdisW.2 _ (.inr (.inr rfl))).2
      refine ⟨_, run_beginRound hl (by rw [hrec]), ?_⟩
      obtain ⟨o2, ho2⟩ : ∃ o2, o2 = Obj.loop { rec .ready none with state := .busy } := ⟨_, rfl⟩
      rw [← ho2]
      obtain ⟨W2, hW2⟩ : ∃ W2, W.putObj (w.heap.size + 1) o2 = W2 := ⟨_, rfl⟩
      rw [hW2]
      have hl2 : W2.heap[w.heap.size + 1]? = some o2 := hW2 ▸ World.putObj_heap_same hlt
      have hk2 : W2.heap[w.heap.size]? = some (.deferred (some [])) := by rw [← hW2]; exact (World.putObj_heap_other (by omega)).trans hk
      have hs2 : W2.heap.size = W.heap.size := by rw [← hW2]; simp
      have ho12 : Only (fun i => i = w.heap.size + 1) W W2 := hW2 ▸ Only.putObj _ _ _
      have hi2 : I pre G1 W2 := hI _ _ _ _ hi (fun i q => (hdisW.2 i (.inl q)).1) (ho12.mono (fun i q => .inl (fun r => by subst q; exact n1 r)))
      have hit2 : It F1 W2 := hIt _ _ _ hitW (ho12.mono (fun i q => .inl ⟨fun r => by subst q; exact hF1 r, by omega⟩))
      have hdis2 : Dis F1 G1 W2 := ⟨fun i q => by have := hdisW.1 i q; omega, fun i q => ⟨by have := (hdisW.2 i (.inl q)).1; omega, (hdisW.2 i (.inl q)).2⟩⟩
      refine wpIn_mono (hbody _ pre x W0 a1 W _ F1 G1 hA hlt0 hF1 n1 ho12 hs2 ⟨hdisW0.1, fun i q => hdisW0.2 i (.inl q)⟩ hi2 hit2 hdis2 hok) ?_
      have fin : ∀ (jump : Option Code) (W3 : World) (F2 G2 : Nat → Prop), It F2 W3 → Dis F2 G2 W3 → Keeps (Un F1 G1) (Un F2 G2) W2 W3 → ∃ W4, Only (fun i => i = w.heap.size + 1) W3 W4 ∧ W4.heap.size = W3.heap.size ∧
          (Instr.endRound (w.heap.size + 1) jump).run P W3 = .ok (.bool jump.isNone) W4 ∧ ¬ G2 (w.heap.size + 1) ∧ ¬ G2 w.heap.size ∧
          W4.heap[w.heap.size + 1]? = some (.loop (rec (if jump.isNone then .ready else .done) jump)) ∧ W4.heap[w.heap.size]? = some (.deferred (some [])) ∧
          It F2 W4 ∧ Dis F2 (fun i => G2 i ∨ i = w.heap.size + 1 ∨ i = w.heap.size) W4 ∧ Keeps (Un F1 (fun i => G1 i ∨ i = w.heap.size + 1 ∨ i = w.heap.size)) (Un F2 (fun i => G2 i ∨ i = w.heap.size + 1 ∨ i = w.heap.size)) W0 W4 := fun jump W3 F2 G2 q1 q2 q3 => by
        have hu1 : ¬ Un F1 G1 (w.heap.size + 1) := fun r => r.elim hF1 n1
        have hu0 : ¬ Un F1 G1 w.heap.size := fun r => r.elim hF0 n2
        have hv1 := q3.out (i := w.heap.size + 1) (by omega) hu1
        have hv0 := q3.out (i := w.heap.size) (by omega) hu0
        have hl3 : W3.heap[w.heap.size + 1]? = some o2 := (q3.only.block _ (by omega) hu1).trans hl2
        have hk3 : W3.heap[w.heap.size]? = some (.deferred (some [])) := (q3.only.block _ (by omega) hu0).trans hk2
        have hz3 := q3.only.size
        have he := run_endRound (P := P) jump (ho2 ▸ hl3)
        have ho := Only.putObj W3 (w.heap.size + 1) (.loop (rec (if jump.isNone then .ready else .done) jump))
        refine ⟨W3.putObj (w.heap.size + 1) (.loop (rec (if jump.isNone then .ready else .done) jump)), ho, by simp, by rw [hrec] at he ⊢; exact he, fun r => hv1 (.inr r), fun r => hv0 (.inr r),
          World.putObj_heap_same (by omega), (World.putObj_heap_other (by omega)).trans hk3, hIt _ _ _ q1 (ho.mono (fun i q => .inl ⟨fun r => by subst q; exact hv1 (.inl r), by omega⟩)), ⟨fun i q => by have := q2.1 i q; simpa using this, fun i q => ?_⟩, ⟨?_, fun i q => ?_⟩⟩
        · rcases q with q | q | q
          · exact ⟨by have := (q2.2 i q).1; simpa using this, (q2.2 i q).2⟩
          · subst q; exact ⟨by simp; omega, fun r => hv1 (.inl r)⟩
          · subst q; exact ⟨by simp; omega, fun r => hv0 (.inl r)⟩
        · refine (((Only.of hxa).trans' (ho12.mono (fun i q => .inl (.inr (.inr (.inl q)))))).trans' ?_).trans' (ho.mono (fun i q => .inl (.inr (.inr (.inl q)))))
          exact q3.only.mono (fun i q => .inl (q.elim .inl (fun r => .inr (.inl r))))
        · rcases q with q | q | q | q
          · rcases q3.new i (.inl q) with r | r
            · exact .inl (r.elim .inl (fun r => .inr (.inl r)))
            · exact .inr (by omega)
          · rcases q3.new i (.inr q) with r | r
            · exact .inl (r.elim .inl (fun r => .inr (.inl r)))
            · exact .inr (by omega)
          · exact .inl (.inr (.inr (.inl q)))
          · exact .inl (.inr (.inr (.inr q)))
      have ab : ∀ (J : List α → (Nat → Prop) → World → Prop) (G2 : Nat → Prop) (W3 W4 : World) (F2 : Nat → Prop) (xs : List α), Abides J → J xs G2 W3 → Dis F2 G2 W3 → ¬ G2 (w.heap.size + 1) → Only (fun i => i = w.heap.size + 1) W3 W4 → J xs G2 W4 := fun J G2 W3 W4 F2 xs q1 q2 q3 q4 q5 =>
        q1 _ _ _ _ q2 (fun i q => (q3.2 i q).1) (q5.mono (fun i q => .inl (fun r => by subst q; exact q4 r)))
      rintro e a3 W3 hp
      cases e with
      | normal =>
        obtain ⟨F2, G2, p1, p2, p3, p4⟩ := hp
        obtain ⟨W4, f0, f1, f2, f3, f4, f5, f6, f7, f8, f9⟩ := fin none W3 F2 G2 p1 p2 p3
        exact ⟨_, _, f2, F2, _, f7, f8, f9, .inl ⟨rfl, G2, rfl, f3, f4, ab _ _ _ _ _ _ hI p4 p2 f3 f0, f5, f6⟩⟩
      | ret =>
        obtain ⟨F2, G2, p1, p2, p3, p4⟩ := hp
        obtain ⟨W4, f0, f1, f2, f3, f4, f5, f6, f7, f8, f9⟩ := fin (some .ret) W3 F2 G2 p1 p2 p3
        exact ⟨_, _, f2, F2, _, f7, f8, f9, .inr ⟨rfl, .ret, G2, rfl, f3, f4, ab _ _ _ _ _ _ (hIx _) p4 p2 f3 f0, f5, f6⟩⟩
      | exit id =>
        obtain ⟨F2, G2, p1, p2, p3, p4⟩ := hp
        obtain ⟨W4, f0, f1, f2, f3, f4, f5, f6, f7, f8, f9⟩ := fin (some (.exit id)) W3 F2 G2 p1 p2 p3
        exact ⟨_, _, f2, F2, _, f7, f8, f9, .inr ⟨rfl, .exit id, G2, rfl, f3, f4, ab _ _ _ _ _ _ (hIx _) p4 p2 f3 f0, f5, f6⟩⟩
      | goto t =>
        obtain ⟨F2, G2, p1, p2, p3, p4⟩ := hp
        obtain ⟨W4, f0, f1, f2, f3, f4, f5, f6, f7, f8, f9⟩ := fin (some (.goto t)) W3 F2 G2 p1 p2 p3
        exact ⟨_, _, f2, F2, _, f7, f8, f9, .inr ⟨rfl, .goto t, G2, rfl, f3, f4, ab _ _ _ _ _ _ (hIx _) p4 p2 f3 f0, f5, f6⟩⟩
      | panic ch => exact hp.elim
      | outgrown => exact hp.elim
    · have fin : ∀ (W3 : World) (F2 G2 : Nat → Prop) (o : Obj), It F2 W3 → Dis F2 (fun i => G2 i ∨ i = w.heap.size + 1 ∨ i = w.heap.size) W3 → Keeps (Un F (fun i => G i ∨ i = w.heap.size + 1 ∨ i = w.heap.size)) (Un F2 (fun i => G2 i ∨ i = w.heap.size + 1 ∨ i = w.heap.size)) W1 W3 → ¬ G2 (w.heap.size + 1) → W3.heap[w.heap.size]? = some (.deferred (some [])) →
          It F2 (W3.putObj (w.heap.size + 1) o) ∧ Dis F2 G2 (W3.putObj (w.heap.size + 1) o) ∧ ¬ F2 w.heap.size ∧ Keeps (Un F G) (Un F2 G2) w (W3.putObj (w.heap.size + 1) o) ∧ (W3.putObj (w.heap.size + 1) o).heap[w.heap.size]? = some (.deferred (some [])) := fun W3 F2 G2 o q1 q2 q3 q4 q5 => by
        have ho := Only.putObj W3 (w.heap.size + 1) o
        have hf1 := (q2.2 _ (.inr (.inl rfl))).2
        refine ⟨hIt _ _ _ q1 (ho.mono (fun i q => .inl ⟨fun r => by subst q; exact hf1 r, by omega⟩)), ⟨fun i q => by have := q2.1 i q; simpa using this, fun i q => ⟨by have := (q2.2 i (.inl q)).1; simpa using this, (q2.2 i (.inl q)).2⟩⟩, (q2.2 _ (.inr (.inr rfl))).2, ⟨?_, fun i q => ?_⟩, (World.putObj_heap_other (by omega)).trans q5⟩
        · refine ((Only.of hx1).trans (F' := Un F (fun i => G i ∨ i = w.heap.size + 1 ∨ i = w.heap.size)) q3.only (fun i q => ?_)).trans (F' := fun i => i = w.heap.size + 1) ho (fun i q => .inr (by omega))
          rcases q with q | q | q | q
          · exact .inl (.inl q)
          · exact .inl (.inr q)
          · exact .inr (by omega)
          · exact .inr (by omega)
        · have hq : Un F2 (fun i => G2 i ∨ i = w.heap.size + 1 ∨ i = w.heap.size) i := q.elim .inl (fun r => .inr (.inl r))
          rcases q3.new i hq with r | r
          · rcases r with r | r | r | r
            · exact .inl (.inl r)
            · exact .inl (.inr r)
            · exact .inr (by omega)
            · exact .inr (by omega)
          · exact .inr (by omega)
      rintro e W2 ⟨⟨v, rfl⟩, F2, G2', q1, q2, q3, (⟨xs, hS, G2, rfl, n1, n2, hi, hl, hk⟩ | ⟨pre, hSp, c, G2, rfl, n1, n2, hi, hl, hk⟩)⟩
      · have he := run_endLoop (P := P) hl (by rw [hrec]; simp)
        obtain ⟨r1, r2, r3, r4, r5⟩ := fin W2 F2 G2 _ q1 q2 q3 n1 hk
        refine ⟨none, _, by rw [hrec] at he; exact he, hdone _ xs _ F2 G2 (Nat.le_refl _) hS (hI _ _ _ _ hi (fun i q => (q2.2 i (.inl q)).1) ((Only.putObj W2 _ _).mono (fun i q => .inl (fun r => by subst q; exact n1 r)))) r1 r2 r3 n2 r4 r5⟩
      · have he := run_endLoop (P := P) hl (by rw [hrec]; simp)
        obtain ⟨r1, r2, r3, r4, r5⟩ := fin W2 F2 G2 _ q1 q2 q3 n1 hk
        refine ⟨some c, _, by rw [hrec] at he; exact he, hstop _ c pre _ F2 G2 (Nat.le_refl _) hSp (hIx c _ _ _ _ hi (fun i q => (q2.2 i (.inl q)).1) ((Only.putObj W2 _ _).mono (fun i q => .inl (fun r => by subst q; exact n1 r)))) r1 r2 r3 n2 r4 r5⟩
theorem wpIn_rangeFunc_O {α : Type} {g : Operand} {ps : Array Tmp} {assign body : Code} {Q : Exit → Act → World → Prop} {a : Act} {w : World}
    (hro : Fn.round = none) (h1 : 1 ≤ n) {gf : Nat} {lb : Array Value} (hg : a.eval g = .func (.func gf) #[] lb) (hFg : Fn.fn gf) (eg : ∀ args w, (callFunc gf args).run P w = .ok (.enter gf args) w)
    {encs : α → Array Value} {It : (Nat → Prop) → World → Prop} {S Sp : List α → Prop} {Ok : List α → α → Prop} {w0 : World} (hseq : SeqO Fn (n - 1) P gf lb encs It S Sp Ok w0)
    (hb0 : Ext w0 w) (hps : ∀ x, (encs x).size = ps.size) (F G : Nat → Prop) (hIt : ItAbides w0.heap.size It) (hit : It F w) (hdis : Dis F G w)
    (I : List α → (Nat → Prop) → World → Prop) (Ix : Code → List α → (Nat → Prop) → World → Prop) (hI : Abides I) (hIx : ∀ c, Abides (Ix c)) (h0 : I [] G w) (a₁ : α → Act)
    (hassign : ∀ (l : Nat) (x : α) (W : World) (K : Act → World → Prop), K (a₁ x) W →
      assign.wpIn (Fn.inRound l) (n - 1 - 1) P (Exit.then K (fun _ _ _ => False)) { tmps := (ps.zip (encs x)).foldl (fun t (p, v) => t.setIfInBounds p v) a.tmps, defers := [] } W)
    (hbody : ∀ (l : Nat) (pre : List α) (x : α) (W : World) (F1 G1 : Nat → Prop), I pre G1 W → It F1 W → Dis F1 G1 W → Ok pre x → body.wpIn (Fn.inRound l) (n - 1 - 1) P (ownPostO It I Ix (pre ++ [x]) F1 G1 W) (a₁ x) W)
    (hdone : ∀ (D : Nat) (xs : List α) (W : World) (F1 G1 : Nat → Prop), w.heap.size ≤ D → S xs → I xs G1 W → It F1 W → Dis F1 G1 W → ¬ F1 D → ¬ G1 D → Keeps (Un F G) (Un F1 G1) w W → W.heap[D]? = some (.deferred (some [])) → Q .normal { a with defers := { target := .collected D, args := #[] } :: a.defers } W)
    (hstop : ∀ (D : Nat) (c : Code) (pre : List α) (W : World) (F1 G1 : Nat → Prop), w.heap.size ≤ D → Sp pre → Ix c pre G1 W → It F1 W → Dis F1 G1 W → ¬ F1 D → ¬ G1 D → Keeps (Un F G) (Un F1 G1) w W → W.heap[D]? = some (.deferred (some [])) → c.wpIn Fn n P Q { a with defers := { target := .collected D, args := #[] } :: a.defers } W) :
    (Code.rangeFunc g ps assign body).wpIn Fn n P Q a w :=
  wpIn_rangeFunc_A hro h1 hg hFg eg hseq hb0 hps F G hIt hit hdis I Ix hI hIx h0 (fun x W a1 W1 => a1 = a₁ x ∧ W1 = W) (fun x W a1 W1 q => by rw [q.2]; exact Ext.refl _)
    (fun l x W K hK => hassign l x W K (hK _ _ ⟨rfl, rfl⟩)) (fun l pre x W0 a1 W1 W F1 G1 q _ _ _ _ _ _ q1 q2 q3 q4 => by rw [q.1]; exact hbody l pre x W F1 G1 q1 q2 q3 q4) hdone hstop
end
end Go.Proofs.YtojoefcfimmipaaGreat
namespace Go.Proofs.YtojoefcfimmipaaGreat
set_option linter.unusedSimpArgs false
set_option linter.unusedVariables false
open Go.RowKit
section
variable {P : Program} {ops : Array Oper} {Q : Exit → Act → World → Prop} {S : World → Prop}
/-- what is asked of an operation that may be a round -/
def askW (P : Program) (o : Oper) (a : Act) (next : Act → World → Prop) (Q : Exit → Act → World → Prop) : Result Next → Prop
  | .ok (.round l f tmps assign body) w' => RoundIn Fence.wide 0 P l f tmps assign body w' fun
      | .returned v, w'' => next (a.put o.dst v) w''
      | .panicked chain, w'' => Q (.panic chain) a w''
      | .outgrown, _ => LetsOut Q
  | r => o.upon P a next Q r
def opW (P : Program) (ops : Array Oper) (Q : Exit → Act → World → Prop) (i : Nat) (K : Act → World → Prop) (a : Act) (w : World) : Prop :=
  match ops[i]? with
  | none => K a w
  | some o => if Region.wanted o (yielded ops a.tmps) then askW P o a K Q ((execOp a.eval o).run P w) else K (a.put o.dst undef) w
theorem askW_mono {o : Oper} {a : Act} {K K' : Act → World → Prop} (h : ∀ a w, K a w → K' a w) : ∀ r, askW P o a K Q r → askW P o a K' Q r := fun r hh => by
  cases r with
  | ok n w' =>
    cases n <;> simp only [askW, Oper.upon] at hh ⊢ <;>
      first
        | exact h _ _ hh
        | exact Calls.mono hh (fun e w'' he => by cases e <;> first | exact h _ _ he | exact he)
        | exact Rows.mono hh (fun _ _ he => h _ _ he)
        | exact RoundIn.mono hh (fun e w'' he => by cases e <;> first | exact h _ _ he | exact he)
  | halt x w' => cases x <;> simp only [askW, Oper.upon] at hh ⊢ <;> exact hh
theorem opW_mono {i : Nat} {a : Act} {w : World} {K K' : Act → World → Prop} (h : ∀ a w, K a w → K' a w) (hh : opW P ops Q i K a w) : opW P ops Q i K' a w := by
  unfold opW at *
  split
  · exact h _ _ (by simpa [*] using hh)
  · rename_i o ho
    simp only [ho] at hh
    split
    · rename_i hw; simp only [hw, if_true] at hh; exact askW_mono h _ hh
    · rename_i hw; simp only [hw] at hh; exact h _ _ hh
/-- what is asked here is what a fenced walk asks at the wide fence -/
theorem askW_in {o : Oper} {a : Act} {K : Act → World → Prop} (n : Nat) : ∀ r, askW P o a K Q r → o.uponIn Fence.wide n P a K Q r := fun r hh => by
  have hd : Fence.wide.depth.isSome = true → 1 ≤ n := fun q => by simp [Fence.wide] at q
  cases r with
  | ok x w' =>
    cases x <;> simp only [askW, Oper.upon, Oper.uponIn] at hh ⊢
    case value v => exact hh
    case skip => exact hh
    case defer d => exact hh
    case enter f args => exact ⟨hd, (callsIn_wide (n := n - 1)).2 hh⟩
    case row row args =>
      refine ⟨hd, fun c cs _ => ?_⟩
      obtain ⟨v, w'', h1, h2⟩ := hh c cs
      exact ⟨v, w'', h1, stepsIn_wide.2 h2⟩
    case round l f tmps assign body => exact ⟨hd, hh.1, fun c cs _ => hh.2 c cs (room_wide _)⟩
  | halt x w' => cases x <;> simp only [askW, Oper.upon, Oper.uponIn] at hh ⊢ <;> exact hh
def anyW (P : Program) (ops : Array Oper) (Q : Exit → Act → World → Prop) (S : World → Prop) : Nat → Array Bool → Act → World → Prop
  | 0, listed, a, w => Region.ready .any ops listed = [] ∧ Q .normal a w
  | fuel + 1, listed, a, w =>
    (Region.ready .any ops listed = [] → Q .normal a w) ∧
    ∀ i ∈ Region.ready .any ops listed, opW P ops Q i (fun a' w' => S w' ∧ anyW P ops Q S fuel (listed.setIfInBounds i true) a' w') a w
theorem opsIn_cons (n : Nat) (i : Nat) (rest : List Nat) (a : Act) (w : World) (h : opW P ops Q i (wpOpsIn Fence.wide n P ops Q rest) a w) : wpOpsIn Fence.wide n P ops Q (i :: rest) a w := by
  unfold opW at h
  simp only [wpOpsIn]
  cases ho : ops[i]? with
  | none => simp only [ho] at h; exact h
  | some o =>
    simp only [ho] at h ⊢
    split
    · rename_i hw
      simp only [hw, if_true] at h
      exact ⟨fun _ _ => trivial, askW_in n _ h⟩
    · rename_i hw
      simp only [hw] at h
      exact ⟨fun _ _ => trivial, h⟩
theorem anyW_sound (n : Nat) : ∀ (fuel t : Nat) (listed : Array Bool) (a : Act) (w : World), anyW P ops Q S fuel listed a w → wpOpsIn Fence.wide n P ops Q (Region.linearise.go .any ops fuel t listed []) a w := by
  intro fuel
  induction fuel with
  | zero => intro t listed a w h; simpa [Region.linearise.go, wpOpsIn] using h.2
  | succ fuel ih =>
    intro t listed a w h
    obtain ⟨h0, h1⟩ := h
    simp only [Region.linearise.go]
    change wpOpsIn Fence.wide n P ops Q (match (Region.ready .any ops listed)[t % (Region.ready .any ops listed).length]? with
      | some i => Region.linearise.go .any ops fuel (t / (Region.ready .any ops listed).length) (listed.setIfInBounds i true) [i]
      | none => [].reverse) a w
    cases hi : (Region.ready .any ops listed)[t % (Region.ready .any ops listed).length]? with
    | none =>
      have hnil : Region.ready .any ops listed = [] := by
        cases hr : Region.ready .any ops listed with
        | nil => rfl
        | cons x xs =>
          rw [hr, List.getElem?_eq_none_iff] at hi
          exact absurd (Nat.mod_lt t (show 0 < (x :: xs).length by simp)) (by omega)
      simpa [wpOpsIn] using h0 hnil
    | some i =>
      simp only []
      rw [linearise_go_acc, List.reverse_singleton, List.singleton_append]
      exact opsIn_cons n _ _ _ _ (opW_mono (fun a w q => ih _ _ a w q.2) (h1 i (List.mem_of_getElem? hi)))
theorem region_W {id : Nat} {a : Act} {w : World} (hm : P.follows .mixedOrders = true) (hS : S w.drew)
    (h : S w.drew → anyW P ops Q S ops.size (Array.replicate ops.size false) a w.drew) : (Code.region id ops true).wp P Q a w := by
  refine (wpIn_wide (n := 1)).1 (wpIn_region_draw fun t => ?_)
  simp only [Region.schedule, hm, Bool.true_or, if_true]
  exact anyW_sound 1 ops.size t _ a _ (h hS)
/-- an operation apart from another makes no difference to it -/
theorem opW_put {j : Nat} {oi oj : Oper} {v : Value} (hj : ops[j]? = some oj) (hap : oi.apart ops oj = true) (hsi : ∀ cs b, oi.op ≠ .select cs b) (hsj : ∀ cs b, oj.op ≠ .select cs b)
    (hQ : ∀ c a w, Q (.panic c) (a.put oi.dst v) w → Q (.panic c) a w) {K : Act → World → Prop} {a : Act} {w : World} (hy : YieldsIf P ops S oi v a) (h : opW P ops Q j K (a.put oi.dst v) w) :
    opW P ops Q j (fun a' w' => YieldsIf P ops S oi v a' ∧ K (a'.put oi.dst v) w') a w := by
  obtain ⟨h1, h2, h3⟩ := Oper.apart_spec hap
  have keep : ∀ (a : Act), YieldsIf P ops S oi v a → ∀ u, YieldsIf P ops S oi v (a.put oj.dst u) := fun a hy u => hy.of_same (execOp_put oi hsi a oj.dst u h3) (wanted_put oi a oj.dst u h3)
  have comm : ∀ (u : Value), K ((a.put oi.dst v).put oj.dst u) = K ((a.put oj.dst u).put oi.dst v) := fun u => by rw [Act.put_comm a v u h2]
  unfold opW at *
  simp only [hj] at *
  rw [wanted_put oj a oi.dst v h1] at h
  split
  · rename_i hw
    simp only [hw, if_true] at h
    rw [execOp_put oj hsj a oi.dst v h1] at h
    generalize (execOp a.eval oj).run P w = r at *
    cases r with
    | ok n w' =>
      cases n <;> simp only [askW, Oper.upon] at h ⊢
      case value u => exact ⟨keep a hy u, by rw [← comm u]; exact h⟩
      case skip => exact ⟨keep a hy _, by rw [← comm]; exact h⟩
      case defer d =>
        refine ⟨keep { a with defers := d :: a.defers } (hy.of_same rfl rfl) _, ?_⟩
        rw [← Act.put_comm _ v undef h2, ← Act.put_defers]
        exact h
      case enter f args =>
        refine Calls.mono h fun e w'' he => ?_
        cases e with
        | returned u => exact ⟨keep a hy u, by rw [← comm u]; exact he⟩
        | panicked c => exact hQ _ _ _ he
        | outgrown => exact he
      case row row args => exact Rows.mono h fun u w'' he => ⟨keep a hy u, by rw [← comm u]; exact he⟩
      case round l f tmps assign body =>
        refine RoundIn.mono h fun e w'' he => ?_
        cases e with
        | returned u => exact ⟨keep a hy u, by rw [← comm u]; exact he⟩
        | panicked c => exact hQ _ _ _ he
        | outgrown => exact he
    | halt x w' =>
      cases x <;> simp only [askW, Oper.upon] at h ⊢
      case panic u => exact hQ _ _ _ h
  · rename_i hw
    simp only [hw] at h
    exact ⟨keep a hy _, by rw [← comm]; exact h⟩
theorem opW_yields {i : Nat} {o : Oper} {v : Value} {a : Act} (hi : ops[i]? = some o) (hy : YieldsIf P ops S o v a) {K : Act → World → Prop} {w : World} (hS : S w) (h : K (a.put o.dst v) w) : opW P ops Q i K a w := by
  unfold opW
  simp only [hi]
  rcases hy with ⟨hw, hv⟩ | ⟨hw, rfl⟩
  · simp only [hw, if_true, hv w hS, askW, Oper.upon]; exact h
  · simp only [hw, Bool.false_eq_true, if_false]; exact h
theorem anyW_first {i : Nat} {oi : Oper} {v : Value} (hi : ops[i]? = some oi) (hsel : ∀ (j : Nat) (o : Oper) cs b, ops[j]? = some o → o.op ≠ .select cs b)
    (hQ : ∀ c a w, Q (.panic c) (a.put oi.dst v) w → Q (.panic c) a w) :
    ∀ (fuel : Nat) (listed : Array Bool) (a : Act) (w : World),
      (∀ j oj, ops[j]? = some oj → j ≠ i → listed.getD j true = false → (∀ e ∈ oj.after, Region.binds .any e = true → e.on ≠ i) → oi.apart ops oj = true) →
      i ∈ Region.ready .any ops listed → YieldsIf P ops S oi v a → S w →
      anyW P ops Q S fuel (listed.setIfInBounds i true) (a.put oi.dst v) w → anyW P ops Q S (fuel + 1) listed a w := by
  intro fuel
  induction fuel with
  | zero =>
    intro listed a w _ hr hy hS H
    refine ⟨fun h => (by rw [h] at hr; cases hr), fun j hj => ?_⟩
    by_cases hji : j = i
    · subst hji; exact opW_yields hi hy hS ⟨hS, H⟩
    · have := ready_mono hj hji
      rw [H.1] at this
      cases this
  | succ fuel ih =>
    intro listed a w hfree hr hy hS H
    refine ⟨fun h => (by rw [h] at hr; cases hr), fun j hj => ?_⟩
    by_cases hji : j = i
    · subst hji; exact opW_yields hi hy hS ⟨hS, H⟩
    · have h1 := H.2 j (ready_mono hj hji)
      obtain ⟨hjun, oj, hoj, hall⟩ := mem_ready.1 hj
      have hnot : ∀ e ∈ oj.after, Region.binds .any e = true → e.on ≠ i := fun e he hb heq => by
        have g1 := hall e he hb
        have g0 := (mem_ready.1 hr).1
        rw [heq] at g1
        rcases Nat.lt_or_ge i listed.size with h' | h'
        · simp [h'] at g0 g1; rw [g0] at g1; cases g1
        · simp [Array.getElem?_eq_none h'] at g1
      have h2 := opW_put hoj (hfree j oj hoj hji hjun hnot) (fun cs b => hsel i oi cs b hi) (fun cs b => hsel j oj cs b hoj) hQ hy h1
      refine opW_mono (fun a' w' h3 => ⟨h3.2.1, ih (listed.setIfInBounds j true) a' w' (fun k ok hk hki hun hno => hfree k ok hk hki ?_ hno) (ready_mono hr (Ne.symm hji)) h3.1 h3.2.1 ?_⟩) h2
      · by_cases hjk : j = k
        · subst hjk; exact hjun
        · rw [getD_set_ne true hjk] at hun; exact hun
      · rw [Array.setIfInBounds_comm _ _ hji]
        exact h3.2.2
theorem anyW_take {i : Nat} {oi : Oper} {v : Value} {fuel : Nat} {listed : Array Bool} {a : Act} {w : World} (hi : ops[i]? = some oi)
    (hs : Region.noSelect ops = true) (hf : Region.free .any ops listed i = true) (hr : (Region.ready .any ops listed).contains i = true)
    (hQ : ∀ c a w, Q (.panic c) (a.put oi.dst v) w → Q (.panic c) a w) (hy : YieldsIf P ops S oi v a) (hS : S w)
    (h : anyW P ops Q S fuel (listed.setIfInBounds i true) (a.put oi.dst v) w) : anyW P ops Q S (fuel + 1) listed a w :=
  anyW_first hi (Region.noSelect_spec hs) hQ fuel listed a w (Region.free_spec hi hf) (by simpa using hr) hy hS h
theorem tkW (i : Nat) {oi : Oper} {v : Value} {fuel : Nat} {listed : Array Bool} {a : Act} {w : World}
    (h : anyW P ops Q S fuel (listed.setIfInBounds i true) (a.put oi.dst v) w)
    (hi : ops[i]? = some oi := by simp only [List.getElem?_toArray, List.getElem?_cons_succ, List.getElem?_cons_zero]; exact rfl)
    (hs : Region.noSelect ops = true := by kernel_rfl) (hf : Region.free .any ops listed i = true := by kernel_rfl) (hr : (Region.ready .any ops listed).contains i = true := by kernel_rfl)
    (hQ : ∀ c a w, Q (.panic c) (a.put oi.dst v) w → Q (.panic c) a w := by exact fun _ _ _ h => h)
    (hw : Region.wanted oi (yielded ops a.tmps) = true := by rfl)
    (hy : ∀ w, S w → (execOp a.eval oi).run P w = .ok (.value v) w := by intro w hSw; (try dsimp only at hSw); go_simp; (try with_reducible rfl))
    (hS : S w := by assumption) : anyW P ops Q S (fuel + 1) listed a w := anyW_take hi hs hf hr hQ (Or.inl ⟨hw, hy⟩) hS h
/-- the one that may come up is a round -/
theorem anyW_round {i : Nat} {o : Oper} {fuel : Nat} {listed : Array Bool} {a : Act} {w : World} {l : Nat} {f : FuncId} {tmps : Array Value} {assign body : Code} (hr : Region.ready .any ops listed = [i]) (ho : ops[i]? = some o)
    (hw : Region.wanted o (yielded ops a.tmps) = true) (he : (execOp a.eval o).run P w = .ok (.round l f tmps assign body) w)
    (h : RoundIn Fence.wide 0 P l f tmps assign body w fun e w' => ∃ v, e = .returned v ∧ S w' ∧ (S w' → anyW P ops Q S fuel (listed.setIfInBounds i true) (a.put o.dst v) w')) : anyW P ops Q S (fuel + 1) listed a w := by
  refine ⟨fun h0 => absurd (hr ▸ h0) (by simp), fun j hj => ?_⟩
  obtain rfl : j = i := by rw [hr] at hj; simpa using hj
  unfold opW
  simp only [ho, hw, if_true, he, askW]
  refine RoundIn.mono h ?_
  rintro e w' ⟨v, rfl, h1, h2⟩
  exact ⟨h1, h2 h1⟩
theorem anyW_done {listed : Array Bool} {a : Act} {w : World} (hr : Region.ready .any ops listed = []) (h : Q .normal a w) : ∀ fuel, anyW P ops Q S fuel listed a w
  | 0 => ⟨hr, h⟩
  | _ + 1 => ⟨fun _ => h, by rw [hr]; simp⟩
end
end Go.Proofs.YtojoefcfimmipaaGreat
