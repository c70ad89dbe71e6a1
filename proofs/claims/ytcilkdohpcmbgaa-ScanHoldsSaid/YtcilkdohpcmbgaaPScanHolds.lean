/- The statement ScanHoldsSaid: for every list of operations, every condition and every query that can be read as data, find.Holds and find.Sorted tell what the reference tells, and the chapter's example holds: the call returns true, and the arguments read as they did. No conditions. -/
import Derived.Test.YtcilkdohpcmbgaaLawH2
import Derived.Test.YtcilkdohpcmbgaaOpenOp
namespace Go.Proofs.Ytcilkdohpcmbgaa
set_option linter.unusedSimpArgs false
set_option linter.unusedVariables false
open Go.ChangeShapes Go.WideShapes Go.ChangeAt Go.RowKit

theorem Try.own : ownKnob Try.prog.godebug = none := by kernel_rfl
theorem Try.laidOut : laidOutB Try.prog = true := by kernel_rfl

section
variable {H : Type} {enc : TypeId × Value → H} {w : World} {spare : Nat → Bool} {held : Bool}
theorem Try.query9 : Try.prog.cellsOf 55 = 9 := by kernel_rfl
set_option maxRecDepth 100000 in
theorem open_query (fuel : Nat) {cs : List Value} {x : DataW H × List MemPlace} (h : DataW.trod enc Try.prog w 0 spare held fuel 55 cs = some x) :
    ∃ (n : NCell) (ord : ByteArray) (down : Bool) (limit : Int) (count : Bool), cs = n.cells ++ [.string ord, .bool down, .int .i64 limit, .bool count] ∧ RN n n.cells ∧ (Lit.int .i64 limit).wf = true ∧ ∃ d, NOk w d n := by
  obtain ⟨xs, k, rfl, _, hcl, hxl, hg⟩ := DataW.trod_struct Try.underlying55 h
  rw [Try.query9] at hcl
  match cs, hcl, xs, hxl with
  | [c0, c1, c2, c3, c4, c5, c6, c7, c8], _, [y0, y1, y2, y3, y4], _ =>
    have g0 := hg 0 _ rfl
    have g1 := hg 1 _ rfl
    have g2 := hg 2 _ rfl
    have g3 := hg 3 _ rfl
    have g4 := hg 4 _ rfl
    clear hg h hxl hcl
    simp [Try.cInt, Try.cBool, Try.cStr, Try.node5] at g0 g1 g2 g3 g4
    obtain ⟨n, hn, hd⟩ := open_node _ g0
    obtain ⟨s1, e1, _, w1⟩ := DataW.trod_string Try.underlying9 g1
    obtain ⟨b2, e2, _⟩ := DataW.trod_bool Try.underlying4 g2
    obtain ⟨n3, e3, _, w3⟩ := DataW.trod_int Try.underlying3 g3
    obtain ⟨b4, e4, _⟩ := DataW.trod_bool Try.underlying4 g4
    simp only [List.cons.injEq, and_true] at e1 e2 e3 e4
    subst e1 e2 e3 e4
    have hc := hn.1
    simp only [NCell.cells, List.cons.injEq, and_true] at hc
    obtain ⟨rfl, rfl, rfl, rfl, rfl⟩ := hc
    exact ⟨n, s1, b2, n3, b4, rfl, ⟨rfl, hn.2⟩, w3, _, hd⟩
end

set_option maxRecDepth 100000 in
set_option maxHeartbeats 1000000 in
theorem scanHolds_lifted (os : Os) (started : os.Started) (H : Type) (enc : TypeId × Value → H) :
    ReturnsInHanded {} Try.checked os 5 .any (Rows.scanHoldsSpec.pre6 enc Try.prog Try.f5 Rows.scanHoldsRow.domain false) (Rows.scanHoldsSpec.post enc Try.prog Try.f5 false true false false) := by
  refine returnsInHanded_of_change (C := Try.checked) Try.own started (by kernel_rfl) Try.func5
    (ChangeSpec.witness6 (enc := enc) (C := Try.checked) false ⟨#[], #[.slice none 0 0, .agg #[.int .i64 0, .slice none 0 0, .string ByteArray.empty, .string ByteArray.empty, .int .i64 0], .agg #[.int .i64 0, .slice none 0 0, .string ByteArray.empty, .string ByteArray.empty, .int .i64 0, .string ByteArray.empty, .bool false, .int .i64 0, .bool false]], []⟩ 8 (by kernel_rfl) (by kernel_rfl) (by kernel_rfl) (by kernel_rfl)) ?_
  intro W base args ds gs before hval0 hW hcnd _
  have hval : ∀ (j : Nat) t v, Try.f5.params[j]? = some t → args[j]? = some v → Value.okWide Try.prog W .any base t v := hval0
  have hW' := hW
  obtain ⟨p, q, hA0, hV, rfl, hfz, hnd⟩ := hW
  have hA : DataW.TrodAll enc Try.prog W 0 (fun _ => true) true Try.f5.params.toList args.toList ds p := hA0
  rw [Try.params5] at hA hval
  obtain ⟨v0, v1, v2, d0, d1, d2, p0, p1, p2, rfl, rfl, rfl, h0, h1, h2⟩ := trodAll_three hA
  obtain ⟨rfl, rfl⟩ := trodVars_none hV
  obtain ⟨a0, n0, m0, rfl⟩ := okWide_slice Try.underlying33 (hval 0 33 v0 rfl rfl)
  obtain ⟨cs1, rfl, _⟩ := okWide_struct Try.underlying24 (hval 1 24 v1 rfl rfl)
  obtain ⟨cs2, rfl, _⟩ := okWide_struct Try.underlying55 (hval 2 55 v2 rfl rfl)
  have h0k := h0
  have h1k := h1
  have h2k := h2
  obtain ⟨fuel0, hf0⟩ := h0
  obtain ⟨fuel1, hf1⟩ := h1
  obtain ⟨fuel2, hf2⟩ := h2
  clear hA0 hval0
  simp only [List.append_nil, List.append_assoc] at hW'
  have hlt : ∀ x ∈ p0 ++ (p1 ++ p2), x.block < W.heap.size := fun x hx => by simpa using hW'.lt x hx
  have hargs0 : ∀ (W' : World), Below W.heap.size W W' → DataW.Trod enc Try.prog W' 0 (fun b => decide (b < W.heap.size)) true 33 (.slice a0 n0 m0) d0 p0 :=
    fun W' hn => Below.trod Try.laidOut (by kernel_rfl) (of_decide_eq_true (by kernel_rfl)) h0k hn (fun x hx => hlt x (List.mem_append_left _ hx))
  have hargs1 : ∀ (W' : World), Below W.heap.size W W' → DataW.Trod enc Try.prog W' 0 (fun b => decide (b < W.heap.size)) true 24 (.agg cs1) d1 p1 :=
    fun W' hn => Below.trod Try.laidOut (by kernel_rfl) (of_decide_eq_true (by kernel_rfl)) h1k hn (fun x hx => hlt x (List.mem_append_right _ (List.mem_append_left _ hx)))
  have hargs2 : ∀ (W' : World), Below W.heap.size W W' → DataW.Trod enc Try.prog W' 0 (fun b => decide (b < W.heap.size)) true 55 (.agg cs2) d2 p2 :=
    fun W' hn => Below.trod Try.laidOut (by kernel_rfl) (of_decide_eq_true (by kernel_rfl)) h2k hn (fun x hx => hlt x (List.mem_append_right _ (List.mem_append_right _ hx)))
  obtain ⟨V, l, e0, hs, _⟩ := open_ops hf0
  obtain ⟨n, hn, hd⟩ := open_node fuel1 hf1
  obtain ⟨qn, ord, down, limit, count, hq, hqn, hql, _⟩ := open_query fuel2 hf2
  have e0' : Value.slice a0 n0 m0 = V := by simpa [Value.cells] using e0
  subst e0'
  obtain ⟨t, ht⟩ := NOk.tree _ _ hd
  obtain ⟨nA, nm, nc, hnk⟩ := hn.2.2.2
  obtain ⟨qA, qm, qc, hqk⟩ := hqn.2.2.2
  have hcs1 : cs1 = n.cells.toArray := by
    have := hn.1
    simp [Value.cells] at this
    rw [← this]
  subst hcs1
  obtain ⟨nk, nkids, nf, ns, nv⟩ := n
  obtain ⟨qk, qkids, qf, qs, qv⟩ := qn
  dsimp only at hnk hqk
  subst hnk hqk
  have hq2 : cs2.toList = [Value.int .i64 qk, Value.slice qA qm qc, Value.string qf, Value.string qs, Value.int .i64 qv, Value.string ord, Value.bool down, Value.int .i64 limit, Value.bool count] := by simpa [Value.cells, NCell.cells] using hq
  obtain ⟨cl2⟩ := cs2
  simp only at hq2
  subst hq2
  refine (scanHoldsLaw_any _ l fuel1 t nk nA nm nc nf ns nv qk qA qm qc qf qs qv ord down limit count W hs ⟨rfl, hn.2⟩ ht (bounds64 hql)).mono fun e W' ⟨he, hnx⟩ => ?_
  subst he
  refine ⟨_, rfl, _, _, _, [], p0 ++ (p1 ++ p2), [], hW', ?_, ?_, rfl, hnx.frame _, fun h => by cases h⟩
  · exact trodAll_mk1 (shut_bool Try.underlying4 true)
  · exact trodAll_mk3 (hargs0 _ hnx) (hargs1 _ hnx) (hargs2 _ hnx)

theorem scanHolds_holds : Rows.ScanHoldsSaid :=
  OpenClaim.holds_of_wide 5 Try.f5 rfl rfl rfl rfl rfl rfl rfl ⟨rfl, rfl, rfl, rfl, rfl⟩ rfl rfl rfl rfl rfl (by kernel_rfl) Try.func5 (by kernel_rfl)
    (of_decide_eq_true (by kernel_rfl)) (by unfold Func.isWrapper; first | (rw [if_pos (by decide +kernel)]; kernel_rfl) | (rw [if_neg (by decide +kernel)]; exact ⟨rfl, rfl⟩))
    (fun os started H enc _ => scanHolds_lifted os started H enc)

#print axioms scanHolds_holds
end Go.Proofs.Ytcilkdohpcmbgaa
