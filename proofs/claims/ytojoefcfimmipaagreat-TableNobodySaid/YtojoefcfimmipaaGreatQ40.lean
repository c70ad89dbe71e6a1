/- The statement TableNobodySaid: for every operation, every way and every list of numbers that can be read as data, no table (nil, or one without trees) answers as the document says, and the chapter's example holds: the call returns true, and the arguments read as they did. No conditions. -/
import Derived.SizedLaws
import Derived.Test.YtojoefcfimmipaaGreatQ39
import Derived.Test.YtojoefcfimmipaaGreatQ15
namespace Go.Proofs.YtojoefcfimmipaaGreat
set_option linter.unusedSimpArgs false
set_option linter.unusedVariables false
open Go.ChangeShapes Go.WideShapes Go.ChangeAt Go.RowKit
theorem Tryz.own : ownKnob Tryz.prog.godebug = none := by kernel_rfl
theorem Tryz.laidOut : laidOutB Tryz.prog = true := by kernel_rfl
theorem Tryz.bytesInt : Tryz.prog.bytesOf 3 = 8 := by kernel_rfl
section
variable {H : Type} {enc : TypeId × Value → H} {w : World} {spare : Nat → Bool} {held : Bool}
theorem open_ints {fuel : Nat} {cs : List Value} {x : DataW H × List MemPlace} (h : DataW.trod enc Tryz.prog w 0 spare held fuel 54 cs = some x) :
    ∃ A n c l, cs = [.slice A n c] ∧ Sl w 1 (fun x cs => cs = encN x) (.slice A n c) l ∧ (∀ x ∈ l, -9223372036854775808 ≤ x ∧ x ≤ 9223372036854775807) ∧ (n = 0 ∨ ∃ es sp, x.1 = .slice es sp ∧ es.length = n) := by
  obtain ⟨v, ys, rfl, hsl⟩ := open_sl (fun (a : Int) cs => cs = encN a ∧ -9223372036854775808 ≤ a ∧ a ≤ 9223372036854775807) Tryz.underlying54 Tryz.cInt (by omega) (fun m cs x _ hx => by
    obtain ⟨n0, e0, _, w0⟩ := DataW.trod_int Tryz.underlying3 hx
    exact ⟨n0, e0, bounds64 w0⟩) h
  obtain ⟨A, c, rfl⟩ := hsl.form
  refine ⟨A, _, c, ys, rfl, hsl.mono (fun _ _ h => h.1), fun q hq => ?_, ?_⟩
  · obtain ⟨_, _, h2⟩ := hsl.all q hq
    exact h2
  · rcases DataW.trod_slice Tryz.underlying54 h with ⟨e, _⟩ | ⟨a, len, cap, elems, rest, m, _, e, hx, _, _, _, hlen, _⟩
    · injection e with e _
      injection e with _ e _
      exact .inl e
    · injection e with e _
      injection e with _ e _
      exact .inr ⟨_, _, by rw [hx], by rw [List.length_map, hlen, e]⟩
end
set_option maxRecDepth 100000 in
set_option maxHeartbeats 1000000 in
theorem tableNobody_lifted (os : Os) (started : os.Started) (H : Type) (enc : TypeId × Value → H) :
    ReturnsInHanded {} Tryz.checked os 5 .any (Rows.tableNobodySpec.pre6 enc Tryz.prog Tryz.f5 Rows.tableNobodyRow.domain false) (Rows.tableNobodySpec.post enc Tryz.prog Tryz.f5 false true false false) := by
  refine returnsInHanded_of_change_sized (C := Tryz.checked) Tryz.own started (by kernel_rfl) Tryz.func5
    (ChangeSpec.witness6 (enc := enc) (C := Tryz.checked) false ⟨#[], #[.agg #[.int .i64 0, .int .i64 0, .int .i64 0, .int .i64 0, .int .i64 0, .int .i64 0, .int .i64 0, .bool false, .int .i64 0, .int .i64 0, .int .i64 0], .int .i64 0, .slice none 0 0], []⟩ 8 (by kernel_rfl) (by kernel_rfl) (by kernel_rfl) (by kernel_rfl)) ?_
  intro W base args ds gs before hval0 hW hcnd hsz _
  have hval : ∀ (j : Nat) t v, Tryz.f5.params[j]? = some t → args[j]? = some v → Value.okWide Tryz.prog W .any base t v := hval0
  have hW' := hW
  obtain ⟨p, q, hA0, hV, rfl, hfz, hnd⟩ := hW
  have hA : DataW.TrodAll enc Tryz.prog W 0 (fun _ => true) true Tryz.f5.params.toList args.toList ds p := hA0
  rw [Tryz.params5] at hA hval
  obtain ⟨v0, v1, v2, d0, d1, d2, p0, p1, p2, rfl, rfl, rfl, h0, h1, h2⟩ := trodAll_three hA
  obtain ⟨rfl, rfl⟩ := trodVars_none hV
  obtain ⟨cs0, rfl, _⟩ := okWide_struct Tryz.underlying53 (hval 0 53 v0 rfl rfl)
  obtain ⟨a2, n2, m2, rfl⟩ := okWide_slice Tryz.underlying54 (hval 2 54 v2 rfl rfl)
  have h0k := h0
  have h1k := h1
  have h2k := h2
  obtain ⟨fuel0, hf0⟩ := h0
  obtain ⟨fuel1, hf1⟩ := h1
  obtain ⟨fuel2, hf2⟩ := h2
  clear hA0 hval0
  simp only [List.append_nil, List.append_assoc] at hW'
  have hlt : ∀ x ∈ p0 ++ (p1 ++ p2), x.block < W.heap.size := fun x hx => by simpa using hW'.lt x hx
  have hargs0 : ∀ (W' : World), Below W.heap.size W W' → DataW.Trod enc Tryz.prog W' 0 (fun b => decide (b < W.heap.size)) true 53 (.agg cs0) d0 p0 :=
    fun W' hn => Below.trod Tryz.laidOut (by kernel_rfl) (of_decide_eq_true (by kernel_rfl)) h0k hn (fun x hx => hlt x (List.mem_append_left _ hx))
  have hargs1 : ∀ (W' : World), Below W.heap.size W W' → DataW.Trod enc Tryz.prog W' 0 (fun b => decide (b < W.heap.size)) true 3 v1 d1 p1 :=
    fun W' hn => Below.trod Tryz.laidOut (by kernel_rfl) (of_decide_eq_true (by kernel_rfl)) h1k hn (fun x hx => hlt x (List.mem_append_right _ (List.mem_append_left _ hx)))
  have hargs2 : ∀ (W' : World), Below W.heap.size W W' → DataW.Trod enc Tryz.prog W' 0 (fun b => decide (b < W.heap.size)) true 54 (.slice a2 n2 m2) d2 p2 :=
    fun W' hn => Below.trod Tryz.laidOut (by kernel_rfl) (of_decide_eq_true (by kernel_rfl)) h2k hn (fun x hx => hlt x (List.mem_append_right _ (List.mem_append_right _ hx)))
  obtain ⟨o, ho, how⟩ := open_op fuel0 hf0
  obtain ⟨k1, e1, _, w1⟩ := DataW.trod_int Tryz.underlying3 hf1
  obtain ⟨A, n, c, l, e2, hs, hl, hln⟩ := open_ints hf2
  have e2' : Value.slice a2 n2 m2 = .slice A n c := by simpa [Value.cells] using e2
  injection e2' with e3 e4 e5
  subst e3 e4 e5
  have e1' : v1 = .int .i64 k1 := by
    obtain ⟨q1, rfl⟩ := okWide_int Tryz.underlying3 (hval 1 3 v1 rfl rfl)
    simpa [Value.cells] using e1
  subst e1'
  have hcs0 : cs0 = o.cells.toArray := by
    have : cs0.toList = o.cells := by simpa [Value.cells, ROp] using ho
    rw [← this]
  subst hcs0
  have hn : n2 ≤ 1000000000000000000 := by
    rcases hln with rfl | ⟨es, sp, hd, rfl⟩
    · omega
    · have h3 := sized_slice (P := Tryz.prog) hsz (j := 2) (t := 54) (e := 3) (elems := es) (spare := sp) rfl (congrArg some hd) Tryz.underlying54
      rw [Tryz.bytesInt] at h3
      have h4 := reachBytes_lt
      omega
  refine (tableNobody_any o k1 l W (bounds64 how.result) hs hl hn).mono fun e W' ⟨he, hnx⟩ => ?_
  subst he
  refine ⟨_, rfl, _, _, _, [], p0 ++ (p1 ++ p2), [], hW', ?_, ?_, rfl, hnx.frame _, fun h => by cases h⟩
  · exact trodAll_mk1 (shut_bool Tryz.underlying4 true)
  · exact trodAll_mk3 (hargs0 _ hnx) (hargs1 _ hnx) (hargs2 _ hnx)
end Go.Proofs.YtojoefcfimmipaaGreat
