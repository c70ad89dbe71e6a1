/- ref28.Groups: a list's numbers, counted, rising. Conditions: fewer than 10^9 operations. -/
import Derived.Test.YtcilkdohpcmbgaaGrp
namespace Go.Proofs.Ytcilkdohpcmbgaa
set_option linter.unusedSimpArgs false
set_option linter.unusedVariables false
open Go.RowKit

def fieldI (f : ByteArray) (o : OpD) : Int := (valueL o f).getD 0
theorem groupsL_len (vs : List Int) (k : Nat) (h : k ≤ vs.length) : (groupsL (vs.take k)).length ≤ k := by
  induction k with
  | zero => simp [groupsL]
  | succ k ih =>
    rw [groupsL_take vs k (by omega)]
    have := insG_len vs[k] (groupsL (vs.take k))
    have := ih (by omega)
    omega
theorem groupsL_cnt (vs : List Int) (k : Nat) (h : k ≤ vs.length) : ∀ g ∈ groupsL (vs.take k), 1 ≤ g.cnt ∧ g.cnt ≤ k := by
  induction k with
  | zero => simp [groupsL]
  | succ k ih =>
    rw [groupsL_take vs k (by omega)]
    have := insG_cnt vs[k] k (by omega) _ (ih (by omega))
    intro g hg
    have := this g hg
    omega

def GrRel (f : ByteArray) (ops : List OpD) (w : World) (v i : Value) (wr : World) : Prop :=
  ∃ (k : Nat) (gs : List Grp), k ≤ ops.length ∧ i = .int .i64 k ∧ Ext w wr ∧ wr.ownsRow w.heap.size 86 2 v gs.length (gs.flatMap Grp.cells) ∧ gs = groupsL ((ops.map (fieldI f)).take k) ∧ (gs = [] → v = .slice none 0 0)

theorem Try.infoGroup2 : (Try.prog.info? 86).map (fun i => (i.zero, i.size, i.bytes)) = some (some (.agg #[.int .i64 0, .int .i64 0]), 2, 16) := by kernel_rfl

set_option maxRecDepth 100000 in
set_option maxHeartbeats 1600000 in
theorem refGroups_any (V : Value) (ops : List OpD) (f : ByteArray) (w : World) (hs : Sl w 11 ROp V ops) (hn : ops.length ≤ 1000000000) :
    Calls Try.prog 33 #[V, .string f] w fun e w' => (∃ v, e = .returned v ∧ Sl w' 2 RG v (groupsL (ops.map (fieldI f))) ∧ ∀ g, v.ownBlock = some g → w.heap.size ≤ g) ∧ Ext w w' := by
  obtain ⟨A, c, rfl⟩ := hs.form
  obtain ⟨_, hc1, hc2, hA⟩ := hs.at
  obtain ⟨i0, hi0, hz0, hz1, hz2⟩ := info_parts Try.infoGroup2
  have HS := Lib.hid hs
  clear hs
  go_enter Try.func33, Try.ntmps33
  go_wp2_with fail
  go_loopw [5, 6] (GrRel f ops w) (fun _ i _ => ops.length - (intOf i).toNat)
  case atStart => exact ⟨0, [], by omega, rfl, Ext.refl _, World.ownsRow_nil _ _ _ _, rfl, fun _ => rfl⟩
  case round =>
    obtain ⟨k, gs, hk, rfl, hb, hown, hgs, hnil⟩ := hrel
    have HB := Lib.hid hb
    have HO := Lib.hid hown
    have hkl : k ≤ (ops.map (fieldI f)).length := by simpa using hk
    have hgl : gs.length ≤ k := by rw [hgs]; exact groupsL_len _ k hkl
    have HC : Hid (∀ g ∈ gs, 1 ≤ g.cnt ∧ g.cnt ≤ k) := by unfold Hid; rw [hgs]; exact groupsL_cnt _ k hkl
    have HG := Lib.hid hgs
    have HNIL := Lib.hid hnil
    clear hb hown hgs hnil hkl
    by_cases hlt : k < ops.length
    · have hdk : decide ((k : Int) < (ops.length : Int)) = true := by simp; omega
      obtain ⟨b, off, rfl, hbl, hx⟩ := hA (by omega)
      obtain ⟨cs, rfl, _, hcs⟩ := hx k hlt
      have hw := fun j u hu => (HB.out.cell (p := ⟨b, off + k * 11 + j, none⟩) hbl).trans (hcs j u hu)
      have h0 := hw 0 _ rfl
      have h1 := hw 1 _ rfl
      have h2 := hw 2 _ rfl
      have h3 := hw 3 _ rfl
      have h4 := hw 4 _ rfl
      have h5 := hw 5 _ rfl
      have h6 := hw 6 _ rfl
      have h7 := hw 7 _ rfl
      have h8 := hw 8 _ rfl
      have h9 := hw 9 _ rfl
      have h10 := hw 10 _ rfl
      simp only [Nat.add_zero] at h0
      clear hx hcs hw hA
      have HT : Hid (groupsL ((ops.map (fieldI f)).take (k + 1)) = insG (fieldI f ops[k]) gs) := by
        unfold Hid
        rw [groupsL_take _ k (by simpa using hlt), HG.out, List.getElem_map]
      generalize ops[k] = o at *
      obtain ⟨v, hv⟩ : ∃ v, fieldI f o = v := ⟨_, rfl⟩
      rw [hv] at HT
      have HV := Lib.hid hv
      clear hv
      go_wp2_with fail
      refine (refValue_any o f _).mono ?_
      rintro e w1 ⟨rfl, hb1⟩
      rw [show (valueL o f).getD 0 = v from HV.out]
      generalize (valueL o f).isSome = okv
      have HB1 := Lib.hid (Ext.trans HB.out hb1)
      have HO1 := Lib.hid (own_ext HO.out hb1)
      clear hb1 h0 h1 h2 h3 h4 h5 h6 h7 h8 h9 h10
      obtain ⟨AV, cv, rfl, hcv1, hcv2, hAV⟩ := own_form HO1.out
      go_wp2_with fail
      go_loop [9] (fun i => ∃ p : Nat, p ≤ gs.length ∧ i = .int .i64 p ∧ ∀ j (hj : j < gs.length), j < p → gs[j].val < v) (fun i => gs.length - (intOf i).toNat)
      case atStart => exact ⟨0, by omega, rfl, fun j _ h => absurd h (by omega)⟩
      case round =>
        obtain ⟨p, hp, rfl, hlow⟩ := hrel
        have HL := Lib.hid hlow
        clear hlow
        by_cases hpl : p < gs.length
        · obtain ⟨g, rfl, hgb, hgl', hfro, hcell⟩ := hAV (by omega)
          have e0 : w1.cell? ⟨g, p * 2, none⟩ = some (.int .i64 gs[p].val) := hcell _ _ (by have := flat_at Grp.cells 2 (fun _ => rfl) gs p _ (List.getElem?_eq_getElem hpl) 0 _ rfl; simpa using this)
          have e1 : w1.cell? ⟨g, p * 2 + 1, none⟩ = some (.int .i64 gs[p].cnt) := hcell _ _ (flat_at Grp.cells 2 (fun _ => rfl) gs p _ (List.getElem?_eq_getElem hpl) 1 _ rfl)
          have HCELL := Lib.hid hcell
          clear hcell hAV
          by_cases hval : gs[p].val < v
          · have hd : decide (gs[p].val < v) = true := by simpa using hval
            go_wp2_with fail
            go_round
            case rel =>
              refine ⟨p + 1, by omega, by go_num, fun j hj hjp => ?_⟩
              by_cases e : j = p
              · subst e; exact hval
              · exact HL.out j hj (by omega)
            case measure => simp [intOf]; omega
          · have hd : decide (gs[p].val < v) = false := by simpa using hval
            have HI := Lib.hid (insG_at v gs p hp (fun j hj => HL.out j (by omega) hj) (fun _ => hval))
            have hdrop : gs.drop p = gs[p] :: gs.drop (p + 1) := List.drop_eq_getElem_cons hpl
            rw [hdrop] at HI
            clear hdrop
            by_cases heq : gs[p].val = v
            · have hq : (gs[p].val == v) = true := by simpa using heq
              have HEQ := Lib.hid heq
              have hcb := HC.out gs[p] (List.getElem_mem hpl)
              obtain ⟨hcb1, hcb2⟩ := hcb
              have hfr := hfro (p * 2 + 1)
              clear heq hval
              generalize hgp : gs[p] = gp at *
              have HGP := Lib.hid hgp
              clear hgp
              go_wp2_with fail
              go_roundw
              case measure => simp [intOf]; omega
              case rel =>
              refine ⟨k + 1, gs.set p ⟨v, gp.cnt + 1⟩, by omega, by go_num, by (repeat' (with_reducible first | exact HB1.out | exact Below.refl _ _ | refine Ext.drewN ?_ _ | refine Below.drew ?_ | refine Below.setCell ?_ ?_ _ | refine Below.alloc ?_ ?_ _)) <;> (first | omega | (simp; done) | (simp; omega)), ?_, ?_, ?_⟩
              · rw [List.length_set, ← flat_set Grp.cells 2 (fun _ => rfl) gs p gp 1 (.int .i64 (gp.cnt + 1)) ⟨v, gp.cnt + 1⟩ hpl HGP.out (by omega) (by simp [Grp.cells, HEQ.out])]
                exact own_set HO1.out _ _
              · rw [HT.out, HI.out]
                dsimp only
                rw [if_pos HEQ.out, List.set_eq_take_append_cons_drop, if_pos hpl]
              · intro h
                have h' : gs.length = 0 := by have := congrArg List.length h; simpa using this
                omega
            · have hq : (gs[p].val == v) = false := by simpa using heq
              have HEQ := Lib.hid heq
              clear heq hval
              go_upto_region 11 with fail
              have hsz1 := HB1.out.size
              have hne : ¬ cv = p := by omega
              go_upto_region 12 with (at_builtin; refine wpList_append_src _ rfl (.tmp 62) (.tmp 65) _ rfl w1.heap.size 86 i0 _ 2 16 Try.underlying38 hi0 hz0 hz1 hz2 rfl (by decide) _ _ _ rfl (World.ownsRow_made w1 #[] 0 ?bx1 ?bx2 ?bx3) _ p _ ((gs.take p).flatMap Grp.cells) rfl ?bx4 ?bx5 ?bx6 ?bx7 ?bx8 ?_)
              case bx4 => exact ⟨by rw [flat_len Grp.cells 2 (fun _ => rfl), List.length_take, Nat.min_eq_left hp], fun _ => ⟨g, 0, rfl, by simp; omega, fun j u hu => by rw [World.cell?_alloc_lt _ _ _ (by exact hgl'), Nat.zero_add]; exact HCELL.out j u (flat_take _ _ _ _ _ hu)⟩⟩
              case bx5 => intro u x _ hu; simp [Grp.cells] at hu; rcases hu with rfl | rfl <;> rfl
              case bx6 => simp [maxLen]; omega
              case bx7 => omega
              intro v2 w2 hown2 hg2
              have X2 : Ext w1 w2 := Below.grown (Ext.alloc _ _) hg2 (by simp) (by intro q hq; simp [Value.ownBlock] at hq; omega)
              have HX2 := Lib.hid X2
              have HO2 := Lib.hid hown2
              have hz2' := X2.size
              clear hown2 hg2 X2
              go_upto_region 12 with fail
              go_upto_region 13 with (at_builtin; refine wpList_append_src _ rfl (.tmp 67) (.tmp 70) _ rfl w1.heap.size 86 i0 _ 2 16 Try.underlying38 hi0 hz0 hz1 hz2 rfl (by decide) _ _ _ rfl (HO2.out.alloc _) _ 1 1 [.int .i64 v, .int .i64 1] rfl ?dx4 ?dx5 ?dx6 ?dx7 ?dx8 ?_)
              case dx4 => exact Src.new _ _ _ 1 2 rfl
              case dx5 => intro u hu; simp at hu; rcases hu with rfl | rfl <;> rfl
              case dx6 => simp [maxLen]; omega
              case dx7 => omega
              case dx8 => simp; omega
              intro v3 w3 hown3 hg3
              have X3 : Ext w1 w3 := Below.grown (HX2.out.trans (Ext.alloc _ _)) hg3 (by simp; omega) (own_lt HO2.out)
              have HX3 := Lib.hid X3
              have HO3 := Lib.hid hown3
              have hz3' := X3.size
              clear hown3 hg3 X3
              go_upto_region 13 with fail
              go_wp2_with (at_builtin; refine wpList_append_src _ rfl (.tmp 72) (.tmp 75) _ rfl w1.heap.size 86 i0 _ 2 16 Try.underlying38 hi0 hz0 hz1 hz2 rfl (by decide) _ _ _ rfl HO3.out _ (gs.length - p) _ ((gs.drop p).flatMap Grp.cells) rfl ?ex4 ?ex5 ?ex6 ?ex7 ?ex8 ?_)
              case ex4 => exact ⟨by rw [flat_len Grp.cells 2 (fun _ => rfl), List.length_drop], fun _ => ⟨g, p * 2, rfl, Nat.lt_of_lt_of_le hgl' HX3.out.size, fun j u hu => (HX3.out.cell (p := ⟨g, p * 2 + j, none⟩) hgl').trans (HCELL.out _ _ (flat_drop Grp.cells 2 (fun _ => rfl) gs p j hp u hu))⟩⟩
              case ex5 => intro u hu; simp [Grp.cells] at hu; obtain ⟨x, _, hu⟩ := hu; rcases hu with rfl | rfl <;> rfl
              case ex6 => simp [maxLen]; omega
              case ex7 => omega
              case ex8 => omega
              intro v4 w4 hown4 hg4
              have X4 : Ext w1 w4 := Below.grown HX3.out hg4 (by omega) (own_lt HO3.out)
              go_wp2_with fail
              go_roundw
              case measure => simp [intOf]; omega
              case rel =>
              refine ⟨k + 1, gs.take p ++ ⟨v, 1⟩ :: gs.drop p, by omega, by go_num, HB1.out.trans X4, ?_, ?_, by simp⟩
              · have e1 : (gs.take p ++ ⟨v, 1⟩ :: gs.drop p).length = p + 1 + (gs.length - p) := by simp; omega
                have e2 : (gs.take p ++ ⟨v, 1⟩ :: gs.drop p).flatMap Grp.cells = (gs.take p).flatMap Grp.cells ++ Value.int .i64 v :: Value.int .i64 1 :: (gs.drop p).flatMap Grp.cells := by simp [Grp.cells]
                rw [e1, e2]
                exact own_base hown4 HB1.out.size
              · rw [HT.out, HI.out]
                rw [if_neg HEQ.out, List.drop_eq_getElem_cons hpl]
        · obtain rfl : p = gs.length := by omega
          have HI : Hid (insG v gs = gs ++ [⟨v, 1⟩]) := by
            unfold Hid
            rw [insG_at v gs gs.length (Nat.le_refl _) (fun j hj => HL.out j (by omega) hj) (fun h => absurd h (by omega)), List.take_length, List.drop_length]
          by_cases hgs0 : gs.length = 0
          · obtain rfl : gs = [] := List.eq_nil_of_length_eq_zero hgs0
            have hv0 := HNIL.out rfl
            injection hv0 with ha _ hc0
            subst ha hc0
            have hsz1 := HB1.out.size
            go_upto_region 11 with fail
            go_upto_region 12 with (at_builtin; refine wpList_append_src _ rfl (.tmp 62) (.tmp 65) _ rfl w1.heap.size 86 i0 _ 2 16 Try.underlying38 hi0 hz0 hz1 hz2 rfl (by decide) _ _ _ rfl (World.ownsRow_made w1 #[] 0 ?by1 ?by2 ?by3) _ 0 _ [] rfl ?by4 ?by5 ?by6 ?by7 ?by8 ?_)
            all_goals (try (first | exact Nat.le_refl _ | exact Nat.zero_le _ | (simp [maxLen]; omega) | omega | (intro u hu; simp [Grp.cells] at hu; obtain ⟨x, _, hu⟩ := hu; rcases hu with rfl | rfl <;> rfl) | (intro u x _ hu; simp [Grp.cells] at hu; rcases hu with rfl | rfl <;> rfl)))
            case by4 => exact ⟨rfl, fun h => absurd h (by omega)⟩
            intro v2 w2 hown2 hg2
            have X2 : Ext w1 w2 := Below.grown (Ext.alloc _ _) hg2 (by simp) (by intro q hq; simp [Value.ownBlock] at hq; omega)
            have HX2 := Lib.hid X2
            have HO2 := Lib.hid hown2
            have hz2' := X2.size
            clear hown2 hg2 X2
            go_upto_region 12 with fail
            go_upto_region 13 with (at_builtin; refine wpList_append_src _ rfl (.tmp 67) (.tmp 70) _ rfl w1.heap.size 86 i0 _ 2 16 Try.underlying38 hi0 hz0 hz1 hz2 rfl (by decide) _ _ _ rfl (HO2.out.alloc _) _ 1 1 [.int .i64 v, .int .i64 1] rfl ?dy4 ?dy5 ?dy6 ?dy7 ?dy8 ?_)
            case dy4 => exact Src.new _ _ _ 1 2 rfl
            case dy5 => intro u hu; simp at hu; rcases hu with rfl | rfl <;> rfl
            case dy6 => simp [maxLen]; try omega
            case dy7 => omega
            case dy8 => simp; omega
            intro v3 w3 hown3 hg3
            have X3 : Ext w1 w3 := Below.grown (HX2.out.trans (Ext.alloc _ _)) hg3 (by simp; omega) (own_lt HO2.out)
            have HX3 := Lib.hid X3
            have HO3 := Lib.hid hown3
            have hz3' := X3.size
            clear hown3 hg3 X3
            go_upto_region 13 with fail
            go_wp2_with (at_builtin; refine wpList_append_src _ rfl (.tmp 72) (.tmp 75) _ rfl w1.heap.size 86 i0 _ 2 16 Try.underlying38 hi0 hz0 hz1 hz2 rfl (by decide) _ _ _ rfl HO3.out _ 0 _ [] rfl ?ey4 ?ey5 ?ey6 ?ey7 ?ey8 ?_)
            case ey4 => exact ⟨rfl, fun h => absurd h (by omega)⟩
            case ey5 => intro u hu; simp at hu
            case ey6 => simp [maxLen]; try omega
            case ey7 => omega
            case ey8 => omega
            intro v4 w4 hown4 hg4
            have X4 : Ext w1 w4 := Below.grown HX3.out hg4 (by omega) (own_lt HO3.out)
            go_wp2_with fail
            go_roundw
            case measure => simp [intOf]; omega
            case rel =>
            refine ⟨k + 1, [⟨v, 1⟩], by omega, by go_num, HB1.out.trans X4, ?_, ?_, by simp⟩
            · exact own_base (by simpa [Grp.cells] using hown4) HB1.out.size
            · rw [HT.out, HI.out]; rfl

          · obtain ⟨g, rfl, hgb, hgl', hfro, hcell⟩ := hAV (by omega)
            have HCELL := Lib.hid hcell
            clear hcell hAV
            by_cases hcv : cv = gs.length
            · subst hcv
              have hsz1 := HB1.out.size
              go_upto_region 11 with fail
              go_upto_region 12 with (at_builtin; refine wpList_append_src _ rfl (.tmp 62) (.tmp 65) _ rfl w1.heap.size 86 i0 _ 2 16 Try.underlying38 hi0 hz0 hz1 hz2 rfl (by decide) _ _ _ rfl (World.ownsRow_made w1 #[] 0 ?bz1 ?bz2 ?bz3) _ gs.length _ (gs.flatMap Grp.cells) rfl ?bz4 ?bz5 ?bz6 ?bz7 ?bz8 ?_)
              all_goals (try (first | exact Nat.le_refl _ | exact Nat.zero_le _ | (simp [maxLen]; omega) | omega | (intro u hu; simp [Grp.cells] at hu; obtain ⟨x, _, hu⟩ := hu; rcases hu with rfl | rfl <;> rfl) | (intro u x _ hu; simp [Grp.cells] at hu; rcases hu with rfl | rfl <;> rfl)))
              case bz4 => exact ⟨flat_len Grp.cells 2 (fun _ => rfl) gs, fun _ => ⟨g, 0, rfl, by simp; omega, fun j u hu => by rw [World.cell?_alloc_lt _ _ _ (by exact hgl'), Nat.zero_add]; exact HCELL.out j u hu⟩⟩
              intro v2 w2 hown2 hg2
              have X2 : Ext w1 w2 := Below.grown (Ext.alloc _ _) hg2 (by simp) (by intro q hq; simp [Value.ownBlock] at hq; omega)
              have HX2 := Lib.hid X2
              have HO2 := Lib.hid hown2
              have hz2' := X2.size
              clear hown2 hg2 X2
              go_upto_region 12 with fail
              go_upto_region 13 with (at_builtin; refine wpList_append_src _ rfl (.tmp 67) (.tmp 70) _ rfl w1.heap.size 86 i0 _ 2 16 Try.underlying38 hi0 hz0 hz1 hz2 rfl (by decide) _ _ _ rfl (HO2.out.alloc _) _ 1 1 [.int .i64 v, .int .i64 1] rfl ?dz4 ?dz5 ?dz6 ?dz7 ?dz8 ?_)
              case dz4 => exact Src.new _ _ _ 1 2 rfl
              case dz5 => intro u hu; simp at hu; rcases hu with rfl | rfl <;> rfl
              case dz6 => simp [maxLen]; try omega
              case dz7 => omega
              case dz8 => simp; omega
              intro v3 w3 hown3 hg3
              have X3 : Ext w1 w3 := Below.grown (HX2.out.trans (Ext.alloc _ _)) hg3 (by simp; omega) (own_lt HO2.out)
              have HX3 := Lib.hid X3
              have HO3 := Lib.hid hown3
              have hz3' := X3.size
              clear hown3 hg3 X3
              go_upto_region 13 with fail
              go_wp2_with (at_builtin; refine wpList_append_src _ rfl (.tmp 72) (.tmp 75) _ rfl w1.heap.size 86 i0 _ 2 16 Try.underlying38 hi0 hz0 hz1 hz2 rfl (by decide) _ _ _ rfl HO3.out _ 0 _ [] rfl ?ez4 ?ez5 ?ez6 ?ez7 ?ez8 ?_)
              case ez4 => exact ⟨rfl, fun h => absurd h (by omega)⟩
              case ez5 => intro u hu; simp at hu
              case ez6 => simp [maxLen]; try omega
              case ez7 => omega
              case ez8 => omega
              intro v4 w4 hown4 hg4
              have X4 : Ext w1 w4 := Below.grown HX3.out hg4 (by omega) (own_lt HO3.out)
              go_wp2_with fail
              go_roundw
              case measure => simp [intOf]; omega
              case rel =>
              refine ⟨k + 1, gs ++ [⟨v, 1⟩], by omega, by go_num, HB1.out.trans X4, ?_, ?_, by simp⟩
              · have e2 : (gs ++ [(⟨v, 1⟩ : Grp)]).flatMap Grp.cells = gs.flatMap Grp.cells ++ [Value.int .i64 v, Value.int .i64 1] := by simp [Grp.cells]
                rw [e2, List.length_append]
                exact own_base (by simpa using hown4) HB1.out.size
              · rw [HT.out, HI.out]

            · have hne : ¬ cv = gs.length := hcv
              have hsz1 := HB1.out.size
              go_upto_region 11 with fail
              go_upto_region 12 with (at_builtin; refine wpList_append_src _ rfl (.tmp 62) (.tmp 65) _ rfl w1.heap.size 86 i0 _ 2 16 Try.underlying38 hi0 hz0 hz1 hz2 rfl (by decide) _ _ _ rfl (World.ownsRow_made w1 #[] 0 ?bu1 ?bu2 ?bu3) _ gs.length _ (gs.flatMap Grp.cells) rfl ?bu4 ?bu5 ?bu6 ?bu7 ?bu8 ?_)
              all_goals (try (first | exact Nat.le_refl _ | exact Nat.zero_le _ | (simp [maxLen]; omega) | omega | (intro u hu; simp [Grp.cells] at hu; obtain ⟨x, _, hu⟩ := hu; rcases hu with rfl | rfl <;> rfl) | (intro u x _ hu; simp [Grp.cells] at hu; rcases hu with rfl | rfl <;> rfl)))
              case bu4 => exact ⟨flat_len Grp.cells 2 (fun _ => rfl) gs, fun _ => ⟨g, 0, rfl, by simp; omega, fun j u hu => by rw [World.cell?_alloc_lt _ _ _ (by exact hgl'), Nat.zero_add]; exact HCELL.out j u hu⟩⟩
              intro v2 w2 hown2 hg2
              have X2 : Ext w1 w2 := Below.grown (Ext.alloc _ _) hg2 (by simp) (by intro q hq; simp [Value.ownBlock] at hq; omega)
              have HX2 := Lib.hid X2
              have HO2 := Lib.hid hown2
              have hz2' := X2.size
              clear hown2 hg2 X2
              go_upto_region 12 with fail
              go_upto_region 13 with (at_builtin; refine wpList_append_src _ rfl (.tmp 67) (.tmp 70) _ rfl w1.heap.size 86 i0 _ 2 16 Try.underlying38 hi0 hz0 hz1 hz2 rfl (by decide) _ _ _ rfl (HO2.out.alloc _) _ 1 1 [.int .i64 v, .int .i64 1] rfl ?du4 ?du5 ?du6 ?du7 ?du8 ?_)
              case du4 => exact Src.new _ _ _ 1 2 rfl
              case du5 => intro u hu; simp at hu; rcases hu with rfl | rfl <;> rfl
              case du6 => simp [maxLen]; try omega
              case du7 => omega
              case du8 => simp; omega
              intro v3 w3 hown3 hg3
              have X3 : Ext w1 w3 := Below.grown (HX2.out.trans (Ext.alloc _ _)) hg3 (by simp; omega) (own_lt HO2.out)
              have HX3 := Lib.hid X3
              have HO3 := Lib.hid hown3
              have hz3' := X3.size
              clear hown3 hg3 X3
              go_upto_region 13 with fail
              go_wp2_with (at_builtin; refine wpList_append_src _ rfl (.tmp 72) (.tmp 75) _ rfl w1.heap.size 86 i0 _ 2 16 Try.underlying38 hi0 hz0 hz1 hz2 rfl (by decide) _ _ _ rfl HO3.out _ 0 _ [] rfl ?eu4 ?eu5 ?eu6 ?eu7 ?eu8 ?_)
              case eu4 => exact ⟨rfl, fun h => absurd h (by omega)⟩
              case eu5 => intro u hu; simp at hu
              case eu6 => simp [maxLen]; try omega
              case eu7 => omega
              case eu8 => omega
              intro v4 w4 hown4 hg4
              have X4 : Ext w1 w4 := Below.grown HX3.out hg4 (by omega) (own_lt HO3.out)
              go_wp2_with fail
              go_roundw
              case measure => simp [intOf]; omega
              case rel =>
              refine ⟨k + 1, gs ++ [⟨v, 1⟩], by omega, by go_num, HB1.out.trans X4, ?_, ?_, by simp⟩
              · have e2 : (gs ++ [(⟨v, 1⟩ : Grp)]).flatMap Grp.cells = gs.flatMap Grp.cells ++ [Value.int .i64 v, Value.int .i64 1] := by simp [Grp.cells]
                rw [e2, List.length_append]
                exact own_base (by simpa using hown4) HB1.out.size
              · rw [HT.out, HI.out]

    · go_wp2_with fail
      go_ret
      obtain rfl : k = ops.length := by omega
      refine ⟨⟨_, rfl, ?_, own_lt HO.out⟩, HB.out⟩
      rw [show groupsL (ops.map (fieldI f)) = gs by rw [HG.out, List.take_of_length_le (by simp)]]
      exact own_sl HO.out rfl (fun i x hi => ⟨x.cells, rfl, rfl, flat_at Grp.cells 2 (fun _ => rfl) _ i x hi⟩)
end Go.Proofs.Ytcilkdohpcmbgaa
