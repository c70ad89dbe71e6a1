/- ref28.Bounds: the same bounds. No conditions but that the node and its kids can be read. -/
import Derived.Test.YtcilkdohpcmbgaaScan7
namespace Go.Proofs.Ytcilkdohpcmbgaa
set_option linter.unusedSimpArgs false
set_option linter.unusedVariables false
open Go.RowKit

def saysV (l : List UInt8) (v : Int) : Int × Int × Bool :=
  if l = [61] then (v, v, true) else
  if l = [60, 61] then (-9223372036854775808, v, true) else
  if l = [62, 61] then (v, 9223372036854775807, true) else
  if l = [60] ∧ -9223372036854775808 < v then (-9223372036854775808, v - 1, true) else
  if l = [62] ∧ v < 9223372036854775807 then (v + 1, 9223372036854775807, true) else
  (9223372036854775807, -9223372036854775808, l == [60] || l == [62])
theorem saysV_narrow (l : List UInt8) (v : Int) (hv1 : -9223372036854775808 ≤ v) (hv2 : v ≤ 9223372036854775807) :
    narrowL l v = if (saysV l v).2.2 then some ((saysV l v).1, (saysV l v).2.1) else none := by
  unfold saysV narrowL
  by_cases h1 : l = [61]
  · simp [h1]
  · by_cases h2 : l = [60, 61]
    · simp [h2]
    · by_cases h3 : l = [62, 61]
      · simp [h3]
      · by_cases h4 : l = [60]
        · subst h4
          by_cases h5 : v = -9223372036854775808
          · simp [h5]
          · have h6 : -9223372036854775808 < v := by omega
            simp [h5, h6]
        · by_cases h5 : l = [62]
          · subst h5
            by_cases h6 : v = 9223372036854775807
            · simp [h6]
            · have h7 : v < 9223372036854775807 := by omega
              simp [h6, h7]
          · simp [h1, h2, h3, h4, h5]
theorem saysV_any (v : Int) (s : ByteArray) (w : World) (hv1 : -9223372036854775808 ≤ v) (hv2 : v ≤ 9223372036854775807) :
    Calls Try.prog 28 #[.string s, .int .i64 v] w fun e w' => e = .returned (.tuple #[.int .i64 (saysV s.toList v).1, .int .i64 (saysV s.toList v).2.1, .bool (saysV s.toList v).2.2]) ∧ w' = w := by
  go_enter Try.func28, Try.ntmps28
  go_wp2
  all_goals (go_ret3)
  all_goals (refine ⟨?_, rfl⟩)
  all_goals go_light
  all_goals (generalize s.toList = l at *)
  all_goals (simp only [beq_iff_eq, beq_eq_false_iff_ne, ne_eq, Bool.and_eq_true, Bool.and_eq_false_iff, decide_eq_true_eq, decide_eq_false_iff_not] at *)
  all_goals (simp_all [saysV])
  all_goals (first | omega | (split <;> simp_all <;> omega))

def InRel2 (f : ByteArray) (parts : List NCell) (wo : World) (lo hi s j : Value) (wy : World) : Prop :=
  ∃ (i : Nat) (r : Nar), i ≤ parts.length ∧ j = .int .i64 i ∧ lo = .int .i64 r.1 ∧ hi = .int .i64 r.2.1 ∧ s = .bool r.2.2 ∧ r = narL f (parts.take i) ∧ ∃ q, wy = wo.drewN q

theorem Try.infoBound2 : (Try.prog.info? 43).map (fun i => (i.zero, i.size, i.bytes)) = some (some (.agg #[.string ByteArray.empty, .int .i64 0, .int .i64 0]), 3, 32) := by kernel_rfl

set_option maxRecDepth 100000 in
set_option maxHeartbeats 1600000 in
theorem refBounds_any (n : NCell) (ks : List NCell) (w : World) (hn : RN n n.cells) (hks : Sl w 5 RN n.kids ks) :
    Calls Try.prog 10 #[.agg #[.int .i64 n.kind, n.kids, .string n.field, .string n.sign, .int .i64 n.value]] w
      fun e w' => (∃ v, e = .returned v ∧ Sl w' 3 RBnd v (boundsL (partsL n ks))) ∧ Ext w w' := by
  obtain ⟨kind, kids, field, sign, value⟩ := n
  dsimp only at hks
  obtain ⟨A, c, rfl⟩ := hks.form
  have HKS := Lib.hid hks
  have HN := Lib.hid hn
  clear hks hn
  obtain ⟨i0, hi0, hz0, hz1, hz2⟩ := info_parts Try.infoBound2
  obtain ⟨parts, hparts⟩ : ∃ l, partsL ⟨kind, .slice A ks.length c, field, sign, value⟩ ks = l := ⟨_, rfl⟩
  have HPT := Lib.hid hparts
  clear hparts
  go_enter Try.func10, Try.ntmps10
  go_upto_if 18 with fail
  go_cut [3] (fun s3 wx => ∃ A' c', s3 = .slice A' parts.length c' ∧ Sl wx 5 RN s3 parts ∧ Ext w wx)
  case first =>
    by_cases hk : kind = 2
    · have hq : (kind == 2) = true := by simpa using hk
      have HK := Lib.hid hk
      clear hk
      go_wp2_with fail
      go_meet
      have e : parts = ks := by rw [← HPT.out]; simp [partsL, HK.out]
      exact ⟨A, c, by rw [e], by rw [e]; exact HKS.out.ext (by (repeat' (with_reducible first | exact Below.refl _ _ | refine Ext.drewN ?_ _ | refine Below.drew ?_ | refine Below.setCell ?_ ?_ _ | refine Below.alloc ?_ ?_ _)) <;> (first | omega | (simp; done) | (simp; omega))), by (repeat' (with_reducible first | exact Below.refl _ _ | refine Ext.drewN ?_ _ | refine Below.drew ?_ | refine Below.setCell ?_ ?_ _ | refine Below.alloc ?_ ?_ _)) <;> (first | omega | (simp; done) | (simp; omega))⟩
    · have hq : (kind == 2) = false := by simpa using hk
      go_wp2_with fail
      go_meet
      have e : parts = [⟨kind, .slice A ks.length c, field, sign, value⟩] := by rw [← HPT.out]; simp [partsL, hk]
      rw [e]
      refine ⟨_, _, rfl, Sl.laid (Row1.made' (by simp) 24 [.int .i64 kind, .slice A ks.length c, .string field, .string sign, .int .i64 value]) rfl (by omega) (by simp [maxLen]) (fun i x hi => ?_), by (repeat' (with_reducible first | exact Below.refl _ _ | refine Ext.drewN ?_ _ | refine Below.drew ?_ | refine Below.setCell ?_ ?_ _ | refine Below.alloc ?_ ?_ _)) <;> (first | omega | (simp; done) | (simp; omega))⟩
      match i, hi with
      | 0, hi =>
        injection hi with hi
        subst hi
        exact ⟨_, HN.out, rfl, fun j u hu => by simpa [NCell.cells] using hu⟩
  case rest =>
    obtain ⟨A', c', rfl, hsl, hext⟩ := hcut
    have HSL := Lib.hid hsl
    have HX := Lib.hid hext
    clear hsl hext
    obtain ⟨w0, rfl⟩ : ∃ w0 : World, w0 = wc := ⟨_, rfl⟩
    go_upto_region 4 with fail
    go_cut [4] (fun s4 w1 => ∃ g, s4 = .slice (some ⟨g, 0, none⟩) 6 6 ∧ Row1 w1 g 9 (fieldsL.map Value.string) ∧ Ext w0 w1)
    case first =>
      go_wp2_with fail
      go_meet
      exact ⟨w0.heap.size, rfl, Row1.made _ _ _, Ext.alloc _ _⟩
    case rest =>
    obtain ⟨g, rfl, hrow, hb1⟩ := hcut
    obtain ⟨w1, rfl⟩ : ∃ w1 : World, w1 = wc := ⟨_, rfl⟩
    have HSL := Lib.hid (HSL.out.ext hb1)
    have HX := Lib.hid (Ext.trans HX.out hb1)
    have HG := Lib.hid hrow
    clear hb1 hrow
    go_wp2_with fail
    go_loopw [5, 6] (OutRel parts 43 w1) (fun _ i _ => 6 - (intOf i).toNat)
    case atStart => exact ⟨0, [], by omega, rfl, Ext.refl _, World.ownsRow_nil _ _ _ _, rfl⟩
    case round =>
      obtain ⟨k, bs, hk, rfl, hb, hown, hbs⟩ := hrel
      have HBS := Lib.hid hbs
      have hbl : bs.length ≤ k := by rw [hbs]; exact bounds_len parts k hk
      clear hbs
      have HB := Lib.hid hb
      have HO := Lib.hid hown
      clear hb hown
      by_cases hlt : k < 6
      · have hkl : k < fieldsL.length := hlt
        have hd6 : decide ((k : Int) < 6) = true := by simp; omega
        obtain ⟨f, hf⟩ : ∃ f, fieldsL[k] = f := ⟨_, rfl⟩
        have HF := Lib.hid hf
        have hgl := HG.out.lt
        have hcf : wr.cell? ⟨g, k, none⟩ = some (.string f) := by
          rw [HB.out.cell (p := ⟨g, k, none⟩) hgl, HG.out.cell, List.getElem?_map, List.getElem?_eq_getElem hkl, hf]; rfl
        clear hf
        have hgr : g < wr.heap.size := Nat.lt_of_lt_of_le hgl HB.out.size
        go_wp2_with fail
        obtain ⟨wo, rfl⟩ : ∃ wo : World, wo = wr := ⟨_, rfl⟩
        go_loopw [7, 8, 9, 10] (InRel2 f parts wo) (fun _ _ _ j _ => parts.length - (intOf j).toNat)
        case atStart => exact ⟨0, (-9223372036854775808, 9223372036854775807, false), by omega, rfl, rfl, rfl, rfl, rfl, 0, rfl⟩
        case round =>
          obtain ⟨i, r, hi, rfl, rfl, rfl, rfl, hr, q, rfl⟩ := hrel
          have HR := Lib.hid hr
          clear hr
          by_cases hil : i < parts.length
          · obtain ⟨_, _, _, hA⟩ := HSL.out.at
            obtain ⟨b, off, rfl, hbl', hx⟩ := hA (by omega)
            obtain ⟨cs, ⟨rfl, hv1, hv2, Ak, mk, ck, hkk⟩, _, hcs⟩ := hx i hil
            have hw := fun j u hu => (HB.out.cell (p := ⟨b, off + i * 5 + j, none⟩) hbl').trans (hcs j u hu)
            have h0 := hw 0 _ rfl
            have h2 := hw 2 _ rfl
            have h3 := hw 3 _ rfl
            have h4 := hw 4 _ rfl
            simp only [Nat.add_zero] at h0
            clear hx hcs hw hA hkk
            have HT := Lib.hid (narL_take f parts i hil)
            generalize parts[i] = p at *
            by_cases hk4 : p.kind = 4
            · by_cases hff : p.field.toList = f.toList
              · have q1 : (p.kind == 4) = true := by simpa using hk4
                have q1' : (p.kind != 4) = false := by simpa using hk4
                have q2 : (p.field.toList == f.toList) = true := by simpa using hff
                have q2' : (p.field.toList != f.toList) = false := by simpa using hff
                have HS1 : Hid (stepN f r p = nstep r (narrowL p.sign.toList p.value)) := by unfold Hid stepN; rw [if_pos ⟨hk4, hff⟩]
                have HNAR := Lib.hid (saysV_narrow p.sign.toList p.value hv1 hv2)
                clear hk4 hff
                go_wp2_with fail
                go_quiet (fail)
                go_wp2_with fail
                go_quiet ((go_at_call 28; (first | exact Calls.quiet_of_same (saysV_any _ _ _ hv1 hv2) | exact quiet2 (saysV_any _ _ _ hv1 hv2))))
                generalize saysV p.sign.toList p.value = sv at *
                obtain ⟨na, nb, ok⟩ := sv
                dsimp only at *
                cases ok with
                | true =>
                  go_wp2_with fail
                  go_roundw
                  case rel =>
                    have e1 : max r.1 na = if r.1 < na then na else r.1 := by split <;> omega
                    have e2 : min r.2.1 nb = if nb < r.2.1 then nb else r.2.1 := by split <;> omega
                    refine ⟨i + 1, (max r.1 na, min r.2.1 nb, true), by omega, by go_num, by rw [e1], by rw [e2], rfl, by rw [HT.out, ← HR.out, HS1.out, HNAR.out]; rfl, _, rfl⟩
                  case measure => simp [intOf]; omega
                | false =>
                  go_wp2_with fail
                  go_roundw
                  case rel => exact ⟨i + 1, r, by omega, by go_num, rfl, rfl, rfl, by rw [HT.out, ← HR.out, HS1.out, HNAR.out]; rfl, _, rfl⟩
                  case measure => simp [intOf]; omega
              · have q1 : (p.kind == 4) = true := by simpa using hk4
                have q1' : (p.kind != 4) = false := by simpa using hk4
                have q2 : (p.field.toList == f.toList) = false := by simpa using hff
                have q2' : (p.field.toList != f.toList) = true := by simpa using hff
                have HS1 : Hid (stepN f r p = r) := by unfold Hid stepN; rw [if_neg (fun h => hff h.2)]
                clear hk4 hff
                go_wp2_with fail
                go_quiet (fail)
                go_wp2_with fail
                go_roundw
                case rel => exact ⟨i + 1, r, by omega, by go_num, rfl, rfl, rfl, by rw [HT.out, ← HR.out, HS1.out], _, rfl⟩
                case measure => simp [intOf]; omega
            · have q1 : (p.kind == 4) = false := by simpa using hk4
              have q1' : (p.kind != 4) = true := by simpa using hk4
              have HS1 : Hid (stepN f r p = r) := by unfold Hid stepN; rw [if_neg (fun h => hk4 h.1)]
              clear hk4
              go_wp2_with fail
              go_quiet (fail)
              go_wp2_with fail
              go_roundw
              case rel => exact ⟨i + 1, r, by omega, by go_num, rfl, rfl, rfl, by rw [HT.out, ← HR.out, HS1.out], _, rfl⟩
              case measure => simp [intOf]; omega
          · obtain rfl : i = parts.length := by omega
            have HRE : Hid (boundOf parts f = if r.2.2 then [⟨f, r.1, r.2.1⟩] else []) := by unfold Hid boundOf; rw [HR.out, List.take_length]
            cases hset : r.2.2 with
            | true =>
              have HSET := Lib.hid hset
              clear hset
              go_wp2_with (at_builtin; refine wpList_append_own _ rfl (.tmp 75) (.tmp 83) _ rfl w1.heap.size 43 i0 _ 3 32 Try.underlying30 hi0 hz0 hz1 hz2 rfl (by decide) _ _ _ rfl ((own_ext HO.out (Ext.refl _)).alloc _) ⟨wo.heap.size, 0, none⟩ 1 1 [.string f, .int .i64 r.1, .int .i64 r.2.1] rfl rfl ?c1 ?c2 ?c3 ?c4 ?c5 ?_)
              case c1 => exact new_cells (wo.drewN q) _ _
              case c2 => simp [Value.oneCell']
              case c3 => simp [maxLen]; omega
              case c4 => omega
              case c5 => have := HB.out.size; simp; omega
              intro v' w' hown' hg' _
              go_wp2_with fail
              go_roundw
              case rel =>
                refine ⟨k + 1, bs ++ [⟨f, r.1, r.2.1⟩], by omega, by go_num, ?_, ?_, ?_⟩
                · exact Below.grown ((HB.out.drewN _).trans (Ext.alloc _ _)) hg' (by have := HB.out.size; simp; omega) (own_lt HO.out)
                · simpa [List.flatMap_append, Bnd.cells] using hown'
                · rw [bounds_take parts k hkl, HF.out, HRE.out, HSET.out, HBS.out]; rfl
              case measure => simp [intOf]; omega
            | false =>
              have HSET := Lib.hid hset
              clear hset
              go_wp2_with fail
              go_roundw
              case rel =>
                refine ⟨k + 1, bs, by omega, by go_num, HB.out.drewN _, own_ext HO.out ((Ext.refl _).drewN _), ?_⟩
                rw [bounds_take parts k hkl, HF.out, HRE.out, HSET.out, HBS.out]; simp
              case measure => simp [intOf]; omega
      · go_wp2_with fail
        go_ret
        obtain rfl : k = 6 := by omega
        refine ⟨⟨_, rfl, ?_⟩, HX.out.trans HB.out⟩
        rw [HPT.out, show boundsL parts = bs by rw [HBS.out]; rfl]
        exact own_sl HO.out rfl (fun i x hi => ⟨x.cells, rfl, rfl, flat_at Bnd.cells 3 (fun _ => rfl) _ i x hi⟩)
end Go.Proofs.Ytcilkdohpcmbgaa
