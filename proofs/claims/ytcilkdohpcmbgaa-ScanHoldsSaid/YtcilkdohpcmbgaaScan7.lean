/- scan.Bounds, and its reference: the bounds that a condition sets. No conditions but that the node and its kids can be read. -/
import Derived.Test.YtcilkdohpcmbgaaScan6
import Derived.Test.YtcilkdohpcmbgaaSize
namespace Go.Proofs.Ytcilkdohpcmbgaa
set_option linter.unusedSimpArgs false
set_option linter.unusedVariables false
open Go.RowKit

def RS (s : ByteArray) (cs : List Value) : Prop := cs = [.string s]
def fieldsL : List ByteArray := [sId, sProc, sObject, sMethod, sInvoke, sReturn]

theorem fields_any (w : World) : Calls Try.prog 26 #[] w fun e w' => ∃ g, e = .returned (.slice (some ⟨g, 0, none⟩) 6 6) ∧ Row1 w' g 9 (fieldsL.map Value.string) ∧ Ext w w' := by
  go_enter Try.func26, Try.ntmps26
  go_wp2_with fail
  go_ret
  exact ⟨w.heap.size, rfl, Row1.made _ _ _, by (repeat' (with_reducible first | exact Below.refl _ _ | refine Ext.drewN ?_ _ | refine Below.drew ?_ | refine Below.setCell ?_ ?_ _ | refine Below.alloc ?_ ?_ _)) <;> (first | omega | (simp; done) | (simp; omega))⟩

abbrev Nar := Int × Int × Bool
def nstep (r : Nar) : Option (Int × Int) → Nar
  | some (a, b) => (max r.1 a, min r.2.1 b, true)
  | none => r
def stepN (f : ByteArray) (r : Nar) (k : NCell) : Nar := if k.kind = 4 ∧ k.field.toList = f.toList then nstep r (narrowL k.sign.toList k.value) else r
def narL (f : ByteArray) (parts : List NCell) : Nar := parts.foldl (stepN f) (-9223372036854775808, 9223372036854775807, false)
def boundOf (parts : List NCell) (f : ByteArray) : List Bnd := if (narL f parts).2.2 then [⟨f, (narL f parts).1, (narL f parts).2.1⟩] else []
def boundsL (parts : List NCell) : List Bnd := fieldsL.flatMap (boundOf parts)
def partsL (n : NCell) (ks : List NCell) : List NCell := if n.kind = 2 then ks else [n]

theorem narL_take (f : ByteArray) (parts : List NCell) (j : Nat) (h : j < parts.length) : narL f (parts.take (j + 1)) = stepN f (narL f (parts.take j)) parts[j] := by
  unfold narL
  rw [List.take_succ_eq_append_getElem h, List.foldl_append]
  rfl
theorem bounds_take (parts : List NCell) (i : Nat) (h : i < fieldsL.length) : (fieldsL.take (i + 1)).flatMap (boundOf parts) = (fieldsL.take i).flatMap (boundOf parts) ++ boundOf parts fieldsL[i] := by
  rw [List.take_succ_eq_append_getElem h, List.flatMap_append]
  simp
theorem boundOf_len (parts : List NCell) (f : ByteArray) : (boundOf parts f).length ≤ 1 := by unfold boundOf; split <;> simp
theorem bounds_len (parts : List NCell) (i : Nat) (h : i ≤ fieldsL.length) : ((fieldsL.take i).flatMap (boundOf parts)).length ≤ i := by
  induction i with
  | zero => simp
  | succ i ih => rw [bounds_take parts i (by omega), List.length_append]; have := boundOf_len parts fieldsL[i]; have := ih (by omega); omega

theorem Try.infoBound : (Try.prog.info? 44).map (fun i => (i.zero, i.size, i.bytes)) = some (some (.agg #[.string ByteArray.empty, .int .i64 0, .int .i64 0]), 3, 32) := by kernel_rfl

def InRel (f : ByteArray) (parts : List NCell) (wo : World) (s j : Value) (wy : World) : Prop :=
  ∃ (i : Nat) (r : Nar), i ≤ parts.length ∧ j = .int .i64 i ∧ s = .bool r.2.2 ∧ r = narL f (parts.take i) ∧
    Row1 wy wo.heap.size 44 [.string f, .int .i64 r.1, .int .i64 r.2.1] ∧ Ext wo wy
def OutRel (parts : List NCell) (t : TypeId) (w1 : World) (v i : Value) (wr : World) : Prop :=
  ∃ (k : Nat) (bs : List Bnd), k ≤ 6 ∧ i = .int .i64 k ∧ Ext w1 wr ∧ wr.ownsRow w1.heap.size t 3 v bs.length (bs.flatMap Bnd.cells) ∧ bs = (fieldsL.take k).flatMap (boundOf parts)

set_option maxRecDepth 100000 in
set_option maxHeartbeats 1600000 in
theorem scanBounds_any (n : NCell) (ks : List NCell) (w : World) (hn : RN n n.cells) (hks : Sl w 5 RN n.kids ks) :
    Calls Try.prog 9 #[.agg #[.int .i64 n.kind, n.kids, .string n.field, .string n.sign, .int .i64 n.value]] w
      fun e w' => (∃ v, e = .returned v ∧ Sl w' 3 RBnd v (boundsL (partsL n ks))) ∧ Ext w w' := by
  obtain ⟨kind, kids, field, sign, value⟩ := n
  dsimp only at hks
  obtain ⟨A, c, rfl⟩ := hks.form
  have HKS := Lib.hid hks
  have HN := Lib.hid hn
  clear hks hn
  obtain ⟨i0, hi0, hz0, hz1, hz2⟩ := info_parts Try.infoBound
  obtain ⟨parts, hparts⟩ : ∃ l, partsL ⟨kind, .slice A ks.length c, field, sign, value⟩ ks = l := ⟨_, rfl⟩
  have HPT := Lib.hid hparts
  clear hparts
  go_enter Try.func9, Try.ntmps9
  go_upto_if 18 with fail
  go_cut [3] (fun s3 wx => ∃ A' c', s3 = .slice A' parts.length c' ∧ Sl wx 5 RN s3 parts ∧ Ext w wx)
  case first =>
    by_cases hk : kind = 2
    · have hq : (kind == 2) = true := by simpa using hk
      have HK := Lib.hid hk
      clear hk
      go_wp2_with fail
      go_meet
      have e : parts = ks := by rw [← HPT.out]; simp [partsL, HK.out]
      exact ⟨A, c, by rw [e], by rw [e]; exact HKS.out.ext (by (repeat' (with_reducible first | exact Below.refl _ _ | refine Ext.drewN ?_ _ | refine Below.drew ?_ | refine Below.setCell ?_ ?_ _ | refine Below.alloc ?_ ?_ _)) <;> (first | omega | (simp; done) | (simp; omega))), by (repeat' (with_reducible first | exact Below.refl _ _ | refine Ext.drewN ?_ _ | refine Below.drew ?_ | refine Below.setCell ?_ ?_ _ | refine Below.alloc ?_ ?_ _)) <;> (first | omega | (simp; done) | (simp; omega))⟩
    · have hq : (kind == 2) = false := by simpa using hk
      go_wp2_with fail
      go_meet
      have e : parts = [⟨kind, .slice A ks.length c, field, sign, value⟩] := by rw [← HPT.out]; simp [partsL, hk]
      rw [e]
      refine ⟨_, _, rfl, Sl.laid (Row1.made' (by simp) 24 [.int .i64 kind, .slice A ks.length c, .string field, .string sign, .int .i64 value]) rfl (by omega) (by simp [maxLen]) (fun i x hi => ?_), by (repeat' (with_reducible first | exact Below.refl _ _ | refine Ext.drewN ?_ _ | refine Below.drew ?_ | refine Below.setCell ?_ ?_ _ | refine Below.alloc ?_ ?_ _)) <;> (first | omega | (simp; done) | (simp; omega))⟩
      match i, hi with
      | 0, hi =>
        injection hi with hi
        subst hi
        exact ⟨_, HN.out, rfl, fun j u hu => by simpa [NCell.cells] using hu⟩
  case rest =>
    obtain ⟨A', c', rfl, hsl, hext⟩ := hcut
    have HSL := Lib.hid hsl
    have HX := Lib.hid hext
    clear hsl hext
    go_wp2_with fail
    refine (fields_any _).mono ?_
    rintro e w1 ⟨g, rfl, hrow, hb1⟩
    have HSL := Lib.hid (HSL.out.ext hb1)
    have HX := Lib.hid (Ext.trans HX.out hb1)
    have HG := Lib.hid hrow
    clear hb1 hrow
    go_wp2_with fail
    go_loopw [4, 23] (OutRel parts 44 w1) (fun _ i _ => 6 - (intOf i).toNat)
    case atStart => exact ⟨0, [], by omega, rfl, Ext.refl _, World.ownsRow_nil _ _ _ _, rfl⟩
    case round =>
      obtain ⟨k, bs, hk, rfl, hb, hown, hbs⟩ := hrel
      have HBS := Lib.hid hbs
      have hbl : bs.length ≤ k := by rw [hbs]; exact bounds_len parts k hk
      clear hbs
      have HB := Lib.hid hb
      have HO := Lib.hid hown
      clear hb hown
      by_cases hlt : k < 6
      · have hkl : k < fieldsL.length := hlt
        have hd6 : decide ((k : Int) < 6) = true := by simp; omega
        obtain ⟨f, hf⟩ : ∃ f, fieldsL[k] = f := ⟨_, rfl⟩
        have HF := Lib.hid hf
        have hgl := HG.out.lt
        have hcf : wr.cell? ⟨g, k, none⟩ = some (.string f) := by
          rw [HB.out.cell (p := ⟨g, k, none⟩) hgl, HG.out.cell, List.getElem?_map, List.getElem?_eq_getElem hkl, hf]; rfl
        clear hf
        have hgr : g < wr.heap.size := Nat.lt_of_lt_of_le hgl HB.out.size
        go_wp2_with fail
        obtain ⟨wo, rfl⟩ : ∃ wo : World, wo = wr := ⟨_, rfl⟩
        go_loopw [8, 31] (InRel f parts wo) (fun _ j _ => parts.length - (intOf j).toNat)
        case atStart => exact ⟨0, (-9223372036854775808, 9223372036854775807, false), by omega, rfl, rfl, rfl, Row1.made _ _ _, Ext.alloc _ _⟩
        case round =>
          obtain ⟨i, r, hi, rfl, rfl, hr, hrow, hby⟩ := hrel
          have HR := Lib.hid hr
          have HRow := Lib.hid hrow
          have HBY := Lib.hid hby
          have hgb := hrow.lt
          have hc1 : wr.cell? ⟨wo.heap.size, 1, none⟩ = some (.int .i64 r.1) := hrow.cell 1
          have hc2 : wr.cell? ⟨wo.heap.size, 2, none⟩ = some (.int .i64 r.2.1) := hrow.cell 2
          have hc0 : wr.cell? ⟨wo.heap.size, 0, none⟩ = some (.string f) := hrow.cell 0
          have hs1 := hrow.soft 1
          have hs2 := hrow.soft 2
          clear hr hrow hby
          by_cases hil : i < parts.length
          · obtain ⟨_, _, _, hA⟩ := HSL.out.at
            obtain ⟨b, off, rfl, hbl, hx⟩ := hA (by omega)
            obtain ⟨cs, ⟨rfl, hv1, hv2, Ak, mk, ck, hkk⟩, _, hcs⟩ := hx i hil
            have hw := fun j u hu => ((HB.out.trans HBY.out).cell (p := ⟨b, off + i * 5 + j, none⟩) hbl).trans (hcs j u hu)
            have h0 := hw 0 _ rfl
            have h1 : wr.cell? ⟨b, off + i * 5 + 1, none⟩ = some (.slice Ak mk ck) := by rw [← hkk]; exact hw 1 _ rfl
            have h2 := hw 2 _ rfl
            have h3 := hw 3 _ rfl
            have h4 := hw 4 _ rfl
            simp only [Nat.add_zero] at h0
            clear hx hcs hw hA hkk
            have HT := Lib.hid (narL_take f parts i hil)
            generalize parts[i] = p at *
            by_cases hk4 : p.kind = 4
            · by_cases hff : p.field.toList = f.toList
              · have q1 : (p.kind == 4) = true := by simpa using hk4
                have q1' : (p.kind != 4) = false := by simpa using hk4
                have q2 : (p.field.toList == f.toList) = true := by simpa using hff
                have q2' : (p.field.toList != f.toList) = false := by simpa using hff
                have HS1 : Hid (stepN f r p = nstep r (narrowL p.sign.toList p.value)) := by unfold Hid stepN; rw [if_pos ⟨hk4, hff⟩]
                clear hk4 hff
                go_wp2_with fail
                refine (narrow_any _ _ _ _ _ _ hv1 hv2).mono ?_
                rintro e w2 ⟨⟨na, nb, ok, rfl, hnar⟩, hb2⟩
                have HNAR := Lib.hid hnar
                have HB2 := Lib.hid (Ext.trans (by (repeat' (with_reducible first | exact Ext.refl _ | exact Below.refl _ _ | refine Ext.drewN ?_ _ | refine Below.drew ?_ | refine Below.setCell ?_ ?_ _ | refine Below.alloc ?_ ?_ _)) <;> (first | omega | (simp; done) | (simp; omega)) : Ext wr _) hb2)
                clear hnar hb2
                have d1 : w2.cell? ⟨wo.heap.size, 1, none⟩ = some (.int .i64 r.1) := (HB2.out.cell hgb).trans hc1
                have d2 : w2.cell? ⟨wo.heap.size, 2, none⟩ = some (.int .i64 r.2.1) := (HB2.out.cell hgb).trans hc2
                have ds1 : w2.frozen? ⟨wo.heap.size, 1, none⟩ = false := (HRow.out.ext HB2.out hgb).soft 1
                have ds2 : w2.frozen? ⟨wo.heap.size, 2, none⟩ = false := (HRow.out.ext HB2.out hgb).soft 2
                cases ok with
                | true =>
                  go_wp2_with fail
                  all_goals
                    go_roundw
                    case measure => simp [intOf]; omega
                    case rel =>
                    refine ⟨i + 1, (max r.1 na, min r.2.1 nb, true), by omega, by go_num, rfl, by rw [HT.out, ← HR.out, HS1.out, HNAR.out]; rfl, ?_, ?_⟩
                    · have e1 : max r.1 na = if r.1 < na then na else r.1 := by split <;> omega
                      have e2 : min r.2.1 nb = if nb < r.2.1 then nb else r.2.1 := by split <;> omega
                      dsimp only
                      rw [e1, e2]
                      exact ((HRow.out.ext HB2.out hgb).set 1 _).set 2 _
                    · (repeat' (with_reducible first | exact HBY.out.trans HB2.out | exact Below.refl _ _ | refine Ext.drewN ?_ _ | refine Below.drew ?_ | refine Below.setCell ?_ ?_ _ | refine Below.alloc ?_ ?_ _)) <;> (first | omega | (simp; done) | (simp; omega))
                | false =>
                  go_wp2_with fail
                  go_roundw
                  case rel =>
                    refine ⟨i + 1, r, by omega, by go_num, rfl, ?_, HRow.out.ext HB2.out hgb, HBY.out.trans HB2.out⟩
                    rw [HT.out, ← HR.out, HS1.out, HNAR.out]; rfl
                  case measure => simp [intOf]; omega
              · have q1 : (p.kind == 4) = true := by simpa using hk4
                have q1' : (p.kind != 4) = false := by simpa using hk4
                have q2 : (p.field.toList == f.toList) = false := by simpa using hff
                have q2' : (p.field.toList != f.toList) = true := by simpa using hff
                have HS1 : Hid (stepN f r p = r) := by unfold Hid stepN; rw [if_neg (fun h => hff h.2)]
                clear hk4 hff
                go_wp2_with fail
                go_roundw
                case rel => exact ⟨i + 1, r, by omega, by go_num, rfl, by rw [HT.out, ← HR.out, HS1.out], HRow.out.alloc _, HBY.out.trans (Ext.alloc _ _)⟩
                case measure => simp [intOf]; omega
            · have q1 : (p.kind == 4) = false := by simpa using hk4
              have q1' : (p.kind != 4) = true := by simpa using hk4
              have HS1 : Hid (stepN f r p = r) := by unfold Hid stepN; rw [if_neg (fun h => hk4 h.1)]
              clear hk4
              go_wp2_with fail
              go_roundw
              case rel => exact ⟨i + 1, r, by omega, by go_num, rfl, by rw [HT.out, ← HR.out, HS1.out], HRow.out.alloc _, HBY.out.trans (Ext.alloc _ _)⟩
              case measure => simp [intOf]; omega
          · obtain rfl : i = parts.length := by omega
            have HRE : Hid (boundOf parts f = if r.2.2 then [⟨f, r.1, r.2.1⟩] else []) := by unfold Hid boundOf; rw [HR.out, List.take_length]
            cases hset : r.2.2 with
            | true =>
              have HSET := Lib.hid hset
              clear hset
              have hbo := HBY.out.size
              go_wp2_with (at_builtin; refine wpList_append_own _ rfl (.tmp 63) (.tmp 65) _ rfl w1.heap.size 44 i0 _ 3 32 Try.underlying28 hi0 hz0 hz1 hz2 rfl (by decide) _ _ _ rfl ((own_ext HO.out HBY.out).alloc _) ⟨wr.heap.size, 0, none⟩ 1 1 [.string f, .int .i64 r.1, .int .i64 r.2.1] rfl rfl ?c1 ?c2 ?c3 ?c4 ?c5 ?_)
              case c1 => exact new_cells _ _ _
              case c2 => simp [Value.oneCell']
              case c3 => simp [maxLen]; omega
              case c4 => omega
              case c5 => have := HB.out.size; simp; omega
              intro v' w' hown' hg' _
              go_wp2_with fail
              go_roundw
              case rel =>
                refine ⟨k + 1, bs ++ [⟨f, r.1, r.2.1⟩], by omega, by go_num, ?_, ?_, ?_⟩
                · exact Below.grown ((Ext.trans HB.out HBY.out).trans (Ext.alloc _ _)) hg' (by have := HB.out.size; simp; omega) (own_lt HO.out)
                · simpa [List.flatMap_append, Bnd.cells] using hown'
                · rw [bounds_take parts k hkl, HF.out, HRE.out, HSET.out, HBS.out]; rfl
              case measure => simp [intOf]; omega
            | false =>
              have HSET := Lib.hid hset
              clear hset
              go_wp2_with fail
              go_roundw
              case rel =>
                refine ⟨k + 1, bs, by omega, by go_num, HB.out.trans HBY.out, own_ext HO.out HBY.out, ?_⟩
                rw [bounds_take parts k hkl, HF.out, HRE.out, HSET.out, HBS.out]; simp
              case measure => simp [intOf]; omega
      · go_wp2_with fail
        go_ret
        obtain rfl : k = 6 := by omega
        refine ⟨⟨_, rfl, ?_⟩, HX.out.trans HB.out⟩
        rw [HPT.out, show boundsL parts = bs by rw [HBS.out]; rfl]
        exact own_sl HO.out rfl (fun i x hi => ⟨x.cells, rfl, rfl, flat_at Bnd.cells 3 (fun _ => rfl) _ i x hi⟩)
end Go.Proofs.Ytcilkdohpcmbgaa
