/- slices.SortStableFunc's merging in place, whole: two sorted neighbours become one sorted row, equals in their order. Conditions: the row lies whole, unfrozen; fewer than 2^62 elements. -/
import Derived.Test.YtgpnockjonicpaaDoorStab3
import Derived.Test.YtgpnockjonicpaaDoorBase
import Derived.Deep.CutBlock
namespace Go.Proofs.YtgpnockjonicpaaDoor
set_option linter.unusedSimpArgs false
set_option linter.unusedVariables false
open Go.RowKit Go.Lib Go.Sort Go.Shelf Go.Proofs

/-- a function's body; what stands behind its first statements -/
def bodyOf (f : Func) : Code := f.body.getD .skip
def dropSeq : Nat → Code → Code
  | 0, c => c
  | n + 1, .seq _ b => dropSeq n b
  | _ + 1, c => c

section
variable {P : Program} {α : Type} [Inhabited α] {k : Nat}

set_option maxHeartbeats 8000000 in
set_option maxRecDepth 1000000 in
theorem symTailA (L : StL P k) (enc : α → List Value) (cf : α → α → Int) (hS : SWO (ltOf cf)) (tag : α → Nat) (g : Nat) (cb : Array Value) (blk off cap : Nat) (d0 : Array α) (w0 : World)
    (eg : ∀ args w, (callFunc g args).run P w = .ok (.enter g args) w) (hcmp : CmpLays P g cb enc k cf blk off d0.size w0) (R : RowK enc k w0 blk off d0) (hsz : d0.size < 4611686018427387904) (len : Nat) (IH : ∀ (a m b : Nat) (d : Array α) (w : World), b - a ≤ len → a < m → m < b → b ≤ d.size → d0.size = d.size → SWK enc k w0 blk off d w → SymH (ltOf cf) tag a m b d → Calls P 55 #[.slice (some ⟨blk, off, none⟩) d.size cap, .int .i64 a, .int .i64 m, .int .i64 b, .func (.func g) #[] cb] w fun e w' => e = .returned (.tuple #[]) ∧ ∃ d', PermIn a b d d' ∧ SortedIn (lt2 (ltOf cf) tag) a b d' ∧ SWK enc k w0 blk off d' w')
    (a m b q s e : Nat) (d d2 : Array α) (wc : World) (hlen : b - a ≤ len + 1) (haq : a < q) (hqb : q < b) (has : a ≤ s) (hsq : s ≤ q) (heq : q ≤ e) (heb : e ≤ b) (hb : b ≤ d.size) (hs : d0.size = d.size) (hd2 : d2.size = d.size)
    (hp : PermIn a b d d2) (hX : SymH (ltOf cf) tag a s q d2 ∧ SymH (ltOf cf) tag q e b d2 ∧ (∀ x y, a ≤ x → x < q → q ≤ y → y < b → lt2 (ltOf cf) tag d2[y]! d2[x]! = false)) (S : SWK enc k w0 blk off d2 wc)
    (u5 u6 u7 u8 u9 u10 u11 u12 u13 u14 u15 u16 u17 u19 u21 u22 u23 u25 u26 u27 u28 u29 u30 u31 u32 u33 u34 u35 u36 u37 u38 u39 u40 u41 u42 u43 u44 u45 u46 u47 u48 u49 u50 u51 u52 u53 u54 u55 u56 u57 u58 u59 u60 u61 u62 u63 u64 u65 u66 u67 u68 u69 u70 u71 u72 u73 u74 u75 u76 u77 u78 u79 u80 u81 u82 u83 u84 u85 u86 u87 u88 u89 u90 u91 u92 u93 u94 u95 u96 u97 u98 u99 u100 u101 u102 u103 u104 u105 u106 u107 u108 u109 u110 u111 u112 u113 u114 u115 u116 u117 u118 u119 u120 u121 u122 u123 u124 u125 u126 u127 u128 u129 u130 u131 u132 u133 u134 u135 u136 u137 u138 u139 u140 u141 u142 u143 u144 u145 u146 u147 u148 u149 u150 u151 u152 u153 u154 u155 u156 u157 u158 u159 u160 u161 u162 u163 u164 u165 u166 u167 u168 u169 u170 u171 u172 u173 u174 u175 u176 u177 u178 u179 u180 u181 u182 u183 u184 u185 u186 u187 u188 u189 u190 u191 u192 u193 u194 u195 u196 u197 u198 u199 u200 u201 u202 u203 u204 u205 u206 u207 u208 u209 u210 u211 u212 u213 u214 u215 u216 u217 u218 u219 : Value) : Code.wp P (dropSeq 10 (bodyOf Tryd.f55)) (bodyPost P Tryd.f55 (fun e w' => e = .returned (.tuple #[]) ∧ ∃ d', PermIn a b d d' ∧ SortedIn (lt2 (ltOf cf) tag) a b d' ∧ SWK enc k w0 blk off d' w')) ⟨#[.slice (some ⟨blk, off, none⟩) d.size cap, .int .i64 a, .int .i64 m, .int .i64 b, .func (.func g) #[] cb, u5, u6, u7, u8, u9, u10, u11, u12, u13, u14, u15, u16, u17, .int .i64 q, u19, .int .i64 s, u21, u22, u23, .int .i64 e, u25, u26, u27, u28, u29, u30, u31, u32, u33, u34, u35, u36, u37, u38, u39, u40, u41, u42, u43, u44, u45, u46, u47, u48, u49, u50, u51, u52, u53, u54, u55, u56, u57, u58, u59, u60, u61, u62, u63, u64, u65, u66, u67, u68, u69, u70, u71, u72, u73, u74, u75, u76, u77, u78, u79, u80, u81, u82, u83, u84, u85, u86, u87, u88, u89, u90, u91, u92, u93, u94, u95, u96, u97, u98, u99, u100, u101, u102, u103, u104, u105, u106, u107, u108, u109, u110, u111, u112, u113, u114, u115, u116, u117, u118, u119, u120, u121, u122, u123, u124, u125, u126, u127, u128, u129, u130, u131, u132, u133, u134, u135, u136, u137, u138, u139, u140, u141, u142, u143, u144, u145, u146, u147, u148, u149, u150, u151, u152, u153, u154, u155, u156, u157, u158, u159, u160, u161, u162, u163, u164, u165, u166, u167, u168, u169, u170, u171, u172, u173, u174, u175, u176, u177, u178, u179, u180, u181, u182, u183, u184, u185, u186, u187, u188, u189, u190, u191, u192, u193, u194, u195, u196, u197, u198, u199, u200, u201, u202, u203, u204, u205, u206, u207, u208, u209, u210, u211, u212, u213, u214, u215, u216, u217, u218, u219], []⟩ wc := by
  have mixed := L.mixed; have t0 := L.t0; have a0 := L.a0; have z0 := L.z0; have v0 := L.v0; have t3 := L.t3; have a3 := L.a3; have z3 := L.z3; have v3 := L.v3; have t4 := L.t4; have a4 := L.a4; have z4 := L.z4; have v4 := L.v4; have t22 := L.t22; have a22 := L.a22; have z22 := L.z22; have v22 := L.v22; have t25 := L.t25; have a25 := L.a25; have z25 := L.z25; have v25 := L.v25; have t90 := L.t90; have a90 := L.a90; have z90 := L.z90; have v90 := L.v90; have aE := L.aE; have zE := L.zE
  have eM : ∀ args w, (callFunc 55 args).run P w = .ok (.enter 55 args) w := enters_of L.fM (by kernel_rfl) rfl
  have eR : ∀ args w, (callFunc 82 args).run P w = .ok (.enter 82 args) w := enters_of L.fR (by kernel_rfl) rfl
  have HL := Lib.hid L
  have HIH := Lib.hid IH
  have HC : Aside _ := hcmp
  have HSW : Hid (SWO (ltOf cf)) := hS
  have S2 : Aside (SWK enc k w0 blk off d2 wc) := S
  have HR : Hid (True ∧ PermIn a b d d2) := ⟨trivial, hp⟩
  have HX := Lib.hid hX
  have hsz2 : d.size < 4611686018427387904 := by omega
  clear S L hcmp hS IH hp hX
  dsimp only
  conv => arg 2; whnf
  let Q' : Exit → Act → World → Prop := bodyPost P Tryd.f55 (fun e w' => e = .returned (.tuple #[]) ∧ ∃ d', PermIn a b d d' ∧ SortedIn (lt2 (ltOf cf) tag) a b d' ∧ SWK enc k w0 blk off d' w')
  change Code.wp _ _ Q' _ _
  obtain ⟨B2, hB2⟩ : ∃ B : Bool, B = decide (a < s ∧ s < q) := ⟨_, rfl⟩
  have HB2 := Lib.hid hB2
  clear hB2
  go_upto_region 41 with fail
  go_cut [199] (fun u wx => u = .bool B2 ∧ wc = wx)
  case first =>
    by_cases u1 : a < s
    · have u1z : (a : Int) < (s : Int) := by omega
      by_cases u2 : s < q
      · have u2z : (s : Int) < (q : Int) := by omega
        go_wp2_with fail
        go_meet
        exact ⟨by rw [HB2.out, decide_eq_true ⟨u1, u2⟩], rfl⟩
      · have u2z : ¬ (s : Int) < (q : Int) := by omega
        go_wp2_with fail
        go_meet
        exact ⟨by rw [HB2.out, decide_eq_false (fun h => u2 h.2)], rfl⟩
    · have u1z : ¬ (a : Int) < (s : Int) := by omega
      go_wp2_with fail
      go_meet
      exact ⟨by rw [HB2.out, decide_eq_false (fun h => u1 h.1)], rfl⟩
  case rest =>
  obtain ⟨rfl, rfl⟩ := hcut
  go_upto_if 199 with fail
  go_cut [24] (fun u24 wx => u24 = .int .i64 e ∧ ∃ d3, d3.size = d.size ∧ Hid (PermIn a q d2 d3 ∧ SortedIn (lt2 (ltOf cf) tag) a q d3) ∧ Aside (SWK enc k w0 blk off d3 wx))
  case first =>
    cases B2 with
    | true =>
      have hB := of_decide_eq_true HB2.out.symm
      have hcall := HIH.out a s q d2 _ (by omega) hB.1 hB.2 (by omega) (by omega) S2.out HX.out.1
      rw [hd2] at hcall
      clear S2
      go_wp2_with (go_at_fn 55; refine hcall.mono ?_; rintro e w1 ⟨rfl, d3, hg1, hp1, S3⟩)
      go_meet
      exact ⟨rfl, d3, hg1.1.trans hd2, ⟨hg1, hp1⟩, S3⟩
    | false =>
      have hB := of_decide_eq_false HB2.out.symm
      go_wp2_with fail
      go_meet
      by_cases u1 : a < s
      · obtain rfl : s = q := by omega
        exact ⟨rfl, d2, hd2, ⟨permIn_refl _ _ _, HX.out.1.s1⟩, S2⟩
      · obtain rfl : a = s := by omega
        exact ⟨rfl, d2, hd2, ⟨permIn_refl _ _ _, HX.out.1.s2⟩, S2⟩
  case rest =>
  clear S2
  obtain ⟨rfl, d3, hd3, HP, S3⟩ := hcut
  have H3 : Hid (SymH (ltOf cf) tag q e b d3) := HX.out.2.1.congr heq heb (fun p h1 h2 => HP.out.1.2.1 p (.inr h1))
  have fin : Hid (∀ d4, PermIn q b d3 d4 → SortedIn (lt2 (ltOf cf) tag) q b d4 → PermIn a b d d4 ∧ SortedIn (lt2 (ltOf cf) tag) a b d4) := fun d4 p4 s4 => by
    have := sym_join (by omega) (by omega) (by omega) HX.out.2.2 HP.out.1 HP.out.2 p4 s4
    exact ⟨permIn_trans _ _ _ _ _ HR.out.2 this.1, this.2⟩
  clear HX HP HR
  by_cases u1 : q < e
  · have u1z : (q : Int) < (e : Int) := by omega
    by_cases u2 : e < b
    · have u2z : (e : Int) < (b : Int) := by omega
      have hcall := HIH.out q e b d3 _ (by omega) u1 u2 (by omega) (by omega) S3.out H3.out
      rw [hd3] at hcall
      clear S3
      go_wp2_with (go_at_fn 55; refine hcall.mono ?_; rintro e w1 ⟨rfl, d4, hg1, hp1, S4⟩)
      go_end0
      exact ⟨rfl, d4, (fin.out d4 hg1 hp1).1, (fin.out d4 hg1 hp1).2, S4⟩
    · have u2z : ¬ (e : Int) < (b : Int) := by omega
      obtain rfl : e = b := by omega
      go_wp2_with fail
      go_end0
      exact ⟨rfl, d3, (fin.out d3 (permIn_refl _ _ _) H3.out.s1).1, (fin.out d3 (permIn_refl _ _ _) H3.out.s1).2, S3.out⟩
  · have u1z : ¬ (q : Int) < (e : Int) := by omega
    obtain rfl : q = e := by omega
    go_wp2_with fail
    go_end0
    exact ⟨rfl, d3, (fin.out d3 (permIn_refl _ _ _) H3.out.s2).1, (fin.out d3 (permIn_refl _ _ _) H3.out.s2).2, S3.out⟩

set_option maxHeartbeats 8000000 in
set_option maxRecDepth 1000000 in
theorem symTailB (L : StL P k) (enc : α → List Value) (cf : α → α → Int) (hS : SWO (ltOf cf)) (tag : α → Nat) (g : Nat) (cb : Array Value) (blk off cap : Nat) (d0 : Array α) (w0 : World)
    (eg : ∀ args w, (callFunc g args).run P w = .ok (.enter g args) w) (hcmp : CmpLays P g cb enc k cf blk off d0.size w0) (R : RowK enc k w0 blk off d0) (hsz : d0.size < 4611686018427387904) (len : Nat) (IH : ∀ (a m b : Nat) (d : Array α) (w : World), b - a ≤ len → a < m → m < b → b ≤ d.size → d0.size = d.size → SWK enc k w0 blk off d w → SymH (ltOf cf) tag a m b d → Calls P 55 #[.slice (some ⟨blk, off, none⟩) d.size cap, .int .i64 a, .int .i64 m, .int .i64 b, .func (.func g) #[] cb] w fun e w' => e = .returned (.tuple #[]) ∧ ∃ d', PermIn a b d d' ∧ SortedIn (lt2 (ltOf cf) tag) a b d' ∧ SWK enc k w0 blk off d' w')
    (a m b q s : Nat) (d : Array α) (wr : World) (hlen : b - a ≤ len + 1) (ham : a < m) (hmb : m < b) (haq : a < q) (hqb : q < b) (has : a ≤ s) (hrq : s ≤ q) (hrm : s ≤ m) (hqb2 : q + m ≤ b + s) (hq1 : 2 * q ≤ a + b) (hq2 : a + b ≤ 2 * q + 1) (hb : b ≤ d.size) (hs : d0.size = d.size)
    (H : SymH (ltOf cf) tag a m b d) (hG : (s = a ∨ s + b = q + m ∨ ltOf cf d[q + m - s]! d[s - 1]! = false) ∧ (s = m ∨ s = q ∨ ltOf cf d[q + m - 1 - s]! d[s]! = true)) (S : SWK enc k w0 blk off d wr)
    (u5 u6 u7 u8 u9 u10 u11 u12 u13 u14 u15 u16 u17 u21 u22 u23 u24 u25 u26 u27 u28 u29 u30 u31 u32 u33 u34 u35 u36 u37 u38 u39 u40 u41 u42 u43 u44 u45 u46 u47 u48 u49 u50 u51 u52 u53 u54 u55 u56 u57 u58 u59 u60 u61 u62 u63 u64 u65 u66 u67 u68 u69 u70 u71 u72 u73 u74 u75 u76 u77 u78 u79 u80 u81 u82 u83 u84 u85 u86 u87 u88 u89 u90 u91 u92 u93 u94 u95 u96 u97 u98 u99 u100 u101 u102 u103 u104 u105 u106 u107 u108 u109 u110 u111 u112 u113 u114 u115 u116 u117 u118 u119 u120 u121 u122 u123 u124 u125 u126 u127 u128 u129 u130 u131 u132 u133 u134 u135 u136 u137 u138 u139 u140 u141 u142 u143 u144 u145 u146 u147 u148 u149 u150 u151 u152 u153 u154 u155 u156 u157 u158 u159 u160 u161 u162 u163 u164 u165 u166 u167 u168 u169 u170 u171 u172 u173 u174 u175 u176 u177 u178 u179 u180 u181 u182 u183 u184 u185 u186 u187 u188 u189 u190 u191 u192 u193 u194 u195 u196 u197 u198 u199 u200 u201 u202 u203 u204 u205 u206 u207 u208 u209 u210 u211 u212 u213 u214 u215 u216 u217 u218 u219 : Value) : Code.wp P (dropSeq 8 (bodyOf Tryd.f55)) (bodyPost P Tryd.f55 (fun e w' => e = .returned (.tuple #[]) ∧ ∃ d', PermIn a b d d' ∧ SortedIn (lt2 (ltOf cf) tag) a b d' ∧ SWK enc k w0 blk off d' w')) ⟨#[.slice (some ⟨blk, off, none⟩) d.size cap, .int .i64 a, .int .i64 m, .int .i64 b, .func (.func g) #[] cb, u5, u6, u7, u8, u9, u10, u11, u12, u13, u14, u15, u16, u17, .int .i64 q, .int .i64 ((q : Int) + (m : Int)), .int .i64 s, u21, u22, u23, u24, u25, u26, u27, u28, u29, u30, u31, u32, u33, u34, u35, u36, u37, u38, u39, u40, u41, u42, u43, u44, u45, u46, u47, u48, u49, u50, u51, u52, u53, u54, u55, u56, u57, u58, u59, u60, u61, u62, u63, u64, u65, u66, u67, u68, u69, u70, u71, u72, u73, u74, u75, u76, u77, u78, u79, u80, u81, u82, u83, u84, u85, u86, u87, u88, u89, u90, u91, u92, u93, u94, u95, u96, u97, u98, u99, u100, u101, u102, u103, u104, u105, u106, u107, u108, u109, u110, u111, u112, u113, u114, u115, u116, u117, u118, u119, u120, u121, u122, u123, u124, u125, u126, u127, u128, u129, u130, u131, u132, u133, u134, u135, u136, u137, u138, u139, u140, u141, u142, u143, u144, u145, u146, u147, u148, u149, u150, u151, u152, u153, u154, u155, u156, u157, u158, u159, u160, u161, u162, u163, u164, u165, u166, u167, u168, u169, u170, u171, u172, u173, u174, u175, u176, u177, u178, u179, u180, u181, u182, u183, u184, u185, u186, u187, u188, u189, u190, u191, u192, u193, u194, u195, u196, u197, u198, u199, u200, u201, u202, u203, u204, u205, u206, u207, u208, u209, u210, u211, u212, u213, u214, u215, u216, u217, u218, u219], []⟩ wr := by
  have mixed := L.mixed; have t0 := L.t0; have a0 := L.a0; have z0 := L.z0; have v0 := L.v0; have t3 := L.t3; have a3 := L.a3; have z3 := L.z3; have v3 := L.v3; have t4 := L.t4; have a4 := L.a4; have z4 := L.z4; have v4 := L.v4; have t22 := L.t22; have a22 := L.a22; have z22 := L.z22; have v22 := L.v22; have t25 := L.t25; have a25 := L.a25; have z25 := L.z25; have v25 := L.v25; have t90 := L.t90; have a90 := L.a90; have z90 := L.z90; have v90 := L.v90; have aE := L.aE; have zE := L.zE
  have eM : ∀ args w, (callFunc 55 args).run P w = .ok (.enter 55 args) w := enters_of L.fM (by kernel_rfl) rfl
  have eR : ∀ args w, (callFunc 82 args).run P w = .ok (.enter 82 args) w := enters_of L.fR (by kernel_rfl) rfl
  have HL := Lib.hid L
  have HIH := Lib.hid IH
  have HC : Aside _ := hcmp
  have HSW : Hid (SWO (ltOf cf)) := hS
  have S1 : Aside (SWK enc k w0 blk off d wr) := S
  have HH : Hid (SymH (ltOf cf) tag a m b d) := H
  have HG := Lib.hid hG
  have hsz2 : d.size < 4611686018427387904 := by omega
  clear S L hcmp hS IH H hG
  dsimp only
  conv => arg 2; whnf
  let Q' : Exit → Act → World → Prop := bodyPost P Tryd.f55 (fun e w' => e = .returned (.tuple #[]) ∧ ∃ d', PermIn a b d d' ∧ SortedIn (lt2 (ltOf cf) tag) a b d' ∧ SWK enc k w0 blk off d' w')
  change Code.wp _ _ Q' _ _
  obtain ⟨e, he⟩ : ∃ e : Nat, e + s = q + m := ⟨q + m - s, by omega⟩
  have hez : (q : Int) + (m : Int) - (s : Int) = (e : Int) := by omega
  have hew : IntKind.i64.wrap ((e : Nat) : Int) = (e : Int) := by rw [IntKind.wrap_i64]; omega
  have hCut : Hid (∀ d2, RotG s m e d d2 → SymH (ltOf cf) tag a s q d2 ∧ SymH (ltOf cf) tag q e b d2 ∧ (∀ x y, a ≤ x → x < q → q ≤ y → y < b → lt2 (ltOf cf) tag d2[y]! d2[x]! = false)) := fun d2 hr => by
    refine sym_cut HSW.out HH.out has hrm (by omega) (by omega) (by omega) ?_ ?_ hr
    · rcases HG.out.1 with g | g | g
      · exact .inl g
      · exact .inr (.inl (by omega))
      · by_cases u1 : s = a
        · exact .inl u1
        · by_cases u2 : e = b
          · exact .inr (.inl u2)
          · have e1 : q + m - s = e := by omega
            rw [e1] at g
            exact .inr (.inr ⟨by omega, by omega, g⟩)
    · rcases HG.out.2 with g | g | g
      · exact .inl g
      · exact .inr (.inl (by omega))
      · by_cases u1 : s = m
        · exact .inl u1
        · by_cases u2 : e = m
          · exact .inr (.inl u2)
          · have e1 : q + m - 1 - s = e - 1 := by omega
            rw [e1] at g
            exact .inr (.inr ⟨by omega, by omega, g⟩)
  clear HG
  have heq : q ≤ e := by omega
  have heb : e ≤ b := by omega
  have hem : m ≤ e := by omega
  obtain ⟨B1, hB1⟩ : ∃ B : Bool, B = decide (s < m ∧ m < e) := ⟨_, rfl⟩
  have HB1 := Lib.hid hB1
  clear hB1
  go_upto_region 39 with fail
  go_cut [185] (fun u wx => u = .bool B1 ∧ wr = wx)
  case first =>
    by_cases u1 : s < m
    · have u1z : (s : Int) < (m : Int) := by omega
      by_cases u2 : m < e
      · have u2z : (m : Int) < (e : Int) := by omega
        go_wp2_with fail
        go_meet
        exact ⟨by rw [HB1.out, decide_eq_true ⟨u1, u2⟩], rfl⟩
      · have u2z : ¬ (m : Int) < (e : Int) := by omega
        go_wp2_with fail
        go_meet
        exact ⟨by rw [HB1.out, decide_eq_false (fun h => u2 h.2)], rfl⟩
    · have u1z : ¬ (s : Int) < (m : Int) := by omega
      go_wp2_with fail
      go_meet
      exact ⟨by rw [HB1.out, decide_eq_false (fun h => u1 h.1)], rfl⟩
  case rest =>
  obtain ⟨rfl, rfl⟩ := hcut
  go_upto_if 185 with fail
  go_cut [24] (fun u24 wx => u24 = .int .i64 e ∧ ∃ d2, d2.size = d.size ∧ Hid (RotG s m e d d2 ∧ PermIn a b d d2) ∧ Aside (SWK enc k w0 blk off d2 wx))
  case first =>
    cases B1 with
    | true =>
      have hB := of_decide_eq_true HB1.out.symm
      have hcall := rotate_gen (P := P) HL.out enc (.func (.func g) #[] cb) blk off cap s m e d0 d w0 wr R (by omega) S1.out hB.1 hB.2 (by omega) hsz2
      clear S1
      go_wp2_with (go_at_fn 82; refine hcall.mono ?_; rintro e w1 ⟨rfl, d1, hg1, hp1, S3⟩)
      go_meet
      exact ⟨rfl, d1, hg1.1, ⟨hg1, hp1 a b has heb hb⟩, S3⟩
    | false =>
      have hB := of_decide_eq_false HB1.out.symm
      go_wp2_with fail
      go_meet
      by_cases u1 : s < m
      · obtain rfl : e = m := by omega
        exact ⟨rfl, d, rfl, ⟨RotG.right0 s e d (by omega), permIn_refl _ _ _⟩, S1⟩
      · obtain rfl : s = m := by omega
        exact ⟨rfl, d, rfl, ⟨RotG.left0 s e d, permIn_refl _ _ _⟩, S1⟩
  case rest =>
  clear S1
  obtain ⟨rfl, d2, hd2, HR, S2⟩ := hcut
  refine ‹∀ (a : Act) (w : World), Code.wp _ _ _ a w → _› _ _ ?_
  exact symTailA HL.out enc cf HSW.out tag g cb blk off cap d0 w0 eg HC.out R hsz len HIH.out a m b q s e d d2 _ hlen haq hqb has hrq heq heb hb hs hd2 HR.out.2 (hCut.out d2 HR.out.1) S2.out _ _ _ _ _ _ _ _ _ _ _ _ _ _ _ _ _ _ _ _ _ _ _ _ _ _ _ _ _ _ _ _ _ _ _ _ _ _ _ _ _ _ _ _ _ _ _ _ _ _ _ _ _ _ _ _ _ _ _ _ _ _ _ _ _ _ _ _ _ _ _ _ _ _ _ _ _ _ _ _ _ _ _ _ _ _ _ _ _ _ _ _ _ _ _ _ _ _ _ _ _ _ _ _ _ _ _ _ _ _ _ _ _ _ _ _ _ _ _ _ _ _ _ _ _ _ _ _ _ _ _ _ _ _ _ _ _ _ _ _ _ _ _ _ _ _ _ _ _ _ _ _ _ _ _ _ _ _ _ _ _ _ _ _ _ _ _ _ _ _ _ _ _ _ _ _ _ _ _ _ _ _ _ _ _ _ _ _ _ _ _ _ _ _ _ _ _ _ _ _ _ _ _ _ _ _ _ _ _ _ _ _

set_option maxHeartbeats 8000000 in
set_option maxRecDepth 1000000 in
theorem symMerge_gen (L : StL P k) (enc : α → List Value) (cf : α → α → Int) (hS : SWO (ltOf cf)) (tag : α → Nat) (g : Nat) (cb : Array Value) (blk off cap : Nat) (d0 : Array α) (w0 : World)
    (eg : ∀ args w, (callFunc g args).run P w = .ok (.enter g args) w) (hcmp : CmpLays P g cb enc k cf blk off d0.size w0) (R : RowK enc k w0 blk off d0) (hsz : d0.size < 4611686018427387904) :
    ∀ (len a m b : Nat) (d : Array α) (w : World), b - a ≤ len → a < m → m < b → b ≤ d.size → d0.size = d.size → SWK enc k w0 blk off d w → SymH (ltOf cf) tag a m b d →
    Calls P 55 #[.slice (some ⟨blk, off, none⟩) d.size cap, .int .i64 a, .int .i64 m, .int .i64 b, .func (.func g) #[] cb] w fun e w' => e = .returned (.tuple #[]) ∧ ∃ d', PermIn a b d d' ∧ SortedIn (lt2 (ltOf cf) tag) a b d' ∧ SWK enc k w0 blk off d' w' := by
  intro len
  induction len with
  | zero => intro a m b d w h1 h2 h3; omega
  | succ len IH =>
  intro a m b d w hlen ham hmb hb hs S H
  have hsz2 : d.size < 4611686018427387904 := by omega
  by_cases c1 : m = a + 1
  · subst c1
    exact symLeft_gen L enc cf hS tag g cb blk off cap a b d0 d w0 w eg hcmp R hs S hmb hb hsz2 H
  by_cases c2 : b = m + 1
  · exact symRight_gen L enc cf hS tag g cb blk off cap a m b d0 d w0 w eg hcmp R hs S (by omega) c2 hb hsz2 H
  have mixed := L.mixed; have t0 := L.t0; have a0 := L.a0; have z0 := L.z0; have v0 := L.v0; have t3 := L.t3; have a3 := L.a3; have z3 := L.z3; have v3 := L.v3; have t4 := L.t4; have a4 := L.a4; have z4 := L.z4; have v4 := L.v4; have t22 := L.t22; have a22 := L.a22; have z22 := L.z22; have v22 := L.v22; have t25 := L.t25; have a25 := L.a25; have z25 := L.z25; have v25 := L.v25; have t90 := L.t90; have a90 := L.a90; have z90 := L.z90; have v90 := L.v90; have aE := L.aE; have zE := L.zE
  have FG := L.fM
  have eM : ∀ args w, (callFunc 55 args).run P w = .ok (.enter 55 args) w := enters_of L.fM (by kernel_rfl) rfl
  have eR : ∀ args w, (callFunc 82 args).run P w = .ok (.enter 82 args) w := enters_of L.fR (by kernel_rfl) rfl
  have HL := Lib.hid L
  have HIH := Lib.hid IH
  have S0 : Aside (SWK enc k w0 blk off d w) := S
  have HC : Aside _ := hcmp
  have HH : Hid (SymH (ltOf cf) tag a m b d) := H
  have HSW : Hid (SWO (ltOf cf)) := hS
  clear S L hcmp H hS IH
  have maw : IntKind.i64.wrap ((m : Int) - (a : Int)) = (m : Int) - (a : Int) := by rw [IntKind.wrap_i64]; omega
  have mab : ((m : Int) - (a : Int) == 1) = false := by simp; omega
  have maz : ¬ (m : Int) - (a : Int) = 1 := by omega
  have bmw : IntKind.i64.wrap ((b : Int) - (m : Int)) = (b : Int) - (m : Int) := by rw [IntKind.wrap_i64]; omega
  have bmb : ((b : Int) - (m : Int) == 1) = false := by simp; omega
  have bmz : ¬ (b : Int) - (m : Int) = 1 := by omega
  have abw : IntKind.i64.wrap ((a : Int) + (b : Int)) = (a : Int) + (b : Int) := by rw [IntKind.wrap_i64]; omega
  obtain ⟨q, hq, hq1, hq2⟩ : ∃ q : Nat, ((a : Int) + (b : Int)) / 2 = (q : Int) ∧ 2 * q ≤ a + b ∧ a + b ≤ 2 * q + 1 := ⟨(a + b) / 2, by omega, by omega, by omega⟩
  have qmw : IntKind.i64.wrap ((q : Int) + (m : Int)) = (q : Int) + (m : Int) := by rw [IntKind.wrap_i64]; omega
  clear c1 c2
  go_enter FG, Tryd.ntmps55
  go_upto_if 140 with fail
  go_cut [20, 21] (fun u v wx => (∃ s r : Nat, u = .int .i64 s ∧ v = .int .i64 r ∧ a ≤ s ∧ s ≤ r ∧ r ≤ q ∧ r ≤ m ∧ q + m ≤ b + s ∧ Hid ((s = a ∨ s + b = q + m) ∧ (r = m ∨ r = q))) ∧ w = wx)
  case first =>
    by_cases hmq : q < m
    · have hmqz : (q : Int) < (m : Int) := by omega
      have sbw : IntKind.i64.wrap ((q : Int) + (m : Int) - (b : Int)) = (q : Int) + (m : Int) - (b : Int) := by rw [IntKind.wrap_i64]; omega
      go_wp2_with fail
      go_meet
      exact ⟨⟨q + m - b, q, by go_num, rfl, by omega, by omega, by omega, by omega, by omega, ⟨.inr (by omega), .inr rfl⟩⟩, rfl⟩
    · have hmqz : ¬ (q : Int) < (m : Int) := by omega
      go_wp2_with fail
      go_meet
      exact ⟨⟨a, m, rfl, rfl, by omega, by omega, by omega, by omega, by omega, ⟨.inl rfl, .inl rfl⟩⟩, rfl⟩
  case rest =>
  obtain ⟨⟨s0, r0, rfl, rfl, k1, k2, k3, k4, k5, HB⟩, rfl⟩ := hcut
  have pw : IntKind.i64.wrap ((q : Int) + (m : Int) - 1) = (q : Int) + (m : Int) - 1 := by rw [IntKind.wrap_i64]; omega
  go_upto_block 8 with fail
  go_cut [20, 21, 23] (fun u v c wx => ∃ s : Nat, u = .int .i64 s ∧ v = .int .i64 s ∧ a ≤ s ∧ s ≤ q ∧ s ≤ m ∧ q + m ≤ b + s ∧ Aside (SWK enc k w0 blk off d wx) ∧
    Hid ((s = a ∨ s + b = q + m ∨ ltOf cf d[q + m - s]! d[s - 1]! = false) ∧ (s = m ∨ s = q ∨ ltOf cf d[q + m - 1 - s]! d[s]! = true)))
  case rest =>
    obtain ⟨s, rfl, rfl, has, hrq, hrm, hqb, S1, HG⟩ := hcut
    refine ‹∀ (a : Act) (w : World), Code.wp _ _ _ a w → _› _ _ ?_
    exact symTailB HL.out enc cf HSW.out tag g cb blk off cap d0 w0 eg HC.out R hsz len HIH.out a m b q s d _ hlen ham hmb (by omega) (by omega) has hrq hrm hqb hq1 hq2 hb hs HH.out HG.out S1.out _ _ _ _ _ _ _ _ _ _ _ _ _ _ _ _ _ _ _ _ _ _ _ _ _ _ _ _ _ _ _ _ _ _ _ _ _ _ _ _ _ _ _ _ _ _ _ _ _ _ _ _ _ _ _ _ _ _ _ _ _ _ _ _ _ _ _ _ _ _ _ _ _ _ _ _ _ _ _ _ _ _ _ _ _ _ _ _ _ _ _ _ _ _ _ _ _ _ _ _ _ _ _ _ _ _ _ _ _ _ _ _ _ _ _ _ _ _ _ _ _ _ _ _ _ _ _ _ _ _ _ _ _ _ _ _ _ _ _ _ _ _ _ _ _ _ _ _ _ _ _ _ _ _ _ _ _ _ _ _ _ _ _ _ _ _ _ _ _ _ _ _ _ _ _ _ _ _ _ _ _ _ _ _ _ _ _ _ _ _ _ _ _ _ _ _ _ _ _ _ _ _ _ _ _ _ _ _ _ _ _ _
  case first =>
  go_wp2_with fail
  go_loopg [20, 21, 23] (r0 - s0) (fun kx u v c wr => ∃ (s r : Nat), u = .int .i64 s ∧ v = .int .i64 r ∧ a ≤ s ∧ s ≤ r ∧ r ≤ q ∧ r ≤ m ∧ q + m ≤ b + s ∧ r - s ≤ kx ∧ Aside (SWK enc k w0 blk off d wr) ∧
    Hid ((s = a ∨ s + b = q + m ∨ ltOf cf d[q + m - s]! d[s - 1]! = false) ∧ (r = m ∨ r = q ∨ ltOf cf d[q + m - 1 - r]! d[r]! = true)))
  case atStart => exact ⟨s0, r0, rfl, rfl, k1, k2, k3, k4, k5, Nat.le_refl _, S0, ⟨by have := HB.out.1; omega, by have := HB.out.2; omega⟩⟩
  case round =>
  clear S0 HB k1 k2 k3 k4 k5
  obtain ⟨s, r, rfl, rfl, has, hsr, hrq, hrm, hqb, hkx, S1, HG⟩ := hrel
  by_cases hlt : s < r
  · have hltz : (s : Int) < (r : Int) := by omega
    have w1 : IntKind.i64.wrap ((s : Int) + (r : Int)) = (s : Int) + (r : Int) := by rw [IntKind.wrap_i64]; omega
    obtain ⟨h, hh, hih, hhj⟩ : ∃ h : Nat, ((s : Int) + (r : Int)) / 2 = (h : Int) ∧ s ≤ h ∧ h < r := ⟨(s + r) / 2, by omega, by omega, by omega⟩
    obtain ⟨t, ht⟩ : ∃ t : Nat, (q : Int) + (m : Int) - 1 - (h : Int) = (t : Int) := ⟨q + m - 1 - h, by omega⟩
    have ht2 : t + h + 1 = q + m := by omega
    cases hL : ltOf cf d[t]! d[h]! with
    | false =>
      have ea1 : ((t : Int)).toNat = t := by omega
      have pa1 : (0 : Int) ≤ (t : Int) := by omega
      have ba1 : (t : Int) < (d.size : Int) := by omega
      have ra1 : IntKind.i64.wrap ((t : Int)) = (t : Int) := by rw [IntKind.wrap_i64]; omega
      have ec1 : ((h : Int)).toNat = h := by omega
      have pc1 : (0 : Int) ≤ (h : Int) := by omega
      have bc1 : (h : Int) < (d.size : Int) := by omega
      have rc1 : IntKind.i64.wrap ((h : Int)) = (h : Int) := by rw [IntKind.wrap_i64]; omega
      obtain ⟨x1, hx1⟩ : ∃ x, x = d[t]! := ⟨_, rfl⟩
      obtain ⟨y1, hy1⟩ : ∃ x, x = d[h]! := ⟨_, rfl⟩
      have l1a := S1.out.ld R (by omega) P (t) (by omega)
      have l1b := S1.out.ld R (by omega) P (h) (by omega)
      rw [← hx1] at l1a
      rw [← hy1] at l1b
      have hc1 := S1.out.cmp HC.out (by omega) x1 y1
      have hv1 : ¬ cf x1 y1 < 0 := by rw [hx1, hy1]; exact of_decide_eq_false hL
      have hd1 : decide (cf x1 y1 < 0) = false := decide_eq_false hv1
      clear hx1 hy1
      go_wp2_with fail
      go_quiet_grown (first | (go_at_fn g; refine Calls.grown_of (hc1 _ _)))
      have S2 : Aside (SWK enc k w0 blk off d (grow (wr.drewN nq) osq)) := S1.out.grown nq osq
      clear l1a l1b hc1 S1
      generalize grow (wr.drewN nq) osq = w2 at S2 ⊢
      clear nq osq
      go_wp2
      go_roundg (r - (h + 1))
      case measure => omega
      case rel =>
        refine ⟨h + 1, r, by go_num, rfl, by omega, by omega, hrq, hrm, by omega, by omega, S2, ⟨.inr (.inr ?_), HG.out.2⟩⟩
        have e : q + m - (h + 1) = t := by omega
        rw [e]
        simpa using hL
    | true =>
      have ea1 : ((t : Int)).toNat = t := by omega
      have pa1 : (0 : Int) ≤ (t : Int) := by omega
      have ba1 : (t : Int) < (d.size : Int) := by omega
      have ra1 : IntKind.i64.wrap ((t : Int)) = (t : Int) := by rw [IntKind.wrap_i64]; omega
      have ec1 : ((h : Int)).toNat = h := by omega
      have pc1 : (0 : Int) ≤ (h : Int) := by omega
      have bc1 : (h : Int) < (d.size : Int) := by omega
      have rc1 : IntKind.i64.wrap ((h : Int)) = (h : Int) := by rw [IntKind.wrap_i64]; omega
      obtain ⟨x1, hx1⟩ : ∃ x, x = d[t]! := ⟨_, rfl⟩
      obtain ⟨y1, hy1⟩ : ∃ x, x = d[h]! := ⟨_, rfl⟩
      have l1a := S1.out.ld R (by omega) P (t) (by omega)
      have l1b := S1.out.ld R (by omega) P (h) (by omega)
      rw [← hx1] at l1a
      rw [← hy1] at l1b
      have hc1 := S1.out.cmp HC.out (by omega) x1 y1
      have hv1 : cf x1 y1 < 0 := by rw [hx1, hy1]; exact of_decide_eq_true hL
      have hd1 : decide (cf x1 y1 < 0) = true := decide_eq_true hv1
      clear hx1 hy1
      go_wp2_with fail
      go_quiet_grown (first | (go_at_fn g; refine Calls.grown_of (hc1 _ _)))
      have S2 : Aside (SWK enc k w0 blk off d (grow (wr.drewN nq) osq)) := S1.out.grown nq osq
      clear l1a l1b hc1 S1
      generalize grow (wr.drewN nq) osq = w2 at S2 ⊢
      clear nq osq
      go_wp2
      go_roundg (h - s)
      case measure => omega
      case rel =>
        refine ⟨s, h, rfl, by go_num, has, hih, by omega, by omega, hqb, by omega, S2, ⟨HG.out.1, .inr (.inr ?_)⟩⟩
        have e : q + m - 1 - h = t := by omega
        rw [e]
        exact hL
  have hltz : ¬ (s : Int) < (r : Int) := by omega
  obtain rfl : s = r := by omega
  go_wp2_with fail
  go_meet
  exact ⟨s, rfl, rfl, has, hrq, hrm, hqb, S1, HG⟩
end
end Go.Proofs.YtgpnockjonicpaaDoor
