/- slices.SortStableFunc's loops: insertion by twenty, then merging by doubled runs; a row comes out sorted, equals in their order. Conditions: the row lies whole, unfrozen; fewer than 10^9 elements. -/
import Derived.Test.YtgpnockjonicpaaDoorStab4
namespace Go.Proofs.YtgpnockjonicpaaDoor
set_option linter.unusedSimpArgs false
set_option linter.unusedVariables false
open Go.RowKit Go.Lib Go.Sort Go.Shelf Go.Proofs

section
variable {P : Program} {α : Type} [Inhabited α] {k : Nat}

set_option maxHeartbeats 8000000 in
set_option maxRecDepth 1000000 in
theorem stable_gen (L : StL P k) (fT : P.funcs[(31 : Nat)]? = some Tryd.f31)
    (eI : ∀ args w, (callFunc 54 args).run P w = .ok (.enter 54 args) w)
    (enc : α → List Value) (cf : α → α → Int) (hS : SWO (ltOf cf)) (tag : α → Nat) (g : Nat) (cb : Array Value) (blk off cap : Nat) (d0 d : Array α) (w0 w : World)
    (eg : ∀ args w, (callFunc g args).run P w = .ok (.enter g args) w) (hcmp : CmpLays P g cb enc k cf blk off d0.size w0)
    (hI : ∀ (a b : Nat) (d : Array α) (w : World), a ≤ b → b ≤ d.size → d0.size = d.size → SWK enc k w0 blk off d w →
      Calls P 54 #[.slice (some ⟨blk, off, none⟩) d.size cap, .int .i64 a, .int .i64 b, .func (.func g) #[] cb] w fun e w' => e = .returned (.tuple #[]) ∧ SWK enc k w0 blk off (insertionSort (ltOf cf) d a b) w')
    (R : RowK enc k w0 blk off d0) (hs : d0.size = d.size) (S : SWK enc k w0 blk off d w) (hsz : d.size ≤ 1000000000) (ht : ∀ i, i < d.size → tag d[i]! = i) :
    Calls P 31 #[.slice (some ⟨blk, off, none⟩) d.size cap, .int .i64 d.size, .func (.func g) #[] cb] w fun e w' => e = .returned (.tuple #[]) ∧
      ∃ d', PermIn 0 d.size d d' ∧ SortedIn (lt2 (ltOf cf) tag) 0 d.size d' ∧ SWK enc k w0 blk off d' w' := by
  have mixed := L.mixed; have t0 := L.t0; have a0 := L.a0; have z0 := L.z0; have v0 := L.v0; have t3 := L.t3; have a3 := L.a3; have z3 := L.z3; have v3 := L.v3; have t4 := L.t4; have a4 := L.a4; have z4 := L.z4; have v4 := L.v4; have t22 := L.t22; have a22 := L.a22; have z22 := L.z22; have v22 := L.v22; have t25 := L.t25; have a25 := L.a25; have z25 := L.z25; have v25 := L.v25
  have eM : ∀ args w, (callFunc 55 args).run P w = .ok (.enter 55 args) w := enters_of L.fM (by kernel_rfl) rfl
  have S0 : Aside (SWK enc k w0 blk off d w) := S
  have HI := Lib.hid hI
  have HM := Lib.hid (fun (a m b : Nat) (dk : Array α) (W : World) => symMerge_gen (P := P) L enc cf hS tag g cb blk off cap d0 w0 eg hcmp R (by omega) (b - a) a m b dk W (Nat.le_refl _))
  have HT := Lib.hid ht
  have HSW : Hid (SWO (ltOf cf)) := hS
  clear S L hcmp hS hI ht
  obtain ⟨n, hn⟩ : ∃ n, n = d.size := ⟨_, rfl⟩
  rw [← hn] at hs hsz ⊢
  have HN := Lib.hid hn
  clear hn
  go_enter fT, Tryd.ntmps31
  go_wp2_with fail
  go_loopg [7, 8] n (fun kx s7 s8 wr => ∃ (t : Nat) (dk : Array α), s7 = .int .i64 t ∧ s8 = .int .i64 ((t : Int) + 20) ∧ t ≤ n ∧ n - t ≤ kx ∧ Aside (SWK enc k w0 blk off dk wr) ∧ Hid (dk.size = n ∧ PermIn 0 n d dk ∧ RunsTo (ltOf cf) tag 20 dk t ∧ ∀ i, t ≤ i → i < n → tag dk[i]! = i))
  case atStart => exact ⟨0, d, rfl, rfl, by omega, by omega, S0, ⟨HN.out.symm, permIn_refl _ _ _, .zero, fun i _ h => HT.out i (by rw [← HN.out]; exact h)⟩⟩
  case round =>
    clear S0
    obtain ⟨t, dk, rfl, rfl, htn, hkx, S1, HG⟩ := hrel
    by_cases hlt : t + 20 ≤ n
    · have hltz : (t : Int) + 20 ≤ (n : Int) := by omega
      have e20 : ((t + 20 : Nat) : Int) = (t : Int) + 20 := by omega
      have w20 : IntKind.i64.wrap ((t : Int) + 20 + 20) = (t : Int) + 20 + 20 := by rw [IntKind.wrap_i64]; omega
      have hcall := HI.out t (t + 20) dk wr (by omega) (by rw [HG.out.1]; exact hlt) (by rw [HG.out.1]; exact hs) S1.out
      rw [HG.out.1, e20] at hcall
      have HQ : Hid (Good (ltOf cf) tag t (t + 20) (insertionSort (ltOf cf) dk t (t + 20)) ∧ PermIn t (t + 20) dk (insertionSort (ltOf cf) dk t (t + 20))) :=
        ⟨Good.inserted HSW.out (by omega) (by rw [HG.out.1]; exact hlt) (fun i h1 h2 => HG.out.2.2.2 i h1 (by omega)), (insertion_stable (tag := tag) HSW.out dk t (t + 20) (by omega) (by rw [HG.out.1]; exact hlt) (fun p q h1 h2 h3 => by rw [HG.out.2.2.2 p h1 (by omega), HG.out.2.2.2 q (by omega) (by omega)]; exact h2)).1⟩
      generalize insertionSort (ltOf cf) dk t (t + 20) = d1 at hcall HQ
      clear S1
      go_wp2_with (go_at_fn 54; refine hcall.mono ?_; rintro e w1 ⟨rfl, S3⟩)
      go_roundg (n - (t + 20))
      case measure => omega
      case rel =>
        obtain ⟨g1, g2, g3, g4⟩ := HG.out
        obtain ⟨q1, q2⟩ := HQ.out
        exact ⟨t + 20, d1, by go_num, by go_num, hlt, by omega, S3, ⟨q2.1.trans g1, permIn_trans _ _ _ _ _ g2 (permIn_mono _ _ t (t + 20) 0 n (by omega) hlt (by omega) q2), .snoc t (g3.congr (fun p hp => q2.2.1 p (.inl hp))) q1, fun i h1 h2 => by rw [q2.2.1 i (.inr h1)]; exact g4 i (by omega) h2⟩⟩
    · have hltz : ¬ (t : Int) + 20 ≤ (n : Int) := by omega
      have hcall := HI.out t n dk wr htn (by rw [HG.out.1]; exact Nat.le_refl _) (by rw [HG.out.1]; exact hs) S1.out
      rw [HG.out.1] at hcall
      have HQ : Hid ((insertionSort (ltOf cf) dk t n).size = n ∧ PermIn 0 n d (insertionSort (ltOf cf) dk t n) ∧ RunsFrom (ltOf cf) tag 20 n (insertionSort (ltOf cf) dk t n) 0) := by
        obtain ⟨g1, g2, g3, g4⟩ := HG.out
        have q1 : Good (ltOf cf) tag t n (insertionSort (ltOf cf) dk t n) := Good.inserted HSW.out htn (by omega) (fun i h1 h2 => g4 i h1 h2)
        have q2 := (insertion_stable (tag := tag) HSW.out dk t n htn (by omega) (fun p q h1 h2 h3 => by rw [g4 p h1 (by omega), g4 q (by omega) h3]; exact h2)).1
        exact ⟨q2.1.trans g1, permIn_trans _ _ _ _ _ g2 (permIn_mono _ _ t n 0 n (by omega) (Nat.le_refl _) (by omega) q2), (g3.congr (fun p hp => q2.2.1 p (.inl hp))).whole (by omega) htn (.last t htn (by omega) q1)⟩
      generalize insertionSort (ltOf cf) dk t n = d1 at hcall HQ
      clear S1 HG
      go_wp2_with (go_at_fn 54; refine hcall.mono ?_; rintro e w1 ⟨rfl, S3⟩)
      clear hcall
      go_loopg [6, 7, 8, 9] n (fun kx s6 s7 s8 s9 wr => ∃ (bs : Nat) (dk : Array α), s6 = .int .i64 bs ∧ 20 ≤ bs ∧ bs ≤ n + n + 20 ∧ n - bs ≤ kx ∧ Aside (SWK enc k w0 blk off dk wr) ∧ Hid (dk.size = n ∧ PermIn 0 n d dk ∧ RunsFrom (ltOf cf) tag bs n dk 0))
      case atStart => exact ⟨20, d1, rfl, by omega, by omega, by omega, S3, HQ⟩
      case round =>
        clear S3 HQ
        obtain ⟨bs, dk, rfl, hb20, hbn, hkx2, S1, HG⟩ := hrel
        by_cases hb : bs < n
        · have hbz : (bs : Int) < (n : Int) := by omega
          have w2 : IntKind.i64.wrap (2 * (bs : Int)) = 2 * (bs : Int) := by rw [IntKind.wrap_i64]; omega
          have w3 : IntKind.i64.wrap ((bs : Int) * 2) = (bs : Int) * 2 := by rw [IntKind.wrap_i64]; omega
          go_wp2_with fail
          go_loopg [7, 8] n (fun kx s7 s8 wr => ∃ (a : Nat) (dj : Array α), s7 = .int .i64 a ∧ s8 = .int .i64 ((a : Int) + 2 * (bs : Int)) ∧ a ≤ n ∧ n - a ≤ kx ∧ Aside (SWK enc k w0 blk off dj wr) ∧ Hid (dj.size = n ∧ PermIn 0 n d dj ∧ RunsTo (ltOf cf) tag (2 * bs) dj a ∧ RunsFrom (ltOf cf) tag bs n dj a))
          case atStart => exact ⟨0, dk, rfl, by go_num, by omega, by omega, S1, ⟨HG.out.1, HG.out.2.1, .zero, HG.out.2.2⟩⟩
          case round =>
            clear S1 HG
            obtain ⟨a, dj, rfl, rfl, han, hkx3, S1, HG⟩ := hrel
            have wab : IntKind.i64.wrap ((a : Int) + (bs : Int)) = (a : Int) + (bs : Int) := by rw [IntKind.wrap_i64]; omega
            have eab : ((a + bs : Nat) : Int) = (a : Int) + (bs : Int) := by omega
            by_cases hlt2 : a + 2 * bs ≤ n
            · have hlt2z : (a : Int) + 2 * (bs : Int) ≤ (n : Int) := by omega
              have eab2 : ((a + 2 * bs : Nat) : Int) = (a : Int) + 2 * (bs : Int) := by omega
              have wab2 : IntKind.i64.wrap ((a : Int) + 2 * (bs : Int) + 2 * (bs : Int)) = (a : Int) + 2 * (bs : Int) + 2 * (bs : Int) := by rw [IntKind.wrap_i64]; omega
              have hcall := HM.out a (a + bs) (a + 2 * bs) dj wr (by omega) (by omega) (by rw [HG.out.1]; exact hlt2) (by rw [HG.out.1]; exact hs) S1.out (by
                have h2 := HG.out.2.2.2.two (by omega) hlt2
                exact h2.1.symH h2.2.1)
              rw [HG.out.1, eab, eab2] at hcall
              clear S1
              go_wp2_with (go_at_fn 55; refine hcall.mono ?_; rintro e w1 ⟨rfl, d2, hp2, hs2, S3⟩)
              go_roundg (n - (a + 2 * bs))
              case measure => omega
              case rel =>
                obtain ⟨g1, g2, g3, g4⟩ := HG.out
                have h2 := g4.two (by omega) hlt2
                exact ⟨a + 2 * bs, d2, by go_num, by go_num, hlt2, by omega, S3, ⟨hp2.1.trans g1, permIn_trans _ _ _ _ _ g2 (permIn_mono _ _ a (a + 2 * bs) 0 n (by omega) hlt2 (by omega) hp2), g3.snoc2 (fun p hp => hp2.2.1 p (.inl hp)) (h2.1.merged h2.2.1 (by omega) (by omega) (by omega) hp2 hs2), h2.2.2.congr (fun p hp => hp2.2.1 p (.inr hp))⟩⟩
            · have hlt2z : ¬ (a : Int) + 2 * (bs : Int) ≤ (n : Int) := by omega
              by_cases hm : a + bs < n
              · have hmz : (a : Int) + (bs : Int) < (n : Int) := by omega
                have hcall := HM.out a (a + bs) n dj wr (by omega) hm (by rw [HG.out.1]; exact Nat.le_refl _) (by rw [HG.out.1]; exact hs) S1.out (by
                  have h2 := HG.out.2.2.2.rest (by omega) hm
                  exact h2.1.symH h2.2)
                rw [HG.out.1, eab] at hcall
                clear S1
                go_wp2_with (go_at_fn 55; refine hcall.mono ?_; rintro e w1 ⟨rfl, d2, hp2, hs2, S3⟩)
                go_roundg (n - bs * 2)
                case measure => omega
                case rel =>
                  obtain ⟨g1, g2, g3, g4⟩ := HG.out
                  have h2 := g4.rest (by omega) hm
                  have e2 : 2 * bs = bs * 2 := by omega
                  rw [e2] at g3
                  exact ⟨bs * 2, d2, by go_num, by omega, by omega, by omega, S3, ⟨hp2.1.trans g1, permIn_trans _ _ _ _ _ g2 (permIn_mono _ _ a n 0 n (by omega) (Nat.le_refl _) (by omega) hp2), (g3.congr (fun p hp => hp2.2.1 p (.inl hp))).whole (by omega) han (.last a han (by omega) (h2.1.merged h2.2 (by omega) (by omega) (by omega) hp2 hs2))⟩⟩
              · have hmz : ¬ (a : Int) + (bs : Int) < (n : Int) := by omega
                go_wp2_with fail
                go_roundg (n - bs * 2)
                case measure => omega
                case rel =>
                  obtain ⟨g1, g2, g3, g4⟩ := HG.out
                  have e2 : 2 * bs = bs * 2 := by omega
                  rw [e2] at g3
                  exact ⟨bs * 2, dj, by go_num, by omega, by omega, by omega, S1, ⟨g1, g2, g3.whole (by omega) han (.last a han (by omega) (g4.one (by omega)))⟩⟩
        · have hbz : ¬ (bs : Int) < (n : Int) := by omega
          go_wp2_with fail
          go_end0
          exact ⟨rfl, dk, HG.out.2.1, (HG.out.2.2.one (by omega)).1, S1.out⟩
end
end Go.Proofs.YtgpnockjonicpaaDoor
