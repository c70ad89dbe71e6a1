/- slices.SortStableFunc's exchange of ranges and its rotation, at rows of events. Conditions: the row lies whole, unfrozen; fewer than 2^62 elements. -/
import Derived.Test.YtgpnockjonicpaaDoorStab1
import Derived.Shelf.SlSortCmp.KitK
import Derived.Sort.WalkB2
import Derived.Sort.WalkB12
import Derived.Deep.LoopGhost
import Derived.Deep.Cut
import Derived.Deep.DeepFit
namespace Go.Proofs.YtgpnockjonicpaaDoor
set_option linter.unusedSimpArgs false
set_option linter.unusedVariables false
open Go.RowKit Go.Lib Go.Sort Go.Shelf Go.Proofs

/-- what the walks ask of a program: the bodies, and their types; k: the cells of an element -/
structure StL (P : Program) (k : Nat) : Prop where
  mixed : P.follows .mixedOrders = true
  fS : P.funcs[(96 : Nat)]? = some Tryd.f96
  fR : P.funcs[(82 : Nat)]? = some Tryd.f82
  fM : P.funcs[(55 : Nat)]? = some Tryd.f55
  t0 : P.underlying 0 = some (TypeDesc.tuple #[])
  a0 : ∀ w, (isAgg 0).run P w = .ok false w
  z0 : ∀ w, (Go.sizeOf 0).run P w = .ok 1 w
  v0 : ∀ w, (zeroValue 0).run P w = .ok (Value.tuple #[]) w
  t3 : P.underlying 3 = some (TypeDesc.int IntKind.i64)
  a3 : ∀ w, (isAgg 3).run P w = .ok false w
  z3 : ∀ w, (Go.sizeOf 3).run P w = .ok 1 w
  v3 : ∀ w, (zeroValue 3).run P w = .ok (Value.int IntKind.i64 0) w
  t4 : P.underlying 4 = some (TypeDesc.bool)
  a4 : ∀ w, (isAgg 4).run P w = .ok false w
  z4 : ∀ w, (Go.sizeOf 4).run P w = .ok 1 w
  v4 : ∀ w, (zeroValue 4).run P w = .ok (Value.bool false) w
  t22 : P.underlying 25 = some (TypeDesc.slice 42)
  a22 : ∀ w, (isAgg 25).run P w = .ok false w
  z22 : ∀ w, (Go.sizeOf 25).run P w = .ok 1 w
  v22 : ∀ w, (zeroValue 25).run P w = .ok (Value.slice none 0 0) w
  t25 : P.underlying 46 = some (TypeDesc.func #[42, 42] #[3] false)
  a25 : ∀ w, (isAgg 46).run P w = .ok false w
  z25 : ∀ w, (Go.sizeOf 46).run P w = .ok 1 w
  v25 : ∀ w, (zeroValue 46).run P w = .ok (Value.nilFunc) w
  t90 : P.underlying 93 = some (TypeDesc.int IntKind.u64)
  a90 : ∀ w, (isAgg 93).run P w = .ok false w
  z90 : ∀ w, (Go.sizeOf 93).run P w = .ok 1 w
  v90 : ∀ w, (zeroValue 93).run P w = .ok (Value.int IntKind.u64 0) w
  aE : ∀ w, (isAgg 42).run P w = .ok true w
  zE : ∀ w, (Go.sizeOf 42).run P w = .ok k w

section
variable {P : Program} {α : Type} [Inhabited α] {k : Nat}

set_option maxHeartbeats 4000000 in
set_option maxRecDepth 1000000 in
theorem swapRange_gen (L : StL P k) (enc : α → List Value) (F : Value) (blk off cap a b n : Nat) (d0 d : Array α) (w0 w : World)
    (R : RowK enc k w0 blk off d0) (hs : d0.size = d.size) (S : SWK enc k w0 blk off d w) (hab : a + n ≤ b) (hb : b + n ≤ d.size) (hsz : d.size < 4611686018427387904) :
    Calls P 96 #[.slice (some ⟨blk, off, none⟩) d.size cap, .int .i64 a, .int .i64 b, .int .i64 n, F] w fun e w' => e = .returned (.tuple #[]) ∧
      ∃ d', SwG a b n d d' ∧ (∀ lo hi, lo ≤ a → b + n ≤ hi → hi ≤ d.size → PermIn lo hi d d') ∧ SWK enc k w0 blk off d' w' := by
  have mixed := L.mixed; have t0 := L.t0; have a0 := L.a0; have z0 := L.z0; have v0 := L.v0; have t3 := L.t3; have a3 := L.a3; have z3 := L.z3; have v3 := L.v3; have t4 := L.t4; have a4 := L.a4; have z4 := L.z4; have v4 := L.v4; have t22 := L.t22; have a22 := L.a22; have z22 := L.z22; have v22 := L.v22; have t25 := L.t25; have a25 := L.a25; have z25 := L.z25; have v25 := L.v25; have aE := L.aE; have zE := L.zE
  have FG := L.fS
  have S0 : Aside (SWK enc k w0 blk off d w) := S
  clear S L
  go_enter FG, Tryd.ntmps96
  go_wp2
  go_loopg [10] n (fun kx s10 wr => ∃ (i : Nat) (dk : Array α), s10 = .int .i64 i ∧ i ≤ n ∧ n - i ≤ kx ∧ dk.size = d.size ∧ Aside (SWK enc k w0 blk off dk wr) ∧ Hid (SwG a b i d dk ∧ ∀ lo hi, lo ≤ a → b + n ≤ hi → hi ≤ d.size → PermIn lo hi d dk))
  case atStart => exact ⟨0, d, rfl, by omega, by omega, rfl, S0, ⟨SwG.start a b d, fun _ _ _ _ _ => permIn_refl _ _ _⟩⟩
  case round =>
    clear S0
    obtain ⟨i, dk, rfl, hin, hkx, hds, S1, HG⟩ := hrel
    by_cases hlt : i < n
    · have hltz : (i : Int) < (n : Int) := by omega
      go_wp2_with fail
      have ea44 : ((a : Int) + (i : Int)).toNat = a + i := by omega
      have pa44 : (0 : Int) ≤ (a : Int) + (i : Int) := by omega
      have ba44 : (a : Int) + (i : Int) < (d.size : Int) := by omega
      have ra44 : IntKind.i64.wrap ((a : Int) + (i : Int)) = (a : Int) + (i : Int) := by rw [IntKind.wrap_i64]; omega
      have ec44 : ((b : Int) + (i : Int)).toNat = b + i := by omega
      have pc44 : (0 : Int) ≤ (b : Int) + (i : Int) := by omega
      have bc44 : (b : Int) + (i : Int) < (d.size : Int) := by omega
      have rc44 : IntKind.i64.wrap ((b : Int) + (i : Int)) = (b : Int) + (i : Int) := by rw [IntKind.wrap_i64]; omega
      have S2 : Aside (SWK enc k w0 blk off (swp dk (a + i) (b + i)) ((wr.drew.setCells blk (off + (a + i) * k) (enc dk[b + i]!)).setCells blk (off + (b + i) * k) (enc dk[a + i]!))) := S1.out.swapped R (a + i) (b + i) (by omega) (by omega)
      have l44a := S1.out.ld1 R (by omega) P (a + i) (by omega)
      have l44b := S1.out.ld1 R (by omega) P (b + i) (by omega)
      have s44a := S1.out.st1 R (by omega) P (a + i) (by omega) dk[b + i]!
      have s44b := S1.out.st2 R (by omega) P (a + i) (b + i) (by omega) (by omega) dk[b + i]! dk[a + i]!
      have n44a : (enc dk[a + i]!).length = k := R.hk _
      have n44b : (enc dk[b + i]!).length = k := R.hk _
      generalize enc dk[a + i]! = cI44 at S2 l44a s44b n44a
      generalize enc dk[b + i]! = cJ44 at S2 l44b s44a s44b n44b
      clear S1
      go_wp2_with fail
      go_big_region_o
      clear l44a l44b s44a s44b
      generalize (wr.drew.setCells blk (off + (a + i) * k) cJ44).setCells blk (off + (b + i) * k) cI44 = w2 at S2 ⊢
      go_wp2
      go_roundg (n - (i + 1))
      case measure => omega
      case rel =>
        exact ⟨i + 1, swp dk (a + i) (b + i), by go_num, by omega, by omega, by rw [size_swp]; exact hds, S2, ⟨HG.out.1.step (by omega) (by omega), fun lo hi h1 h2 h3 => permIn_trans _ _ _ _ _ (HG.out.2 lo hi h1 h2 h3) (swp_permIn dk lo hi (a + i) (b + i) (by omega) (by omega) (by omega) (by omega) (by omega))⟩⟩
    · have hltz : ¬ (i : Int) < (n : Int) := by omega
      obtain rfl : i = n := by omega
      go_wp2
      go_end0
      exact ⟨rfl, dk, HG.out.1, HG.out.2, S1.out⟩

set_option maxHeartbeats 4000000 in
set_option maxRecDepth 1000000 in
theorem rotate_gen (L : StL P k) (enc : α → List Value) (F : Value) (blk off cap s m e : Nat) (d0 d : Array α) (w0 w : World)
    (R : RowK enc k w0 blk off d0) (hs : d0.size = d.size) (S : SWK enc k w0 blk off d w) (hsm : s < m) (hme : m < e) (he : e ≤ d.size) (hsz : d.size < 4611686018427387904) :
    Calls P 82 #[.slice (some ⟨blk, off, none⟩) d.size cap, .int .i64 s, .int .i64 m, .int .i64 e, F] w fun x w' => x = .returned (.tuple #[]) ∧
      ∃ d', RotG s m e d d' ∧ (∀ lo hi, lo ≤ s → e ≤ hi → hi ≤ d.size → PermIn lo hi d d') ∧ SWK enc k w0 blk off d' w' := by
  have mixed := L.mixed; have t0 := L.t0; have a0 := L.a0; have z0 := L.z0; have v0 := L.v0; have t3 := L.t3; have a3 := L.a3; have z3 := L.z3; have v3 := L.v3; have t4 := L.t4; have a4 := L.a4; have z4 := L.z4; have v4 := L.v4; have t22 := L.t22; have a22 := L.a22; have z22 := L.z22; have v22 := L.v22; have t25 := L.t25; have a25 := L.a25; have z25 := L.z25; have v25 := L.v25
  have FG := L.fR
  have e118 : ∀ args w, (callFunc 96 args).run P w = .ok (.enter 96 args) w := enters_of L.fS (by kernel_rfl) rfl
  have S0 : Aside (SWK enc k w0 blk off d w) := S
  clear S
  go_enter FG, Tryd.ntmps82
  go_wp2
  go_loopg [10, 11] (e - s) (fun kx s10 s11 wr => ∃ (i j : Nat) (dk : Array α), s10 = .int .i64 i ∧ s11 = .int .i64 j ∧ 0 < i ∧ 0 < j ∧ i ≤ m - s ∧ j ≤ e - m ∧ i + j ≤ kx ∧ dk.size = d.size ∧ Aside (SWK enc k w0 blk off dk wr) ∧
    Hid ((∀ d', RotG (m - i) m (m + j) dk d' → RotG s m e d d') ∧ ∀ lo hi, lo ≤ s → e ≤ hi → hi ≤ d.size → PermIn lo hi d dk))
  case atStart => exact ⟨m - s, e - m, d, by go_num, by go_num, by omega, by omega, by omega, by omega, by omega, rfl, S0, ⟨fun d' h => by
    have h1 : m - (m - s) = s := by omega
    have h2 : m + (e - m) = e := by omega
    rwa [h1, h2] at h, fun _ _ _ _ _ => permIn_refl _ _ _⟩⟩
  case round =>
    clear S0
    obtain ⟨i, j, dk, rfl, rfl, hi0, hj0, hi, hj, hkx, hds, S1, HG⟩ := hrel
    have e1 : ((m - i : Nat) : Int) = (m : Int) - (i : Int) := by omega
    have e2 : ((m + j - i : Nat) : Int) = (m : Int) + (j : Int) - (i : Int) := by omega
    rcases Nat.lt_trichotomy i j with hij | hij | hij
    · have hne : ((i : Int) != (j : Int)) = true := by simp; omega
      have hgt : ¬ ((j : Int) < (i : Int)) := by omega
      have hcall := swapRange_gen (P := P) L enc F blk off cap (m - i) (m + j - i) i d0 dk w0 wr R (by omega) S1.out (by omega) (by omega) (by omega)
      rw [hds, e1, e2] at hcall
      clear S1
      go_wp2_with (go_at_fn 96; refine hcall.mono ?_; rintro e w1 ⟨rfl, d1, hg1, hp1, S3⟩)
      go_roundg (i + (j - i))
      case measure => omega
      case rel =>
        exact ⟨i, j - i, d1, rfl, by go_num, hi0, by omega, hi, by omega, by omega, by rw [hg1.1]; exact hds, S3, ⟨fun d' h => HG.out.1 d' (rot_gt hg1 h (by omega) hij), fun lo hi' h1 h2 h3 => permIn_trans _ _ _ _ _ (HG.out.2 lo hi' h1 h2 h3) (hp1 lo hi' (by omega) (by omega) (by omega))⟩⟩
    · subst hij
      have hne : ((i : Int) != (i : Int)) = false := by simp
      have hcall := swapRange_gen (P := P) L enc F blk off cap (m - i) m i d0 dk w0 wr R (by omega) S1.out (by omega) (by omega) (by omega)
      rw [hds, e1] at hcall
      clear S1
      go_wp2_with (go_at_fn 96; refine hcall.mono ?_; rintro e w1 ⟨rfl, d1, hg1, hp1, S3⟩)
      go_end0
      exact ⟨rfl, d1, HG.out.1 d1 (rot_eq hg1 (by omega)), fun lo hi' h1 h2 h3 => permIn_trans _ _ _ _ _ (HG.out.2 lo hi' h1 h2 h3) (hp1 lo hi' (by omega) (by omega) (by omega)), S3⟩
    · have hne : ((i : Int) != (j : Int)) = true := by simp; omega
      have hgt : (j : Int) < (i : Int) := by omega
      have hcall := swapRange_gen (P := P) L enc F blk off cap (m - i) m j d0 dk w0 wr R (by omega) S1.out (by omega) (by omega) (by omega)
      rw [hds, e1] at hcall
      clear S1
      go_wp2_with (go_at_fn 96; refine hcall.mono ?_; rintro e w1 ⟨rfl, d1, hg1, hp1, S3⟩)
      go_roundg (i - j + j)
      case measure => omega
      case rel =>
        exact ⟨i - j, j, d1, by go_num, rfl, by omega, hj0, by omega, hj, by omega, by rw [hg1.1]; exact hds, S3, ⟨fun d' h => HG.out.1 d' (rot_lt hg1 h (by omega) hij), fun lo hi' h1 h2 h3 => permIn_trans _ _ _ _ _ (HG.out.2 lo hi' h1 h2 h3) (hp1 lo hi' (by omega) (by omega) (by omega))⟩⟩
end
end Go.Proofs.YtgpnockjonicpaaDoor
