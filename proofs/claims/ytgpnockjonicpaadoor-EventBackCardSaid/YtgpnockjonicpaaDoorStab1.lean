/- Stable sorting in plain Lean: what insertion, rotating and merging make of an array whose elements bear tags. No conditions. -/
import Derived.Test.YtgpnockjonicpaaDoorRows
import Derived.Sort.LotA
namespace Go.Proofs.YtgpnockjonicpaaDoor
set_option linter.unusedSimpArgs false
set_option linter.unusedVariables false
open Go.Sort

section
variable {α : Type} [Inhabited α] {lt : α → α → Bool} {tag : α → Nat}

/-- less, or neither is less and the tag is -/
def lt2 (lt : α → α → Bool) (tag : α → Nat) (x y : α) : Bool := lt x y || (!lt y x && decide (tag x < tag y))

omit [Inhabited α] in
theorem lt2_swo (hS : SWO lt) : SWO (lt2 lt tag) where
  irrefl x := by simp [lt2, hS.irrefl]
  trans x y z h1 h2 := by
    simp only [lt2, Bool.or_eq_true, Bool.and_eq_true, Bool.not_eq_true', decide_eq_true_eq] at *
    rcases h1 with h1 | ⟨h1, t1⟩ <;> rcases h2 with h2 | ⟨h2, t2⟩
    · exact .inl (hS.trans x y z h1 h2)
    · left
      cases h : lt x z with
      | true => rfl
      | false => have := hS.ntrans x z y h h2; rw [h1] at this; cases this
    · left
      cases h : lt x z with
      | true => rfl
      | false => have := hS.ntrans y x z h1 h; rw [h2] at this; cases this
    · exact .inr ⟨hS.ntrans z y x h2 h1, by omega⟩
  ntrans x y z h1 h2 := by
    simp only [lt2, Bool.or_eq_false_iff, Bool.and_eq_false_iff, Bool.not_eq_false', decide_eq_false_iff_not] at *
    obtain ⟨h1, k1⟩ := h1
    obtain ⟨h2, k2⟩ := h2
    refine ⟨hS.ntrans x y z h1 h2, ?_⟩
    cases h : lt z x with
    | true => exact .inl rfl
    | false =>
      right
      have e1 := hS.ntrans y z x h2 h
      have e2 := hS.ntrans z x y h h1
      rw [e1] at k1
      rw [e2] at k2
      simp only [Bool.false_eq_true, false_or] at k1 k2
      omega
omit [Inhabited α] in
theorem lt2_right {x y : α} (h : tag x < tag y) : lt2 lt tag y x = lt y x := by
  unfold lt2
  rw [decide_eq_false (by omega)]
  simp
omit [Inhabited α] in
theorem lt2_of_lt {x y : α} (h : lt x y = true) : lt2 lt tag x y = true := by unfold lt2; rw [h]; rfl

theorem at_eq (d : Array α) {i j : Nat} (h : i = j) : d[i]! = d[j]! := by rw [h]

/-! insertion -/
theorem insInner_lt2 (a : Nat) : ∀ (j : Nat) (d : Array α), j < d.size → (∀ p, a ≤ p → p < j → tag d[p]! < tag d[j]!) → insInner lt a j d = insInner (lt2 lt tag) a j d
  | 0, d, _, _ => by unfold insInner; rfl
  | j + 1, d, hj, h => by
    unfold insInner
    by_cases ha : j + 1 > a
    · rw [lt2_right (h j (by omega) (by omega))]
      split
      · refine insInner_lt2 a j _ (by rw [swp_size]; omega) (fun p h1 h2 => ?_)
        rw [swp_get d hj (by omega), swp_get d hj (by omega), if_neg (by omega), if_neg (by omega), if_pos rfl]
        exact h p h1 (by omega)
      · rfl
    · simp [ha]
theorem insOuter_lt2 (hS : SWO lt) (a b : Nat) : ∀ (n i : Nat) (d : Array α), b - i = n → a < i → i ≤ b → b ≤ d.size → SortedIn (lt2 lt tag) a i d → (∀ p q, a ≤ p → p < q → i ≤ q → q < b → tag d[p]! < tag d[q]!) → insOuter lt a b i d = insOuter (lt2 lt tag) a b i d
  | 0, i, d, hn, _, hib, _, _, _ => by
    rw [insOuter, if_neg (by omega), insOuter, if_neg (by omega)]
  | n + 1, i, d, hn, hai, hib, hb, hs, ht => by
    have hlt : i < b := by omega
    rw [insOuter.eq_def lt, if_pos hlt, insOuter.eq_def (lt2 lt tag), if_pos hlt]
    have h1 := insInner_spec (lt := lt2 lt tag) (lt2_swo hS) swp_permIn permIn_refl permIn_trans a (i + 1) i (by omega) i d (by omega) (Nat.le_refl _) (by omega) ⟨fun p q hap hpq hqi _ hq => hs p q hap hpq (by omega), fun q h1 h2 => by omega⟩
    rw [insInner_lt2 (tag := tag) a i d (by omega) (fun p h2 h3 => ht p i h2 h3 (Nat.le_refl _) hlt)]
    refine insOuter_lt2 hS a b n (i + 1) _ (by omega) (by omega) (by omega) (by rw [h1.1.1]; exact hb) h1.2 (fun p q hp hpq hq hqb => ?_)
    rw [h1.1.2.1 q (.inr (by omega))]
    by_cases hpi : p < i + 1
    · exact permIn_all d _ a (i + 1) (fun x => tag x < tag d[q]!) (by omega) h1.1 (fun k h4 h5 => ht k q h4 (by omega) (by omega) hqb) p hp hpi
    · rw [h1.1.2.1 p (.inr (by omega))]
      exact ht p q hp hpq (by omega) hqb
theorem insertion_stable (hS : SWO lt) (d : Array α) (a b : Nat) (hab : a ≤ b) (hb : b ≤ d.size) (ht : ∀ p q, a ≤ p → p < q → q < b → tag d[p]! < tag d[q]!) :
    PermIn a b d (insertionSort lt d a b) ∧ SortedIn (lt2 lt tag) a b (insertionSort lt d a b) := by
  have e : insertionSort lt d a b = insertionSort (lt2 lt tag) d a b := by
    unfold insertionSort
    by_cases h : a = b
    · subst h
      rw [insOuter, if_neg (by omega), insOuter, if_neg (by omega)]
    · exact insOuter_lt2 hS a b _ (a + 1) d rfl (by omega) (by omega) hb (fun i j h1 h2 h3 => by omega) (fun p q h1 h2 h3 h4 => ht p q h1 h2 h4)
  rw [e]
  exact insertionSort_holds (lt := lt2 lt tag) (lt2_swo hS) d a b hab hb

/-! exchanging and rotating -/
/-- [a, a + n) and [b, b + n) exchanged -/
def SwG (a b n : Nat) (d d' : Array α) : Prop := d'.size = d.size ∧ ∀ x, d'[x]! = if a ≤ x ∧ x < a + n then d[x + (b - a)]! else if b ≤ x ∧ x < b + n then d[x - (b - a)]! else d[x]!
/-- [s, m) and [m, e) turned round -/
def RotG (s m e : Nat) (d d' : Array α) : Prop := d'.size = d.size ∧ ∀ x, d'[x]! = if x < s then d[x]! else if x < s + (e - m) then d[x + (m - s)]! else if x < e then d[x - (e - m)]! else d[x]!

theorem SwG.start (a b : Nat) (d : Array α) : SwG a b 0 d d := ⟨rfl, fun x => by rw [if_neg (by omega), if_neg (by omega)]⟩
theorem SwG.step {a b i : Nat} {d dk : Array α} (h : SwG a b i d dk) (hab : a + i < b) (hb : b + i < d.size) : SwG a b (i + 1) d (swp dk (a + i) (b + i)) := by
  refine ⟨by rw [swp_size, h.1], fun x => ?_⟩
  rw [swp_get dk (by rw [h.1]; omega) (by rw [h.1]; omega), h.2 (a + i), h.2 (b + i), h.2 x]
  repeat' split
  all_goals first | (exfalso; omega) | exact at_eq d (by omega)
theorem rot_eq {i m : Nat} {d d' : Array α} (h : SwG (m - i) m i d d') (hi : i ≤ m) : RotG (m - i) m (m + i) d d' := by
  refine ⟨h.1, fun x => ?_⟩
  rw [h.2 x]
  repeat' split
  all_goals first | (exfalso; omega) | exact at_eq d (by omega)
theorem rot_lt {i j m : Nat} {d d1 d' : Array α} (h : SwG (m - i) m j d d1) (hr : RotG (m - (i - j)) m (m + j) d1 d') (hi : i ≤ m) (hj : j < i) : RotG (m - i) m (m + j) d d' := by
  refine ⟨hr.1.trans h.1, fun x => ?_⟩
  rw [hr.2 x]
  simp only [h.2]
  repeat' split
  all_goals first | (exfalso; omega) | exact at_eq d (by omega)
theorem rot_gt {i j m : Nat} {d d1 d' : Array α} (h : SwG (m - i) (m + j - i) i d d1) (hr : RotG (m - i) m (m + (j - i)) d1 d') (hi : i ≤ m) (hj : i < j) : RotG (m - i) m (m + j) d d' := by
  refine ⟨hr.1.trans h.1, fun x => ?_⟩
  rw [hr.2 x]
  simp only [h.2]
  repeat' split
  all_goals first | (exfalso; omega) | exact at_eq d (by omega)
theorem RotG.left0 (m e : Nat) (d : Array α) : RotG m m e d d := by
  refine ⟨rfl, fun x => ?_⟩
  repeat' split
  all_goals first | (exfalso; omega) | exact at_eq d (by omega)
theorem RotG.right0 (s m : Nat) (d : Array α) (h : s ≤ m) : RotG s m m d d := by
  refine ⟨rfl, fun x => ?_⟩
  repeat' split
  all_goals first | (exfalso; omega) | exact at_eq d (by omega)
/-- one element brought to the right, place by place -/
theorem RotG.bubR {a k : Nat} {d dk : Array α} (h : RotG a (a + 1) (k + 1) d dk) (hak : a ≤ k) (hk : k + 1 < d.size) : RotG a (a + 1) (k + 2) d (swp dk k (k + 1)) := by
  refine ⟨by rw [swp_size, h.1], fun x => ?_⟩
  rw [swp_get dk (by rw [h.1]; omega) (by rw [h.1]; omega), h.2 k, h.2 (k + 1), h.2 x]
  repeat' split
  all_goals first | (exfalso; omega) | exact at_eq d (by omega)
/-- one element brought to the left, place by place -/
theorem RotG.bubL {m k : Nat} {d dk : Array α} (h : RotG (k + 1) m (m + 1) d dk) (hkm : k + 1 ≤ m) (hk : m < d.size) : RotG k m (m + 1) d (swp dk (k + 1) k) := by
  refine ⟨by rw [swp_size, h.1], fun x => ?_⟩
  rw [swp_get dk (by rw [h.1]; omega) (by rw [h.1]; omega), h.2 k, h.2 (k + 1), h.2 x]
  repeat' split
  all_goals first | (exfalso; omega) | exact at_eq d (by omega)

/-! merging -/
def TagB (tag : α → Nat) (a m b : Nat) (d : Array α) : Prop := ∀ i j, a ≤ i → i < m → m ≤ j → j < b → tag d[i]! < tag d[j]!
/-- two sorted neighbours -/
structure SymH (lt : α → α → Bool) (tag : α → Nat) (a m b : Nat) (d : Array α) : Prop where
  s1 : SortedIn (lt2 lt tag) a m d
  s2 : SortedIn (lt2 lt tag) m b d
  tg : TagB tag a m b d

theorem sortedIn_congr {a b : Nat} {d d' : Array α} (h : SortedIn lt a b d) (he : ∀ p, a ≤ p → p < b → d'[p]! = d[p]!) : SortedIn lt a b d' := fun i j h1 h2 h3 => by
  rw [he i h1 (by omega), he j (by omega) h3]
  exact h i j h1 h2 h3
theorem SymH.congr {a m b : Nat} {d d' : Array α} (h : SymH lt tag a m b d) (ham : a ≤ m) (hmb : m ≤ b) (he : ∀ p, a ≤ p → p < b → d'[p]! = d[p]!) : SymH lt tag a m b d' :=
  ⟨sortedIn_congr h.s1 (fun p h1 h2 => he p h1 (by omega)), sortedIn_congr h.s2 (fun p h1 h2 => he p (by omega) h2), fun i j h1 h2 h3 h4 => by
    rw [he i h1 (by omega), he j (by omega) h4]
    exact h.tg i j h1 h2 h3 h4⟩
theorem sorted_join {a m b : Nat} {d : Array α} (h1 : SortedIn lt a m d) (h2 : SortedIn lt m b d) (hx : ∀ x y, a ≤ x → x < m → m ≤ y → y < b → lt d[y]! d[x]! = false) : SortedIn lt a b d := fun i j hi hij hj => by
  by_cases k1 : j < m
  · exact h1 i j hi hij k1
  · by_cases k2 : m ≤ i
    · exact h2 i j k2 hij hj
    · exact hx i j hi (by omega) (by omega) hj
/-- not later, of two places -/
theorem sorted_le (hS : SWO lt) {a b x y : Nat} {d : Array α} (h : SortedIn lt a b d) (hx : a ≤ x) (hxy : x ≤ y) (hy : y < b) : lt d[y]! d[x]! = false := by
  by_cases e : x = y
  · subst e; exact hS.irrefl _
  · exact h x y hx (by omega) hy
theorem sym_lo (hS : SWO lt) {a m b s e : Nat} {d : Array α} (H : SymH lt tag a m b d) (hs : s ≤ m) (he : m ≤ e) (h : s = a ∨ e = b ∨ (a < s ∧ e < b ∧ lt d[e]! d[s - 1]! = false)) :
    ∀ x y, a ≤ x → x < s → e ≤ y → y < b → lt2 lt tag d[y]! d[x]! = false := by
  intro x y h1 h2 h3 h4
  rcases h with h | h | ⟨h5, h6, h⟩
  · omega
  · omega
  · have hS2 : SWO (lt2 lt tag) := lt2_swo hS
    have k1 := sorted_le hS2 H.s2 (show m ≤ e by omega) h3 h4
    have k2 := sorted_le hS2 H.s1 h1 (show x ≤ s - 1 by omega) (by omega)
    have k3 : lt2 lt tag d[e]! d[s - 1]! = false := by rw [lt2_right (H.tg (s - 1) e (by omega) (by omega) he h6)]; exact h
    exact hS2.ntrans _ _ _ (hS2.ntrans _ _ _ k1 k3) k2
theorem sym_hi (hS : SWO lt) {a m b s e : Nat} {d : Array α} (H : SymH lt tag a m b d) (has : a ≤ s) (heb : e ≤ b) (h : s = m ∨ e = m ∨ (s < m ∧ m < e ∧ lt d[e - 1]! d[s]! = true)) :
    ∀ x y, s ≤ x → x < m → m ≤ y → y < e → lt2 lt tag d[x]! d[y]! = false := by
  intro x y h1 h2 h3 h4
  rcases h with h | h | ⟨h5, h6, h⟩
  · omega
  · omega
  · have hS2 : SWO (lt2 lt tag) := lt2_swo hS
    have k1 := sorted_le hS2 H.s1 has h1 h2
    have k2 := sorted_le hS2 H.s2 h3 (show y ≤ e - 1 by omega) (by omega)
    have k3 : lt2 lt tag d[e - 1]! d[s]! = true := lt2_of_lt h
    cases k : lt2 lt tag d[x]! d[y]! with
    | false => rfl
    | true =>
      exfalso
      have k6 : lt2 lt tag d[s]! d[y]! = true := by
        cases k7 : lt2 lt tag d[s]! d[y]! with
        | true => rfl
        | false => have := hS2.ntrans _ _ _ k1 k7; rw [k] at this; cases this
      have k8 := hS2.trans _ _ _ k3 k6
      rw [k2] at k8
      cases k8
/-- what a rotation about m makes of two sorted neighbours: two pairs of sorted neighbours, and nothing in the second half is less than what is in the first -/
theorem sym_cut (hS : SWO lt) {a m b s e q : Nat} {d d2 : Array α} (H : SymH lt tag a m b d) (has : a ≤ s) (hs : s ≤ m) (he : m ≤ e) (heb : e ≤ b) (hq : q + m = s + e)
    (hlo : s = a ∨ e = b ∨ (a < s ∧ e < b ∧ lt d[e]! d[s - 1]! = false)) (hhi : s = m ∨ e = m ∨ (s < m ∧ m < e ∧ lt d[e - 1]! d[s]! = true)) (hr : RotG s m e d d2) :
    SymH lt tag a s q d2 ∧ SymH lt tag q e b d2 ∧ (∀ x y, a ≤ x → x < q → q ≤ y → y < b → lt2 lt tag d2[y]! d2[x]! = false) := by
  have lo := sym_lo hS H hs he hlo
  have hi := sym_hi hS H has heb hhi
  have hS2 : SWO (lt2 lt tag) := lt2_swo hS
  have g1 : ∀ x, x < s → d2[x]! = d[x]! := fun x h => by rw [hr.2 x, if_pos h]
  have g2 : ∀ x, s ≤ x → x < q → d2[x]! = d[x + (m - s)]! := fun x h1 h2 => by rw [hr.2 x, if_neg (by omega), if_pos (by omega)]
  have g3 : ∀ x, q ≤ x → x < e → d2[x]! = d[x - (e - m)]! := fun x h1 h2 => by rw [hr.2 x, if_neg (by omega), if_neg (by omega), if_pos (by omega)]
  have g4 : ∀ x, e ≤ x → d2[x]! = d[x]! := fun x h => by rw [hr.2 x, if_neg (by omega), if_neg (by omega), if_neg (by omega)]
  refine ⟨⟨fun i j h1 h2 h3 => ?_, fun i j h1 h2 h3 => ?_, fun i j h1 h2 h3 h4 => ?_⟩, ⟨fun i j h1 h2 h3 => ?_, fun i j h1 h2 h3 => ?_, fun i j h1 h2 h3 h4 => ?_⟩, fun x y h1 h2 h3 h4 => ?_⟩
  · rw [g1 i (by omega), g1 j h3]; exact H.s1 i j h1 h2 (by omega)
  · rw [g2 i h1 (by omega), g2 j (by omega) h3]; exact H.s2 _ _ (by omega) (by omega) (by omega)
  · rw [g1 i h2, g2 j h3 h4]; exact H.tg _ _ h1 (by omega) (by omega) (by omega)
  · rw [g3 i h1 (by omega), g3 j (by omega) h3]; exact H.s1 _ _ (by omega) (by omega) (by omega)
  · rw [g4 i h1, g4 j (by omega)]; exact H.s2 _ _ (by omega) (by omega) h3
  · rw [g3 i h1 h2, g4 j h3]; exact H.tg _ _ (by omega) (by omega) (by omega) h4
  · by_cases c1 : x < s <;> by_cases c2 : y < e
    · rw [g1 x c1, g3 y h3 c2]; exact H.s1 _ _ h1 (by omega) (by omega)
    · rw [g1 x c1, g4 y (by omega)]; exact lo x y h1 c1 (by omega) h4
    · rw [g2 x (by omega) h2, g3 y h3 c2]
      exact hi _ _ (by omega) (by omega) (by omega) (by omega)
    · rw [g2 x (by omega) h2, g4 y (by omega)]; exact H.s2 _ _ (by omega) (by omega) h4
/-- both halves merged -/
theorem sym_join {a q b : Nat} {d2 d3 d4 : Array α} (hb : b ≤ d2.size) (haq : a ≤ q) (hqb : q ≤ b)
    (hx : ∀ x y, a ≤ x → x < q → q ≤ y → y < b → lt d2[y]! d2[x]! = false) (p3 : PermIn a q d2 d3) (s3 : SortedIn lt a q d3) (p4 : PermIn q b d3 d4) (s4 : SortedIn lt q b d4) : PermIn a b d2 d4 ∧ SortedIn lt a b d4 := by
  refine ⟨permIn_trans _ _ _ a b (permIn_mono _ _ a q a b (Nat.le_refl _) hqb hb p3) (permIn_mono _ _ q b a b haq (Nat.le_refl _) (by rw [p3.1]; exact hb) p4), ?_⟩
  refine sorted_join (m := q) (sortedIn_congr s3 (fun p h1 h2 => p4.2.1 p (.inl h2))) s4 (fun x y h1 h2 h3 h4 => ?_)
  rw [p4.2.1 x (.inl h2)]
  refine permIn_all d3 d4 q b (fun z => lt z d3[x]! = false) (by rw [p3.1]; exact hb) p4 (fun y' h5 h6 => ?_) y h3 h4
  rw [p3.2.1 y' (.inr h5)]
  exact permIn_all d2 d3 a q (fun z => lt d2[y']! z = false) (by omega) p3 (fun x' h7 h8 => hx x' y' h7 h8 h5 h6) x h1 h2
/-- one element in front brought into its place -/
theorem ins_left (hS : SWO lt) {a b i : Nat} {d d2 : Array α} (H : SymH lt tag a (a + 1) b d) (hi : a + 1 ≤ i) (hib : i ≤ b)
    (h1 : i = a + 1 ∨ lt d[i - 1]! d[a]! = true) (h2 : i = b ∨ lt d[i]! d[a]! = false) (hr : RotG a (a + 1) i d d2) : SortedIn (lt2 lt tag) a b d2 := by
  have hS2 : SWO (lt2 lt tag) := lt2_swo hS
  obtain ⟨c1, c2, c3⟩ := sym_cut (q := i - 1) hS H (Nat.le_refl _) (by omega) hi hib (by omega) (.inl rfl) (by rcases h1 with h1 | h1; exact .inr (.inl h1); exact (by by_cases e : i = a + 1; exact .inr (.inl e); exact .inr (.inr ⟨by omega, by omega, h1⟩))) hr
  have g3 : d2[i - 1]! = d[a]! := by rw [hr.2 (i - 1), if_neg (by omega), if_neg (by omega), if_pos (by omega)]; exact at_eq d (by omega)
  have g4 : ∀ x, i ≤ x → d2[x]! = d[x]! := fun x h => by rw [hr.2 x, if_neg (by omega), if_neg (by omega), if_neg (by omega)]
  refine sorted_join (m := i - 1) c1.s2 (sorted_join (m := i) c2.s1 c2.s2 (fun x y k1 k2 k3 k4 => ?_)) c3
  obtain rfl : x = i - 1 := by omega
  rw [g3, g4 y k3]
  rcases h2 with h2 | h2
  · omega
  · have e1 := sorted_le hS2 H.s2 (show a + 1 ≤ i by omega) k3 k4
    have e2 : lt2 lt tag d[i]! d[a]! = false := by rw [lt2_right (H.tg a i (Nat.le_refl _) (by omega) hi (by omega))]; exact h2
    exact hS2.ntrans _ _ _ e1 e2
/-- one element behind brought into its place -/
theorem ins_right (hS : SWO lt) {a m i : Nat} {d d2 : Array α} (H : SymH lt tag a m (m + 1) d) (hai : a ≤ i) (him : i ≤ m)
    (h1 : i = a ∨ lt d[m]! d[i - 1]! = false) (h2 : i = m ∨ lt d[m]! d[i]! = true) (hr : RotG i m (m + 1) d d2) : SortedIn (lt2 lt tag) a (m + 1) d2 := by
  have hS2 : SWO (lt2 lt tag) := lt2_swo hS
  obtain ⟨c1, c2, c3⟩ := sym_cut (q := i + 1) hS H hai him (by omega) (Nat.le_refl _) (by omega) (.inr (.inl rfl)) (by rcases h2 with h2 | h2; exact .inl h2; exact (by by_cases e : i = m; exact .inl e; exact .inr (.inr ⟨by omega, by omega, by simpa using h2⟩))) hr
  have g1 : ∀ x, x < i → d2[x]! = d[x]! := fun x h => by rw [hr.2 x, if_pos h]
  have g2 : d2[i]! = d[m]! := by rw [hr.2 i, if_neg (by omega), if_pos (by omega)]; exact at_eq d (by omega)
  refine sorted_join (m := i + 1) (sorted_join (m := i) c1.s1 c1.s2 (fun x y k1 k2 k3 k4 => ?_)) c2.s1 c3
  obtain rfl : y = i := by omega
  rw [g2, g1 x k2]
  rcases h1 with h1 | h1
  · omega
  · have e1 := sorted_le hS2 H.s1 k1 (show x ≤ y - 1 by omega) (by omega)
    have e2 : lt2 lt tag d[m]! d[y - 1]! = false := by rw [lt2_right (H.tg (y - 1) m (by omega) (by omega) (Nat.le_refl _) (by omega))]; exact h1
    exact hS2.ntrans _ _ _ e2 e1

/-! runs -/
/-- [a, b) sorted, its tags in [a, b) -/
def Good (lt : α → α → Bool) (tag : α → Nat) (a b : Nat) (d : Array α) : Prop := SortedIn (lt2 lt tag) a b d ∧ ∀ i, a ≤ i → i < b → a ≤ tag d[i]! ∧ tag d[i]! < b
theorem Good.congr {a b : Nat} {d d' : Array α} (h : Good lt tag a b d) (he : ∀ p, a ≤ p → p < b → d'[p]! = d[p]!) : Good lt tag a b d' :=
  ⟨sortedIn_congr h.1 he, fun i h1 h2 => by rw [he i h1 h2]; exact h.2 i h1 h2⟩
theorem Good.none (a : Nat) (d : Array α) : Good lt tag a a d := ⟨fun i j h1 h2 h3 => by omega, fun i h1 h2 => by omega⟩
theorem Good.symH {a m b : Nat} {d : Array α} (h1 : Good lt tag a m d) (h2 : Good lt tag m b d) : SymH lt tag a m b d :=
  ⟨h1.1, h2.1, fun i j k1 k2 k3 k4 => by
    have := (h1.2 i k1 k2).2
    have := (h2.2 j k3 k4).1
    omega⟩
theorem Good.merged {a m b : Nat} {d d' : Array α} (h1 : Good lt tag a m d) (h2 : Good lt tag m b d) (ham : a ≤ m) (hmb : m ≤ b) (hb : b ≤ d.size) (hp : PermIn a b d d') (hs : SortedIn (lt2 lt tag) a b d') : Good lt tag a b d' :=
  ⟨hs, permIn_all d d' a b (fun x => a ≤ tag x ∧ tag x < b) hb hp (fun i k1 k2 => by
    by_cases c : i < m
    · have := h1.2 i k1 c; omega
    · have := h2.2 i (by omega) k2; omega)⟩
theorem Good.inserted (hS : SWO lt) {a b : Nat} {d : Array α} (hab : a ≤ b) (hb : b ≤ d.size) (ht : ∀ i, a ≤ i → i < b → tag d[i]! = i) : Good lt tag a b (insertionSort lt d a b) := by
  have h := insertion_stable (tag := tag) hS d a b hab hb (fun p q h1 h2 h3 => by rw [ht p h1 (by omega), ht q (by omega) h3]; exact h2)
  exact ⟨h.2, permIn_all d _ a b (fun x => a ≤ tag x ∧ tag x < b) hb h.1 (fun i k1 k2 => by rw [ht i k1 k2]; omega)⟩
/-- from a on: runs of s, the last one perhaps shorter -/
inductive RunsFrom (lt : α → α → Bool) (tag : α → Nat) (s n : Nat) (d : Array α) : Nat → Prop
  | last (a : Nat) : a ≤ n → n ≤ a + s → Good lt tag a n d → RunsFrom lt tag s n d a
  | more (a : Nat) : a + s < n → Good lt tag a (a + s) d → RunsFrom lt tag s n d (a + s) → RunsFrom lt tag s n d a
/-- up to a: runs of s -/
inductive RunsTo (lt : α → α → Bool) (tag : α → Nat) (s : Nat) (d : Array α) : Nat → Prop
  | zero : RunsTo lt tag s d 0
  | snoc (a : Nat) : RunsTo lt tag s d a → Good lt tag a (a + s) d → RunsTo lt tag s d (a + s)
theorem RunsTo.congr {s a : Nat} {d d' : Array α} (h : RunsTo lt tag s d a) (he : ∀ p, p < a → d'[p]! = d[p]!) : RunsTo lt tag s d' a := by
  induction h with
  | zero => exact .zero
  | snoc a _ hg ih => exact .snoc a (ih (fun p hp => he p (by omega))) (hg.congr (fun p _ h2 => he p h2))
theorem RunsFrom.congr {s n a : Nat} {d d' : Array α} (h : RunsFrom lt tag s n d a) (he : ∀ p, a ≤ p → d'[p]! = d[p]!) : RunsFrom lt tag s n d' a := by
  induction h with
  | last a h1 h2 hg => exact .last a h1 h2 (hg.congr (fun p h _ => he p h))
  | more a h1 hg _ ih => exact .more a h1 (hg.congr (fun p h _ => he p h)) (ih (fun p hp => he p (by omega)))
theorem RunsTo.whole {s n a : Nat} {d : Array α} (h : RunsTo lt tag s d a) (hs : 0 < s) (hn : a ≤ n) (hr : RunsFrom lt tag s n d a) : RunsFrom lt tag s n d 0 := by
  induction h with
  | zero => exact hr
  | snoc a _ hg ih =>
    refine ih (by omega) ?_
    by_cases e : a + s < n
    · exact .more a e hg hr
    · obtain rfl : n = a + s := by omega
      exact .last a (by omega) (by omega) hg
/-- two runs ahead -/
theorem RunsFrom.two {s n a : Nat} {d : Array α} (h : RunsFrom lt tag s n d a) (hs : 0 < s) (hn : a + 2 * s ≤ n) : Good lt tag a (a + s) d ∧ Good lt tag (a + s) (a + 2 * s) d ∧ RunsFrom lt tag s n d (a + 2 * s) := by
  cases h with
  | last _ h1 h2 hg => omega
  | more _ h1 hg hr =>
    have e : a + s + s = a + 2 * s := by omega
    cases hr with
    | last _ h3 h4 hg2 =>
      obtain rfl : n = a + 2 * s := by omega
      exact ⟨hg, hg2, .last _ (by omega) (by omega) (Good.none _ _)⟩
    | more _ h3 hg2 hr2 =>
      rw [e] at hg2 hr2
      exact ⟨hg, hg2, hr2⟩
/-- one run and a shorter one -/
theorem RunsFrom.rest {s n a : Nat} {d : Array α} (h : RunsFrom lt tag s n d a) (hn : n < a + 2 * s) (hm : a + s < n) : Good lt tag a (a + s) d ∧ Good lt tag (a + s) n d := by
  cases h with
  | last _ h1 h2 hg => omega
  | more _ h1 hg hr =>
    cases hr with
    | last _ h3 h4 hg2 => exact ⟨hg, hg2⟩
    | more _ h3 hg2 hr2 => omega
/-- the last one -/
theorem RunsFrom.one {s n a : Nat} {d : Array α} (h : RunsFrom lt tag s n d a) (hm : n ≤ a + s) : Good lt tag a n d := by
  cases h with
  | last _ h1 h2 hg => exact hg
  | more _ h1 hg hr => omega
theorem RunsTo.snoc2 {s a : Nat} {d d' : Array α} (h : RunsTo lt tag (2 * s) d a) (hp : ∀ p, p < a → d'[p]! = d[p]!) (hg : Good lt tag a (a + 2 * s) d') : RunsTo lt tag (2 * s) d' (a + 2 * s) := .snoc a (h.congr hp) hg
end
end Go.Proofs.YtgpnockjonicpaaDoor
