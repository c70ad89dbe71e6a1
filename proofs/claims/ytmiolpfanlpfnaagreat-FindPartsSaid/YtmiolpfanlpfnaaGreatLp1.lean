/- What a condition is true of, and what it isn't (plain law). No program. -/
import Derived.Test.YtmiolpfanlpfnaaGreatQ54
namespace Go.Proofs.YtmiolpfanlpfnaaGreat
set_option linter.unusedSimpArgs false
set_option linter.unusedVariables false
open Go.RowKit

def notT (t : ND) : ND := .mk 3 [t] ⟨#[]⟩ ⟨#[]⟩ 0
theorem notT_true (l : List OpD) (o : OpD) (t : ND) : Z0r l o (notT t) = !Z0r l o t := Y8q l o (notT t) rfl t rfl
theorem runL_congr (ord : ByteArray) (down : Bool) (l0 : List OpD) (t u : ND) (h : ∀ o, Z0r l0 o t = Z0r l0 o u) (l : List OpD) : runL ord down l0 t l = runL ord down l0 u l := by
  unfold runL
  have e : Z4i ord down l0 t = Z4i ord down l0 u := by funext out o; unfold Z4i; rw [h o]
  rw [e]
theorem not_not (ls : List OpD) (t : ND) : runL ⟨#[]⟩ false ls (notT (notT t)) ls = runL ⟨#[]⟩ false ls t ls := runL_congr _ _ _ _ _ (fun o => by rw [notT_true, notT_true, Bool.not_not]) _
theorem parts_sum (ls : List OpD) (t : ND) : (runL ⟨#[]⟩ false ls t ls).length + (runL ⟨#[]⟩ false ls (notT t) ls).length = ls.length := by
  rw [(Y8x ⟨#[]⟩ false ls t ls).1.length_eq, (Y8x ⟨#[]⟩ false ls (notT t) ls).1.length_eq]
  simp only [notT_true]
  have h : ∀ (p : OpD → Bool) (l : List OpD), (l.filter p).length + (l.filter (fun o => !p o)).length = l.length := fun p l => by
    induction l with
    | nil => rfl
    | cons a r ih =>
      simp only [List.filter_cons]
      cases p a <;> simp <;> omega
  exact h _ ls
theorem getL_some_iff {a ls : List OpD} {p : OpD → Bool} (hp : a.Perm (ls.filter p)) (hn : ls.Pairwise (fun x y => x.id ≠ y.id)) {o : OpD} (ho : o ∈ ls) : (getL a o.id).isSome = p o := by
  unfold getL
  rw [List.isSome_find?, Bool.eq_iff_iff, List.any_eq_true]
  constructor
  · rintro ⟨x, hx, he⟩
    have hm := List.mem_filter.1 (hp.mem_iff.1 hx)
    have : x.id = o.id := by simpa using he
    rw [← Y7q hn hm.1 ho this]
    exact hm.2
  · intro h
    exact ⟨o, hp.mem_iff.2 (List.mem_filter.2 ⟨ho, h⟩), by simp⟩
theorem parts_one {ls : List OpD} (hn : ls.Pairwise (fun x y => x.id ≠ y.id)) (t : ND) {o : OpD} (ho : o ∈ ls) : ((getL (runL ⟨#[]⟩ false ls t ls) o.id).isSome == (getL (runL ⟨#[]⟩ false ls (notT t) ls) o.id).isSome) = false := by
  rw [getL_some_iff (Y8x ⟨#[]⟩ false ls t ls).1 hn ho, getL_some_iff (Y8x ⟨#[]⟩ false ls (notT t) ls).1 hn ho, notT_true]
  cases Z0r ls o t <;> rfl
/-- a condition turned, as it is built -/
theorem not_ndB {B : Nat → Prop} {w : World} {d : Nat} {t : ND} {n : NCell} {k : Nat} {ty : TypeId} (hd : NdB B w d t n) (hn : RN n n.cells) (hk : Row1 w k ty n.cells) (hB : B k) : NdB B w (d + 1) (notT t) ⟨3, .slice (some ⟨k, 0, none⟩) 1 1, ⟨#[]⟩, ⟨#[]⟩, 0⟩ := by
  refine ⟨rfl, rfl, rfl, rfl, [n], Sl.laid hk rfl (Nat.le_refl _) (by decide) (fun i x hx => ?_), fun b _ e => by cases e; exact hB, rfl, fun i x y hx hy => ?_⟩
  · match i, hx with
    | 0, hx =>
      obtain rfl : n = x := by simpa using hx
      exact ⟨n.cells, hn, rfl, fun j u hu => by rw [Nat.zero_mul, Nat.zero_add]; exact hu⟩
    | i + 1, hx => simp at hx
  · match i, hx, hy with
    | 0, hx, hy =>
      obtain rfl : t = x := by simpa [notT, ND.kids] using hx
      obtain rfl : n = y := by simpa using hy
      exact hd
    | i + 1, hx, hy => simp at hy
end Go.Proofs.YtmiolpfanlpfnaaGreat

