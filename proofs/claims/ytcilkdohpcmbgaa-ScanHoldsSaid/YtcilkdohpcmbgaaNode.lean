/- Queries' conditions as trees of data; of which operations they are true. No program. -/
import Derived.Test.YtcilkdohpcmbgaaSize
import Derived.Test.YtcilkdohpcmbgaaHold2
namespace Go.Proofs.Ytcilkdohpcmbgaa
set_option linter.unusedSimpArgs false
set_option linter.unusedVariables false
open Go.RowKit

/-- a condition -/
inductive ND where
  | mk (kind : Int) (kids : List ND) (field sign : ByteArray) (value : Int)
def ND.kind : ND → Int | .mk k _ _ _ _ => k
def ND.kids : ND → List ND | .mk _ ks _ _ _ => ks
def ND.field : ND → ByteArray | .mk _ _ f _ _ => f
def ND.sign : ND → ByteArray | .mk _ _ _ s _ => s
def ND.value : ND → Int | .mk _ _ _ _ v => v

/-- five cells read as a condition, so deep -/
def Nd (w : World) : Nat → ND → NCell → Prop
  | 0, _, _ => False
  | d + 1, t, n => n.kind = t.kind ∧ n.field = t.field ∧ n.sign = t.sign ∧ n.value = t.value ∧ ∃ ks : List NCell, Sl w 5 RN n.kids ks ∧ ks.length = t.kids.length ∧ ∀ (i : Nat) (x : ND) (y : NCell), t.kids[i]? = some x → ks[i]? = some y → Nd w d x y
theorem Nd.ext {w w' : World} (hb : Ext w w') : ∀ (d : Nat) (t : ND) (n : NCell), Nd w d t n → Nd w' d t n
  | 0, _, _, h => h
  | d + 1, _, _, ⟨h1, h2, h3, h4, ks, h5, h6, h7⟩ => ⟨h1, h2, h3, h4, ks, h5.ext hb, h6, fun i x y hx hy => Nd.ext hb d x y (h7 i x y hx hy)⟩
theorem Nd.more {w : World} : ∀ (d : Nat) (t : ND) (n : NCell), Nd w d t n → Nd w (d + 1) t n
  | 0, _, _, h => h.elim
  | d + 1, _, _, ⟨h1, h2, h3, h4, ks, h5, h6, h7⟩ => ⟨h1, h2, h3, h4, ks, h5, h6, fun i x y hx hy => Nd.more d x y (h7 i x y hx hy)⟩
theorem list_choice {α β : Type} {P : α → β → Prop} : ∀ (l : List α), (∀ x ∈ l, ∃ y, P x y) → ∃ m : List β, m.length = l.length ∧ ∀ (i : Nat) (x : α) (y : β), l[i]? = some x → m[i]? = some y → P x y
  | [], _ => ⟨[], rfl, fun i x y hx => by simp at hx⟩
  | a :: r, h => by
    obtain ⟨b, hb⟩ := h a (by simp)
    obtain ⟨m, hm, hp⟩ := list_choice r (fun x hx => h x (by simp [hx]))
    refine ⟨b :: m, by simp [hm], fun i x y hx hy => ?_⟩
    cases i with
    | zero => simp at hx hy; subst hx hy; exact hb
    | succ i => exact hp i x y (by simpa using hx) (by simpa using hy)
theorem NOk.tree {w : World} : ∀ (d : Nat) (n : NCell), NOk w d n → ∃ t, Nd w d t n
  | 0, _, h => h.elim
  | d + 1, n, ⟨ks, h1, h2⟩ => by
    obtain ⟨m, hm, hp⟩ := list_choice (P := fun k t => Nd w d t k) ks (fun k hk => NOk.tree d k (h2 k hk))
    exact ⟨.mk n.kind m n.field n.sign n.value, rfl, rfl, rfl, rfl, ks, h1, hm.symm, fun i x y hx hy => hp i y x hy hx⟩
theorem Nd.ok {w : World} : ∀ (d : Nat) (t : ND) (n : NCell), Nd w d t n → NOk w d n
  | 0, _, _, h => h
  | d + 1, t, n, ⟨_, _, _, _, ks, h5, h6, h7⟩ => ⟨ks, h5, fun k hk => by
    obtain ⟨i, hi, rfl⟩ := List.mem_iff_getElem.1 hk
    exact Nd.ok d _ _ (h7 i _ _ (List.getElem?_eq_getElem (by omega)) (List.getElem?_eq_getElem hi))⟩

/-- is an operation so, beside another one? -/
def nearB (o p : OpD) (f : List UInt8) : Bool :=
  if f = [98, 101, 102, 111, 114, 101] then beforeL o p else if f = [97, 102, 116, 101, 114] then beforeL p o else if f = [111, 118, 101, 114, 108, 97, 112, 115] then !beforeL o p && !beforeL p o else false
def nearL (l : List OpD) (o : OpD) (f : List UInt8) (v : Int) : Bool :=
  match getL l v with
  | some p => nearB o p f
  | none => false
def cmpF (o : OpD) (f : ByteArray) (s : List UInt8) (v : Int) : Bool :=
  match valueL o f with
  | some x => soL x s v
  | none => false
mutual
/-- of an operation of a list, is the condition true? -/
def trueT (l : List OpD) (o : OpD) : ND → Bool
  | .mk k kids f s v => if k = 1 then anyT l o kids else if k = 2 then allT l o kids else if k = 3 then oneT l o kids else if k = 4 then cmpF o f s.toList v else if k = 5 then nearL l o f.toList v else decide (k = 6)
def anyT (l : List OpD) (o : OpD) : List ND → Bool
  | [] => false
  | t :: r => trueT l o t || anyT l o r
def allT (l : List OpD) (o : OpD) : List ND → Bool
  | [] => true
  | t :: r => trueT l o t && allT l o r
def oneT (l : List OpD) (o : OpD) : List ND → Bool
  | [] => false
  | t :: r => r.isEmpty && !trueT l o t
end
theorem anyT_eq (l : List OpD) (o : OpD) : ∀ ks : List ND, anyT l o ks = ks.any (trueT l o)
  | [] => by rw [anyT]; rfl
  | t :: r => by rw [anyT, anyT_eq l o r]; rfl
theorem allT_eq (l : List OpD) (o : OpD) : ∀ ks : List ND, allT l o ks = ks.all (trueT l o)
  | [] => by rw [allT]; rfl
  | t :: r => by rw [allT, allT_eq l o r]; rfl
theorem trueT_or (l : List OpD) (o : OpD) (t : ND) (h : t.kind = 1) : trueT l o t = t.kids.any (trueT l o) := by
  obtain ⟨k, ks, f, s, v⟩ := t
  simp only [ND.kind] at h
  subst h
  rw [trueT, if_pos rfl, anyT_eq]; rfl
theorem trueT_and (l : List OpD) (o : OpD) (t : ND) (h : t.kind = 2) : trueT l o t = t.kids.all (trueT l o) := by
  obtain ⟨k, ks, f, s, v⟩ := t
  simp only [ND.kind] at h
  subst h
  rw [trueT, if_neg (by decide), if_pos rfl, allT_eq]; rfl
theorem trueT_not1 (l : List OpD) (o : OpD) (t : ND) (h : t.kind = 3) (hl : t.kids.length ≠ 1) : trueT l o t = false := by
  obtain ⟨k, ks, f, s, v⟩ := t
  simp only [ND.kind] at h
  subst h
  rw [trueT, if_neg (by decide), if_neg (by decide), if_pos rfl]
  match ks, hl with
  | [], _ => rw [oneT]
  | [_], hl => exact absurd rfl hl
  | _ :: _ :: _, _ => rw [oneT]; rfl
theorem trueT_not (l : List OpD) (o : OpD) (t : ND) (h : t.kind = 3) (x : ND) (hx : t.kids = [x]) : trueT l o t = !trueT l o x := by
  obtain ⟨k, ks, f, s, v⟩ := t
  simp only [ND.kind, ND.kids] at h hx
  subst h hx
  rw [trueT, if_neg (by decide), if_neg (by decide), if_pos rfl, oneT]; rfl
theorem trueT_cmp (l : List OpD) (o : OpD) (t : ND) (h : t.kind = 4) : trueT l o t = cmpF o t.field t.sign.toList t.value := by
  obtain ⟨k, ks, f, s, v⟩ := t
  simp only [ND.kind] at h
  subst h
  rw [trueT, if_neg (by decide), if_neg (by decide), if_neg (by decide), if_pos rfl]; rfl
theorem trueT_near (l : List OpD) (o : OpD) (t : ND) (h : t.kind = 5) : trueT l o t = nearL l o t.field.toList t.value := by
  obtain ⟨k, ks, f, s, v⟩ := t
  simp only [ND.kind] at h
  subst h
  rw [trueT, if_neg (by decide), if_neg (by decide), if_neg (by decide), if_neg (by decide), if_pos rfl]; rfl
theorem trueT_else (l : List OpD) (o : OpD) (t : ND) (h1 : t.kind ≠ 1) (h2 : t.kind ≠ 2) (h3 : t.kind ≠ 3) (h4 : t.kind ≠ 4) (h5 : t.kind ≠ 5) : trueT l o t = decide (t.kind = 6) := by
  obtain ⟨k, ks, f, s, v⟩ := t
  simp only [ND.kind] at *
  rw [trueT, if_neg h1, if_neg h2, if_neg h3, if_neg h4, if_neg h5]; rfl
/-- a loop over kids that ends at the first one that is not 'q' -/
theorem kids_hit (l : List OpD) (o : OpD) (t : ND) (q : Bool) (hq : (t.kind = 1 ∧ q = false) ∨ (t.kind = 2 ∧ q = true)) (k : Nat) (x : ND) (hx : t.kids[k]? = some x) (h : trueT l o x = !q) : trueT l o t = !q := by
  rcases hq with ⟨hk, rfl⟩ | ⟨hk, rfl⟩
  · rw [trueT_or l o t hk]
    simp only [Bool.not_false] at *
    exact List.any_eq_true.2 ⟨x, List.mem_of_getElem? hx, h⟩
  · rw [trueT_and l o t hk]
    simp only [Bool.not_true] at *
    exact List.all_eq_false.2 ⟨x, List.mem_of_getElem? hx, by simp [h]⟩
theorem kids_all (l : List OpD) (o : OpD) (t : ND) (q : Bool) (hq : (t.kind = 1 ∧ q = false) ∨ (t.kind = 2 ∧ q = true)) (h : ∀ (k : Nat) (x : ND), t.kids[k]? = some x → trueT l o x = q) : trueT l o t = q := by
  have h' : ∀ x ∈ t.kids, trueT l o x = q := fun x hx => by
    obtain ⟨i, hi, rfl⟩ := List.mem_iff_getElem.1 hx
    exact h i _ (List.getElem?_eq_getElem hi)
  rcases hq with ⟨hk, rfl⟩ | ⟨hk, rfl⟩
  · rw [trueT_or l o t hk]
    exact List.any_eq_false.2 (fun x hx => by simp [h' x hx])
  · rw [trueT_and l o t hk]
    exact List.all_eq_true.2 (fun x hx => by simp [h' x hx])
end Go.Proofs.Ytcilkdohpcmbgaa
