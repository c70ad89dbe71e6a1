/- The law ScanHolds answers true for all operations, conditions and queries that can be read. Conditions: what a reading gives. -/
import Derived.Test.YtcilkdohpcmbgaaLawH
namespace Go.Proofs.Ytcilkdohpcmbgaa
set_option linter.unusedSimpArgs false
set_option linter.unusedVariables false
open Go.RowKit

def t6 : ND := .mk 6 [] ByteArray.empty ByteArray.empty 0
def n6 : NCell := ⟨6, .slice none 0 0, ByteArray.empty, ByteArray.empty, 0⟩
theorem n6_nd (w : World) : Nd w 1 t6 n6 := ⟨rfl, rfl, rfl, rfl, [], Sl.nil _ _ _, rfl, fun i x y h => by simp [t6, ND.kids] at h⟩
theorem n6_rn : RN n6 n6.cells := ⟨rfl, by decide, by decide, none, 0, 0, rfl⟩
theorem t6_true (l : List OpD) (o : OpD) : trueT l o t6 = true := by rw [trueT_else l o t6 (by decide) (by decide) (by decide) (by decide) (by decide)]; rfl

set_option maxRecDepth 100000 in
set_option maxHeartbeats 4000000 in
theorem scanHoldsLaw_any (V : Value) (l : List OpD) (d : Nat) (t : ND) (nk : Int) (nA : Option Addr) (nm nc : Nat) (nf ns : ByteArray) (nv : Int) (qk : Int) (qA : Option Addr) (qm qc : Nat) (qf qs : ByteArray) (qv : Int) (ord : ByteArray) (down : Bool) (limit : Int) (count : Bool) (w : World)
    (hs : Sl w 11 ROp V l) (hn : RN ⟨nk, .slice nA nm nc, nf, ns, nv⟩ (NCell.cells ⟨nk, .slice nA nm nc, nf, ns, nv⟩)) (hd : Nd w d t ⟨nk, .slice nA nm nc, nf, ns, nv⟩) (hlim : -9223372036854775808 ≤ limit ∧ limit ≤ 9223372036854775807) :
    Calls Try.prog 5 #[V, .agg #[.int .i64 nk, .slice nA nm nc, .string nf, .string ns, .int .i64 nv], .agg #[.int .i64 qk, .slice qA qm qc, .string qf, .string qs, .int .i64 qv, .string ord, .bool down, .int .i64 limit, .bool count]] w fun e w' => e = .returned (.bool true) ∧ Ext w w' := by
  obtain ⟨A, c, rfl⟩ := hs.form
  have HS := Lib.hid hs
  obtain ⟨_, hc1, hc2, hA⟩ := hs.at
  have HA := Lib.hid hA
  have HRN := Lib.hid hn
  have HD := Lib.hid hd
  clear hs hA hn hd
  have hmf : ∀ (fn : Fn) (first cap : Array Value) (w : World), (Instr.makeFunc fn first cap).run Try.prog w = .ok (.func fn first cap) w := fun _ _ _ _ => rfl
  by_cases hsmall : l.length ≤ 40
  · have q0 : decide ((40 : Int) < (l.length : Int)) = false := by simp; omega
    have HQ : Hid (Ext w ((w.alloc (.cells #[.int .i64 nk, .slice nA nm nc, .string nf, .string ns, .int .i64 nv] 24)).alloc (.cells #[.int .i64 qk, .slice qA qm qc, .string qf, .string qs, .int .i64 qv, .string ord, .bool down, .int .i64 limit, .bool count] 55))) := by unfold Hid; (repeat' (with_reducible first | exact Below.refl _ _ | refine Ext.drewN ?_ _ | refine Below.drew ?_ | refine Below.setCell ?_ ?_ _ | refine Below.alloc ?_ ?_ _)) <;> (first | omega | (simp; done) | (simp; omega))
    have HNB : Hid (∀ W : World, Ext ((w.alloc (.cells #[.int .i64 nk, .slice nA nm nc, .string nf, .string ns, .int .i64 nv] 24)).alloc (.cells #[.int .i64 qk, .slice qA qm qc, .string qf, .string qs, .int .i64 qv, .string ord, .bool down, .int .i64 limit, .bool count] 55)) W →
        W.cell? ⟨w.heap.size, 0, none⟩ = some (.int .i64 nk) ∧ W.cell? ⟨w.heap.size, 1, none⟩ = some (.slice nA nm nc) ∧ W.cell? ⟨w.heap.size, 2, none⟩ = some (.string nf) ∧ W.cell? ⟨w.heap.size, 3, none⟩ = some (.string ns) ∧ W.cell? ⟨w.heap.size, 4, none⟩ = some (.int .i64 nv)) :=
      fun W hb => ⟨by rw [hb.cell (by first | (simp; done) | (simp; omega) | omega)]; go_simp, by rw [hb.cell (by first | (simp; done) | (simp; omega) | omega)]; go_simp, by rw [hb.cell (by first | (simp; done) | (simp; omega) | omega)]; go_simp, by rw [hb.cell (by first | (simp; done) | (simp; omega) | omega)]; go_simp, by rw [hb.cell (by first | (simp; done) | (simp; omega) | omega)]; go_simp⟩
    have HQB : Hid (∀ W : World, Ext ((w.alloc (.cells #[.int .i64 nk, .slice nA nm nc, .string nf, .string ns, .int .i64 nv] 24)).alloc (.cells #[.int .i64 qk, .slice qA qm qc, .string qf, .string qs, .int .i64 qv, .string ord, .bool down, .int .i64 limit, .bool count] 55)) W →
        Row1 W (w.heap.size + 1) 55 [.int .i64 qk, .slice qA qm qc, .string qf, .string qs, .int .i64 qv, .string ord, .bool down, .int .i64 limit, .bool count]) :=
      fun W hb => (Row1.made' (by simp) 55 [.int .i64 qk, .slice qA qm qc, .string qf, .string qs, .int .i64 qv, .string ord, .bool down, .int .i64 limit, .bool count]).ext hb (by simp)
    go_enter Try.func5, Try.ntmps5
    go_wp2_with fail
    refine (size_any d ⟨nk, .slice nA nm nc, nf, ns, nv⟩ 0 _ ((HD.out.ext HQ.out).ok) (by decide) (by decide)).mono ?_
    rintro e w1 ⟨⟨z, rfl⟩, hb1⟩
    have K1 := Lib.hid hb1
    clear hb1
    by_cases hz : z ≤ 600
    · have q1 : decide ((600 : Int) < z) = false := by simp; omega
      have hzw := K1.out.size
      simp at hzw
      go_wp2_with fail
      go_loopw [8] (fun i wr => ∃ k : Nat, k ≤ l.length ∧ i = .int .i64 k ∧ Ext w1 wr ∧ ∃ v, Row1 wr w1.heap.size 33 [v] ∧ OwnL wr (w1.heap.size + 1) 58 11 OpD.cells v (onceL (l.take k)))
        (fun i _ => l.length - (intOf i).toNat)
      case atStart => exact ⟨0, by omega, rfl, by (repeat' (with_reducible first | exact Below.refl _ _ | refine Ext.drewN ?_ _ | refine Below.drew ?_ | refine Below.setCell ?_ ?_ _ | refine Below.alloc ?_ ?_ _)) <;> (first | omega | (simp; done) | (simp; omega)), _, Row1.made _ _ _, OwnL.nil _ _ _ _ _⟩
      case round =>
        obtain ⟨k, hk, rfl, hb, v, hrow, hown⟩ := hrel
        have KB := Lib.hid hb
        have HROW := Lib.hid hrow
        have HO := Lib.hid hown
        obtain ⟨vA, vc, rfl⟩ := hown.form
        have hrl := hrow.lt
        clear hb hrow hown
        by_cases hlt : k < l.length
        · have hd : decide ((k : Int) < (l.length : Int)) = true := by simp; omega
          have HT := Lib.hid (once_take l k hlt)
          have HLEN := Lib.hid (once_len l k hk)
          obtain ⟨b, off, rfl, hbl, hx⟩ := HA.out (by omega)
          obtain ⟨cs, rfl, _, hcs⟩ := hx k hlt
          have HE : Hid (∀ W : World, Ext w W → (W.cell? ⟨b, off + k * 11, none⟩ = some (.int .i64 l[k].id) ∧ W.cell? ⟨b, off + k * 11 + 1, none⟩ = some (.int .i64 l[k].proc) ∧ W.cell? ⟨b, off + k * 11 + 2, none⟩ = some (.int .i64 l[k].object) ∧ W.cell? ⟨b, off + k * 11 + 3, none⟩ = some (.int .i64 l[k].kind) ∧ W.cell? ⟨b, off + k * 11 + 4, none⟩ = some (.int .i64 l[k].method) ∧ W.cell? ⟨b, off + k * 11 + 5, none⟩ = some (.int .i64 l[k].arg) ∧ W.cell? ⟨b, off + k * 11 + 6, none⟩ = some (.int .i64 l[k].second) ∧ W.cell? ⟨b, off + k * 11 + 7, none⟩ = some (.bool l[k].done) ∧ W.cell? ⟨b, off + k * 11 + 8, none⟩ = some (.int .i64 l[k].result) ∧ W.cell? ⟨b, off + k * 11 + 9, none⟩ = some (.int .i64 l[k].invoke) ∧ W.cell? ⟨b, off + k * 11 + 10, none⟩ = some (.int .i64 l[k].ret))) := by
            intro W h
            have hw := fun j u hu => (h.cell (p := ⟨b, off + k * 11 + j, none⟩) hbl).trans (hcs j u hu)
            exact ⟨hw 0 _ rfl, hw 1 _ rfl, hw 2 _ rfl, hw 3 _ rfl, hw 4 _ rfl, hw 5 _ rfl, hw 6 _ rfl, hw 7 _ rfl, hw 8 _ rfl, hw 9 _ rfl, hw 10 _ rfl⟩
          clear hx hcs
          generalize l[k] = x at *
          generalize onceL (l.take k) = out at *
          have HX : Hid (Ext w wr) := Ext.trans (Ext.trans HQ.out K1.out) KB.out
          have hbw := Nat.lt_of_lt_of_le hbl HX.out.size
          have HKK : Hid (∀ W : World, Ext wr W → (W.cell? ⟨w1.heap.size, 0, none⟩ = some (.slice vA out.length vc) ∧ W.cell? ⟨b, off + k * 11, none⟩ = some (.int .i64 x.id) ∧ W.cell? ⟨b, off + k * 11 + 1, none⟩ = some (.int .i64 x.proc) ∧ W.cell? ⟨b, off + k * 11 + 2, none⟩ = some (.int .i64 x.object) ∧ W.cell? ⟨b, off + k * 11 + 3, none⟩ = some (.int .i64 x.kind) ∧ W.cell? ⟨b, off + k * 11 + 4, none⟩ = some (.int .i64 x.method) ∧ W.cell? ⟨b, off + k * 11 + 5, none⟩ = some (.int .i64 x.arg) ∧ W.cell? ⟨b, off + k * 11 + 6, none⟩ = some (.int .i64 x.second) ∧ W.cell? ⟨b, off + k * 11 + 7, none⟩ = some (.bool x.done) ∧ W.cell? ⟨b, off + k * 11 + 8, none⟩ = some (.int .i64 x.result) ∧ W.cell? ⟨b, off + k * 11 + 9, none⟩ = some (.int .i64 x.invoke) ∧ W.cell? ⟨b, off + k * 11 + 10, none⟩ = some (.int .i64 x.ret))) :=
            fun W h => ⟨(h.cell (p := ⟨w1.heap.size, 0, none⟩) hrl).trans (HROW.out.cell 0), HE.out W (HX.out.trans h)⟩
          obtain ⟨y0, e0, e1, e2, e3, e4, e5, e6, e7, e8, e9, e10⟩ := HKK.out wr (Ext.refl _)
          have y1 := HROW.out.soft 0
          go_wp2_with fail
          go_region_law
            ((go_simp; go_at_call 17; refine (refWith_any _ out x _ (((HO.out.sl (R := ROp) op_len (fun _ => rfl))).ext (by (repeat' (with_reducible first | exact Ext.refl _ | exact Below.refl _ _ | refine Ext.drewN ?_ _ | refine Below.drew ?_ | refine Below.setCell ?_ ?_ _ | refine Below.alloc ?_ ?_ _)) <;> (first | omega | (simp; done) | (simp; omega)))) (by have := HLEN.out; omega)).mono ?_; rintro e w2 ⟨⟨v2, rfl, ho2⟩, hb2⟩; have K2 := Lib.hid (Ext.trans (by (repeat' (with_reducible first | exact Ext.refl _ | exact Below.refl _ _ | refine Ext.drewN ?_ _ | refine Below.drew ?_ | refine Below.setCell ?_ ?_ _ | refine Below.alloc ?_ ?_ _)) <;> (first | omega | (simp; done) | (simp; omega)) : Ext wr _) hb2); obtain ⟨v2A, v2c, rfl⟩ := ho2.form; have HO2 := Lib.hid ho2; have f2 := (HROW.out.ext K2.out hrl).soft 0; have g2 := (HKK.out _ K2.out).1; clear hb2 ho2))
          all_goals
            clear y0 e0 e1 e2 e3 e4 e5 e6 e7 e8 e9 e10 y1
            go_wp2_with fail
            go_roundw
            case measure => simp [intOf]; omega
            case rel =>
              refine ⟨k + 1, by omega, by go_num, (by (repeat' (with_reducible first | exact (Ext.trans KB.out K2.out) | exact Below.refl _ _ | refine Ext.drewN ?_ _ | refine Below.drew ?_ | refine Below.setCell ?_ ?_ _ | refine Below.alloc ?_ ?_ _)) <;> (first | omega | (simp; done) | (simp; omega))), _, ((HROW.out.ext K2.out hrl).set 0 _), ?_⟩
              rw [HT.out]
              exact OwnL.but (g := w1.heap.size) (HO2.out.lower (by first | (simp; done) | (simp; omega) | omega)) (But.setCell But.refl (.inl rfl) _) (by omega)
        · obtain rfl : k = l.length := by omega
          obtain ⟨wo, rfl⟩ : ∃ wo, wo = wr := ⟨_, rfl⟩
          have hd : decide ((l.length : Int) < (l.length : Int)) = false := by simp
          rw [List.take_length] at HO HROW
          have HRIS := Lib.hid (once_ris l).nodup
          have HLEN : Hid ((onceL l).length ≤ 40) := by have := once_len l l.length (Nat.le_refl _); rw [List.take_length] at this; unfold Hid; omega
          generalize onceL l = out at *
          have HSL := Lib.hid (HO.out.sl (R := ROp) op_len (fun _ => rfl))
          obtain ⟨_, hco1, hco2, hO⟩ := HSL.out.at
          have HOA := Lib.hid hO
          clear hO
          have KW : Hid (Ext w wo) := Ext.trans (Ext.trans HQ.out K1.out) KB.out
          have KQ : Hid (Ext ((w.alloc (.cells #[.int .i64 nk, .slice nA nm nc, .string nf, .string ns, .int .i64 nv] 24)).alloc (.cells #[.int .i64 qk, .slice qA qm qc, .string qf, .string qs, .int .i64 qv, .string ord, .bool down, .int .i64 limit, .bool count] 55)) wo) := Ext.trans K1.out KB.out
          obtain ⟨bo, hbo⟩ : ∃ bo, w1.heap.size = bo := ⟨_, rfl⟩
          rw [hbo] at HROW hrl
          rw [hbo]
          have hzb : w.heap.size + 1 + 1 ≤ bo := by omega
          have HGET : Hid (∀ W : World, Ext wo W → GetAt 18 (.pointer (some ⟨bo, 0, none⟩)) out W) := fun W hW id W' hW' =>
            getClo_any _ out bo id W' (((hW.trans hW').cell (p := ⟨bo, 0, none⟩) hrl).trans (HROW.out.cell 0)) (HSL.out.ext (hW.trans hW'))
          have HOWN : Hid (∀ g, (Value.slice vA out.length vc).ownBlock = some g → bo < g) := fun g hg => by have := (HO.out.lt g hg).1; omega
          clear hbo hzw HO HA HS
          have y0 : wo.cell? ⟨bo, 0, none⟩ = some (.slice vA out.length vc) := HROW.out.cell 0
          go_wp2_with fail
          go_loopw [10] (fun i wz => ∃ j : Nat, j ≤ out.length ∧ i = .int .i64 j ∧ Ext wo wz) (fun i _ => out.length - (intOf i).toNat)
          case atStart => exact ⟨0, by omega, rfl, by (repeat' (with_reducible first | exact Below.refl _ _ | refine Ext.drewN ?_ _ | refine Below.drew ?_ | refine Below.setCell ?_ ?_ _ | refine Below.alloc ?_ ?_ _)) <;> (first | omega | (simp; done) | (simp; omega))⟩
          case round =>
            obtain ⟨j, hj, rfl, hbz⟩ := hrel
            obtain ⟨wz, rfl⟩ : ∃ wz, wz = wr := ⟨_, rfl⟩
            have KZ := Lib.hid hbz
            clear hbz y0
            by_cases hlt : j < out.length
            · have hdj : decide ((j : Int) < (out.length : Int)) = true := by simp; omega
              obtain ⟨b, off, rfl, hbl, hx⟩ := HOA.out (by omega)
              obtain ⟨cs, rfl, _, hcs⟩ := hx j hlt
              have HKK : Hid (∀ W : World, Ext wo W → (W.cell? ⟨bo, 0, none⟩ = some (.slice (some ⟨b, off, none⟩) out.length vc) ∧ W.cell? ⟨w.heap.size, 0, none⟩ = some (.int .i64 nk) ∧ W.cell? ⟨w.heap.size, 1, none⟩ = some (.slice nA nm nc) ∧ W.cell? ⟨w.heap.size, 2, none⟩ = some (.string nf) ∧ W.cell? ⟨w.heap.size, 3, none⟩ = some (.string ns) ∧ W.cell? ⟨w.heap.size, 4, none⟩ = some (.int .i64 nv) ∧ W.cell? ⟨b, off + j * 11, none⟩ = some (.int .i64 out[j].id) ∧ W.cell? ⟨b, off + j * 11 + 1, none⟩ = some (.int .i64 out[j].proc) ∧ W.cell? ⟨b, off + j * 11 + 2, none⟩ = some (.int .i64 out[j].object) ∧ W.cell? ⟨b, off + j * 11 + 3, none⟩ = some (.int .i64 out[j].kind) ∧ W.cell? ⟨b, off + j * 11 + 4, none⟩ = some (.int .i64 out[j].method) ∧ W.cell? ⟨b, off + j * 11 + 5, none⟩ = some (.int .i64 out[j].arg) ∧ W.cell? ⟨b, off + j * 11 + 6, none⟩ = some (.int .i64 out[j].second) ∧ W.cell? ⟨b, off + j * 11 + 7, none⟩ = some (.bool out[j].done) ∧ W.cell? ⟨b, off + j * 11 + 8, none⟩ = some (.int .i64 out[j].result) ∧ W.cell? ⟨b, off + j * 11 + 9, none⟩ = some (.int .i64 out[j].invoke) ∧ W.cell? ⟨b, off + j * 11 + 10, none⟩ = some (.int .i64 out[j].ret))) := by
                intro W h
                have hw := fun i u hu => (h.cell (p := ⟨b, off + j * 11 + i, none⟩) hbl).trans (hcs i u hu)
                obtain ⟨n0, n1, n2, n3, n4⟩ := HNB.out W (KQ.out.trans h)
                exact ⟨(h.cell (p := ⟨bo, 0, none⟩) hrl).trans (HROW.out.cell 0), n0, n1, n2, n3, n4, hw 0 _ rfl, hw 1 _ rfl, hw 2 _ rfl, hw 3 _ rfl, hw 4 _ rfl, hw 5 _ rfl, hw 6 _ rfl, hw 7 _ rfl, hw 8 _ rfl, hw 9 _ rfl, hw 10 _ rfl⟩
              clear hx hcs
              generalize out[j] = x at *
              obtain ⟨bt, hbt⟩ : ∃ bt, trueT out x t = bt := ⟨_, rfl⟩
              have HBT := Lib.hid hbt
              clear hbt
              have HKZ : Hid (∀ W : World, Ext wz W → (W.cell? ⟨bo, 0, none⟩ = some (.slice (some ⟨b, off, none⟩) out.length vc) ∧ W.cell? ⟨w.heap.size, 0, none⟩ = some (.int .i64 nk) ∧ W.cell? ⟨w.heap.size, 1, none⟩ = some (.slice nA nm nc) ∧ W.cell? ⟨w.heap.size, 2, none⟩ = some (.string nf) ∧ W.cell? ⟨w.heap.size, 3, none⟩ = some (.string ns) ∧ W.cell? ⟨w.heap.size, 4, none⟩ = some (.int .i64 nv) ∧ W.cell? ⟨b, off + j * 11, none⟩ = some (.int .i64 x.id) ∧ W.cell? ⟨b, off + j * 11 + 1, none⟩ = some (.int .i64 x.proc) ∧ W.cell? ⟨b, off + j * 11 + 2, none⟩ = some (.int .i64 x.object) ∧ W.cell? ⟨b, off + j * 11 + 3, none⟩ = some (.int .i64 x.kind) ∧ W.cell? ⟨b, off + j * 11 + 4, none⟩ = some (.int .i64 x.method) ∧ W.cell? ⟨b, off + j * 11 + 5, none⟩ = some (.int .i64 x.arg) ∧ W.cell? ⟨b, off + j * 11 + 6, none⟩ = some (.int .i64 x.second) ∧ W.cell? ⟨b, off + j * 11 + 7, none⟩ = some (.bool x.done) ∧ W.cell? ⟨b, off + j * 11 + 8, none⟩ = some (.int .i64 x.result) ∧ W.cell? ⟨b, off + j * 11 + 9, none⟩ = some (.int .i64 x.invoke) ∧ W.cell? ⟨b, off + j * 11 + 10, none⟩ = some (.int .i64 x.ret))) := fun W h => HKK.out W (KZ.out.trans h)
              have hbz := Nat.lt_of_lt_of_le hbl KZ.out.size
              have hboz := Nat.lt_of_lt_of_le hrl KZ.out.size
              obtain ⟨y0, n0, n1, n2, n3, n4, e0, e1, e2, e3, e4, e5, e6, e7, e8, e9, e10⟩ := HKZ.out wz (Ext.refl _)
              go_wp2_with fail
              go_region_held3 (fun w' => (w'.cell? ⟨bo, 0, none⟩ = some (.slice (some ⟨b, off, none⟩) out.length vc) ∧ w'.cell? ⟨w.heap.size, 0, none⟩ = some (.int .i64 nk) ∧ w'.cell? ⟨w.heap.size, 1, none⟩ = some (.slice nA nm nc) ∧ w'.cell? ⟨w.heap.size, 2, none⟩ = some (.string nf) ∧ w'.cell? ⟨w.heap.size, 3, none⟩ = some (.string ns) ∧ w'.cell? ⟨w.heap.size, 4, none⟩ = some (.int .i64 nv) ∧ w'.cell? ⟨b, off + j * 11, none⟩ = some (.int .i64 x.id) ∧ w'.cell? ⟨b, off + j * 11 + 1, none⟩ = some (.int .i64 x.proc) ∧ w'.cell? ⟨b, off + j * 11 + 2, none⟩ = some (.int .i64 x.object) ∧ w'.cell? ⟨b, off + j * 11 + 3, none⟩ = some (.int .i64 x.kind) ∧ w'.cell? ⟨b, off + j * 11 + 4, none⟩ = some (.int .i64 x.method) ∧ w'.cell? ⟨b, off + j * 11 + 5, none⟩ = some (.int .i64 x.arg) ∧ w'.cell? ⟨b, off + j * 11 + 6, none⟩ = some (.int .i64 x.second) ∧ w'.cell? ⟨b, off + j * 11 + 7, none⟩ = some (.bool x.done) ∧ w'.cell? ⟨b, off + j * 11 + 8, none⟩ = some (.int .i64 x.result) ∧ w'.cell? ⟨b, off + j * 11 + 9, none⟩ = some (.int .i64 x.invoke) ∧ w'.cell? ⟨b, off + j * 11 + 10, none⟩ = some (.int .i64 x.ret)))
                (first | (refine HKZ.out _ ?_; ((repeat' (with_reducible first | exact K3.out | exact Below.refl _ _ | refine Ext.drewN ?_ _ | refine Below.drew ?_ | refine Below.setCell ?_ ?_ _ | refine Below.alloc ?_ ?_ _)) <;> (first | omega | (simp; done) | (simp; omega))); done) | (refine HKZ.out _ ?_; ((repeat' (with_reducible first | exact K2.out | exact Below.refl _ _ | refine Ext.drewN ?_ _ | refine Below.drew ?_ | refine Below.setCell ?_ ?_ _ | refine Below.alloc ?_ ?_ _)) <;> (first | omega | (simp; done) | (simp; omega))); done) | (refine HKZ.out _ ?_; ((repeat' (with_reducible first | exact Ext.refl _ | exact Below.refl _ _ | refine Ext.drewN ?_ _ | refine Below.drew ?_ | refine Below.setCell ?_ ?_ _ | refine Below.alloc ?_ ?_ _)) <;> (first | omega | (simp; done) | (simp; omega))); done))
                (first
                  | (go_at_call 20; refine (findHolds_any 18 (Go.Proofs.enters_of Try.func18 (by kernel_rfl) rfl) (.pointer (some ⟨bo, 0, none⟩)) out x d t ⟨nk, .slice nA nm nc, nf, ns, nv⟩ _ HRN.out (HD.out.ext (Ext.trans KW.out (Ext.trans KZ.out (by (repeat' (with_reducible first | exact Ext.refl _ | exact Below.refl _ _ | refine Ext.drewN ?_ _ | refine Below.drew ?_ | refine Below.setCell ?_ ?_ _ | refine Below.alloc ?_ ?_ _)) <;> (first | omega | (simp; done) | (simp; omega)))))) (HGET.out _ (Ext.trans KZ.out (by (repeat' (with_reducible first | exact Ext.refl _ | exact Below.refl _ _ | refine Ext.drewN ?_ _ | refine Below.drew ?_ | refine Below.setCell ?_ ?_ _ | refine Below.alloc ?_ ?_ _)) <;> (first | omega | (simp; done) | (simp; omega)))))).mono ?_; rintro e w2 ⟨rfl, hb2⟩; rw [HBT.out]; have K2 := Lib.hid (Ext.trans (by (repeat' (with_reducible first | exact Ext.refl _ | exact Below.refl _ _ | refine Ext.drewN ?_ _ | refine Below.drew ?_ | refine Below.setCell ?_ ?_ _ | refine Below.alloc ?_ ?_ _)) <;> (first | omega | (simp; done) | (simp; omega)) : Ext wz _) hb2); clear hb2)
                  | (go_at_call 21; refine (refTrue_any (some ⟨b, off, none⟩) vc out x d t ⟨nk, .slice nA nm nc, nf, ns, nv⟩ _ HRN.out (HD.out.ext (Ext.trans KW.out (Ext.trans KZ.out (by (repeat' (with_reducible first | exact K2.out | exact Below.refl _ _ | refine Ext.drewN ?_ _ | refine Below.drew ?_ | refine Below.setCell ?_ ?_ _ | refine Below.alloc ?_ ?_ _)) <;> (first | omega | (simp; done) | (simp; omega)))))) (HSL.out.ext (Ext.trans KZ.out (by (repeat' (with_reducible first | exact K2.out | exact Below.refl _ _ | refine Ext.drewN ?_ _ | refine Below.drew ?_ | refine Below.setCell ?_ ?_ _ | refine Below.alloc ?_ ?_ _)) <;> (first | omega | (simp; done) | (simp; omega)))))).mono ?_; rintro e w3 ⟨rfl, hb3⟩; rw [HBT.out]; have K3 := Lib.hid (Ext.trans (by (repeat' (with_reducible first | exact K2.out | exact Below.refl _ _ | refine Ext.drewN ?_ _ | refine Below.drew ?_ | refine Below.setCell ?_ ?_ _ | refine Below.alloc ?_ ?_ _)) <;> (first | omega | (simp; done) | (simp; omega)) : Ext wz _) hb3); clear hb3))
              all_goals
                go_wp2_with fail
                go_roundw
                case measure => simp [intOf]; omega
                case rel => exact ⟨j + 1, by omega, by go_num, Ext.trans KZ.out (by (repeat' (with_reducible first | exact K3.out | exact Below.refl _ _ | refine Ext.drewN ?_ _ | refine Below.drew ?_ | refine Below.setCell ?_ ?_ _ | refine Below.alloc ?_ ?_ _)) <;> (first | omega | (simp; done) | (simp; omega)))⟩
            · obtain rfl : j = out.length := by omega
              have hdj : decide ((out.length : Int) < (out.length : Int)) = false := by simp
              have HROWZ := Lib.hid (HROW.out.ext KZ.out hrl)
              have HQZ := Lib.hid (HQB.out wz (KQ.out.trans KZ.out))
              have hboz := HROWZ.out.lt
              have hqz := HQZ.out.lt
              have y0 : wz.cell? ⟨bo, 0, none⟩ = some (.slice vA out.length vc) := HROWZ.out.cell 0
              have s0 := fun i => HQZ.out.soft i
              have c0 : wz.cell? ⟨w.heap.size + 1, 0, none⟩ = some (.int .i64 qk) := HQZ.out.cell 0
              have c1 : wz.cell? ⟨w.heap.size + 1, 1, none⟩ = some (.slice qA qm qc) := HQZ.out.cell 1
              have c2 : wz.cell? ⟨w.heap.size + 1, 2, none⟩ = some (.string qf) := HQZ.out.cell 2
              have c3 : wz.cell? ⟨w.heap.size + 1, 3, none⟩ = some (.string qs) := HQZ.out.cell 3
              have c4 : wz.cell? ⟨w.heap.size + 1, 4, none⟩ = some (.int .i64 qv) := HQZ.out.cell 4
              have c8 : wz.cell? ⟨w.heap.size + 1, 8, none⟩ = some (.bool count) := HQZ.out.cell 8
              go_upto_region 15 with fail
              have R2 : Row1 ((((((wz.setCell ⟨w.heap.size + 1, 0, none⟩ (.int .i64 6)).setCell ⟨w.heap.size + 1, 1, none⟩ (.slice none 0 0)).setCell ⟨w.heap.size + 1, 2, none⟩ (.string ⟨#[]⟩)).setCell ⟨w.heap.size + 1, 3, none⟩ (.string ⟨#[]⟩)).setCell ⟨w.heap.size + 1, 4, none⟩ (.int .i64 0)).setCell ⟨w.heap.size + 1, 8, none⟩ (.bool false)) (w.heap.size + 1) 55 [.int .i64 6, .slice none 0 0, .string ByteArray.empty, .string ByteArray.empty, .int .i64 0, .string ord, .bool down, .int .i64 limit, .bool false] := ((((((HQZ.out.set 0 _).set 1 _).set 2 _).set 3 _).set 4 _).set 8 _)
              have B2 : But (w.heap.size + 1) wz ((((((wz.setCell ⟨w.heap.size + 1, 0, none⟩ (.int .i64 6)).setCell ⟨w.heap.size + 1, 1, none⟩ (.slice none 0 0)).setCell ⟨w.heap.size + 1, 2, none⟩ (.string ⟨#[]⟩)).setCell ⟨w.heap.size + 1, 3, none⟩ (.string ⟨#[]⟩)).setCell ⟨w.heap.size + 1, 4, none⟩ (.int .i64 0)).setCell ⟨w.heap.size + 1, 8, none⟩ (.bool false)) := by (repeat' (with_reducible first | exact But.refl | exact But.refl | refine But.drewN ?_ _ | refine But.drew ?_ | refine But.setCell ?_ ?_ _ | refine But.alloc ?_ _)) <;> (first | exact .inl rfl | (right; simp; done) | (right; simp; omega))
              have X2 : Ext w ((((((wz.setCell ⟨w.heap.size + 1, 0, none⟩ (.int .i64 6)).setCell ⟨w.heap.size + 1, 1, none⟩ (.slice none 0 0)).setCell ⟨w.heap.size + 1, 2, none⟩ (.string ⟨#[]⟩)).setCell ⟨w.heap.size + 1, 3, none⟩ (.string ⟨#[]⟩)).setCell ⟨w.heap.size + 1, 4, none⟩ (.int .i64 0)).setCell ⟨w.heap.size + 1, 8, none⟩ (.bool false)) := by (repeat' (with_reducible first | exact (Ext.trans KW.out KZ.out) | exact Below.refl _ _ | refine Ext.drewN ?_ _ | refine Below.drew ?_ | refine Below.setCell ?_ ?_ _ | refine Below.alloc ?_ ?_ _)) <;> (first | omega | (simp; done) | (simp; omega))
              have R3 : Row1 ((((((wz.setCell ⟨w.heap.size + 1, 0, none⟩ (.int .i64 6)).setCell ⟨w.heap.size + 1, 1, none⟩ (.slice none 0 0)).setCell ⟨w.heap.size + 1, 2, none⟩ (.string ⟨#[]⟩)).setCell ⟨w.heap.size + 1, 3, none⟩ (.string ⟨#[]⟩)).setCell ⟨w.heap.size + 1, 4, none⟩ (.int .i64 0)).setCell ⟨w.heap.size + 1, 8, none⟩ (.bool false)) bo 33 [.slice vA out.length vc] := HROWZ.out.same (B2.block bo hboz (by intro e; injection e with e; omega))
              have S2 : Sl ((((((wz.setCell ⟨w.heap.size + 1, 0, none⟩ (.int .i64 6)).setCell ⟨w.heap.size + 1, 1, none⟩ (.slice none 0 0)).setCell ⟨w.heap.size + 1, 2, none⟩ (.string ⟨#[]⟩)).setCell ⟨w.heap.size + 1, 3, none⟩ (.string ⟨#[]⟩)).setCell ⟨w.heap.size + 1, 4, none⟩ (.int .i64 0)).setCell ⟨w.heap.size + 1, 8, none⟩ (.bool false)) 11 ROp (.slice vA out.length vc) out := (HSL.out.ext KZ.out).but B2 (fun e => by have := HOWN.out _ e; omega)
              clear B2 c0 c1 c2 c3 c4 c8 s0 y0 HQZ HROWZ hboz hqz
              generalize ((((((wz.setCell ⟨w.heap.size + 1, 0, none⟩ (.int .i64 6)).setCell ⟨w.heap.size + 1, 1, none⟩ (.slice none 0 0)).setCell ⟨w.heap.size + 1, 2, none⟩ (.string ⟨#[]⟩)).setCell ⟨w.heap.size + 1, 3, none⟩ (.string ⟨#[]⟩)).setCell ⟨w.heap.size + 1, 4, none⟩ (.int .i64 0)).setCell ⟨w.heap.size + 1, 8, none⟩ (.bool false)) = wq at *
              have X2 := Lib.hid X2
              have S2 := Lib.hid S2
              have HK2 : Hid (∀ W : World, Ext wq W → W.cell? ⟨bo, 0, none⟩ = some (.slice vA out.length vc) ∧ W.cell? ⟨w.heap.size + 1, 0, none⟩ = some (.int .i64 6) ∧ W.cell? ⟨w.heap.size + 1, 1, none⟩ = some (.slice none 0 0) ∧ W.cell? ⟨w.heap.size + 1, 2, none⟩ = some (.string ⟨#[]⟩) ∧ W.cell? ⟨w.heap.size + 1, 3, none⟩ = some (.string ⟨#[]⟩) ∧ W.cell? ⟨w.heap.size + 1, 4, none⟩ = some (.int .i64 0) ∧
                  W.cell? ⟨w.heap.size + 1, 5, none⟩ = some (.string ord) ∧ W.cell? ⟨w.heap.size + 1, 6, none⟩ = some (.bool down) ∧ W.cell? ⟨w.heap.size + 1, 7, none⟩ = some (.int .i64 limit) ∧ W.cell? ⟨w.heap.size + 1, 8, none⟩ = some (.bool false)) := by
                intro W hb
                have r2 := R2.ext hb R2.lt
                have r3 := R3.ext hb R3.lt
                exact ⟨r3.cell 0, r2.cell 0, r2.cell 1, r2.cell 2, r2.cell 3, r2.cell 4, r2.cell 5, r2.cell 6, r2.cell 7, r2.cell 8⟩
              clear R2 R3
              obtain ⟨y0, c0, c1, c2, c3, c4, c5, c6, c7, c8⟩ := HK2.out wq (Ext.refl _)
              go_wp2_with fail
              refine (refRun_any (.slice vA out.length vc) out 1 t6 n6 ord down limit false _ S2.out n6_rn (n6_nd _) (by have := HLEN.out; omega) hlim).mono ?_
              rintro e w4 ⟨⟨v4, rfl, hv4⟩, hb4⟩
              have K4 := Lib.hid hb4
              have S4 : Hid (Sl w4 11 ROp v4 (cutL limit (runL ord down out t6 out))) := hv4
              obtain ⟨v4A, v4c, e4⟩ := S4.out.form
              generalize (cutL limit (runL ord down out t6 out)).length = n4 at *
              subst e4
              clear hb4 hv4 y0 c0 c1 c2 c3 c4 c5 c6 c7 c8
              obtain ⟨y0, c0, c1, c2, c3, c4, c5, c6, c7, c8⟩ := HK2.out w4 K4.out
              go_wp2_with fail
              refine (findSorted_any (.slice vA out.length vc) out 6 none 0 0 ByteArray.empty ByteArray.empty 0 ord down limit false _ (S2.out.ext K4.out) (by have := HLEN.out; omega) hlim).mono ?_
              rintro e w5 ⟨⟨l', v5, rfl, hs5, hpe, hpw⟩, hb5⟩
              rw [sorted_run ord down out t6 (t6_true out) out l' HRIS.out hpe hpw] at hs5
              have K5 := Lib.hid hb5
              have S5 := Lib.hid hs5
              obtain ⟨v5A, v5c, e5⟩ := hs5.form
              generalize (cutL limit (runL ord down out t6 out)).length = n5 at *
              subst e5
              clear hb5 hs5 hpe hpw y0 c0 c1 c2 c3 c4 c5 c6 c7 c8
              go_wp2_with fail
              refine (ops_same _ _ (cutL limit (runL ord down out t6 out)) _ S5.out (S4.out.ext K5.out)).mono ?_
              rintro e w6 ⟨rfl, hb6⟩
              have K6 := Lib.hid hb6
              clear hb6
              go_wp2_with fail
              refine (awake_any _).mono ?_
              rintro e w7 ⟨rfl, hb7⟩
              have K7 := Lib.hid hb7
              clear hb7
              go_wp2_with fail
              go_ret
              exact ⟨rfl, Ext.trans X2.out (Ext.trans K4.out (Ext.trans K5.out (Ext.trans K6.out K7.out)))⟩
    · have q1 : decide ((600 : Int) < z) = true := by simp; omega
      go_wp2_with fail
      refine (awake_any _).mono ?_
      rintro e w7 ⟨rfl, hb7⟩
      have K7 := Lib.hid hb7
      clear hb7
      go_wp2_with fail
      go_ret
      exact ⟨rfl, Ext.trans HQ.out (Ext.trans K1.out K7.out)⟩
  · have q0 : decide ((40 : Int) < (l.length : Int)) = true := by simp; omega
    go_enter Try.func5, Try.ntmps5
    go_wp2_with fail
    refine (awake_any _).mono ?_
    rintro e w7 ⟨rfl, hb7⟩
    have K7 := Lib.hid hb7
    clear hb7
    go_wp2_with fail
    go_ret
    exact ⟨rfl, Ext.trans (by (repeat' (with_reducible first | exact Below.refl _ _ | refine Ext.drewN ?_ _ | refine Below.drew ?_ | refine Below.setCell ?_ ?_ _ | refine Below.alloc ?_ ?_ _)) <;> (first | omega | (simp; done) | (simp; omega))) K7.out⟩
end Go.Proofs.Ytcilkdohpcmbgaa
