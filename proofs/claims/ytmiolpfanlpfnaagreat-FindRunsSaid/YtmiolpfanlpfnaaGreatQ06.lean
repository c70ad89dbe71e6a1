/- ref20.True, whole: of an operation of a list, is a condition true? Conditions: that all can be read. -/
import Derived.Test.YtmiolpfanlpfnaaGreatQ05
set_option maxRecDepth 100000
set_option maxHeartbeats 2000000
namespace Go.Proofs.YtmiolpfanlpfnaaGreat
set_option linter.unusedSimpArgs false
set_option linter.unusedVariables false
open Go.RowKit
section
variable (A:Option Addr) (c:Nat) (l:List OpD) (o:OpD) (t:ND) (field sign:ByteArray) (value:Int) (w:World)
theorem V4d(d:Nat)(ih:X4w (.slice A l.length c) l o d)(hs:Sl w 11 ROp (.slice A l.length c) l)(ht:t.kind=3)(KA:Option Addr)(Kc:Nat)(ks:List NCell)(hks:Sl w 5 RN (.slice KA ks.length Kc) ks)(hlen:ks.length=t.kids.length)
 (hnd:∀(i:Nat) (x:ND) (y:NCell),t.kids[i]? =some x→ks[i]? =some y→Nd w d x y):
  Calls Tryz.prog 34 #[.slice A l.length c,.agg #[.int .i64 3,.slice KA ks.length Kc,.string field,.string sign,.int .i64 value],o.val] w fun e w'=>e= .returned (.bool (Z0r l o t))∧Ext w w':=by
 have HQ:Hid (Ext w ((w.alloc (.cells #[.int .i64 3,.slice KA ks.length Kc,.string field,.string sign,.int .i64 value] 50)).alloc (.cells #[.int .i64 o.id,.int .i64 o.proc,.int .i64 o.object,.int .i64 o.kind,.int .i64 o.method,.int .i64 o.arg,.int .i64 o.second,.bool o.done,.int .i64 o.result,.int .i64 o.invoke,.int .i64 o.ret] 32))):=by unfold Hid;exact Xt
 by_cases h1:ks.length=1
 ·obtain⟨x,hx⟩:∃x,t.kids= [x]:=by
   have h2:t.kids.length=1:=by omega
   match hk:t.kids,h2 with
   | [x],_=>exact⟨x,rfl⟩
  have HT:=hD (Y8q l o t ht x hx)
  have IH:=hD ih
  have HS:=hD hs
  obtain⟨_,hc1,hc2,hA⟩:=hks.at
  obtain⟨b,off,rfl,hbl,hcell⟩:=hA (by omega)
  obtain⟨cs,⟨rfl,hrn⟩,_,hcs⟩:=hcell 0 (by omega)
  have HY:=hD (hnd 0 x ks[0] (by rw[hx];rfl) (List.getElem?_eq_getElem (by omega)))
  have HRN:=hD (show RN ks[0] ks[0].cells from⟨rfl,hrn⟩)
  have HKID:Hid (∀W:World,Ext w W→W.cell? ⟨b,off,none⟩=some (.int .i64 ks[0].kind)∧W.cell? ⟨b,off+1,none⟩=some ks[0].kids∧W.cell? ⟨b,off+2,none⟩=some (.string ks[0].field)∧W.cell? ⟨b,off+3,none⟩=some (.string ks[0].sign)∧W.cell? ⟨b,off+4,none⟩=some (.int .i64 ks[0].value)):=by
   intro W hb
   have g:=fun j u hu=>(hb.cell (p:=⟨b,off+0*5+j,none⟩) hbl).trans (hcs j u hu)
   have g0:=g 0 _ rfl
   have g1:=g 1 _ rfl
   have g2:=g 2 _ rfl
   have g3:=g 3 _ rfl
   have g4:=g 4 _ rfl
   simp only[Nat.zero_mul,Nat.add_zero]at g0 g1 g2 g3 g4
   exact⟨g0,g1,g2,g3,g4⟩
  obtain⟨kA,kn,kc,hkk⟩:=HRN.out.2.2.2
  clear hcell hcs hrn hA hks hnd hs ih ht hx
  generalize ks[0]=n at *
  obtain⟨nk,nkids,nf,ns,nv⟩:=n
  dsimp only at *
  subst hkk
  rw[h1]
  rw[h1]at HQ
  clear h1 hlen
  have HB0:=hD (At11.row (Row1.made' (w:=w.alloc (.cells #[.int .i64 3,.slice (some ⟨b,off,none⟩) 1 Kc,.string field,.string sign,.int .i64 value] 50)) (n:=w.heap.size+1) (by simp) 32 o.cells))
  have HKK:Hid (∀W:World,Ext ((w.alloc (.cells #[.int .i64 3,.slice (some ⟨b,off,none⟩) 1 Kc,.string field,.string sign,.int .i64 value] 50)).alloc (.cells #[.int .i64 o.id,.int .i64 o.proc,.int .i64 o.object,.int .i64 o.kind,.int .i64 o.method,.int .i64 o.arg,.int .i64 o.second,.bool o.done,.int .i64 o.result,.int .i64 o.invoke,.int .i64 o.ret] 32)) W→(W.cell? ⟨w.heap.size,1,none⟩=some (.slice (some ⟨b,off,none⟩) 1 Kc)∧W.cell? ⟨b,off,none⟩=some (.int .i64 nk)∧W.cell? ⟨b,off+1,none⟩=some (.slice kA kn kc)∧W.cell? ⟨b,off+2,none⟩=some (.string nf)∧W.cell? ⟨b,off+3,none⟩=some (.string ns)∧W.cell? ⟨b,off+4,none⟩=some (.int .i64 nv)∧(W.cell? ⟨(w.heap.size+1),0,none⟩=some (.int .i64 o.id)∧W.cell? ⟨(w.heap.size+1),1,none⟩=some (.int .i64 o.proc)∧W.cell? ⟨(w.heap.size+1),2,none⟩=some (.int .i64 o.object)∧W.cell? ⟨(w.heap.size+1),3,none⟩=some (.int .i64 o.kind)∧W.cell? ⟨(w.heap.size+1),4,none⟩=some (.int .i64 o.method)∧W.cell? ⟨(w.heap.size+1),5,none⟩=some (.int .i64 o.arg)∧W.cell? ⟨(w.heap.size+1),6,none⟩=some (.int .i64 o.second)∧W.cell? ⟨(w.heap.size+1),7,none⟩=some (.bool o.done)∧W.cell? ⟨(w.heap.size+1),8,none⟩=some (.int .i64 o.result)∧W.cell? ⟨(w.heap.size+1),9,none⟩=some (.int .i64 o.invoke)∧W.cell? ⟨(w.heap.size+1),10,none⟩=some (.int .i64 o.ret)))):=
   fun W hb=>by
    obtain⟨x0,x1,x2,x3,x4⟩:=HKID.out W (Ext.trans HQ.out hb)
    exact⟨by rw[hb.cell (by simp;omega)];go_simp,x0,x1,x2,x3,x4,HB0.out.ext hb (by simp)⟩
  clear HB0
  have hbw:b<w.heap.size+1:=by omega
  obtain⟨k0,k1,k2,k3,k4⟩:=HKID.out w (Ext.refl _)
  go_enter Tryz.func34,Tryz.ntmps34
  go_wp2_with fail
  go_region_held3 (fun w'=>(w'.cell? ⟨w.heap.size,1,none⟩=some (.slice (some ⟨b,off,none⟩) 1 Kc)∧w'.cell? ⟨b,off,none⟩=some (.int .i64 nk)∧w'.cell? ⟨b,off+1,none⟩=some (.slice kA kn kc)∧w'.cell? ⟨b,off+2,none⟩=some (.string nf)∧w'.cell? ⟨b,off+3,none⟩=some (.string ns)∧w'.cell? ⟨b,off+4,none⟩=some (.int .i64 nv)∧(w'.cell? ⟨(w.heap.size+1),0,none⟩=some (.int .i64 o.id)∧w'.cell? ⟨(w.heap.size+1),1,none⟩=some (.int .i64 o.proc)∧w'.cell? ⟨(w.heap.size+1),2,none⟩=some (.int .i64 o.object)∧w'.cell? ⟨(w.heap.size+1),3,none⟩=some (.int .i64 o.kind)∧w'.cell? ⟨(w.heap.size+1),4,none⟩=some (.int .i64 o.method)∧w'.cell? ⟨(w.heap.size+1),5,none⟩=some (.int .i64 o.arg)∧w'.cell? ⟨(w.heap.size+1),6,none⟩=some (.int .i64 o.second)∧w'.cell? ⟨(w.heap.size+1),7,none⟩=some (.bool o.done)∧w'.cell? ⟨(w.heap.size+1),8,none⟩=some (.int .i64 o.result)∧w'.cell? ⟨(w.heap.size+1),9,none⟩=some (.int .i64 o.invoke)∧w'.cell? ⟨(w.heap.size+1),10,none⟩=some (.int .i64 o.ret))))
   (first | (refine HKK.out _ ?_;((repeat' (with_reducible first | exact K1.out | exact Below.refl _ _ | refine Ext.drewN ?_ _ | refine Below.drew ?_ | refine Below.setCell ?_ ?_ _ | refine Below.alloc ?_ ?_ _))<;>(first | omega | (simp;done) | (simp;omega)));done) | (refine HKK.out _ ?_;((repeat' (with_reducible first | exact Ext.refl _ | exact Below.refl _ _ | refine Ext.drewN ?_ _ | refine Below.drew ?_ | refine Below.setCell ?_ ?_ _ | refine Below.alloc ?_ ?_ _))<;>(first | omega | (simp;done) | (simp;omega)));done))
   ((go_at_call 34;refine(IH.out x ⟨nk,.slice kA kn kc,nf,ns,nv⟩ _ HRN.out (HY.out.ext (Ext.trans HQ.out (by (repeat' (with_reducible first | exact Ext.refl _ | exact Below.refl _ _ | refine Ext.drewN ?_ _ | refine Below.drew ?_ | refine Below.setCell ?_ ?_ _ | refine Below.alloc ?_ ?_ _))<;>(first | omega | (simp;done) | (simp;omega))))) (HS.out.ext (Ext.trans HQ.out (by (repeat' (with_reducible first | exact Ext.refl _ | exact Below.refl _ _ | refine Ext.drewN ?_ _ | refine Below.drew ?_ | refine Below.setCell ?_ ?_ _ | refine Below.alloc ?_ ?_ _))<;>(first | omega | (simp;done) | (simp;omega)))))).mono ?_;rintro e w1 ⟨rfl,hb1⟩;have K1:=hD (Ext.trans (by (repeat' (with_reducible first | exact Ext.refl _ | exact Below.refl _ _ | refine Ext.drewN ?_ _ | refine Below.drew ?_ | refine Below.setCell ?_ ?_ _ | refine Below.alloc ?_ ?_ _))<;>(first | omega | (simp;done) | (simp;omega)):Ext ((w.alloc (.cells #[.int .i64 3,.slice (some ⟨b,off,none⟩) 1 Kc,.string field,.string sign,.int .i64 value] 50)).alloc (.cells #[.int .i64 o.id,.int .i64 o.proc,.int .i64 o.object,.int .i64 o.kind,.int .i64 o.method,.int .i64 o.arg,.int .i64 o.second,.bool o.done,.int .i64 o.result,.int .i64 o.invoke,.int .i64 o.ret] 32)) _) hb1);clear hb1))
  all_goals
   go_wp2_with fail
   go_ret
   exact⟨by rw[HT.out];rfl,Ext.trans HQ.out (by (repeat' (with_reducible first | exact K1.out | exact Below.refl _ _ | refine Ext.drewN ?_ _ | refine Below.drew ?_ | refine Below.setCell ?_ ?_ _ | refine Below.alloc ?_ ?_ _))<;>(first | omega | (simp;done) | (simp;omega)))⟩
 ·have HT:=hD (Y5d l o t ht (by omega))
  have q1:((ks.length:Int)==1)=false:=by simp;omega
  clear ih hs hks hnd hlen h1
  go_enter Tryz.func34,Tryz.ntmps34
  go_wp2_with fail
  all_goals (try go_quiet (fail))
  all_goals (try go_wp2_with fail)
  go_ret
  exact⟨by rw[HT.out];rfl,by(repeat' (with_reducible first | exact HQ.out | exact Below.refl _ _ | refine Ext.drewN ?_ _ | refine Below.drew ?_ | refine Below.setCell ?_ ?_ _ | refine Below.alloc ?_ ?_ _))<;>(first | omega | (simp;done) | (simp;omega))⟩
end
theorem X1j(A:Option Addr)(c:Nat)(l:List OpD)(o:OpD)(d:Nat):X4w (.slice A l.length c) l o d:=by
 induction d with
 | zero=>intro _ _ _ _ h;exact h.elim
 | succ d ih=>
   intro t n w hn hd hs
   obtain⟨h1,h2,h3,h4,ks,h5,h6,h7⟩:=hd
   obtain⟨nk,nkids,nf,ns,nv⟩:=n
   dsimp only at *
   obtain⟨kA,kc,rfl⟩:=h5.form
   by_cases e1:nk=1
   ·subst e1;exact true_or A c l o t nf ns nv w d ih hs h1.symm kA kc ks h5 h6 h7
   by_cases e2:nk=2
   ·subst e2;exact true_and A c l o t nf ns nv w d ih hs h1.symm kA kc ks h5 h6 h7
   by_cases e3:nk=3
   ·subst e3;exact V4d A c l o t nf ns nv w d ih hs h1.symm kA kc ks h5 h6 h7
   by_cases e4:nk=4
   ·subst e4;exact V4e A c l o t _ nf ns nv w hs h1.symm h2.symm h3.symm h4.symm
   by_cases e5:nk=5
   ·subst e5;exact X8n A c l o t _ nf ns nv w hs h1.symm h2.symm h4.symm
   exact X8o A c l o t _ nf ns nv w nk e1 e2 e3 e4 e5 h1.symm
end Go.Proofs.YtmiolpfanlpfnaaGreat
