/- A visitor goes through a page. Conditions: a page that bears a node in order; what is known of its kids. -/
import Derived.Test.YtmiolpfanlpfnaaGreatU37
set_option maxRecDepth 100000
set_option maxHeartbeats 4000000
set_option linter.unusedSimpArgs false
set_option linter.unusedVariables false
namespace Go.Proofs.YtmiolpfanlpfnaaGreat
open Go.RowKit
theorem Tryz.zeroB(w:World):(zeroValue 4).run Tryz.prog w= .ok (.bool false) w:=by kernel_rfl
def lowJ(ks:List ByteArray)(low:ByteArray)(j:Nat):ByteArray:=if j=0 then low else(ks[j-1]?).getD low
def Y1s(ks:List ByteArray)(high:ByteArray)(j:Nat):ByteArray:=(ks[j]?).getD high
def Z6h(ks:List ByteArray)(bound:Bool)(j:Nat):Bool:=bound || decide (j<ks.length)
theorem VisI.call{tr p i vb mb:Nat}{S:StoreD}{P:List Nat}{dp:Int}{last:ByteArray}{any:Bool}{F F' G:Nat→Prop}{w w':World}(h:VisI tr p i vb mb S P dp last any F G w)(hk:Keeps F F' w w')(hp:PagerAt w' p F' S)(hlt:∀i,F' i→i<w'.heap.size):VisI tr p i vb mb S P dp last any F' G w':=
 ⟨hk.only.row h.tree h.nf,hk.out h.tree.lt h.nf,h.ng,hp,h.vis.only hk.only (fun i q=>(h.dis.2 i q).2),⟨hlt,fun i q=>⟨Nat.lt_of_lt_of_le (h.dis.2 i q).1 hk.only.size,hk.out (h.dis.2 i q).1 (h.dis.2 i q).2⟩⟩⟩
theorem X4c{F F' G:Nat→Prop}{w w':World}(h:Keeps F F' w w'):Keeps (Un F G) (Un F' G) w w':=⟨h.only.mono (fun i q=> .inl (.inl q)),fun i q=>q.elim (fun q=>(h.new i q).imp .inl id) (fun q=> .inl (.inr q))⟩
theorem Y5d{tr p i vb mb:Nat}{S:StoreD}{F G:Nat→Prop}(n:NodeD)(a deep:Nat)(P:List Nat)(dp:Int)(last low high:ByteArray)(any bound:Bool)(w:World)(hI:VisI tr p i vb mb S P dp last any F G w)(hp:PageN S a n)(hnew:a∉P)(ha1:a<1024)(hd1:deep≤32)(hd0:0<deep)
 (hrise:Z3f n.keys)(hk:∀k∈n.keys,ltB k low=false∧(bound=true→ltB k high=true)∧0<k.size∧k.size≤32)
 (hleaf:n.leaf=true→(dp=0∨dp=deep)∧(any=true→∀k∈n.keys,ltB last k=true)∧n.vals.length=n.keys.length∧∀v∈n.vals,v.size≤80)
 (PJ:Nat→List Nat)(DJ:Nat→Int)(LJ:Nat→ByteArray)(AJ:Nat→Bool)(h0:PJ 0=P++ [a]∧DJ 0=dp∧LJ 0=last∧AJ 0=any)
 (hkids:n.leaf=false→n.kids.length=n.keys.length+1∧∀j,j<n.kids.length→∃c:Nat,n.kids[j]? =some (c:Int)∧∀(W:World) (F G:Nat→Prop),VisI tr p i vb mb S (PJ j) (DJ j) (LJ j) (AJ j) F G W→
    Calls Tryz.prog 301 #[.pointer (some ⟨vb,0,none⟩),.int .i64 c,.int .i64 ((deep:Int)+1),.string (lowJ n.keys low j),.string (Y1s n.keys high j),.bool (Z6h n.keys bound j)] W fun e w'=>(∃v,e= .returned v)∧∃F' G':Nat→Prop,VisI tr p i vb mb S (PJ (j+1)) (DJ (j+1)) (LJ (j+1)) (AJ (j+1)) F' G' w'∧Keeps (Un F G) (Un F' G') W w'):
  Calls Tryz.prog 301 #[.pointer (some ⟨vb,0,none⟩),.int .i64 a,.int .i64 deep,.string low,.string high,.bool bound] w fun e w'=>(∃v,e= .returned v)∧∃(P':List Nat) (dp':Int) (last':ByteArray) (any':Bool) (F' G':Nat→Prop),
   ((n.leaf=true∧P'=P++ [a]∧dp'=deep∧last'=Y0t n.keys last n.keys.length∧any'=(any || decide (0<n.keys.length)))∨(n.leaf=false∧P'=PJ n.kids.length∧dp'=DJ n.kids.length∧last'=LJ n.kids.length∧any'=AJ n.kids.length))∧VisI tr p i vb mb S P' dp' last' any' F' G' w'∧Keeps (Un F G) (Un F' G') w w':=by
 obtain⟨A,m,c,hr,hown,hG⟩:=hI.vis.ex
 have hlk:=hI.vis.map.look0 (t:=149) (e:=4) Tryz.underlying3 Tryz.underlying149 (Tryz.zeroB w) (V8t (n:=a) (by omega))
 rw[V9w hnew]at hlk
 simp only[Option.map_none,Option.getD_none]at hlk
 obtain⟨w1,hrun,hm1,hb1⟩:=hI.vis.map.storeT (t:=149) (e:=4) Tryz.underlying3 Tryz.underlying149 (by omega) (x:=a) ha1 (X6q hI.vis.lt) true (V:= .bool true) rfl
 rw[V0q]at hm1
 have ho1:Only (fun i=>i=mb) w w1:=Only.but hb1 (.inl rfl)
 have hr1:=ho1.row hr (hr.notMap hI.vis.map)
 have hown1:=hown.only ho1 (fun k q e=>hown.notMap hI.vis.map (by rw[q,e]))
 have c2:w.cell? ⟨vb,2,none⟩=some (.map (some mb)):=hr.cell 2
 have q1:decide ((32:Int)<(deep:Int))=false:=decide_eq_false (by omega)
 have hlenP:(Z7i P).length=P.length:=List.length_map _
 have hmany:=hI.vis.many
 obtain⟨A0,c0,hv0⟩:=OwnL.form hown
 injection hv0 with e5 hm2 e6
 subst e5 e6
 have HI:=hD hI
 have HR1:=hD hr1
 have HOWN1:=hD hown1
 have HM1:=hD hm1
 have HO1:=hD ho1
 have HG:=hD hG
 have hcP:Z7i P++ [(a:Int)]=Z7i (P++ [a]):=by unfold Z7i;rw[List.map_append];rfl
 have HCP:Hid (Z7i P++ [(a:Int)]=Z7i (P++ [a])∧(Z7i (P++ [a])).length=m+1):=⟨hcP,by rw[←hcP,List.length_append,hm2];rfl⟩
 have HMC:Hid (m≤1024∧(Z7i P).length=m):=⟨by omega,hm2.symm⟩
 have HNM:Hid (vb≠mb∧∀k,(Value.slice A m c).ownBlock=some k→k≠mb∧k≠vb):=⟨hr.notMap hI.vis.map,fun k q=>⟨fun e=>hown.notMap hI.vis.map (by rw[q,e]),fun e=>hown.apartRow hr (by decide) (by rw[q,e])⟩⟩
 have HND:Hid ((P++ [a]).Nodup∧∀b∈P++ [a],b<1024):=⟨List.nodup_append.2 ⟨hI.vis.nd,by simp,fun x hx y hy e=>by rw[List.mem_singleton]at hy;subst hy;subst e;exact hnew hx⟩,fun b hb=>by
  rcases List.mem_append.1 hb with q | q
  ·exact hI.vis.lt b q
  ·rw[List.mem_singleton]at q;omega⟩
 have e1:w1.cell? ⟨vb,1,none⟩=some (.slice A m c):=hr1.cell 1
 have HPG:=hD hp
 have HRI:=hD hrise
 have HKS:=hD hk
 have HLE:=hD hleaf
 have HKD:=hD hkids
 have H0:=hD h0
 have HVL:=hD hr.lt
 clear hI hp hnew hrise hk hleaf hkids h0 hr hown hG hm1 hb1 ho1 hr1 hown1 hlenP hmany hm2 hcP
 go_enter Tryz.func301,Tryz.ntmps301
 go_upto_region 4 with (at_builtin;go_loud (refine Z0t elInt Z0j Z2p rfl (.tmp 43) (.tmp 45) rfl (.slice A m c) (Z7i P) rfl (HOWN1.out.ext (by exact Xt)) (Nat.zero_le _) _ 1 (a:Int) rfl (Row1.made' (by simp) _ (encN (a:Int))) (by have:=HMC.out;omega) (by decide) ?_;intro A3 c3 w3 hown3 hgr3 hwh3;rw[HCP.out.1,HCP.out.2]at hown3;rw[HCP.out.1,HCP.out.2]at hwh3;rw[HCP.out.1,HCP.out.2];have ho3:=(fun (hx:Ext w1 _)=>(Only.of hx).trans' (Only.grown hgr3)) (by exact Xt);have hr3:=ho3.row HR1.out (fun q=>(HNM.out.2 _ q).2 rfl);have g3:w3.cell? ⟨vb,1,none⟩=_:=hr3.cell 1;have vf3:w3.frozen? ⟨vb,1,none⟩=false:=hr3.soft 1))
 have hr4:Y4q (w3.setCell ⟨vb,1,none⟩ (.slice A3 (m+1) c3)) vb tr (.slice A3 (m+1) c3) (.map (some mb)) dp last any:=hr3.set 1 _
 have ho4:Only (fun i=>i=vb) w3 (w3.setCell ⟨vb,1,none⟩ (.slice A3 (m+1) c3)):=Only.setCell (F:=fun i=>i=vb) (p:=⟨vb,1,none⟩) Only.refl (.inl rfl) _
 generalize World.setCell _ _ _=w4 at hr4 ho4 ⊢
 have hz01:=HO1.out.size
 have hz13:=ho3.size
 have hz34:=ho4.size
 have hwh:∀k,(Value.slice A3 (m+1) c3).ownBlock=some k→(Value.slice A m c).ownBlock=some k∨w1.heap.size≤k:=fun k q=>(hwh3 k q).imp id (fun r=>by simp at r;omega)
 obtain⟨G4,hG4⟩:∃G4:Nat→Prop,G4=fun i=>G i∨(w.heap.size≤i∧i<w4.heap.size):=⟨_,rfl⟩
 have hnm:=HNM.out
 have hgv:=HI.out.vis.gv
 have hgm:=HI.out.vis.gm
 have hdis:=HI.out.dis
 have hol:Only G w w4:=((HO1.out.mono (fun i q=> .inl (by rw[q];exact hgm))).trans' (ho3.mono (fun i q=> .inl (HG.out i q)))).trans' (ho4.mono (fun i q=> .inl (by rw[q];exact hgv)))
 have hI4:VisI tr p i vb mb S (P++ [a]) dp last any F G4 w4:=by
  refine⟨hol.row HI.out.tree HI.out.ng,HI.out.nf,fun q=> ?_,HI.out.pag.only hol (fun i q r=>(hdis.2 i r).2 q),⟨⟨A3,m+1,c3,hr4,hown3.only ho4 (fun k q e=> ?_),fun k q=> ?_⟩,ho4.map (ho3.map HM1.out (fun q=>(hnm.2 _ q).1 rfl)) (fun q=>hnm.1 q.symm),by rw[hG4];exact .inl hgv,by rw[hG4];exact .inl hgm,HND.out.2,HND.out.1⟩,⟨fun i q=>by have:=hdis.1 i q;omega,fun i q=> ?_⟩⟩
  ·rw[hG4]at q
   rcases q with q | q
   ·exact HI.out.ng q
   ·have:=HI.out.tree.lt;omega
  ·subst e
   rcases hwh _ q with r | r
   ·exact(hnm.2 _ r).2 rfl
   ·have:=HVL.out;omega
  ·rw[hG4]
   rcases hwh _ q with r | r
   ·exact .inl (HG.out k r)
   ·exact .inr ⟨by omega,by have:=(hown3.lt k q).2;omega⟩
  ·rw[hG4]at q
   rcases q with q | q
   ·exact⟨by have:=(hdis.2 i q).1;omega,(hdis.2 i q).2⟩
   ·exact⟨q.2,fun r=>by have:=hdis.1 i r;omega⟩
 have HK4:Hid (Keeps (Un F G) (Un F G4) w w4):=⟨hol.mono (fun i q=> .inl (.inr q)),fun i q=>by
  rcases q with q | q
  ·exact .inl (.inl q)
  ·rw[hG4]at q
   exact q.elim (fun q=> .inl (.inr q)) (fun q=> .inr q.1)⟩
 have HI4:=hD hI4
 have v0:w4.cell? ⟨vb,0,none⟩=some (.pointer (some ⟨tr,0,none⟩)):=hr4.cell 0
 have cL:=Z1k a n w4 hI4.tree hI4.pag HPG.out
 clear hr4 ho4 hwh hG4 hnm hgv hgm hdis hol hI4 hown3 hgr3 hwh3 ho3 hr3 g3 vf3 hrun hlk c2 e1
 obtain⟨lf,hlf⟩:∃lf,n.leaf=lf:=⟨_,rfl⟩
 rw[hlf]at cL
 have HLF:=hD hlf
 clear hlf
 go_upto_region 7 with (go_at_call 186;(with_reducible refine cL.mono ?_);clear cL;rintro e w5 ⟨kA,kn,kc,vA,vn,vc,cA,cn,cc,B,F5,rfl,hn5,hp5,hk5,hB5,hF5,hBW5⟩)
 obtain⟨_,_,hv⟩:=OwnL.form hn5.keys
 injection hv with r1 r2 r3
 subst r1 r2 r3
 obtain⟨_,_,hv⟩:=OwnL.form hn5.vals
 injection hv with r1 r2 r3
 subst r1 r2 r3
 obtain⟨_,_,hv⟩:=OwnL.form hn5.kids
 injection hv with r1 r2 r3
 subst r1 r2 r3
 generalize hW6:World.alloc w5 _=W6
 have HX6:Hid (Ext w5 W6):=by unfold Hid;rw[←hW6];exact Ext.alloc _ _
 have hb6:BoxG w5 W6 (fun j=>B≤j) w5.heap.size n (.slice kA n.keys.length kc) (.slice vA n.vals.length vc) (.slice cA n.kids.length cc):=by
  rw[←hW6,←HLF.out];exact BoxG.made hn5 (fun j q=>Nat.le_trans hBW5 q)
 have HK6:Hid (Keeps (Un F G) (Un F5 G4) w W6):=HK4.out.trans ((X4c hk5 (G:=G4)).ext HX6.out)
 have HI6:Hid (VisI tr p i vb mb S (P++ [a]) dp last any F5 G4 W6):=(HI4.out.call hk5 hp5 (fun i q=>by have:=hF5 i q;omega)).ext HX6.out
 have HUB:Hid (∀i,Un F5 G4 i→¬B≤i):=fun i q r=>by
  rcases q with q | q
  ·have:=hF5 i q;omega
  ·have:=(HI4.out.dis.2 i q).1;omega
 have HB6:=hD hb6
 have hDB:B≤w5.heap.size:=hBW5
 generalize w5.heap.size=D at *
 have d1:W6.cell? ⟨D,1,none⟩=some (.slice kA n.keys.length kc):=hb6.row.cell 1
 have d0:W6.cell? ⟨D,0,none⟩=some (.bool lf):=by rw[hb6.row.cell,HLF.out];rfl
 have hkl:n.keys.length≤255:=HPG.out.ok.many
 clear hn5 hp5 hk5 hF5 hB5 hBW5 hW6 hb6 v0
 go_wp2_with fail
 go_loopw [66] (fun x wr=>∃j:Nat,j≤n.keys.length∧x= .int .i64 j∧W6=wr) (fun x _=>n.keys.length-(intOf x).toNat)
 case atStart=>exact⟨0,Nat.zero_le _,rfl,rfl⟩
 case round=>
  obtain⟨j,hj,rfl,rfl⟩:=hrel
  by_cases hjk:j<n.keys.length
  ·have q2:decide ((j:Int)<(n.keys.length:Int))=true:=decide_eq_true (by omega)
   have q2':(j:Int)<(n.keys.length:Int):=by omega
   obtain⟨gk,kc',hkv,hgl,hkc⟩:=Z4a HB6.out.own.keys j hjk
   injection hkv with e1 e2 e3
   subst e1 e3
   obtain⟨k,hk⟩:∃k,n.keys[j]? =some k:=⟨_,List.getElem?_eq_getElem hjk⟩
   rw[hk]at hkc
   simp only[Option.getD_some]at hkc
   obtain⟨y1,y2,y3,y4⟩:=HKS.out k (List.mem_of_getElem? hk)
   have z1:Op.bytesLess k.toList low.toList=false:=y1
   have z3:decide ((32:Int)<(k.size:Int))=false:=decide_eq_false (by omega)
   have z4:decide ((32:Nat)<k.size)=false:=decide_eq_false (by omega)
   have hprev:0<j→∃k',W6.cell? ⟨gk,j-1,none⟩=some (.string k')∧ltB k' k=true:=fun h0=>by
    obtain⟨gk2,kc2,hkv2,_,hkc2⟩:=Z4a HB6.out.own.keys (j-1) (by omega)
    injection hkv2 with e1 e2 e3
    injection e1 with e1
    injection e1 with e1
    subst e1
    rw[List.getElem?_eq_getElem (show j-1<n.keys.length by omega)]at hkc2
    have hke:n.keys[j]'hjk=k:=by rw[List.getElem?_eq_getElem hjk]at hk;injection hk
    exact⟨_,hkc2,by rw[←hke];exact List.pairwise_iff_getElem.1 HRI.out (j-1) j (by omega) hjk (by omega)⟩
   have HPREV:=hD hprev
   have HY2:=hD y2
   clear hprev y1 y2 y3 y4 hk hgl e2
   by_cases hj0:j=0
   ·subst hj0
    cases bound with
    | true=>
      have u1:Op.bytesLess k.toList high.toList=true:=HY2.out rfl
      have u2:Op.bytesLess high.toList k.toList=false:=Z2z (HY2.out rfl)
      have u3:(k.toList==high.toList)=false:=Z2j (Z2y (HY2.out rfl))
      go_wp2_with fail
      go_roundw
      case rel=>exact⟨1,by omega,by go_num,trivial⟩
      case measure=>simp only[intOf];omega
    | false=>
      go_wp2_with fail
      go_roundw
      case rel=>exact⟨1,by omega,by go_num,trivial⟩
      case measure=>simp only[intOf];omega
   ·obtain⟨k',x1,x2⟩:=HPREV.out (by omega)
    have x3:Op.bytesLess k'.toList k.toList=true:=x2
    have x4:Op.bytesLess k.toList k'.toList=false:=Z2z x2
    have x5:(k.toList==k'.toList)=false:=Z2j (fun e=>Z2y x2 e.symm)
    have x6:¬k.toList=k'.toList:=fun e=>by rw[e]at x5;simp at x5
    have x7:decide ((0:Int)<(j:Int))=true:=decide_eq_true (by omega)
    have x8:(0:Int)<(j:Int):=by omega
    have x9:IntKind.i64.wrap ((j:Int)-1)=(j:Int)-1:=by rw[IntKind.wrap_i64];omega
    have x10:(0:Int)≤(j:Int)-1:=by omega
    have x11:(j:Int)-1<(n.keys.length:Int):=by omega
    have x12:((j:Int)-1).toNat=j-1:=by omega
    clear x2
    cases bound with
    | true=>
      have u1:Op.bytesLess k.toList high.toList=true:=HY2.out rfl
      have u2:Op.bytesLess high.toList k.toList=false:=Z2z (HY2.out rfl)
      have u3:(k.toList==high.toList)=false:=Z2j (Z2y (HY2.out rfl))
      go_wp2_with fail
      go_roundw
      case rel=>exact⟨j+1,by omega,by go_num,trivial⟩
      case measure=>simp only[intOf];omega
    | false=>
      go_wp2_with fail
      go_roundw
      case rel=>exact⟨j+1,by omega,by go_num,trivial⟩
      case measure=>simp only[intOf];omega
  ·obtain rfl:j=n.keys.length:=by omega
   obtain⟨A6,m6,c6,hr6,ho6,hg6⟩:=HI6.out.vis.ex
   have HR6:=hD hr6
   have HO6:=hD ho6
   have HG6:=hD hg6
   have d2:W6.cell? ⟨D,2,none⟩=some (.slice vA n.vals.length vc):=HB6.out.row.cell 2
   have d3:W6.cell? ⟨D,3,none⟩=some (.slice cA n.kids.length cc):=HB6.out.row.cell 3
   clear hr6 ho6 hg6
   cases lf with
   | true=>
     obtain⟨l1,l2,l3,l4⟩:=HLE.out HLF.out
     have cV:=X8h n deep dp last any W6 HR6.out HB6.out.own (fun q=>HUB.out _ (.inr HI6.out.vis.gv) q) l1 hd0 (by omega) HRI.out l2 (fun k hk=>(HKS.out k hk).2.2.1) l3 l4 hkl
     rw[HLF.out]at cV
     have CV:=hD cV
     clear cV l1 l2 l3 l4
     go_wp2_with (go_at_call 311;(with_reducible refine CV.out.mono ?_);clear CV;rintro e w7 ⟨⟨v7,rfl⟩,hr7,ho7⟩;have HR7:=hD hr7;have HO7:=hD ho7;clear hr7 ho7)
     refine bodyPost_ret (results_none rfl _ _ _) rfl ?_
     have h6:=HI6.out
     have hvG:=h6.vis.gv
     have hz:=HO7.out.size
     refine⟨⟨_,rfl⟩,P++ [a],deep,Y0t n.keys last n.keys.length,(any || decide (0<n.keys.length)),F5,G4,.inl ⟨HLF.out,rfl,rfl,rfl,rfl⟩,⟨HO7.out.row h6.tree (fun e=>h6.ng (e▸hvG)),h6.nf,h6.ng,h6.pag.only HO7.out (fun i q e=>(h6.dis.2 i (e▸hvG)).2 q),⟨⟨A6,m6,c6,HR7.out,HO6.out.only HO7.out (fun k q e=>HO6.out.apartRow HR6.out (by decide) (e▸q)),HG6.out⟩,HO7.out.map h6.vis.map (fun e=>HR6.out.notMap h6.vis.map e.symm),hvG,h6.vis.gm,h6.vis.lt,h6.vis.nd⟩,⟨fun i q=>Nat.lt_of_lt_of_le (h6.dis.1 i q) hz,fun i q=>⟨Nat.lt_of_lt_of_le (h6.dis.2 i q).1 hz,(h6.dis.2 i q).2⟩⟩⟩,⟨HK6.out.only.trans HO7.out (fun i q=> ?_),HK6.out.new⟩⟩
     rw[q]
     exact HK6.out.new vb (.inr hvG)
   | false=>
     obtain⟨hkn,hKC⟩:=HKD.out HLF.out
     have HKC:=hD hKC
     have HKNL:=hD hkn
     have hkn6:n.kids.length≤256:=by omega
     have HSTART:Hid (VisI tr p i vb mb S (PJ 0) (DJ 0) (LJ 0) (AJ 0) F5 G4 W6):=by
      obtain⟨a1,a2,a3,a4⟩:=H0.out
      unfold Hid;rw[a1,a2,a3,a4];exact HI6.out
     have HCELL:Hid (∀(F':Nat→Prop) (W:World),Keeps (Un F5 G4) F' W6 W→NodeAs W (fun j=>B≤j) n (.slice kA n.keys.length kc) (.slice vA n.vals.length vc) (.slice cA n.kids.length cc)∧W.cell? ⟨D,1,none⟩=some (.slice kA n.keys.length kc)∧W.cell? ⟨D,3,none⟩=some (.slice cA n.kids.length cc)):=fun F' W hk=>by
      have h1:=hk.only.row HB6.out.row (fun q=>HUB.out _ q HB6.out.bd)
      exact⟨HB6.out.own.only hk.only (fun i q r=>HUB.out i r q),h1.cell 1,h1.cell 3⟩
     clear hkn hKC
     go_wp2_with fail
     go_loopw [114] (fun x wr=>∃(j:Nat) (Fj Gj:Nat→Prop),j≤n.kids.length∧x= .int .i64 j∧Hid (VisI tr p i vb mb S (PJ j) (DJ j) (LJ j) (AJ j) Fj Gj wr∧Keeps (Un F5 G4) (Un Fj Gj) W6 wr)) (fun x _=>n.kids.length-(intOf x).toNat)
     case atStart=>exact⟨0,F5,G4,Nat.zero_le _,rfl,hD ⟨HSTART.out,Keeps.refl⟩⟩
     case round=>
      obtain⟨j,Fj,Gj,hj,rfl,HSJ⟩:=hrel
      by_cases hjk:j<n.kids.length
      ·have q2:decide ((j:Int)<(n.kids.length:Int))=true:=decide_eq_true (by omega)
       have q2':(j:Int)<(n.kids.length:Int):=by omega
       obtain⟨hna,x1,x3⟩:=HCELL.out _ _ HSJ.out.2
       obtain⟨g,cc',hcv,hgl,hgc⟩:=Z6f hna.kids j hjk
       injection hcv with e1 e2 e3
       subst e1 e3
       obtain⟨ch,hch,hC⟩:=HKC.out j hjk
       rw[hch]at hgc
       simp only[Option.getD_some]at hgc
       have cV:=hC wr Fj Gj HSJ.out.1
       have HNA:=hD hna
       have hdp:IntKind.i64.wrap ((deep:Int)+1)=(deep:Int)+1:=by rw[IntKind.wrap_i64];omega
       have HFIN:Hid (∀(W:World) (F' G':Nat→Prop),VisI tr p i vb mb S (PJ (j+1)) (DJ (j+1)) (LJ (j+1)) (AJ (j+1)) F' G' W→Keeps (Un Fj Gj) (Un F' G') wr W→Hid (VisI tr p i vb mb S (PJ (j+1)) (DJ (j+1)) (LJ (j+1)) (AJ (j+1)) F' G' W∧Keeps (Un F5 G4) (Un F' G') W6 W)):=fun W F' G' r1 r2=>hD ⟨r1,HSJ.out.2.trans r2⟩
       have hkn1:n.kids.length≤n.keys.length+1:=Nat.le_of_eq HKNL.out
       clear hna hch hC e2 hgl
       by_cases hj0:j=0
       ·subst hj0
        rw[show lowJ n.keys low 0=low from rfl]at cV
        by_cases hjl:0<n.keys.length
        ·obtain⟨gk,kc',hkv,_,hkc⟩:=Z4a HNA.out.keys 0 hjl
         injection hkv with e1 e2 e3
         subst e1 e3
         rw[show Y1s n.keys high 0=(n.keys[0]?.getD ⟨#[]⟩)by unfold Y1s;rw[List.getElem?_eq_getElem hjl];rfl,show Z6h n.keys bound 0=true by unfold Z6h;simp[hjl]]at cV
         have q3:decide ((0:Int)<(n.keys.length:Int))=true:=decide_eq_true (by omega)
         have q3':(0:Int)<(n.keys.length:Int):=by omega
         generalize n.keys[0]?.getD ⟨#[]⟩=hk0 at *
         have CV:=hD cV
         clear cV e2
         go_wp2_with (go_at_call 301;(with_reducible refine CV.out.mono ?_);clear CV;rintro e w8 ⟨⟨v8,rfl⟩,F8,G8,hi8,hk8⟩;have HN8:=HFIN.out _ _ _ hi8 hk8;clear hi8 hk8)
         go_roundw
         case rel=>exact⟨1,F8,G8,by omega,by go_num,HN8⟩
         case measure=>simp only[intOf];omega
        ·rw[show Y1s n.keys high 0=high by unfold Y1s;rw[List.getElem?_eq_none (by omega)];rfl,show Z6h n.keys bound 0=bound by unfold Z6h;simp[hjl]]at cV
         have q3:decide ((0:Int)<(n.keys.length:Int))=false:=decide_eq_false (by omega)
         have q3':¬(0:Int)<(n.keys.length:Int):=by omega
         have CV:=hD cV
         clear cV
         go_wp2_with (go_at_call 301;(with_reducible refine CV.out.mono ?_);clear CV;rintro e w8 ⟨⟨v8,rfl⟩,F8,G8,hi8,hk8⟩;have HN8:=HFIN.out _ _ _ hi8 hk8;clear hi8 hk8)
         go_roundw
         case rel=>exact⟨1,F8,G8,by omega,by go_num,HN8⟩
         case measure=>simp only[intOf];omega
       ·have x7:decide ((0:Int)<(j:Int))=true:=decide_eq_true (by omega)
        have x8:(0:Int)<(j:Int):=by omega
        have x9:IntKind.i64.wrap ((j:Int)-1)=(j:Int)-1:=by rw[IntKind.wrap_i64];omega
        have x10:(0:Int)≤(j:Int)-1:=by omega
        have x11:(j:Int)-1<(n.keys.length:Int):=by omega
        have x12:((j:Int)-1).toNat=j-1:=by omega
        obtain⟨gk,kc',hkv,_,hkc⟩:=Z4a HNA.out.keys (j-1) (by omega)
        injection hkv with e1 e2 e3
        subst e1 e3
        have HLOW:Hid (lowJ n.keys low j=n.keys[j-1]?.getD ⟨#[]⟩):=by unfold Hid lowJ;rw[if_neg hj0,List.getElem?_eq_getElem (show j-1<n.keys.length by omega)];rfl
        rw[HLOW.out]at cV
        by_cases hjl:j<n.keys.length
        ·obtain⟨gk2,kc2,hkv2,_,hkc2⟩:=Z4a HNA.out.keys j hjl
         injection hkv2 with f1 f2 f3
         injection f1 with f1
         injection f1 with f1
         subst f1
         rw[show Y1s n.keys high j=(n.keys[j]?.getD ⟨#[]⟩)by unfold Y1s;rw[List.getElem?_eq_getElem hjl];rfl,show Z6h n.keys bound j=true by unfold Z6h;simp[hjl]]at cV
         have q3:decide ((j:Int)<(n.keys.length:Int))=true:=decide_eq_true (by omega)
         have q3':(j:Int)<(n.keys.length:Int):=by omega
         have CV:=hD cV
         clear cV e2 f2 f3
         generalize n.keys[j]?.getD ⟨#[]⟩=hk0 at *
         generalize n.keys[j-1]?.getD ⟨#[]⟩=hk1 at *
         go_wp2_with (go_at_call 301;(with_reducible refine CV.out.mono ?_);clear CV;rintro e w8 ⟨⟨v8,rfl⟩,F8,G8,hi8,hk8⟩;have HN8:=HFIN.out _ _ _ hi8 hk8;clear hi8 hk8)
         go_roundw
         case rel=>exact⟨j+1,F8,G8,by omega,by go_num,HN8⟩
         case measure=>simp only[intOf];omega
        ·rw[show Y1s n.keys high j=high by unfold Y1s;rw[List.getElem?_eq_none (by omega)];rfl,show Z6h n.keys bound j=bound by unfold Z6h;simp[hjl]]at cV
         have q3:decide ((j:Int)<(n.keys.length:Int))=false:=decide_eq_false (by omega)
         have q3':¬(j:Int)<(n.keys.length:Int):=by omega
         have CV:=hD cV
         clear cV e2
         generalize n.keys[j-1]?.getD ⟨#[]⟩=hk1 at *
         go_wp2_with (go_at_call 301;(with_reducible refine CV.out.mono ?_);clear CV;rintro e w8 ⟨⟨v8,rfl⟩,F8,G8,hi8,hk8⟩;have HN8:=HFIN.out _ _ _ hi8 hk8;clear hi8 hk8)
         go_roundw
         case rel=>exact⟨j+1,F8,G8,by omega,by go_num,HN8⟩
         case measure=>simp only[intOf];omega
      ·obtain rfl:j=n.kids.length:=by omega
       go_wp2_with fail
       go_end0
       exact⟨⟨_,rfl⟩,_,_,_,_,Fj,Gj,.inr ⟨HLF.out,rfl,rfl,rfl,rfl⟩,HSJ.out.1,HK6.out.trans HSJ.out.2⟩
theorem V1f{ks vs:List ByteArray}(hl:vs.length=ks.length)(last:ByteArray):Y0t ks last ks.length=Z8k (ks.zip vs) last:=by
 unfold Y0t Z8k
 rw[List.getLast?_eq_getElem?,List.length_zip,hl,Nat.min_self]
 by_cases h:ks.length=0
 ·rw[if_pos h,List.getElem?_eq_none (by rw[List.length_zip];omega)];rfl
 ·rw[if_neg h]
  have h1:ks[ks.length-1]? =some (ks[ks.length-1]'(by omega)):=List.getElem?_eq_getElem (by omega)
  have h2:(ks.zip vs)[ks.length-1]? =some (ks[ks.length-1]'(by omega),vs[ks.length-1]'(by omega)):=by
   rw[List.getElem?_zip_eq_some]
   exact⟨h1,List.getElem?_eq_getElem (by omega)⟩
  rw[h1,h2];rfl
theorem X7x{ks vs:List ByteArray}(hl:vs.length=ks.length):decide (0<ks.length)= !(ks.zip vs).isEmpty:=by
 cases ks with
 | nil=>simp
 | cons k r=>cases vs with
   | nil=>simp at hl
   | cons v q=>simp
theorem X5j{tr p i vb mb:Nat}{S:StoreD}(hm:S.head.pages≤1024)(t:TT 0)(deep:Nat)(P:List Nat)(dp:Int)(last low high:ByteArray)(any bound:Bool)(F G:Nat→Prop)(w:World)(hI:VisI tr p i vb mb S P dp last any F G w)(hO:VisOk S 0 t deep P dp last any low high bound):
  Calls Tryz.prog 301 #[.pointer (some ⟨vb,0,none⟩),.int .i64 (atT 0 t),.int .i64 deep,.string low,.string high,.bool bound] w (VisP tr p i vb mb S (P++Z0a 0 t) (deep+0) (Z8k (Z0e 0 t) last) (any || !(Z0e 0 t).isEmpty) F G w):=by
 have hap:=Z0q 0 t
 have hgv:=Z0k 0 t hO.on _ hap
 obtain⟨k1,k2,k3,k4⟩:=hO.ok
 have hlt:∀k∈LeafT.keys t,∃x∈Z0e 0 t,x.1=k:=fun k hk=>by
  obtain⟨i,hi,e⟩:=List.getElem_of_mem hk
  refine⟨((LeafT.keys t)[i],(LeafT.vals t)[i]'(by omega)),?_,e⟩
  show _∈(LeafT.keys t).zip (LeafT.vals t)
  exact List.mem_of_getElem? (List.getElem?_zip_eq_some.2 ⟨List.getElem?_eq_getElem hi,List.getElem?_eq_getElem (by omega)⟩)
 refine(Y5d (Z0c 0 t) (atT 0 t) deep P dp last low high any bound w hI hO.on (hO.new _ hap) (by have:=hgv.2.1;omega) (by have:=hO.dep;omega) hO.pos k1 (fun k hk=>⟨hO.lows k hk,fun hb=>hO.highs hb k hk,(k3 k hk).1,(k3 k hk).2⟩)
  (fun _=>⟨hO.dpt,fun ha k hk=>by obtain⟨x,hx,rfl⟩:=hlt k hk;exact hO.lasts ha x hx,k2,k4⟩) (fun _=>P++ [atT 0 t]) (fun _=>dp) (fun _=>last) (fun _=>any) ⟨rfl,rfl,rfl,rfl⟩ (fun h=>by cases h)).mono ?_
 rintro e w' ⟨hv,P',dp',last',any',F',G',h,hi,hk⟩
 refine⟨hv,F',G',?_,hk⟩
 rcases h with ⟨_,rfl,rfl,rfl,rfl⟩ | ⟨h,_⟩
 ·have e1:Z8k (Z0e 0 t) last=Y0t (Z0c 0 t).keys last (Z0c 0 t).keys.length:=(V1f k2 last).symm
  have e2:(!(Z0e 0 t).isEmpty)=decide (0<(Z0c 0 t).keys.length):=(X7x k2).symm
  rw[e1,e2]
  exact hi
 ·cases h
def Y7p{d:Nat}(t:TT (d+1))(P:List Nat)(j:Nat):List Nat:=P++InT.at_ t::((InT.kids t).take j).flatMap (Z0a d)
def Z3a{d:Nat}(t:TT (d+1))(j:Nat):List KV:=((InT.kids t).take j).flatMap (Z0e d)
theorem Y8w{α β:Type}{f:α→List β}{l:List α}{j:Nat}{c:α}(h:l[j]? =some c):(l.take (j+1)).flatMap f=(l.take j).flatMap f++f c:=by
 rw[List.take_add_one,h,List.flatMap_append];simp
theorem V4b{S:StoreD}{d:Nat}{t:TT (d+1)}{deep j:Nat}{P:List Nat}{dp:Int}{last low high:ByteArray}{any bound:Bool}{c:TT d}(hO:VisOk S (d+1) t deep P dp last any low high bound)(hc:(InT.kids t)[j]? =some c):
  VisOk S d c (deep+1) (Y7p t P j) (if j=0 then dp else((deep+(d+1):Nat):Int)) (Z8k (Z3a t j) last) (any || !(Z3a t j).isEmpty) (lowJ (InT.keys t) low j) (Y1s (InT.keys t) high j) (Z6h (InT.keys t) bound j):=by
 have hcm:c∈InT.kids t:=List.mem_of_getElem? hc
 obtain⟨hjl,hce⟩:=List.getElem?_eq_some_iff.1 hc
 obtain⟨k1,k2,k3,k4,k5,k6⟩:=hO.ok
 obtain⟨n1,n2⟩:=Z1c hO.nd
 have sp:=Z2g.1 k5
 have hnd:=hO.nd
 have hpj:∀b∈Z0a d c,b∈Z0a (d+1) t:=fun b hb=>by
  show b∈InT.at_ t::(InT.kids t).flatMap (Z0a d)
  exact List.mem_cons_of_mem _ (List.mem_flatMap.2 ⟨c,hcm,hb⟩)
 have hall:∀x∈allT d c,x∈allT (d+1) t:=fun x hx=>by
  show x∈InT.keys t++(InT.kids t).flatMap (allT d)
  exact List.mem_append_right _ (List.mem_flatMap.2 ⟨c,hcm,hx⟩)
 have hsplit:(InT.kids t).flatMap (Z0a d)=((InT.kids t).take j).flatMap (Z0a d)++(Z0a d c++((InT.kids t).drop (j+1)).flatMap (Z0a d)):=by
  have e:InT.kids t=(InT.kids t).take j++c::(InT.kids t).drop (j+1):=by rw[←hce,List.getElem_cons_drop,List.take_append_drop]
  conv=>lhs;rw[e]
  rw[List.flatMap_append,List.flatMap_cons]
 have hsplitL:(InT.kids t).flatMap (Z0e d)=Z3a t j++(Z0e d c++((InT.kids t).drop (j+1)).flatMap (Z0e d)):=by
  have e:InT.kids t=(InT.kids t).take j++c::(InT.kids t).drop (j+1):=by rw[←hce,List.getElem_cons_drop,List.take_append_drop]
  conv=>lhs;rw[e]
  rw[List.flatMap_append,List.flatMap_cons];rfl
 have hrise:Z8c (Z0e (d+1) t):=Z4m (d+1) t hO.ok
 refine⟨hO.on.2 c hcm,k4 c hcm,(n1 c hcm).2,fun b hb hbP=> ?_,by omega,by have:=hO.dep;omega,?_,fun x hx=> ?_,fun hb x hx=> ?_,fun ha x hx=> ?_⟩
 ·rcases List.mem_append.1 hbP with q | q
  ·exact hO.new b (hpj b hb) q
  ·have hn:(InT.at_ t::(InT.kids t).flatMap (Z0a d)).Nodup:=hnd
   rw[hsplit,List.nodup_cons]at hn
   rcases List.mem_cons.1 q with q | q
   ·exact hn.1 (List.mem_append_right _ (List.mem_append_left _ (q▸hb)))
   ·have hn2:=List.nodup_append.1 hn.2
    exact hn2.2.2 b q b (List.mem_append_left _ hb) rfl
 ·by_cases h0:j=0
  ·rw[if_pos h0]
   exact hO.dpt.imp id (fun e=>by rw[e];congr 1;omega)
  ·rw[if_neg h0];right;congr 1;omega
 ·unfold lowJ
  by_cases h0:j=0
  ·rw[if_pos h0];exact hO.lows x (hall x hx)
  ·rw[if_neg h0]
   have hs:(InT.keys t)[j-1]? =some ((InT.keys t)[j-1]'(by omega)):=List.getElem?_eq_getElem (by omega)
   rw[hs,Option.getD_some]
   exact(sp j c hc x hx (j-1) _ hs).1 (by omega)
 ·unfold Y1s
  by_cases hjk:j<(InT.keys t).length
  ·have hs:(InT.keys t)[j]? =some ((InT.keys t)[j]):=List.getElem?_eq_getElem hjk
   rw[hs,Option.getD_some]
   exact(sp j c hc x hx j _ hs).2 (Nat.le_refl _)
  ·rw[List.getElem?_eq_none (by omega),Option.getD_none]
   have hb':bound=true:=by unfold Z6h at hb;simpa [hjk]using hb
   exact hO.highs hb' x (hall x hx)
 ·have hr2:Z8c (Z3a t j++(Z0e d c++((InT.kids t).drop (j+1)).flatMap (Z0e d))):=by rw[←hsplitL];exact hrise
  have hr3:=(List.pairwise_append.1 hr2).2.2
  cases hk:(Z3a t j).getLast? with
  | none=>
    have he:Z3a t j= []:=List.getLast?_eq_none_iff.1 hk
    rw[he]at ha ⊢
    have ha':any=true:=by simpa using ha
    refine hO.lasts ha' x ?_
    show x∈(InT.kids t).flatMap (Z0e d)
    exact List.mem_flatMap.2 ⟨c,hcm,hx⟩
  | some y=>
    unfold Z8k
    rw[hk]
    exact hr3 y (List.mem_of_getLast? hk) x (List.mem_append_left _ hx)
theorem X5i{tr p i vb mb:Nat}{S:StoreD}(hm:S.head.pages≤1024):∀(d:Nat) (t:TT d) (deep:Nat) (P:List Nat) (dp:Int) (last low high:ByteArray) (any bound:Bool) (F G:Nat→Prop) (w:World),VisI tr p i vb mb S P dp last any F G w→VisOk S d t deep P dp last any low high bound→
  Calls Tryz.prog 301 #[.pointer (some ⟨vb,0,none⟩),.int .i64 (atT d t),.int .i64 deep,.string low,.string high,.bool bound] w (VisP tr p i vb mb S (P++Z0a d t) (deep+d) (Z8k (Z0e d t) last) (any || !(Z0e d t).isEmpty) F G w):=by
 intro d
 induction d with
 | zero=>intro t deep P dp last low high any bound F G w hI hO;exact X5j hm t deep P dp last low high any bound F G w hI hO
 | succ d ih=>
   intro t deep P dp last low high any bound F G w hI hO
   have hap:=Z0q (d+1) t
   have hgv:=Z0k (d+1) t hO.on _ hap
   obtain⟨k1,k2,k3,k4,k5,k6⟩:=hO.ok
   have hsub:∀k∈InT.keys t,k∈allT (d+1) t:=fun k hk=>by
    show k∈InT.keys t++(InT.kids t).flatMap (allT d)
    exact List.mem_append_left _ hk
   have hkl:(Z0c (d+1) t).kids.length=(InT.kids t).length:=List.length_map _
   have hne:(InT.kids t).length≠0:=by omega
   refine(Y5d (Z0c (d+1) t) (atT (d+1) t) deep P dp last low high any bound w hI hO.on.1 (hO.new _ hap) (by have:=hgv.2.1;omega) (by have:=hO.dep;omega) hO.pos k1 (fun k hk=>⟨hO.lows k (hsub k hk),fun hb=>hO.highs hb k (hsub k hk),(k3 k hk).1,(k3 k hk).2⟩) (fun h=>by cases h)
    (Y7p t P) (fun j=>if j=0 then dp else((deep+(d+1):Nat):Int)) (fun j=>Z8k (Z3a t j) last) (fun j=>any || !(Z3a t j).isEmpty) ⟨by unfold Y7p;simp[atT],rfl,by simp[Z3a,Z8k],by simp[Z3a]⟩ (fun _=>⟨by rw[hkl];exact k2,fun j hj=> ?_⟩)).mono ?_
   ·rw[hkl]at hj
    obtain⟨c,hc⟩:∃c,(InT.kids t)[j]? =some c:=⟨_,List.getElem?_eq_getElem hj⟩
    refine⟨atT d c,by show((InT.kids t).map _)[j]? =_;rw[List.getElem?_map,hc];rfl,fun W F2 G2 hI2=> ?_⟩
    have h1:=ih c (deep+1) (Y7p t P j) (if j=0 then dp else((deep+(d+1):Nat):Int)) (Z8k (Z3a t j) last) (lowJ (InT.keys t) low j) (Y1s (InT.keys t) high j) (any || !(Z3a t j).isEmpty) (Z6h (InT.keys t) bound j) F2 G2 W hI2 (V4b hO hc)
    rw[show ((deep+1:Nat):Int)=(deep:Int)+1 by omega]at h1
    refine h1.mono ?_
    rintro e w' ⟨hv,F',G',hi,hk⟩
    refine⟨hv,F',G',?_,hk⟩
    have e1:Y7p t P (j+1)=Y7p t P j++Z0a d c:=by unfold Y7p;rw[Y8w hc];simp
    have e2:Z3a t (j+1)=Z3a t j++Z0e d c:=Y8w hc
    rw[e1,e2,V1g,if_neg (by omega)]
    rw[show deep+(d+1)=deep+1+d by omega]
    rw[show (any || !(Z3a t j++Z0e d c).isEmpty)=(any || !(Z3a t j).isEmpty || !(Z0e d c).isEmpty)by
     cases Z3a t j<;>cases any<;>simp]
    exact hi
   ·rintro e w' ⟨hv,P',dp',last',any',F',G',h,hi,hk⟩
    refine⟨hv,F',G',?_,hk⟩
    rcases h with ⟨h,_⟩ | ⟨_,rfl,rfl,rfl,rfl⟩
    ·cases h
    ·rw[hkl,if_neg hne]at hi
     have e1:Y7p t P (InT.kids t).length=P++Z0a (d+1) t:=by unfold Y7p;rw[List.take_length];rfl
     have e2:Z3a t (InT.kids t).length=Z0e (d+1) t:=by unfold Z3a;rw[List.take_length];rfl
     rw[e1,e2]at hi
     exact hi
def depV:TrD→Nat
 | .no=>0
 | .yes d _=>d+1
def U1o(tr p:Nat)(S:StoreD)(T:TrD)(F:Nat→Prop)(w:World)(e:Ending)(w':World):Prop:=
 ∃(vb:Nat) (A:Option Addr) (n c:Nat) (mb:Option Nat) (last:ByteArray) (any:Bool) (F':Nat→Prop),e= .returned (.pointer (some ⟨vb,0,none⟩))∧Y4q w' vb tr (.slice A n c) (.map mb) (depV T) last any∧OwnL w' 0 3 1 encN (.slice A n c) (Z7i T.pages)∧(∀k,(Value.slice A n c).ownBlock=some k→¬F' k)∧PagerAt w' p F' S∧Keeps F F' w w'
theorem V5x:(fun _=>none:Int→Option Bool)=metF []:=by funext x;rfl
theorem V6a{tr p i:Nat}{F:Nat→Prop}{S:StoreD}(T:TrD)(w:World)(ht:Z0b w tr p i)(hnt:¬F tr)(h:PagerAt w p F S)(hi:i<16)(hf:Fm S)(hT:TrS S i T)(hd:T.fine):
  Calls Tryz.prog 273 #[.pointer (some ⟨tr,0,none⟩)] w (U1o tr p S T F w):=by
 have htl:=ht.lt
 obtain⟨F0,hF0⟩:∃F0:Nat→Prop,F0=fun i=>F i∧i<w.heap.size:=⟨_,rfl⟩
 have hV:∀W',W'=(w.alloc (.map #[] 0)).alloc (.cells #[.pointer (some ⟨tr,0,none⟩),.slice none 0 0,.map (some w.heap.size),.int .i64 0,.string ⟨#[]⟩,.bool false,.bool false] 341)→VisI tr p i (w.heap.size+1) w.heap.size S [] 0 ⟨#[]⟩ false F0 (fun i=>i=w.heap.size∨i=w.heap.size+1) W'∧Ext w W':=by
  rintro W' rfl
  have hx:Ext w ((w.alloc (.map #[] 0)).alloc (.cells #[.pointer (some ⟨tr,0,none⟩),.slice none 0 0,.map (some w.heap.size),.int .i64 0,.string ⟨#[]⟩,.bool false,.bool false] 341)):=(Ext.alloc _ _).trans (Ext.alloc _ _)
  refine⟨⟨ht.ext hx htl,fun q=>by rw[hF0]at q;exact hnt q.1,fun q=>by rcases q with q | q<;>omega,by rw[hF0];exact PagerAt.ext (F:=fun i=>F i∧i<w.heap.size) h.shrink hx,⟨⟨none,0,0,Row1.made' (by simp) _ _,OwnL.nil _ _ _ _ _,fun k q=>(by cases q)⟩,?_,.inr rfl,.inl rfl,fun b hb=>(by cases hb),List.nodup_nil⟩,⟨fun i q=>by rw[hF0]at q;have:=q.2;simp;omega,fun i q=>⟨(by rcases q with rfl | rfl<;>simp<;>omega),fun r=>(by rw[hF0]at r;have:=r.2;rcases q with rfl | rfl<;>omega)⟩⟩⟩,hx⟩
  rw[←V5x]
  exact((MapI.made w 3 encT).mono (Nat.zero_le _)).ext (Ext.alloc _ _)
 have HV:=hD hV
 have HT:=hD hT
 have HWID:Hid (∀(F':Nat→Prop) (W W':World),Ext w W→Keeps F0 F' W W'→Keeps F F' w W'):=fun F' W W' hx hk=>((Keeps.of hx).trans hk).widen (fun i q=>by rw[hF0]at q;exact q.1)
 have hm:=hf.most
 have cR:Hid (∀(W:World) (G:Nat→Prop),VisI tr p i (w.heap.size+1) w.heap.size S [] 0 ⟨#[]⟩ false F0 G W→Calls Tryz.prog 132 #[.pointer (some ⟨tr,0,none⟩)] W fun e w'=>e= .returned (.tuple #[.int .i64 (Z1v S i),.int .i64 0])∧∃F',VisI tr p i (w.heap.size+1) w.heap.size S [] 0 ⟨#[]⟩ false F' G w'∧Keeps F0 F' W w'):=fun W G hI=>by
  refine(Z3w W hI.tree hI.nf hI.pag hi).mono ?_
  rintro e w' ⟨rfl,F',hp,hk⟩
  exact⟨rfl,_,hI.call hk.shrink hp.shrink (fun i q=>q.2),hk.shrink⟩
 obtain⟨W2,hW2⟩:∃W2,(w.alloc (.map #[] 0)).alloc (.cells #[.pointer (some ⟨tr,0,none⟩),.slice none 0 0,.map (some w.heap.size),.int .i64 0,.string ⟨#[]⟩,.bool false,.bool false] 341)=W2:=⟨_,rfl⟩
 obtain⟨hI2,hx2⟩:=HV.out W2 hW2.symm
 have HI2:=hD hI2
 have HX2:=hD hx2
 have HI:=hD hi
 have HHD:=hD hd
 clear ht hnt h hF0 hV hf hI2 hx2 hT hi hd
 have hmm:= @run_makeMap Tryz.prog
 go_enter Tryz.func273,Tryz.ntmps273
 go_upto_region 2 with fail
 clear hW2
 cases T with
 | no=>
   have hr0:Z1v S i=0:=HT.out
   have c3:=cR.out W2 _ HI2.out
   rw[hr0]at c3
   go_wp2_with (go_at_call 132;(with_reducible refine c3.mono ?_);clear c3;rintro e w3 ⟨rfl,F3,hi3,hk3⟩;have HI3:=hD hi3;have HK3:=hD hk3;clear hi3 hk3)
   go_ret
   obtain⟨A,n,c,r1,r2,r3⟩:=HI3.out.vis.ex
   exact⟨_,A,n,c,_,_,_,F3,rfl,r1,r2,fun k q=>(HI3.out.dis.2 k (r3 k q)).2,HI3.out.pag,HWID.out _ _ _ HX2.out HK3.out⟩
 | yes d t=>
   obtain⟨y1,y2,y3,y4⟩:=HT.out
   have c3:=cR.out W2 _ HI2.out
   rw[y1]at c3
   have hpos:=(Z0k d t y2 _ (Z0q d t)).1
   have hd31:d<31:=HHD.out
   have HOK:Hid (VisOk S d t 1 [] 0 ⟨#[]⟩ false ⟨#[]⟩ ⟨#[]⟩ false):=⟨y2,y3,y4,fun b _ q=>(by cases q),by omega,by omega,.inl rfl,fun x _=>V0u x,fun q=>(by cases q),fun q=>(by cases q)⟩
   have HM:=hD hm
   have cV:Hid (∀(F G:Nat→Prop) (W:World),VisI tr p i (w.heap.size+1) w.heap.size S [] 0 ⟨#[]⟩ false F G W→Calls Tryz.prog 301 #[.pointer (some ⟨w.heap.size+1,0,none⟩),.int .i64 (atT d t),.int .i64 1,.string ⟨#[]⟩,.string ⟨#[]⟩,.bool false] W (VisP tr p i (w.heap.size+1) w.heap.size S ([]++Z0a d t) (1+d) (Z8k (Z0e d t) ⟨#[]⟩) (false || !(Z0e d t).isEmpty) F G W)):=fun F G W hI=>X5i HM.out d t 1 [] 0 ⟨#[]⟩ ⟨#[]⟩ ⟨#[]⟩ false false F G W hI HOK.out
   clear y1 y2 y3 y4 hm
   obtain⟨a,ha⟩:∃a,atT d t=a:=⟨_,rfl⟩
   rw[ha]at c3 cV hpos
   have T1:((a:Int)==0)=false:=by simp;omega
   have T2:decide ((a:Int)=0)=false:=decide_eq_false (by omega)
   have T3:0<a:=by omega
   clear ha
   go_wp2_with (first
    | (go_at_call 132;(with_reducible refine c3.mono ?_);clear c3;rintro e w3 ⟨rfl,F3,hi3,hk3⟩;have cV3:=cV.out _ _ _ hi3;have HK3:=hD hk3;clear hi3 hk3)
    | (go_at_call 301;(with_reducible refine cV3.mono ?_);clear cV3;rintro e w4 ⟨⟨v4,rfl⟩,F4,G4,hi4,hk4⟩;have HI4:=hD hi4;have HK4:=hD hk4;clear hi4 hk4))
   go_ret
   obtain⟨A,n,c,r1,r2,r3⟩:=HI4.out.vis.ex
   have hz:=HX2.out.size
   refine⟨_,A,n,c,_,_,_,F4,rfl,by rw[show ((depV (.yes d t):Nat):Int)=((1+d:Nat):Int)by show((d+1:Nat):Int)=_;omega];exact r1,r2,fun k q=>(HI4.out.dis.2 k (r3 k q)).2,HI4.out.pag,?_⟩
   have k1:=HWID.out _ _ _ HX2.out HK3.out
   refine⟨k1.only.trans HK4.out.only (fun i q=> ?_),fun i q=> ?_⟩
   ·rcases q with q | q | q
    ·exact k1.new i q
    ·exact .inr (by omega)
    ·exact .inr (by omega)
   ·rcases HK4.out.new i (.inl q)with (q | q | q) | q
    ·exact k1.new i q
    ·exact .inr (by omega)
    ·exact .inr (by omega)
    ·exact .inr (by have:=k1.only.size;omega)
theorem X0p(P:List Nat):(Z7i P).length=P.length:=List.length_map _
theorem V7t{P:List Nat}{j b:Nat}(h:P[j]? =some b):(Z7i P)[j]?.getD 0=(b:Int):=by unfold Z7i;rw[List.getElem?_map,h];rfl
def U1m(S:StoreD)(i:Nat):TrD→StoreD
 | .no=>S
 | .yes d t=>Z6g (Z0o S i 0) (Z0a d t)
theorem X7f(S:StoreD){P:List Nat}{j b:Nat}(h:P[j]? =some b):Z6g S (P.take (j+1))=useP (Z6g S (P.take j)) b false:=by
 unfold Z6g
 rw[List.take_add_one,h]
 simp
theorem X2d{S:StoreD}{P:List Nat}{j b:Nat}(hf:FullV S)(hg:∀b∈P,Z0r S b)(hm:S.head.pages≤1024)(hn:P.Nodup)(h:P[j]? =some b):Z0r (Z6g S (P.take j)) b:=by
 have hb:=List.mem_of_getElem? h
 have h1:=Y3z (P.take j) hf (fun b q=>by have:=(hg b (List.mem_of_mem_take q)).2.1;omega)
 have h2:=hg b hb
 refine⟨h2.1,by rw[h1.head];exact h2.2.1,(h1.used _).2 ⟨.inl h2.2.2,fun q=> ?_⟩⟩
 obtain⟨hj,e⟩:=List.getElem?_eq_some_iff.1 h
 obtain⟨k,hk,e2⟩:=List.mem_iff_getElem.1 q
 rw[List.length_take]at hk
 rw[List.getElem_take]at e2
 exact(List.pairwise_iff_getElem.1 hn) k j (by omega) hj (by omega) (by rw[e2,e])
theorem V0a{tr p i:Nat}{F:Nat→Prop}{S:StoreD}(T:TrD)(w:World)(ht:Z0b w tr p i)(hnt:¬F tr)(h:PagerAt w p F S)(hi:i<16)(hf:Fm S)(hT:TrS S i T)(hd:T.fine):
  Calls Tryz.prog 225 #[.pointer (some ⟨tr,0,none⟩)] w fun e w'=>∃(A:Option Addr) (c:Nat) (F':Nat→Prop),e= .returned (.slice A T.pages.length c)∧OwnL w' 0 3 1 encN (.slice A T.pages.length c) (Z7i T.pages)∧(∀k,(Value.slice A T.pages.length c).ownBlock=some k→¬F' k)∧PagerAt w' p F' S∧Keeps F F' w w':=by
 have cL:=V6a T w ht hnt h hi hf hT hd
 clear ht hnt h hf hT hd
 go_enter Tryz.func225,Tryz.ntmps225
 go_wp2_with (go_at_call 273;(with_reducible refine cL.mono ?_);clear cL;rintro e w1 ⟨vb,A,n,c,mb,last,any,F1,rfl,hr,ho,hF,hp,hk⟩;have v1:w1.cell? ⟨vb,1,none⟩=some (.slice A n c):=hr.cell 1;have HO:=hD ho;have HF:=hD hF;have HP:=hD hp;have HK:=hD hk;clear hr ho hF hp hk)
 go_ret
 obtain⟨A',c',hv⟩:=OwnL.form HO.out
 injection hv with e1 e2 e3
 rw[X0p]at e2
 subst e2
 exact⟨A,c,F1,rfl,HO.out,HF.out,HP.out,HK.out⟩
theorem V7h{tr p i:Nat}{F:Nat→Prop}{S:StoreD}(T:TrD)(w:World)(ht:Z0b w tr p i)(hnt:¬F tr)(h:PagerAt w p F S)(hi:i<16)(hf:Fm S)(hT:TrS S i T)(hd:T.fine):
  Calls Tryz.prog 185 #[.pointer (some ⟨tr,0,none⟩)] w fun e w'=>e= .returned (.int .i64 0)∧∃F',PagerAt w' p F' (U1m S i T)∧Keeps F F' w w':=by
 have cR:=Z3w w ht hnt h hi
 have cP:Hid (∀F1 W,PagerAt W p F1 S→Keeps F F1 w W→Calls Tryz.prog 225 #[.pointer (some ⟨tr,0,none⟩)] W fun e w'=>∃(A:Option Addr) (c:Nat) (F':Nat→Prop),e= .returned (.slice A T.pages.length c)∧OwnL w' 0 3 1 encN (.slice A T.pages.length c) (Z7i T.pages)∧(∀k,(Value.slice A T.pages.length c).ownBlock=some k→¬F' k)∧PagerAt w' p F' S∧Keeps F1 F' W w'):=fun F1 W q k=>V0a T W (k.only.row ht hnt) (k.out ht.lt hnt) q hi hf hT hd
 have HRW:Hid (∀F1 W,Keeps F F1 w W→Z0b W tr p i):=fun F1 W k=>k.only.row ht hnt
 have HI:=hD hi
 cases T with
 | no=>
   have hr0:Z1v S i=0:=hT
   rw[hr0]at cR
   clear ht hnt h hf hT hd cP hr0 hi
   go_enter Tryz.func185,Tryz.ntmps185
   go_wp2_with (go_at_call 132;(with_reducible refine cR.mono ?_);clear cR;rintro e w1 ⟨rfl,F1,hp1,hk1⟩;have HP1:=hD hp1;have HK1:=hD hk1;clear hp1 hk1)
   go_ret
   exact⟨rfl,F1,HP1.out,HK1.out⟩
 | yes d t=>
   obtain⟨y1,y2,y3,y4⟩:=hT
   rw[y1]at cR
   have hpos:=(Z0k d t y2 _ (Z0q d t)).1
   have HG:Hid (∀j b,(Z0a d t)[j]? =some b→Z0r (Z6g (Z0o S i 0) ((Z0a d t).take j)) b):=fun j b q=>by
    obtain⟨b1,hr1⟩:=Stp.setRoot (i:=i) (n:=0) (Stp.refl hf.full |>.mono (P':=fun _=>False) (fun _ q=>q)) hi (by omega)
    refine X2d b1.full (fun b r=> ?_) (by rw[b1.head];exact hf.most) y4 q
    have hg:=Z0k d t y2 b r
    exact⟨hg.1,by rw[b1.head];exact hg.2.1,(b1.used _).2 ⟨.inl hg.2.2,by simp⟩⟩
   rw[show TrD.pages (.yes d t)=Z0a d t from rfl]at cP
   show Calls _ _ _ _ fun e w'=>e= .returned (.int .i64 0)∧∃F',PagerAt w' p F' (Z6g (Z0o S i 0) (Z0a d t))∧Keeps F F' w w'
   have hlen:(Z0a d t).length≤1024:=Y7j y4 (fun b hb=>by have:=(Z0k d t y2 b hb).2.1;have:=hf.most;omega)
   clear ht hnt h hf hd y1 y2 y3 y4 hi
   generalize Z0a d t=P at *
   generalize atT d t=a at *
   have T1:((a:Int)==0)=false:=by simp;omega
   have T2:decide ((a:Int)=0)=false:=decide_eq_false (by omega)
   have T3:0<a:=by omega
   go_enter Tryz.func185,Tryz.ntmps185
   go_upto_region 5 with (first
    | (go_at_call 132;(with_reducible refine cR.mono ?_);clear cR;rintro e w1 ⟨rfl,F1,hp1,hk1⟩;have cP1:=cP.out _ _ hp1 hk1;have HK1:=hD hk1;clear hp1 hk1)
    | (go_at_call 225;(with_reducible refine cP1.mono ?_);clear cP1;rintro e w2 ⟨A,c,F2,rfl,ho2,hF2,hp2,hk2⟩;have HO2:=hD ho2;have HF2:=hD hF2;have HP2:=hD hp2;have HK2:=hD (Keeps.trans HK1.out hk2);clear ho2 hF2 hp2 hk2))
   have HR2:Hid (Z0b w2 tr p i):=HRW.out _ _ HK2.out
   have cSR:Hid (∀W,Ext w2 W→Calls Tryz.prog 178 #[.pointer (some ⟨p,0,none⟩),.int .i64 i,.int .i64 0] W fun e w'=>e= .returned (.int .i64 0)∧∃F',PagerAt w' p F' (Z0o S i 0)∧Keeps F2 F' W w'):=fun W hW=>Z5v i 0 W (HP2.out.ext hW) HI.out (.inl rfl)
   have HCD:Hid (∀(F':Nat→Prop) (W W' W'':World),Ext w2 W→Keeps F2 F' W W'→Ext W' W''→W''.cell? ⟨tr,0,none⟩=some (.pointer (some ⟨p,0,none⟩))∧W''.cell? ⟨tr,1,none⟩=some (.int .i64 (i:Int))):=fun F' W W' W'' hx hk hx2=>by
    have r1:=HRW.out _ _ (((HK2.out.ext hx).trans hk).ext hx2)
    exact⟨r1.cell 0,r1.cell 1⟩
   refine wp_region_held_drew (S:=fun W=>W.cell? ⟨tr,0,none⟩=some (.pointer (some ⟨p,0,none⟩))∧W.cell? ⟨tr,1,none⟩=some (.int .i64 (i:Int))) (by kernel_rfl) (HCD.out F2 w2 w2 _ (Ext.refl _) Keeps.refl (by exact Xt)) (fun hHeld=> ?_)
   refine' tk 0 ?_
   refine' tk 1 ?_
   refine' tk 2 ?_
   refine' tk 3 ?_
   refine' tk 4 ?_
   refine' tk 5 ?_
   refine' tk 6 ?_
   refine' tk 7 ?_
   refine stp 8 (fun K hK=> ?_);go_simp
   (with_reducible refine(cSR.out _ ?_).mono ?_)
   ·exact Xt
   rintro e w3 ⟨rfl,F3,hp3,hk3⟩
   have HP3:=hD hp3
   have HK3:=hD hk3
   clear hp3 hk3
   (try dsimp only)
   (try go_simp)
   refine hK.out _ _ (HCD.out _ _ _ _ (Below.drew (Ext.refl _)) HK3.out (Ext.refl _)) (fun hHeld=> ?_)
   clear hK K
   refine pt ?_
   refine' tk 9 ?_
   refine wpAnyH_done (by kernel_rfl) ?_ _
   have hk3:Keeps F2 F3 w2 w3:=(Keeps.of (Below.drew (Ext.refl _))).trans HK3.out
   have HO3:Hid (OwnL w3 0 3 1 encN (.slice A P.length c) (Z7i P)):=HO2.out.only hk3.only HF2.out
   have HF3:Hid (∀k,(Value.slice A P.length c).ownBlock=some k→¬F3 k):=fun k q=>hk3.out (HO2.out.lt k q).2 (HF2.out k q)
   have HK23:=hD (HK2.out.trans hk3)
   clear hk3 HO2 HF2 HK3 HCD cSR HR2 HK1 cP
   go_wp2_with fail
   go_loopw [38] (fun x wr=>∃(j:Nat) (Fr:Nat→Prop),j≤P.length∧x= .int .i64 j∧Hid (PagerAt wr p Fr (Z6g (Z0o S i 0) (P.take j))∧Keeps F3 Fr w3 wr)) (fun x _=>P.length-(intOf x).toNat)
   case atStart=>exact⟨0,F3,Nat.zero_le _,rfl,hD ⟨HP3.out,Keeps.refl⟩⟩
   case round=>
    obtain⟨j,Fr,hj,rfl,HR⟩:=hrel
    by_cases hjn:j<P.length
    ·have q2:decide ((j:Int)<(P.length:Int))=true:=decide_eq_true (by omega)
     have q2':(j:Int)<(P.length:Int):=by omega
     obtain⟨b,hb⟩:∃b,P[j]? =some b:=⟨_,List.getElem?_eq_getElem hjn⟩
     have hor:=HO3.out.only HR.out.2.only HF3.out
     obtain⟨g,c',hv,hgl,hgc⟩:=Z6f hor j (by rw[X0p];exact hjn)
     rw[V7t hb]at hgc
     injection hv with e1 e2 e3
     subst e1 e3
     have cF:=Y3d b wr HR.out.1 (HG.out j b hb)
     rw[←X7f _ hb]at cF
     have t0:wr.cell? ⟨tr,0,none⟩=some (.pointer (some ⟨p,0,none⟩)):=(HRW.out _ _ (HK23.out.trans HR.out.2)).cell 0
     clear e2 hb hor
     go_wp2_with (go_at_call 187;(with_reducible refine cF.mono ?_);clear cF;rintro e w5 ⟨rfl,F5,hp5,hk5⟩;have HP5:=hD hp5;have HK5:=hD hk5;clear hp5 hk5)
     go_roundw
     case rel=>exact⟨j+1,F5,by omega,rfl,hD ⟨HP5.out,HR.out.2.trans HK5.out⟩⟩
     case measure=>simp[intOf];omega
    ·have q2:decide ((j:Int)<(P.length:Int))=false:=decide_eq_false (by omega)
     have q2':¬(j:Int)<(P.length:Int):=by omega
     have hjp:j=P.length:=by omega
     have HR':Hid (PagerAt wr p Fr (Z6g (Z0o S i 0) P)∧Keeps F3 Fr w3 wr):=by
      have:=HR.out
      rw[hjp,List.take_length]at this
      exact this
     clear hjp
     go_wp2_with fail
     go_ret
     exact⟨rfl,Fr,HR'.out.1,HK23.out.trans HR'.out.2⟩
end Go.Proofs.YtmiolpfanlpfnaaGreat
