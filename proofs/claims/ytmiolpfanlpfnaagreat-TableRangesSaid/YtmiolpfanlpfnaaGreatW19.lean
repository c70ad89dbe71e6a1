/- store.step. Conditions: a store, the next head fits. -/
import Derived.Test.YtmiolpfanlpfnaaGreatW18
set_option maxRecDepth 100000
set_option maxHeartbeats 4000000
set_option linter.unusedSimpArgs false
set_option linter.unusedVariables false
namespace Go.Proofs.YtmiolpfanlpfnaaGreat
open Go.RowKit
theorem StoreAs.diskF{w:World}{s g m:Nat}{F:Nat->Prop}{S:StoreD}(h:StoreAs w s F S g m):DiskAt w g (fun i=>(F i/\i<w.heap.size)/\i≠s/\i≠m) S.disk:=by
 obtain⟨bv,lv,hd⟩:=h.disk;refine⟨bv,lv,hd.row,hd.blocks,hd.late,⟨⟨hd.fg,hd.row.lt⟩,(hd.row.apart h.row (by decide)),hd.row.notMap h.map⟩,fun b hb=>⟨⟨hd.fb b hb,(hd.blocks.lt b hb).2⟩,fun e=> ?_,fun e=> ?_⟩,fun b hb=>⟨⟨hd.fl b hb,(hd.late.lt b hb).2⟩,fun e=> ?_,fun e=> ?_⟩,hd.wf⟩
 ·exact hd.blocks.apartRow h.row (by decide) (by rw[hb,e])
 ·exact hd.blocks.notMap h.map (by rw[hb,e])
 ·exact hd.late.apartRow h.row (by decide) (by rw[hb,e])
 ·exact hd.late.notMap h.map (by rw[hb,e])
theorem StoreAs.disked{w w':World}{s g m:Nat}{F F':Nat->Prop}{S:StoreD}{D:DiskD}(h:StoreAs w s F S g m)(hd:DiskAt w' g F' D)(hk:Keeps (fun i=>(F i/\i<w.heap.size)/\i≠s/\i≠m) F' w w')(hb:D.blocks.length=S.disk.blocks.length):
  StoreAs w' s (fun i=>i=s\/i=m\/F' i) { S with disk:=D} g m/\Keeps F (fun i=>i=s\/i=m\/F' i) w w':=
 ⟨⟨hk.only.row h.row (fun q=>q.2.1 rfl),hd.mono (fun i q=> .inr (.inr q)),hk.only.map h.map (fun q=>q.2.2 rfl),.inl rfl,.inr (.inl rfl),⟨by dsimp only;rw[hb];exact h.wf.fits,h.wf.dirty⟩⟩,
  ⟨hk.only.mono (fun i q=> .inl q.1.1),fun i q=>by
   rcases q with rfl | rfl | q
   ·exact .inl h.fs
   ·exact .inl h.fm
   ·rcases hk.new i q with q | q
    ·exact .inl q.1.1
    ·exact .inr q⟩⟩
theorem setS{a w:World}{g:Nat}(h:Only (fun i=>i=g) a w)(k:Nat)(u:Value):Only (fun i=>i=g) a (w.setCell ⟨g,k,none⟩ u):=h.setCell (.inl rfl) u
theorem StoreAs.headed{w:World}{s g m:Nat}{F:Nat->Prop}{S:StoreD}(h:StoreAs w s F S g m)(H:HeadD)(hf:FitsH S.disk.blocks.length H)(hp:H.pages=S.head.pages):
  StoreAs ((((w.setCell ⟨s,1,none⟩ (.int .u64 H.seq)).setCell ⟨s,2,none⟩ (.int .i64 H.used)).setCell ⟨s,3,none⟩ (.int .i64 H.room)).setCell ⟨s,4,none⟩ (.int .i64 H.pages)) s F { S with head:=H} g m/\
  Only (fun i=>i=s) w ((((w.setCell ⟨s,1,none⟩ (.int .u64 H.seq)).setCell ⟨s,2,none⟩ (.int .i64 H.used)).setCell ⟨s,3,none⟩ (.int .i64 H.room)).setCell ⟨s,4,none⟩ (.int .i64 H.pages)):=by
 have ho:Only (fun i=>i=s) w ((((w.setCell ⟨s,1,none⟩ (.int .u64 H.seq)).setCell ⟨s,2,none⟩ (.int .i64 H.used)).setCell ⟨s,3,none⟩ (.int .i64 H.room)).setCell ⟨s,4,none⟩ (.int .i64 H.pages)):=
  setS (setS (setS (setS Only.refl 1 _) 2 _) 3 _) 4 _
 exact⟨⟨(((h.row.set 1 _).set 2 _).set 3 _).set 4 _,(h.diskF.only ho (fun i q=>q.2.1)).mono (fun i q=>q.1.1),ho.map h.map (fun e=>h.row.notMap h.map e.symm),h.fs,h.fm,⟨hf,fun x b hb=>by dsimp only;rw[hp];exact h.wf.dirty x b hb⟩⟩,ho⟩
theorem Y6z(D:DiskD):(useD D).1.blocks.length=D.blocks.length:=by rw[Z8s]
theorem Z7s(D:DiskD)(n:Int)(s:ByteArray):(Z1e D n s).1.blocks.length=D.blocks.length:=by
 unfold Z1e;split
 ·rfl
 ·split
  ·rfl
  ·split
   ·exact Y6z D
   ·exact Y6z D
theorem Z4v(D:DiskD):(Z0u D).1.blocks.length=D.blocks.length:=by
 unfold Z0u;split
 ·rfl
 ·split
  ·exact Y6z D
  ·exact Z6f _ _
theorem V5s(D:DiskD)(h:HeadD):(putD D h).1.blocks.length=D.blocks.length:=by
 unfold putD;split
 ·exact Z7s _ _ _
 ·rw[Z4v,Z7s]
def Z1i(h:HeadD)(u:Nat):HeadD:=⟨h.seq+1,u,h.room,h.pages⟩
def Z6w(S:StoreD)(u:Nat):StoreD:=if(putD S.disk (Z1i S.head u)).2=0 then { S with disk:=(putD S.disk (Z1i S.head u)).1,head:=Z1i S.head u}else { S with disk:=(putD S.disk (Z1i S.head u)).1}
theorem X3m{s:Nat}{F:Nat->Prop}{S:StoreD}(u:Nat)(w:World)(h:StoreAt w s F S)(hh:FitsH S.disk.blocks.length (Z1i S.head u))(hl:S.disk.late.length+1<=1000000000):
  Calls Tryz.prog 166 #[.pointer (some ⟨s,0,none⟩),.int .i64 u] w fun e w'=>e= .returned (.int .i64 (putD S.disk (Z1i S.head u)).2)/\∃F',StoreAt w' s F' (Z6w S u)/\Keeps F F' w w':=by
 obtain⟨g,m,h⟩:=h;have hdf:=h.diskF;have cP:Hid (∀W,Ext w W->Calls Tryz.prog 106 #[.pointer (some ⟨g,0,none⟩),.agg #[.int .u64 (Z1i S.head u).seq,.int .i64 (Z1i S.head u).used,.int .i64 (Z1i S.head u).room,.int .i64 (Z1i S.head u).pages]] W fun e w'=>e= .returned (.int .i64 (putD S.disk (Z1i S.head u)).2)/\∃F',DiskAt w' g F' (putD S.disk (Z1i S.head u)).1/\Keeps (fun i=>(F i/\i<w.heap.size)/\i≠s/\i≠m) F' W w'):=fun W hW=>V0j (Z1i S.head u) W (hdf.ext hW) hh.ok hl;obtain⟨D,R,hR⟩:∃D R,putD S.disk (Z1i S.head u)=(D,R):=⟨_,_,rfl⟩;have HLB:Hid (D.blocks.length=S.disk.blocks.length):=by unfold Hid;rw[<-V5s S.disk (Z1i S.head u),hR]
 have HS:Hid (Z6w S u=if R=0 then { S with disk:=D,head:=Z1i S.head u}else { S with disk:=D}):=by unfold Hid Z6w;rw[hR]
 rw[hR]at cP ⊢;dsimp only at cP ⊢;have HH:=hD h;have HF:=hD hh;have hsq:=hh.ok.seq;unfold Z1i at cP hsq;dsimp only at cP hsq;have c0:w.cell? ⟨s,0,none⟩=some (.pointer (some ⟨g,0,none⟩)):=h.row.cell 0;have HR0:=hD h.row;obtain⟨sq,h1⟩:∃x,S.head.seq=x:=⟨_,rfl⟩;obtain⟨us,h2⟩:∃x,S.head.used=x:=⟨_,rfl⟩;obtain⟨ro,h3⟩:∃x,S.head.room=x:=⟨_,rfl⟩;obtain⟨pa,h4⟩:∃x,S.head.pages=x:=⟨_,rfl⟩;have c1:w.cell? ⟨s,1,none⟩=some (.int .u64 sq):=by rw[<-h1];exact h.row.cell 1
 have c2:w.cell? ⟨s,2,none⟩=some (.int .i64 us):=by rw[<-h2];exact h.row.cell 2
 have c3:w.cell? ⟨s,3,none⟩=some (.int .i64 ro):=by rw[<-h3];exact h.row.cell 3
 have c4:w.cell? ⟨s,4,none⟩=some (.int .i64 pa):=by rw[<-h4];exact h.row.cell 4
 rw[h1,h3,h4]at cP;rw[h1]at hsq;have HE:Hid (Z1i S.head u=⟨sq+1,u,ro,pa⟩):=by unfold Hid Z1i;rw[h1,h3,h4]
 have u1:IntKind.u64.wrap ((sq:Int)+1)=((sq+1:Nat):Int):=by rw[IntKind.wrap_u64];omega
 have hsl:=h.row.lt;clear h hh hdf h1 h2 h3 h4 hR;go_enter Tryz.func166,Tryz.ntmps166;go_upto_region 3 with fail;generalize hW0:World.alloc _ _=W0;have HW0:Hid (Ext w W0/\Row1 W0 w.heap.size 170 [.int .u64 ((sq:Int)+1),.int .i64 u,.int .i64 ro,.int .i64 pa]/\W0.heap.size=w.heap.size+1):=by subst hW0;exact⟨by exact Xt,Row1.made _ _ _,by simp⟩
 clear hW0;have HKS:Hid (∀W,Only (fun i=>(F i/\i<w.heap.size)/\i≠s/\i≠m) W0 W->W.cell? ⟨s,0,none⟩=some (.pointer (some ⟨g,0,none⟩))/\W.cell? ⟨w.heap.size,0,none⟩=some (.int .u64 ((sq:Int)+1))/\W.cell? ⟨w.heap.size,1,none⟩=some (.int .i64 u)/\W.cell? ⟨w.heap.size,2,none⟩=some (.int .i64 ro)/\W.cell? ⟨w.heap.size,3,none⟩=some (.int .i64 pa)):=fun W hW=>by have hr:=hW.row HW0.out.2.1 (fun q=>by have:=q.1.2;omega);have hr0:=hW.row (HR0.out.ext HW0.out.1 HR0.out.lt) (fun q=>q.2.1 rfl);exact⟨hr0.cell 0,hr.cell 0,hr.cell 1,hr.cell 2,hr.cell 3⟩
 clear c0 c1 c2 c3 c4;refine wp_region_held_drew (S:=fun W=>W.cell? ⟨s,0,none⟩=some (.pointer (some ⟨g,0,none⟩))/\W.cell? ⟨w.heap.size,0,none⟩=some (.int .u64 ((sq:Int)+1))/\W.cell? ⟨w.heap.size,1,none⟩=some (.int .i64 u)/\W.cell? ⟨w.heap.size,2,none⟩=some (.int .i64 ro)/\W.cell? ⟨w.heap.size,3,none⟩=some (.int .i64 pa)) (by kernel_rfl) (HKS.out _ (Only.of (by exact Xt))) (fun hHeld=> ?_);refine' tk 0 ?_;refine' tk 1 ?_;refine' tk 2 ?_;refine' tk 3 ?_;refine' tk 4 ?_;refine stp 5 (fun K hK=> ?_);go_simp;refine(cP.out _ (Ext.trans HW0.out.1 (by exact Xt))).mono ?_;rintro e w2 ⟨rfl,F2,hd2,hk2⟩;have HB1:Hid (Ext W0 (World.drew W0)):=by exact Xt
 have HB:Hid (Only (fun i=>(F i/\i<w.heap.size)/\i≠s/\i≠m) W0 w2):=(Only.of HB1.out).trans' hk2.only;have HK2:Hid (Keeps (fun i=>(F i/\i<w.heap.size)/\i≠s/\i≠m) F2 w w2):=Keeps.trans (Keeps.of (Ext.trans HW0.out.1 HB1.out)) hk2;have HD2:=hD hd2;clear hd2 hk2
 (try dsimp only)
 (try go_simp)
 refine hK.out _ _ (HKS.out _ HB.out) (fun hHeld=> ?_);clear hK K;refine pt ?_;refine' tk 6 ?_;refine wpAnyH_done (by kernel_rfl) ?_ _;have HST:=hD (StoreAs.disked HH.out HD2.out HK2.out HLB.out);obtain⟨b0,b1,b2,b3,b4⟩:=HKS.out _ HB.out;by_cases hR0:R=0
 ·subst hR0;rw[if_pos rfl]at HS;have HR2:=hD HST.out.1.row;have v1:=HR2.out.cell 1;have v2:=HR2.out.cell 2;have v3:=HR2.out.cell 3;have v4:=HR2.out.cell 4;have f1:=HR2.out.soft 1;have f2:=HR2.out.soft 2;have f3:=HR2.out.soft 3;have f4:=HR2.out.soft 4;go_wp2_with fail;go_ret;have hfin:=HST.out.1.headed (Z1i S.head u) (by dsimp only;rw[HLB.out];exact HF.out) rfl;rw[HS.out];rw[HE.out]at hfin ⊢;exact⟨rfl,_,⟨g,m,hfin.1⟩,⟨HST.out.2.only.trans hfin.2 (fun i q=>by subst q;exact .inl HH.out.fs),HST.out.2.new⟩⟩
 ·rw[if_neg hR0]at HS;have q1:¬R=0:=hR0;have q2:(R !=0)=true:=by simpa using hR0
  have q3:decide (R=0)=false:=decide_eq_false hR0;go_wp2_with fail;go_ret;exact⟨rfl,_,by rw[HS.out];exact⟨g,m,HST.out.1⟩,HST.out.2⟩
def Z0j(D:DiskD):List (Nat×ByteArray)->DiskD×Int
 | []=>(D,0)
 | p::r=>if(Z1e D p.1 p.2).2≠0 then Z1e D p.1 p.2 else Z0j (Z1e D p.1 p.2).1 r
theorem Z4a(D:DiskD)(p:Nat×ByteArray)(r:List (Nat×ByteArray)):Z0j D (p::r)=if(Z1e D p.1 p.2).2=0 then Z0j (Z1e D p.1 p.2).1 r else Z1e D p.1 p.2:=by
 rw[Z0j];by_cases h:(Z1e D p.1 p.2).2=0
 ·rw[if_pos h,if_neg (fun q=>q h)]
 ·rw[if_neg h,if_pos h]
theorem Z2t:∀(xs ys:List (Nat×ByteArray)) (D:DiskD),Z0j D (xs++ys)=if(Z0j D xs).2=0 then Z0j (Z0j D xs).1 ys else Z0j D xs
 | [],ys,D=>by rw[List.nil_append];simp[Z0j]
 | p::r,ys,D=>by
   rw[List.cons_append,Z4a,Z4a];by_cases h:(Z1e D p.1 p.2).2=0
   ·rw[if_pos h,if_pos h];exact Z2t r ys _
   ·rw[if_neg h,if_neg h,if_neg h]
theorem Z8r(D:DiskD)(n:Int)(s:ByteArray):(Z1e D n s).1.late.length<=D.late.length+1:=by
 unfold Z1e;split
 ·simp
 ·split
  ·simp
  ·split
   ·rw[Z6t];omega
   ·simp[Z6t]
theorem Z3z:∀(l:List (Nat×ByteArray)) (D:DiskD),(Z0j D l).1.late.length<=D.late.length+l.length
 | [],D=>by simp[Z0j]
 | p::r,D=>by
   have h1:=Z8r D p.1 p.2;have h2:=Z3z r (Z1e D p.1 p.2).1;unfold Z0j;split
   ·simp only[List.length_cons];omega
   ·simp only[List.length_cons];omega
theorem Z2v:∀(l:List (Nat×ByteArray)) (D:DiskD),(Z0j D l).1.blocks.length=D.blocks.length
 | [],D=>rfl
 | p::r,D=>by
   unfold Z0j;split
   ·exact Z7s _ _ _
   ·rw[Z2v r,Z7s]
theorem Z8z(D:DiskD):(Z0u D).1.late.length<=D.late.length:=by
 unfold Z0u;split
 ·exact aF _
 ·split
  ·rw[Z6t];exact aF _
  ·simp
theorem U1x(ro xa:Nat)(h1:ro<=2048)(h2:xa<=2048):IntKind.i64.wrap (IntKind.i64.wrap (2+(ro:Int))+(xa:Int))=2+(ro:Int)+xa:=by
 have e1:IntKind.i64.wrap (2+(ro:Int))=2+(ro:Int):=by rw[IntKind.wrap_i64];omega
 rw[e1,IntKind.wrap_i64];omega
def atH(S:StoreD)(l:List (Nat×ByteArray)):List (Nat×ByteArray):=l.map fun p=>(2+S.head.room+p.1,p.2)
def Y1d(S:StoreD)(l:List (Nat×ByteArray)):StoreD×Int:=
 if(Z0j S.disk (atH S l)).2≠0 then({ S with disk:=(Z0j S.disk (atH S l)).1},(Z0j S.disk (atH S l)).2)
 else if(Z0u (Z0j S.disk (atH S l)).1).2≠0 then({ S with disk:=(Z0u (Z0j S.disk (atH S l)).1).1},(Z0u (Z0j S.disk (atH S l)).1).2)
 else(Z6w { S with disk:=(Z0u (Z0j S.disk (atH S l)).1).1} 0,(putD (Z0u (Z0j S.disk (atH S l)).1).1 (Z1i S.head 0)).2)
structure HomeI (w:World) (s g m:Nat) (F:Nat->Prop) (S:StoreD) (l:List (Nat×ByteArray)) (W:World):Prop where
 ok:(Z0j S.disk l).2=0
 ex:∃F':Nat->Prop,StoreAs W s F' { S with disk:=(Z0j S.disk l).1} g m/\Keeps F F' w W/\∀i,F' i->i<W.heap.size
theorem V7h{s:Nat}{F:Nat->Prop}{S:StoreD}(V:Value)(l:List (Nat×ByteArray))(w:World)(h:StoreAt w s F S)(hs:Sl w 2 RPg V l)(hV:∀b,0<l.length->V.ownBlock=some b->¬F b)(hp:∀p∈l,p.1<S.head.pages)(hl:l.length<=1000000)(hlt:S.disk.late.length<=100000000)(hsq:S.head.seq+1<18446744073709551616):
  Calls Tryz.prog 109 #[.pointer (some ⟨s,0,none⟩),V] w fun e w'=>e= .returned (.int .i64 (Y1d S l).2)/\∃F',StoreAt w' s F' (Y1d S l).1/\Keeps F F' w w':=by
 obtain⟨g,m,h⟩:=h;obtain⟨A,c,rfl⟩:=hs.form;obtain⟨_,hc1,hc2,hA⟩:=hs.at;have HA:=hD hA;have HP:=hD hp;have HV:=hD hV;have hft:=h.wf.fits;have HH:=hD h;have HSQ:=hD hsq;have HLT:=hD hlt;obtain⟨n,hn⟩:∃n,l.length=n:=⟨_,rfl⟩;have HN:=hD hn;have hn2:n<=1000000:=by omega
 have HF:=hD hft;obtain⟨pa,h4⟩:∃x,S.head.pages=x:=⟨_,rfl⟩;obtain⟨ro,h3⟩:∃x,S.head.room=x:=⟨_,rfl⟩;have hpa:=hft.most;have hfi:=hft.fits;have hbl:=h.disk;have hmany:S.disk.blocks.length<=2048:=let ⟨_,_,hd⟩:=h.disk;hd.wf.many;have HPA:=hD h4;have HRO:=hD h3;rw[h4]at hpa hfi HP;rw[h3]at hfi;have hro:ro<=2048:=by omega
 have HI0:Hid (HomeI w s g m F S (atH S (l.take 0)) w):=⟨rfl,fun i=>F i/\i<w.heap.size,h.shrink,⟨Only.refl,fun i q=> .inl q.1⟩,fun i q=>q.2⟩;rw[hn]at hc1 ⊢;clear h hs hA hp hV hft hn h3 h4 hbl hsq hlt hfi hmany;go_enter Tryz.func109,Tryz.ntmps109;go_wp2_with fail
 go_loopw [11] (fun i wr=>∃k:Nat,k<=n/\i= .int .i64 k/\HomeI w s g m F S (atH S (l.take k)) wr) (fun i _=>n-(intOf i).toNat)
 case atStart=>exact⟨0,by omega,rfl,HI0.out⟩
 case round=>
  obtain⟨k,hk,rfl,hi⟩:=hrel;have HI:=hD hi;obtain⟨F1,hs1,hk1,hb1⟩:=hi.ex;have H1:=hD hs1;have HK1:=hD hk1;have HB1:=hD hb1;have hsl:=hs1.row.lt;clear hi hs1 hk1 hb1;by_cases hlt:k<n
  ·have hkl:k<l.length:=by rw[HN.out];exact hlt
   have hd:decide ((k:Int)<(n:Int))=true:=by simp;omega
   have HST:Hid (atH S (l.take (k+1))=atH S (l.take k)++ [(2+ro+l[k].1,l[k].2)]):=by unfold Hid atH;rw[List.take_succ_eq_append_getElem hkl,List.map_append,HRO.out];rfl
   have hpk:=HP.out l[k] (List.getElem_mem hkl);obtain⟨b,off,rfl,hbl,hx⟩:=HA.out (by omega);obtain⟨cs,rfl,_,hcs⟩:=hx k hkl;have hnF:¬F b:=HV.out b (by omega) rfl;have e0:wr.cell? ⟨b,off+k*2,none⟩=some (.int .i64 l[k].1):=(HK1.out.only.cell hbl hnF).trans (hcs 0 _ rfl);have e1:wr.cell? ⟨b,off+k*2+1,none⟩=some (.string l[k].2):=(HK1.out.only.cell hbl hnF).trans (hcs 1 _ rfl);generalize l[k]=x at *;obtain⟨xa,xd⟩:=x;dsimp only at *;clear hx hcs hnF;have hbw:=aE hbl HK1.out.only.size;have q2:decide ((pa:Int)<=(xa:Int))=false:=by rw[decide_eq_false];omega
   have c0:wr.cell? ⟨s,0,none⟩=some (.pointer (some ⟨g,0,none⟩)):=H1.out.row.cell 0;have c3:wr.cell? ⟨s,3,none⟩=some (.int .i64 ro):=by rw[<-HRO.out];exact H1.out.row.cell 3
   have c4:wr.cell? ⟨s,4,none⟩=some (.int .i64 pa):=by rw[<-HPA.out];exact H1.out.row.cell 4
   go_upto_region 4 with fail;generalize hW1:World.alloc _ _=W1;have HW1:Hid (Ext wr W1/\Row1 W1 wr.heap.size 237 [.int .i64 xa,.string xd]/\W1.heap.size=wr.heap.size+1):=by subst hW1;exact⟨by exact Xt,Row1.made _ _ _,by simp⟩
   clear hW1 c0 c3 c4 e0 e1;have HS1:=hD (H1.out.ext HW1.out.1);have HKS:Hid (∀W,Only (fun i=>(F1 i/\i<W1.heap.size)/\i≠s/\i≠m) W1 W->W.cell? ⟨s,0,none⟩=some (.pointer (some ⟨g,0,none⟩))/\W.cell? ⟨s,3,none⟩=some (.int .i64 ro)/\W.cell? ⟨s,4,none⟩=some (.int .i64 pa)/\W.cell? ⟨wr.heap.size,0,none⟩=some (.int .i64 xa)/\W.cell? ⟨wr.heap.size,1,none⟩=some (.string xd)):=fun W hW=>by
    have hr:=hW.row HW1.out.2.1 (fun q=>by have:=HB1.out _ q.1.1;omega);have hr0:=hW.row HS1.out.row (fun q=>q.2.1 rfl);refine⟨hr0.cell 0,?_,?_,hr.cell 0,hr.cell 1⟩
    ·rw[<-HRO.out];exact hr0.cell 3
    ·rw[<-HPA.out];exact hr0.cell 4
   obtain⟨d0,d3,d4,dx,dy⟩:=HKS.out W1 Only.refl;have cW:Hid (∀W,Ext W1 W->Calls Tryz.prog 105 #[.pointer (some ⟨g,0,none⟩),.int .i64 (2+(ro:Int)+xa),.string xd] W fun e w'=>e= .returned (.int .i64 (Z1e (Z0j S.disk (atH S (l.take k))).1 ((2+ro+xa:Nat):Int) xd).2)/\∃F',DiskAt w' g F' (Z1e (Z0j S.disk (atH S (l.take k))).1 ((2+ro+xa:Nat):Int) xd).1/\Keeps (fun i=>(F1 i/\i<W1.heap.size)/\i≠s/\i≠m) F' W w'):=fun W hW=>by
    have h1:=Z4q ((2+ro+xa:Nat):Int) xd W (HS1.out.diskF.ext hW) (by
     have h1:=Z3z (atH S (l.take k)) S.disk;have h2:(atH S (l.take k)).length<=n:=by unfold atH;rw[List.length_map,aD,HN.out];omega
     have h3:=HLT.out;dsimp only;omega)
    have e:(2+(ro:Int)+xa)=((2+ro+xa:Nat):Int):=by omega
    rw[e];exact h1
   have HWR:Hid (IntKind.i64.wrap (IntKind.i64.wrap (2+(ro:Int))+(xa:Int))=2+(ro:Int)+xa):=U1x ro xa hro (by omega);have HIO:=hD HI.out.ok;have HWS:Hid (Z0j S.disk (atH S (l.take (k+1)))=Z1e (Z0j S.disk (atH S (l.take k))).1 ((2+ro+xa:Nat):Int) xd):=by
    unfold Hid;rw[HST.out,Z2t,if_pos HIO.out,Z4a];split<;>rename_i hz
    ·rw[Z0j];exact Prod.ext rfl hz.symm
    ·rfl
   rw[<-HWS.out]at cW
   go_quiet (fail)
   go_upto_region 6 with fail;generalize hW2:World.drewN W1 _=W2;have HW2:Hid (Ext W1 W2):=by subst hW2;exact Ext.drewN (Ext.refl _) _
   clear hW2 d0 d3 d4 dx dy;refine wp_region_held_drew (S:=fun W=>W.cell? ⟨s,0,none⟩=some (.pointer (some ⟨g,0,none⟩))/\W.cell? ⟨s,3,none⟩=some (.int .i64 ro)/\W.cell? ⟨s,4,none⟩=some (.int .i64 pa)/\W.cell? ⟨wr.heap.size,0,none⟩=some (.int .i64 xa)/\W.cell? ⟨wr.heap.size,1,none⟩=some (.string xd)) (by kernel_rfl) (HKS.out _ (Only.of (Ext.trans HW2.out (by exact Xt)))) (fun hHeld=> ?_);refine' tk 0 ?_;refine' tk 1 ?_;refine' tk 2 ?_;refine' tk 3 ?_;refine' tk 4 ?_;refine' tk 5 ?_;refine' tk 6 ?_;refine' tk 7 ?_;refine' tk 8 ?_;refine' tk 9 ?_;refine' tk 10 ?_;refine' tk 11 ?_;refine' tk 12 ?_;refine' tk 13 ?_;refine' tk 14 ?_;refine stp 15 (fun K hK=> ?_);go_simp;rw[HWR.out]
   (with_reducible refine(cW.out _ (Ext.trans HW2.out (by exact Xt))).mono ?_)
   rintro e w2 ⟨rfl,F2,hd2,hk2⟩;have HB0:Hid (Ext W1 (World.drew W2)):=Ext.trans HW2.out (by exact Xt);have HB:Hid (Only (fun i=>(F1 i/\i<W1.heap.size)/\i≠s/\i≠m) W1 w2):=(Only.of HB0.out).trans' hk2.only;have HK2:Hid (Keeps (fun i=>(F1 i/\i<W1.heap.size)/\i≠s/\i≠m) F2 W1 w2):=Keeps.trans (Keeps.of HB0.out) hk2;have HD2:=hD hd2;clear hd2 hk2
   (try dsimp only)
   (try go_simp)
   refine hK.out _ _ (HKS.out _ HB.out) (fun hHeld=> ?_);clear hK K;refine pt ?_;refine' tk 16 ?_;refine wpAnyH_done (by kernel_rfl) ?_ _;have HST2:=hD (StoreAs.disked HS1.out HD2.out HK2.out (by rw[Z2v,Z2v]));have HKK:Hid (Keeps F (fun i=>i=s\/i=m\/F2 i) w w2):=(HK1.out.ext HW1.out.1).trans HST2.out.2;clear cW;obtain⟨R,hR⟩:∃R,(Z0j S.disk (atH S (l.take (k+1)))).2=R:=⟨_,rfl⟩;rw[hR];by_cases hR0:R=0
   ·subst hR0;have HIN:Hid (HomeI w s g m F S (atH S (l.take (k+1))) w2):=⟨hR,_,HST2.out.1.shrink,HKK.out.shrink,fun i q=>q.2⟩;clear hR;go_wp2_with fail
    go_roundw
    case measure=>simp[intOf];omega
    case rel=>exact⟨k+1,by omega,by go_num,HIN.out⟩
   ·have q1:¬R=0:=hR0;have q3:(R !=0)=true:=by simpa using hR0
    have q4:decide (R=0)=false:=decide_eq_false hR0;have HALL:Hid (Z0j S.disk (atH S l)=Z0j S.disk (atH S (l.take (k+1)))):=by
     unfold Hid;have e:atH S l=atH S (l.take (k+1))++atH S (l.drop (k+1)):=by unfold atH;rw[<-List.map_append,List.take_append_drop]
     rw[e,Z2t,if_neg (by rw[hR];exact hR0)]
    have HHS:Hid (Y1d S l=({ S with disk:=(Z0j S.disk (atH S (l.take (k+1)))).1},R)):=by unfold Hid Y1d;rw[HALL.out,if_pos (by rw[hR];exact hR0),hR]
    clear hR;go_wp2_with fail;go_ret;rw[HHS.out];exact⟨rfl,_,⟨g,m,HST2.out.1⟩,HKK.out⟩
  ·obtain rfl:k=n:=by omega
   have hd:decide ((k:Int)<(k:Int))=false:=by simp
   have HTK:Hid (l.take k=l):=by unfold Hid;rw[<-HN.out];exact List.take_length
   rw[HTK.out]at HI H1;have HZ:=hD HI.out.ok;obtain⟨Dn,hDn⟩:∃Dn,(Z0j S.disk (atH S l)).1=Dn:=⟨_,rfl⟩;have HLD:Hid (Dn.late.length<=200000000/\Dn.blocks.length=S.disk.blocks.length):=by
    unfold Hid;rw[<-hDn];refine⟨?_,Z2v _ _⟩;have h1:=Z3z (atH S l) S.disk;have h2:(atH S l).length=k:=by unfold atH;rw[List.length_map,HN.out]
    have h3:=HLT.out;omega
   rw[hDn]at H1;have HHO:Hid (Y1d S l=if(Z0u Dn).2≠0 then({ S with disk:=(Z0u Dn).1},(Z0u Dn).2)else(Z6w { S with disk:=(Z0u Dn).1} 0,(putD (Z0u Dn).1 (Z1i S.head 0)).2)):=by unfold Hid Y1d;rw[if_neg (fun q=>q HZ.out),hDn]
   clear hDn;have cF:=Z6i wr H1.out.diskF;dsimp only at cF;have HFB:=hD (Z4v Dn);have HFT:=hD (Z8z Dn);obtain⟨D2,R,hR⟩:∃D2 R,Z0u Dn=(D2,R):=⟨_,_,rfl⟩;rw[hR]at cF HHO HFB HFT;dsimp only at cF HHO HFB HFT;have c0:wr.cell? ⟨s,0,none⟩=some (.pointer (some ⟨g,0,none⟩)):=H1.out.row.cell 0;have HFI:Hid (FitsH D2.blocks.length (Z1i S.head 0)):=by unfold Hid;have hf:=HF.out;have hs:=HSQ.out;rw[HFB.out,HLD.out.2];exact⟨⟨hs,by simp[Z1i],hf.ok.room,hf.ok.pages⟩,hf.room,hf.pages,hf.most,Nat.zero_le _,hf.fits⟩
   have HLL:Hid (D2.late.length+1<=1000000000):=by unfold Hid;have h1:=HFT.out;have h2:=HLD.out.1;omega
   clear hR;by_cases hR0:R=0
   ·subst hR0;rw[if_neg (fun q=>q rfl)]at HHO;go_wp2_with (first
     | (go_at_call 160;refine cF.mono ?_;clear cF;rintro e w3 ⟨rfl,hd3,hk3⟩;have HS3:=hD (StoreAs.disked H1.out hd3 ⟨hk3,fun _ q=> .inl q⟩ HFB.out);clear hd3 hk3)
     | (go_at_call 166;refine(X3m 0 w3 ⟨g,m,HS3.out.1⟩ HFI.out HLL.out).mono ?_;rintro e w4 ⟨rfl,F4,hs4,hk4⟩;have HS4:=hD hs4;have HK4:=hD ((HK1.out.trans HS3.out.2).trans hk4);clear hs4 hk4))
    go_ret;rw[HHO.out];exact⟨rfl,F4,HS4.out,HK4.out⟩
   ·rw[if_pos hR0]at HHO;have q1:¬R=0:=hR0;have q3:(R !=0)=true:=by simpa using hR0
    have q4:decide (R=0)=false:=decide_eq_false hR0;go_wp2_with (go_at_call 160;refine cF.mono ?_;clear cF;rintro e w3 ⟨rfl,hd3,hk3⟩;have HS3:=hD (StoreAs.disked H1.out hd3 ⟨hk3,fun _ q=> .inl q⟩ HFB.out);clear hd3 hk3);go_ret;rw[HHO.out];exact⟨rfl,_,⟨g,m,HS3.out.1⟩,HK1.out.trans HS3.out.2⟩
def jnlB(l:List ByteArray):List (Nat×ByteArray):=(List.range l.length).map fun i=>(2+i,l[i]?.getD zeroB)
theorem V2d(l:List ByteArray)(k:Nat)(h:k<l.length):jnlB (l.take (k+1))=jnlB (l.take k)++ [(2+k,l[k])]:=by
 unfold jnlB;rw[aD,aD,Nat.min_eq_left (by omega),Nat.min_eq_left (by omega),List.range_succ,List.map_append]
 congr 1
 ·apply List.map_congr_left;intro i hi;have hi:=List.mem_range.1 hi;rw[List.getElem?_take_of_lt (by omega),List.getElem?_take_of_lt hi]
 ·simp[List.getElem?_take_of_lt,aB h]
theorem X4q(l:List ByteArray):(jnlB l).length=l.length:=by simp[jnlB]
theorem V6z(l:List ByteArray)(j:Nat)(h:j<=l.length):(jnlB l).take j=jnlB (l.take j):=by unfold jnlB;rw[<-List.map_take,List.take_range,aD];apply List.map_congr_left;intro i hi;have:=List.mem_range.1 hi;rw[List.getElem?_take_of_lt (by omega)]
theorem Sl.onlyC{α:Type}{w w':World}{sz:Nat}{R:α->List Value->Prop}{v:Value}{xs:List α}{G:Nat->Prop}(h:Sl w sz R v xs)(ho:Only G w w')(hv:∀b,0<xs.length->v.ownBlock=some b->¬G b):Sl w' sz R v xs:=by obtain⟨A,c,rfl,h1,h2,h3⟩:=h;refine⟨A,c,rfl,h1,h2,fun hn=> ?_⟩;obtain⟨b,off,rfl,hb,hx⟩:=h3 hn;refine⟨b,off,rfl,aE hb ho.size,fun i x hi=> ?_⟩;obtain⟨cs,hr,hl,hcs⟩:=hx i x hi;exact⟨cs,hr,hl,fun j u hu=>(ho.cell hb (hv b hn rfl)).trans (hcs j u hu)⟩
theorem V0m(D:DiskD)(h:HeadD):(putD D h).1.late.length<=D.late.length+1:=by
 unfold putD;split
 ·exact Z8r _ _ _
 ·exact Nat.le_trans (Z8z _) (Z8r _ _ _)
def Z2o(S:StoreD)(l:List (Nat×ByteArray)):StoreD×Int:=
 if(Z0j S.disk (jnlB (Z2h l))).2≠0 then({ S with disk:=(Z0j S.disk (jnlB (Z2h l))).1},(Z0j S.disk (jnlB (Z2h l))).2)
 else if(Z0u (Z0j S.disk (jnlB (Z2h l))).1).2≠0 then({ S with disk:=(Z0u (Z0j S.disk (jnlB (Z2h l))).1).1},(Z0u (Z0j S.disk (jnlB (Z2h l))).1).2)
 else if(putD (Z0u (Z0j S.disk (jnlB (Z2h l))).1).1 (Z1i S.head (Z2h l).length)).2≠0 then(Z6w { S with disk:=(Z0u (Z0j S.disk (jnlB (Z2h l))).1).1} (Z2h l).length,(putD (Z0u (Z0j S.disk (jnlB (Z2h l))).1).1 (Z1i S.head (Z2h l).length)).2)
 else Y1d (Z6w { S with disk:=(Z0u (Z0j S.disk (jnlB (Z2h l))).1).1} (Z2h l).length) l
theorem X8c{s:Nat}{F:Nat->Prop}{S:StoreD}(V:Value)(l:List (Nat×ByteArray))(w:World)(h:StoreAt w s F S)(hs:Sl w 2 RPg V l)(hV:∀b,V.ownBlock=some b->¬F b)(hp:∀p∈l,p.1<S.head.pages/\p.2.size<=256)(hl:l.length<=1024)(hlt:S.disk.late.length<=1000000)(hroom:hdsN l.length+l.length<=S.head.room)(hsq:S.head.seq+2<18446744073709551616):
  Calls Tryz.prog 194 #[.pointer (some ⟨s,0,none⟩),V] w fun e w'=>e= .returned (.int .i64 (Z2o S l).2)/\∃F',StoreAt w' s F' (Z2o S l).1/\Keeps F F' w w':=by
 obtain⟨g,m,h⟩:=h;have hft:=h.wf.fits;have cP:=V5z V l w hs hl (fun p q=>⟨by have:=(hp p q).1;have:=hft.most;omega,(hp p q).2⟩);have HH:=hD h;have HSL:=hD hs;have HV:=hD hV;have HP:=hD hp;have HF:=hD hft;have HSQ:=hD hsq;have HLT:=hD hlt;have HRO:=hD hroom;have HL:=hD hl;obtain⟨A,c,rfl⟩:=hs.form;have HPL:=hD (Y3q l);obtain⟨bl,hbl⟩:∃bl,Z2h l=bl:=⟨_,rfl⟩;have HBL:=hD hbl;rw[hbl]at cP;obtain⟨n,hn⟩:∃n,bl.length=n:=⟨_,rfl⟩;have HN:=hD hn;have hn2:n<=2048:=by rw[<-hn,<-hbl,Y3q];unfold hdsN;omega
 clear h hs hV hp hft hsq hlt hroom hl hbl hn;go_enter Tryz.func194,Tryz.ntmps194;go_wp2_with (go_at_call 232;refine cP.mono ?_;clear cP;rintro e w1 ⟨⟨v,rfl,hv⟩,hb1⟩;obtain⟨vA,vc,rfl⟩:=hv.form;rw[HN.out]at hv ⊢;have HX1:=hD hb1;have HV1:=hD hv;clear hb1 hv);have HI0:Hid (HomeI w1 s g m (fun i=>F i/\i<w.heap.size) S (jnlB (bl.take 0)) w1):=⟨rfl,fun i=>F i/\i<w.heap.size,(HH.out.shrink).ext HX1.out,Keeps.refl,fun i q=>aE q.2 HX1.out.size⟩;have HA:=hD ((HV1.out.sl (R:=fun x cs=>cs=encS x) Z0d (fun _=>rfl)).at.2.2.2);have HVF:=hD HV1.out.lt
 go_loopw [22] (fun i wr=>∃k:Nat,k<=n/\i= .int .i64 k/\HomeI w1 s g m (fun i=>F i/\i<w.heap.size) S (jnlB (bl.take k)) wr) (fun i _=>n-(intOf i).toNat)
 case atStart=>exact⟨0,by omega,rfl,HI0.out⟩
 case round=>
  obtain⟨k,hk,rfl,hi⟩:=hrel;have HI:=hD hi;obtain⟨F1,hs1,hk1,hb1⟩:=hi.ex;have H1:=hD hs1;have HK1:=hD hk1;have HB1:=hD hb1;clear hi hs1 hk1 hb1;by_cases hlt:k<n
  ·have hkl:k<bl.length:=by rw[HN.out];exact hlt
   have hd:decide ((k:Int)<(n:Int))=true:=by simp;omega
   have HST:=hD (V2d bl k hkl);obtain⟨b,off,rfl,hbb,hx⟩:=HA.out (by omega);obtain⟨cs,rfl,_,hcs⟩:=hx k hkl;have hnF:¬(F b/\b<w.heap.size):=fun q=>by have:=(HVF.out b rfl).1;omega
   have e0:wr.cell? ⟨b,off+k*1,none⟩=some (.string bl[k]):=(HK1.out.only.cell hbb hnF).trans (hcs 0 _ rfl);rw[Nat.mul_one]at e0;generalize bl[k]=x at *;clear hx hcs hnF;have hbw:=aE hbb HK1.out.only.size;have c0:wr.cell? ⟨s,0,none⟩=some (.pointer (some ⟨g,0,none⟩)):=H1.out.row.cell 0;have HIO:=hD HI.out.ok;have HWS:Hid (Z0j S.disk (jnlB (bl.take (k+1)))=Z1e (Z0j S.disk (jnlB (bl.take k))).1 ((2+k:Nat):Int) x):=by
    unfold Hid;rw[HST.out,Z2t,if_pos HIO.out,Z4a];split<;>rename_i hz
    ·rw[Z0j];exact Prod.ext rfl hz.symm
    ·rfl
   have cW:=Z4q ((2+k:Nat):Int) x wr H1.out.diskF (by
    have h1:=Z3z (jnlB (bl.take k)) S.disk;have h2:(jnlB (bl.take k)).length<=n:=by rw[X4q,aD,HN.out];omega
    have h3:=HLT.out;dsimp only;omega)
   dsimp only at cW;rw[<-HWS.out,show((2+k:Nat):Int)=2+(k:Int)by omega]at cW;have HWB:Hid ((Z0j S.disk (jnlB (bl.take (k+1)))).1.blocks.length=(Z0j S.disk (jnlB (bl.take k))).1.blocks.length):=by unfold Hid;rw[Z2v,Z2v]
   obtain⟨D2,R,hR⟩:∃D2 R,Z0j S.disk (jnlB (bl.take (k+1)))=(D2,R):=⟨_,_,rfl⟩;rw[hR]at cW HWB;dsimp only at cW HWB;have HRR:=hD hR;clear hR;by_cases hR0:R=0
   ·subst hR0;go_wp2_with (go_at_call 105;refine cW.mono ?_;clear cW;rintro e w3 ⟨rfl,F2,hd3,hk3⟩;have HS3:=hD (StoreAs.disked H1.out hd3 hk3 HWB.out);clear hd3 hk3)
    go_roundw
    case measure=>simp[intOf];omega
    case rel=>exact⟨k+1,by omega,by go_num,⟨by rw[HRR.out],_,by rw[HRR.out];exact HS3.out.1.shrink,(HK1.out.trans HS3.out.2).shrink,fun i q=>q.2⟩⟩
   ·have q1:¬R=0:=hR0;have q3:(R !=0)=true:=by simpa using hR0
    have q4:decide (R=0)=false:=decide_eq_false hR0;have HALL:Hid (Z0j S.disk (jnlB (Z2h l))=(D2,R)):=by unfold Hid;rw[HBL.out,<-List.take_append_drop (k+1) (jnlB bl),V6z bl (k+1) (by omega),Z2t,if_neg (by rw[HRR.out];exact hR0),HRR.out]
    have HCS:Hid (Z2o S l=({ S with disk:=D2},R)):=by unfold Hid Z2o;rw[HALL.out,if_pos hR0]
    go_wp2_with (go_at_call 105;refine cW.mono ?_;clear cW;rintro e w3 ⟨rfl,F2,hd3,hk3⟩;have HS3:=hD (StoreAs.disked H1.out hd3 hk3 HWB.out);clear hd3 hk3);go_ret;rw[HCS.out];exact⟨rfl,_,⟨g,m,HS3.out.1⟩,(((Keeps.of HX1.out).trans HK1.out).trans HS3.out.2).widen (fun i q=>q.1)⟩
  ·obtain rfl:k=n:=by omega
   have hd:decide ((k:Int)<(k:Int))=false:=by simp
   have HTK:Hid (bl.take k=bl):=by unfold Hid;rw[<-HN.out];exact List.take_length
   rw[HTK.out]at HI H1;have HZ:=hD HI.out.ok;obtain⟨Dn,hDn⟩:∃Dn,(Z0j S.disk (jnlB bl)).1=Dn:=⟨_,rfl⟩;have HLD:Hid (Dn.late.length<=2000000/\Dn.blocks.length=S.disk.blocks.length):=by
    unfold Hid;rw[<-hDn];refine⟨?_,Z2v _ _⟩;have h1:=Z3z (jnlB bl) S.disk;have h2:(jnlB bl).length=k:=by rw[X4q,HN.out]
    have h3:=HLT.out;omega
   rw[hDn]at H1;have HCO:Hid (Z2o S l=if(Z0u Dn).2≠0 then({ S with disk:=(Z0u Dn).1},(Z0u Dn).2)else if(putD (Z0u Dn).1 (Z1i S.head k)).2≠0 then(Z6w { S with disk:=(Z0u Dn).1} k,(putD (Z0u Dn).1 (Z1i S.head k)).2)else Y1d (Z6w { S with disk:=(Z0u Dn).1} k) l):=by unfold Hid Z2o;rw[HBL.out,if_neg (fun q=>q HZ.out),hDn,HN.out]
   clear hDn;have cF:=Z6i wr H1.out.diskF;dsimp only at cF;have HFB:=hD (Z4v Dn);have HFT:=hD (Z8z Dn);obtain⟨D2,R,hR⟩:∃D2 R,Z0u Dn=(D2,R):=⟨_,_,rfl⟩;rw[hR]at cF HCO HFB HFT;dsimp only at cF HCO HFB HFT;have c0:wr.cell? ⟨s,0,none⟩=some (.pointer (some ⟨g,0,none⟩)):=H1.out.row.cell 0;clear hR;by_cases hR0:R=0
   ·subst hR0;rw[if_neg (fun q=>q rfl)]at HCO;have HKR:Hid (k<=S.head.room/\k<=2048):=by unfold Hid;have h1:=HRO.out;have h2:=HPL.out;rw[HBL.out,HN.out]at h2;omega
    have HFI:Hid (FitsH D2.blocks.length (Z1i S.head k)):=by unfold Hid;have hf:=HF.out;have hs:=HSQ.out;have hk:=HKR.out;rw[HFB.out,HLD.out.2];exact⟨⟨by simp[Z1i];omega,by simp[Z1i];omega,hf.ok.room,hf.ok.pages⟩,hf.room,hf.pages,hf.most,hk.1,hf.fits⟩
    have HLL:Hid (D2.late.length+1<=1000000000):=by unfold Hid;have h1:=HFT.out;have h2:=HLD.out.1;omega
    obtain⟨D3,R2,hR2⟩:∃D3 R2,putD D2 (Z1i S.head k)=(D3,R2):=⟨_,_,rfl⟩;rw[hR2]at HCO;dsimp only at HCO;have HSS:Hid (Z6w { S with disk:=D2} k=if R2=0 then { S with disk:=D3,head:=Z1i S.head k}else { S with disk:=D3}):=by unfold Hid Z6w;dsimp only;rw[hR2]
    have cS:Hid (∀W F',StoreAt W s F' { S with disk:=D2}->Calls Tryz.prog 166 #[.pointer (some ⟨s,0,none⟩),.int .i64 k] W fun e w'=>e= .returned (.int .i64 R2)/\∃F'',StoreAt w' s F'' (Z6w { S with disk:=D2} k)/\Keeps F' F'' W w'):=fun W F' h=>by have h1:=X3m k W h HFI.out HLL.out;dsimp only at h1;rw[hR2]at h1;exact h1
    have HL3:Hid (D3.late.length<=D2.late.length+1):=by unfold Hid;have h1:=V0m D2 (Z1i S.head k);rw[hR2]at h1;exact h1
    clear hR2;by_cases hz:R2=0
    ·subst hz;rw[if_neg (fun q=>q rfl)]at HCO;rw[if_pos rfl]at HSS;rw[HSS.out]at HCO cS;have cH:Hid (∀W F',StoreAt W s F' { S with disk:=D3,head:=Z1i S.head k}->Keeps (fun i=>F i/\i<w.heap.size) F' w W->Calls Tryz.prog 109 #[.pointer (some ⟨s,0,none⟩),.slice A l.length c] W fun e w'=>e= .returned (.int .i64 (Z2o S l).2)/\∃F'',StoreAt w' s F'' (Z2o S l).1/\Keeps F' F'' W w'):=fun W F' h1 h2=>by rw[HCO.out];refine V7h (.slice A l.length c) l W h1 (HSL.out.onlyC h2.only (fun b _ hb q=>HV.out b hb q.1)) (fun b hl0 hb=> ?_) (fun p q=>(HP.out p q).1) (by have:=HL.out;omega) (by have h3:=HL3.out;have h4:=HFT.out;have h5:=HLD.out.1;dsimp only;omega) (by have:=HSQ.out;simp[Z1i];omega);obtain⟨b',off,e,hb',_⟩:=HSL.out.at.2.2.2 hl0;subst e;have e:b'=b:=Option.some.inj hb;exact h2.out (by omega) (fun q=>HV.out b hb q.1)
     go_wp2_with (first
      | (go_at_call 160;refine cF.mono ?_;clear cF;rintro e w3 ⟨rfl,hd3,hk3⟩;have HS3:=hD (StoreAs.disked H1.out hd3 ⟨hk3,fun _ q=> .inl q⟩ HFB.out);clear hd3 hk3)
      | (go_at_call 166;refine(cS.out w3 _ ⟨g,m,HS3.out.1⟩).mono ?_;clear cS;rintro e w4 ⟨rfl,F4,hs4,hk4⟩;have HS4:=hD hs4;have HK4:=hD ((((Keeps.of HX1.out).trans HK1.out).trans HS3.out.2).trans hk4);clear hs4 hk4)
      | (go_at_call 109;refine(cH.out w4 _ HS4.out HK4.out).mono ?_;clear cH;rintro e w5 ⟨rfl,F5,hs5,hk5⟩;have HS5:=hD hs5;have HK5:=hD (HK4.out.trans hk5);clear hs5 hk5))
     go_ret;exact⟨rfl,F5,HS5.out,HK5.out.widen (fun i q=>q.1)⟩
    ·rw[if_pos hz]at HCO;have q1:¬R2=0:=hz;have q3:(R2 !=0)=true:=by simpa using hz
     have q4:decide (R2=0)=false:=decide_eq_false hz;go_wp2_with (first
      | (go_at_call 160;refine cF.mono ?_;clear cF;rintro e w3 ⟨rfl,hd3,hk3⟩;have HS3:=hD (StoreAs.disked H1.out hd3 ⟨hk3,fun _ q=> .inl q⟩ HFB.out);clear hd3 hk3)
      | (go_at_call 166;refine(cS.out w3 _ ⟨g,m,HS3.out.1⟩).mono ?_;clear cS;rintro e w4 ⟨rfl,F4,hs4,hk4⟩;have HS4:=hD hs4;have HK4:=hD hk4;clear hs4 hk4))
     go_ret;rw[HCO.out];exact⟨rfl,F4,HS4.out,((((Keeps.of HX1.out).trans HK1.out).trans HS3.out.2).trans HK4.out).widen (fun i q=>q.1)⟩
   ·rw[if_pos hR0]at HCO;have q1:¬R=0:=hR0;have q3:(R !=0)=true:=by simpa using hR0
    have q4:decide (R=0)=false:=decide_eq_false hR0;go_wp2_with (go_at_call 160;refine cF.mono ?_;clear cF;rintro e w3 ⟨rfl,hd3,hk3⟩;have HS3:=hD (StoreAs.disked H1.out hd3 ⟨hk3,fun _ q=> .inl q⟩ HFB.out);clear hd3 hk3);go_ret;rw[HCO.out];exact⟨rfl,_,⟨g,m,HS3.out.1⟩,(((Keeps.of HX1.out).trans HK1.out).trans HS3.out.2).widen (fun i q=>q.1)⟩
structure Pow (D:DiskD):Prop where
 live:D.dead=false
 left:D.left= -1
theorem Y5t{D:DiskD}(h:Pow D){n:Int}(h0:0<=n)(h1:n<D.blocks.length):Z4l D n=0:=by unfold Z4l;rw[if_neg (by rw[h.live];simp),if_neg (by omega)]
theorem X3h{D:DiskD}(h:Pow D):useD D=(D,0):=by unfold useD;rw[if_neg (by rw[h.left];simp),if_neg (by rw[h.left];simp)]
theorem Y5k{D:DiskD}(h:Pow D){n:Nat}{s:ByteArray}(h1:n<D.blocks.length)(hs:s.size<=256):Z1e D n s=({ D with late:=D.late++ [(n,padB s)]},0):=by unfold Z1e;rw[Y5t h (by omega) (by omega),if_neg (by simp),if_neg (by omega),X3h h,if_neg (by simp)];rfl
theorem Z8h{D:DiskD}(h:Pow D)(h1:0<D.blocks.length):Z0u D=({ D with blocks:=layB D.late D.blocks,late:= []},0):=by unfold Z0u;rw[Y5t h (by omega) (by omega),if_neg (by simp),X3h h,if_neg (by simp)]
theorem Z8q:∀(l:List (Nat×ByteArray)) (D:DiskD),Pow D->(∀p∈l,p.1<D.blocks.length/\p.2.size<=256)->Z0j D l=({ D with late:=D.late++l.map (fun p=>(p.1,padB p.2))},0)
 | [],D,_,_=>by simp[Z0j]
 | p::r,D,h,hp=>by have h1:=hp p (by simp);rw[Z4a,Y5k h h1.1 h1.2,if_pos rfl];refine(Z8q r { D with late:=D.late++ [(p.1,padB p.2)]} ⟨h.live,h.left⟩ (fun q hq=>hp q (by simp[hq]))).trans ?_;simp
theorem V1v(n:Nat)(a b:List (Nat×ByteArray))(s:ByteArray):Z3c n (a++b) s=Z3c n b (Z3c n a s):=by unfold Z3c;rw[List.foldl_append]
theorem Z5u(n:Nat):∀(l:List (Nat×ByteArray)) (s:ByteArray),(∀p∈l,p.1≠n)->Z3c n l s=s
 | [],_,_=>rfl
 | p::r,s,h=>by have:Z3c n (p::r) s=Z3c n r (if p.1=n then p.2 else s):=rfl;rw[this,if_neg (h p (by simp)),Z5u n r s (fun q hq=>h q (by simp[hq]))]
theorem V6s(late:List (Nat×ByteArray)):∀(bs:List ByteArray) (n:Nat),n<bs.length->(layB late bs)[n]?.getD zeroB=Z3c n late (bs[n]?.getD zeroB):=by
 induction late with
 | nil=>intro bs n _;rfl
 | cons p r ih=>
   intro bs n hn;have e1:layB (p::r) bs=layB r (bs.set p.1 p.2):=rfl;have e2:Z3c n (p::r) (bs[n]?.getD zeroB)=Z3c n r (if p.1=n then p.2 else bs[n]?.getD zeroB):=rfl;rw[e1,e2,ih _ n (by simpa using hn)]
   congr 1
   rw[List.getElem?_set];split
   ·simp_all
   ·rfl
theorem Z7q{D:DiskD}(h:Pow D){n:Nat}(hn:n<D.blocks.length):Z0x (Z0u D).1 n=Z0x D n:=by rw[Z8h h (by omega)];unfold Z0x;dsimp only;rw[V6s _ _ _ hn];rfl
theorem Z9c(D:DiskD)(l:List (Nat×ByteArray))(n:Nat):Z0x { D with late:=D.late++l} n=Z3c n l (Z0x D n):=by unfold Z0x;dsimp only;rw[V1v]
structure PowAs (D D':DiskD):Prop where
 pow:Pow D'
 len:D'.blocks.length=D.blocks.length
 late:D'.late= []
theorem X4c{D:DiskD}(h:Pow D)(hl:2<=D.blocks.length)(H:HeadD):(putD D H).2=0/\PowAs D (putD D H).1/\∀n,2<=n->n<D.blocks.length->Z0x (putD D H).1 n=Z0x D n:=by
 have hm:H.seq%2<2:=Nat.mod_lt _ (by omega);have hw:=Y5k h (n:=H.seq%2) (s:=Z5x H) (by omega) (by rw[Z8g];omega);have hP:Pow { D with late:=D.late++ [(H.seq%2,padB (Z5x H))]}:=⟨h.live,h.left⟩;have hf:=Z8h hP (by dsimp only;omega);have e:putD D H=Z0u { D with late:=D.late++ [(H.seq%2,padB (Z5x H))]}:=by unfold putD;rw[hw,if_neg (by simp)]
 rw[e];refine⟨by rw[hf],⟨by rw[hf];exact⟨h.live,h.left⟩,by rw[Z4v],by rw[hf]⟩,fun n h2 hn=> ?_⟩;rw[Z7q hP (by dsimp only;exact hn),Z9c,Z5u _ _ _ (by intro p hp;simp at hp;subst hp;dsimp only;omega)]
theorem V2m{S:StoreD}{l:List (Nat×ByteArray)}(h:Pow S.disk)(hf:FitsH S.disk.blocks.length S.head)(hp:∀p∈l,p.1<S.head.pages/\p.2.size<=256):
  (Y1d S l).2=0/\∃D',(Y1d S l).1= { S with disk:=D',head:=Z1i S.head 0}/\PowAs S.disk D'/\∀n,n<S.head.pages->Z0x D' (2+S.head.room+n)=Z3c n (l.map fun p=>(p.1,padB p.2)) (Z0x S.disk (2+S.head.room+n)):=by
 have hfi:=hf.fits;have hpg:=hf.pages;have hw:=Z8q (atH S l) S.disk h (by
  intro q hq;obtain⟨p,hpl,rfl⟩:=List.mem_map.1 hq;have:=hp p hpl;dsimp only;exact⟨by omega,this.2⟩)
 have hP1:Pow { S.disk with late:=S.disk.late++(atH S l).map (fun p=>(p.1,padB p.2))}:=⟨h.live,h.left⟩;have hfl:=Z8h hP1 (by dsimp only;omega);obtain⟨D2,hD2⟩:∃D2,(Z0u { S.disk with late:=S.disk.late++(atH S l).map (fun p=>(p.1,padB p.2))}).1=D2:=⟨_,rfl⟩;have hz:(Z0u { S.disk with late:=S.disk.late++(atH S l).map (fun p=>(p.1,padB p.2))}).2=0:=by rw[hfl]
 have hP2:Pow D2:=by rw[<-hD2,hfl];exact⟨h.live,h.left⟩
 have hL2:D2.blocks.length=S.disk.blocks.length:=by rw[<-hD2,Z4v]
 obtain⟨hq,hA,hB⟩:=X4c hP2 (by omega) (Z1i S.head 0);have e:Y1d S l=(Z6w { S with disk:=D2} 0,0):=by unfold Y1d;rw[hw];dsimp only;rw[if_neg (fun q=>q rfl),if_neg (fun q=>q hz),hD2,hq]
 have e2:Z6w { S with disk:=D2} 0= { S with disk:=(putD D2 (Z1i S.head 0)).1,head:=Z1i S.head 0}:=by unfold Z6w;dsimp only;rw[if_pos hq]
 rw[e];refine⟨rfl,_,e2,⟨hA.pow,hA.len.trans hL2,hA.late⟩,fun n hn=> ?_⟩;rw[hB _ (by omega) (by omega),<-hD2,Z7q hP1 (by dsimp only;omega),Z9c];generalize Z0x S.disk (2+S.head.room+n)=s;unfold atH;clear e e2 hw hfl hD2 hz hP1 hP2 hL2 hA hB hq hp
 induction l generalizing s with
 | nil=>rfl
 | cons p r ih=>
   have e1:∀(k:Nat) (q:Nat×ByteArray) (m:List (Nat×ByteArray)) (s:ByteArray),Z3c k (q::m) s=Z3c k m (if q.1=k then q.2 else s):=fun _ _ _ _=>rfl;simp only[List.map_cons,e1];have e2:(if 2+S.head.room+p.1=2+S.head.room+n then padB p.2 else s)=(if p.1=n then padB p.2 else s):=by
    by_cases q:p.1=n
    ·rw[if_pos q,if_pos (by omega)]
    ·rw[if_neg q,if_neg (by omega)]
   rw[e2];exact ih _
theorem X7b{l:List (Nat×ByteArray)}(hp:∀p∈l,p.2.size<=256):∀b∈Z2h l,b.size=256:=by
 intro b hb;unfold Z2h Y4r at hb;rcases List.mem_append.1 hb with hb | hb
 ·obtain⟨i,_,rfl⟩:=List.mem_map.1 hb;exact Z7a _ (by rw[Z0i,aD];omega)
 ·obtain⟨p,hpl,rfl⟩:=List.mem_map.1 hb;exact Z7a _ (hp p hpl)
theorem V7a{l:List ByteArray}{q:Nat×ByteArray}(h:q∈jnlB l):q.1<2+l.length/\q.2∈l:=by obtain⟨i,hi,rfl⟩:=List.mem_map.1 h;have hi:=List.mem_range.1 hi;refine⟨by dsimp only;omega,?_⟩;dsimp only;rw[aB hi];exact List.getElem_mem hi
theorem X2u{S:StoreD}{l:List (Nat×ByteArray)}(h:Pow S.disk)(hf:FitsH S.disk.blocks.length S.head)(hp:∀p∈l,p.1<S.head.pages/\p.2.size<=256)(hroom:hdsN l.length+l.length<=S.head.room)(hsq:S.head.seq+1<18446744073709551616):
  (Z2o S l).2=0/\∃D',(Z2o S l).1= { S with disk:=D',head:=Z1i (Z1i S.head (Z2h l).length) 0}/\PowAs S.disk D'/\∀n,n<S.head.pages->Z0x D' (2+S.head.room+n)=Z3c n (l.map fun p=>(p.1,padB p.2)) (Z0x S.disk (2+S.head.room+n)):=by
 have hfi:=hf.fits;have hpg:=hf.pages;have hlen:=Y3q l;have hmem:∀q∈jnlB (Z2h l),q.1<2+S.head.room/\q.2.size<=256:=fun q hq=>by have h1:=V7a hq;have h2:=X7b (fun p q=>(hp p q).2) _ h1.2;omega
 have hw:=Z8q (jnlB (Z2h l)) S.disk h (fun q hq=>by have:=hmem q hq;omega);have hP1:Pow { S.disk with late:=S.disk.late++(jnlB (Z2h l)).map (fun p=>(p.1,padB p.2))}:=⟨h.live,h.left⟩;have hfl:=Z8h hP1 (by dsimp only;omega);obtain⟨D2,hD2⟩:∃D2,(Z0u { S.disk with late:=S.disk.late++(jnlB (Z2h l)).map (fun p=>(p.1,padB p.2))}).1=D2:=⟨_,rfl⟩;have hz:(Z0u { S.disk with late:=S.disk.late++(jnlB (Z2h l)).map (fun p=>(p.1,padB p.2))}).2=0:=by rw[hfl]
 have hP2:Pow D2:=by rw[<-hD2,hfl];exact⟨h.live,h.left⟩
 have hL2:D2.blocks.length=S.disk.blocks.length:=by rw[<-hD2,Z4v]
 obtain⟨hq,hA,hB⟩:=X4c hP2 (by omega) (Z1i S.head (Z2h l).length);obtain⟨D3,hD3⟩:∃D3,(putD D2 (Z1i S.head (Z2h l).length)).1=D3:=⟨_,rfl⟩;rw[hD3]at hA hB;have e2:Z6w { S with disk:=D2} (Z2h l).length= { S with disk:=D3,head:=Z1i S.head (Z2h l).length}:=by unfold Z6w;dsimp only;rw[if_pos hq,hD3]
 have e:Z2o S l=Y1d { S with disk:=D3,head:=Z1i S.head (Z2h l).length} l:=by unfold Z2o;rw[hw];dsimp only;rw[if_neg (fun q=>q rfl),if_neg (fun q=>q hz),hD2,if_neg (fun q=>q hq),e2]
 have hL3:=hA.len.trans hL2;obtain⟨h1,D',h2,h3,h4⟩:=V2m (S:= { S with disk:=D3,head:=Z1i S.head (Z2h l).length}) (l:=l) hA.pow
  (by dsimp only;rw[hL3];exact⟨⟨hsq,by have:=hf.ok.room;simp[Z1i];omega,hf.ok.room,hf.ok.pages⟩,hf.room,hf.pages,hf.most,by simp[Z1i];omega,hf.fits⟩) hp
 rw[e];refine⟨h1,D',h2,⟨h3.pow,h3.len.trans hL3,h3.late⟩,fun n hn=> ?_⟩;have h5:=h4 n hn;dsimp only[Z1i]at h5;rw[h5,hB _ (by omega) (by omega),<-hD2,Z7q hP1 (by dsimp only;omega),Z9c]
 congr 1
 refine Z5u _ _ _ (fun p hp=> ?_);obtain⟨q,hq,rfl⟩:=List.mem_map.1 hp;have:=(hmem q hq).1;dsimp only;omega
theorem X0k(n:Nat)(b:ByteArray):∀(l:List (Nat×ByteArray)) (s:ByteArray),(∀p∈l,p.1=n->p.2=b)->(∃p∈l,p.1=n)->Z3c n l s=b
 | [],_,_,h=>by obtain⟨p,hp,_⟩:=h;cases hp
 | p::r,s,h,hx=>by
   have e:Z3c n (p::r) s=Z3c n r (if p.1=n then p.2 else s):=rfl;rw[e];by_cases q:∃p∈r,p.1=n
   ·exact X0k n b r _ (fun x hx=>h x (by simp[hx])) q
   ·rw[Z5u n r _ (fun x hx e=>q ⟨x,hx,e⟩)];obtain⟨y,hy,e2⟩:=hx;rcases List.mem_cons.1 hy with rfl | hy
    ·rw[if_pos e2];exact h y (by simp) e2
    ·exact absurd ⟨y,hy,e2⟩ q
def U1v(S:StoreD)(l:List (Nat×ByteArray)):Prop:=∀(n:Nat) b,(n,b)∈l↔S.dirty (n:Int)=some b
structure Cmtd (S S':StoreD):Prop where
 pages:S'.head.pages=S.head.pages
 room:S'.head.room=S.head.room
 seq:S'.head.seq<=S.head.seq+2
 clean:∀n:Nat,S'.dirty (n:Int)=none
 dead:S'.dead=false
 pow:Pow S'.disk
 late:S'.disk.late= []
 len:S'.disk.blocks.length=S.disk.blocks.length
 view:∀n,n<S.head.pages->Z1a S' n=Z1a S n
theorem V4d{S:StoreD}(hl:Live S)(hp:Pow S.disk)(h0:S.disk.late= [])(hd:∀n:Nat,S.dirty (n:Int)=none):Cmtd S S:=
 ⟨rfl,rfl,by omega,hd,hl.1,hp,h0,rfl,fun _ _=>rfl⟩
theorem V5x{b:ByteArray}(h:b.size=256):padB b=b:=by
 unfold padB;have e:zeroB.extract b.size 256=⟨#[]⟩:=by rw[ByteArray.ext_iff,ByteArray.data_extract,h];simp;omega
 rw[e,ByteArray.ext_iff,ByteArray.data_append];simp
theorem V4c{S:StoreD}{l:List (Nat×ByteArray)}(hp:Pow S.disk)(hf:FitsH S.disk.blocks.length S.head)(hw:∀x b,S.dirty x=some b->0<=x/\x<S.head.pages/\b.size=256)(hl:U1v S l)
 (hroom:hdsN l.length+l.length<=S.head.room)(hsq:S.head.seq+2<18446744073709551616):
  (Z2o { S with dirty:=X0e} l).2=0/\Cmtd S { (Z2o { S with dirty:=X0e} l).1 with dead:=false}:=by
 have hpl:∀p∈l,p.1<S.head.pages/\p.2.size<=256:=fun p hpm=>by obtain⟨n,b⟩:=p;have:=hw _ _ ((hl n b).1 hpm);dsimp only;omega
 obtain⟨h1,D',h2,h3,h4⟩:=X2u (S:= { S with dirty:=X0e}) (l:=l) hp hf hpl hroom (by dsimp only;omega);refine⟨h1,?_⟩;rw[h2];dsimp only at h4 ⊢;refine⟨rfl,rfl,?_,fun n=>rfl,rfl,h3.pow,?_,h3.len,fun n hn=> ?_⟩
 ·dsimp only[Z1i];omega
 ·exact h3.late
 ·have h5:=h4 n hn;show Z0x D' (2+S.head.room+n)=(S.dirty n).getD (Z0x S.disk (2+S.head.room+n));rw[h5];cases hd:S.dirty (n:Int)with
  | none=>
    refine Z5u _ _ _ (fun p hpm=> ?_);obtain⟨q,hq,rfl⟩:=List.mem_map.1 hpm;dsimp only;intro e;have:=(hl q.1 q.2).1 hq;rw[e,hd]at this;cases this
  | some b=>
    have hb:padB b=b:=V5x (hw _ _ hd).2.2;refine X0k n b _ _ (fun p hpm e=> ?_) ⟨(n,padB b),List.mem_map.2 ⟨(n,b),(hl n b).2 hd,rfl⟩,rfl⟩;obtain⟨q,hq,rfl⟩:=List.mem_map.1 hpm;dsimp only at e ⊢;have:=(hl q.1 q.2).1 hq;rw[e,hd]at this;injection this with this;rw[<-this];exact hb
end Go.Proofs.YtmiolpfanlpfnaaGreat
