/- store.commit. Conditions: a store, pages that it has and that can be packed, room in the journal. -/
import Derived.Test.YtmiolpfanlpfnaaGreatU19
import Derived.Test.YtmiolpfanlpfnaaGreatU04
set_option maxRecDepth 100000
set_option maxHeartbeats 4000000
set_option linter.unusedSimpArgs false
set_option linter.unusedVariables false
namespace Go.Proofs.YtmiolpfanlpfnaaGreat
open Go.RowKit
def jnlB(l:List ByteArray):List (Nat×ByteArray):=(List.range l.length).map fun i=>(2+i,l[i]?.getD zeroB)
theorem V1m(l:List ByteArray)(k:Nat)(h:k<l.length):jnlB (l.take (k+1))=jnlB (l.take k)++ [(2+k,l[k])]:=by
 unfold jnlB
 rw[List.length_take,List.length_take,Nat.min_eq_left (by omega),Nat.min_eq_left (by omega),List.range_succ,List.map_append]
 congr 1
 ·apply List.map_congr_left
  intro i hi
  have hi:=List.mem_range.1 hi
  rw[List.getElem?_take_of_lt (by omega),List.getElem?_take_of_lt hi]
 ·simp[List.getElem?_take_of_lt,List.getElem?_eq_getElem h]
theorem X4e(l:List ByteArray):(jnlB l).length=l.length:=by simp[jnlB]
theorem V6k(l:List ByteArray)(j:Nat)(h:j≤l.length):(jnlB l).take j=jnlB (l.take j):=by
 unfold jnlB
 rw[←List.map_take,List.take_range,List.length_take]
 apply List.map_congr_left
 intro i hi
 have:=List.mem_range.1 hi
 rw[List.getElem?_take_of_lt (by omega)]
theorem Sl.onlyC{α:Type}{w w':World}{sz:Nat}{R:α→List Value→Prop}{v:Value}{xs:List α}{G:Nat→Prop}(h:Sl w sz R v xs)(ho:Only G w w')(hv:∀b,0<xs.length→v.ownBlock=some b→¬G b):Sl w' sz R v xs:=by
 obtain⟨A,c,rfl,h1,h2,h3⟩:=h
 refine⟨A,c,rfl,h1,h2,fun hn=> ?_⟩
 obtain⟨b,off,rfl,hb,hx⟩:=h3 hn
 refine⟨b,off,rfl,Nat.lt_of_lt_of_le hb ho.size,fun i x hi=> ?_⟩
 obtain⟨cs,hr,hl,hcs⟩:=hx i x hi
 exact⟨cs,hr,hl,fun j u hu=>(ho.cell hb (hv b hn rfl)).trans (hcs j u hu)⟩
theorem X9u(D:DiskD)(h:HeadD):(putD D h).1.late.length≤D.late.length+1:=by
 unfold putD
 split
 ·exact Z8g _ _ _
 ·exact Nat.le_trans (Z8n _) (Z8g _ _ _)
def Z2k(S:StoreD)(l:List (Nat×ByteArray)):StoreD×Int:=
 if(Z0i S.disk (jnlB (Z2d l))).2≠0 then({ S with disk:=(Z0i S.disk (jnlB (Z2d l))).1},(Z0i S.disk (jnlB (Z2d l))).2)
 else if(Z0u (Z0i S.disk (jnlB (Z2d l))).1).2≠0 then({ S with disk:=(Z0u (Z0i S.disk (jnlB (Z2d l))).1).1},(Z0u (Z0i S.disk (jnlB (Z2d l))).1).2)
 else if(putD (Z0u (Z0i S.disk (jnlB (Z2d l))).1).1 (Z1i S.head (Z2d l).length)).2≠0 then(Z6r { S with disk:=(Z0u (Z0i S.disk (jnlB (Z2d l))).1).1} (Z2d l).length,(putD (Z0u (Z0i S.disk (jnlB (Z2d l))).1).1 (Z1i S.head (Z2d l).length)).2)
 else Y0w (Z6r { S with disk:=(Z0u (Z0i S.disk (jnlB (Z2d l))).1).1} (Z2d l).length) l
theorem X7m{s:Nat}{F:Nat→Prop}{S:StoreD}(V:Value)(l:List (Nat×ByteArray))(w:World)(h:StoreAt w s F S)(hs:Sl w 2 RPg V l)(hV:∀b,V.ownBlock=some b→¬F b)(hp:∀p∈l,p.1<S.head.pages∧p.2.size≤256)(hl:l.length≤1024)(hlt:S.disk.late.length≤1000000)(hroom:hdsN l.length+l.length≤S.head.room)(hsq:S.head.seq+2<18446744073709551616):
  Calls Tryz.prog 194 #[.pointer (some ⟨s,0,none⟩),V] w fun e w'=>e= .returned (.int .i64 (Z2k S l).2)∧∃F',StoreAt w' s F' (Z2k S l).1∧Keeps F F' w w':=by
 obtain⟨g,m,h⟩:=h
 have hft:=h.wf.fits
 have cP:=V5j V l w hs hl (fun p q=>⟨by have:=(hp p q).1;have:=hft.most;omega,(hp p q).2⟩)
 have HH:=hD h
 have HSL:=hD hs
 have HV:=hD hV
 have HP:=hD hp
 have HF:=hD hft
 have HSQ:=hD hsq
 have HLT:=hD hlt
 have HRO:=hD hroom
 have HL:=hD hl
 obtain⟨A,c,rfl⟩:=hs.form
 have HPL:=hD (Y3i l)
 obtain⟨bl,hbl⟩:∃bl,Z2d l=bl:=⟨_,rfl⟩
 have HBL:=hD hbl
 rw[hbl]at cP
 obtain⟨n,hn⟩:∃n,bl.length=n:=⟨_,rfl⟩
 have HN:=hD hn
 have hn2:n≤2048:=by rw[←hn,←hbl,Y3i];unfold hdsN;omega
 clear h hs hV hp hft hsq hlt hroom hl hbl hn
 go_enter Tryz.func194,Tryz.ntmps194
 go_wp2_with (go_at_call 232;refine cP.mono ?_;clear cP;rintro e w1 ⟨⟨v,rfl,hv⟩,hb1⟩;obtain⟨vA,vc,rfl⟩:=hv.form;rw[HN.out]at hv ⊢;have HX1:=hD hb1;have HV1:=hD hv;clear hb1 hv)
 have HI0:Hid (HomeI w1 s g m (fun i=>F i∧i<w.heap.size) S (jnlB (bl.take 0)) w1):=⟨rfl,fun i=>F i∧i<w.heap.size,(HH.out.shrink).ext HX1.out,Keeps.refl,fun i q=>Nat.lt_of_lt_of_le q.2 HX1.out.size⟩
 have HA:=hD ((HV1.out.sl (R:=fun x cs=>cs=encS x) Z0d (fun _=>rfl)).at.2.2.2)
 have HVF:=hD HV1.out.lt
 go_loopw [22] (fun i wr=>∃k:Nat,k≤n∧i= .int .i64 k∧HomeI w1 s g m (fun i=>F i∧i<w.heap.size) S (jnlB (bl.take k)) wr) (fun i _=>n-(intOf i).toNat)
 case atStart=>exact⟨0,by omega,rfl,HI0.out⟩
 case round=>
  obtain⟨k,hk,rfl,hi⟩:=hrel
  have HI:=hD hi
  obtain⟨F1,hs1,hk1,hb1⟩:=hi.ex
  have H1:=hD hs1
  have HK1:=hD hk1
  have HB1:=hD hb1
  clear hi hs1 hk1 hb1
  by_cases hlt:k<n
  ·have hkl:k<bl.length:=by rw[HN.out];exact hlt
   have hd:decide ((k:Int)<(n:Int))=true:=by simp;omega
   have HST:=hD (V1m bl k hkl)
   obtain⟨b,off,rfl,hbb,hx⟩:=HA.out (by omega)
   obtain⟨cs,rfl,_,hcs⟩:=hx k hkl
   have hnF:¬(F b∧b<w.heap.size):=fun q=>by have:=(HVF.out b rfl).1;omega
   have e0:wr.cell? ⟨b,off+k*1,none⟩=some (.string bl[k]):=(HK1.out.only.cell hbb hnF).trans (hcs 0 _ rfl)
   rw[Nat.mul_one]at e0
   generalize bl[k]=x at *
   clear hx hcs hnF
   have hbw:=Nat.lt_of_lt_of_le hbb HK1.out.only.size
   have c0:wr.cell? ⟨s,0,none⟩=some (.pointer (some ⟨g,0,none⟩)):=H1.out.row.cell 0
   have HIO:=hD HI.out.ok
   have HWS:Hid (Z0i S.disk (jnlB (bl.take (k+1)))=Z1d (Z0i S.disk (jnlB (bl.take k))).1 ((2+k:Nat):Int) x):=by
    unfold Hid
    rw[HST.out,Z2o,if_pos HIO.out,Z3v]
    split<;>rename_i hz
    ·rw[Z0i]
     exact Prod.ext rfl hz.symm
    ·rfl
   have cW:=Z4h ((2+k:Nat):Int) x wr H1.out.diskF (by
    have h1:=Z3u (jnlB (bl.take k)) S.disk
    have h2:(jnlB (bl.take k)).length≤n:=by rw[X4e,List.length_take,HN.out];omega
    have h3:=HLT.out
    dsimp only
    omega)
   dsimp only at cW
   rw[←HWS.out,show((2+k:Nat):Int)=2+(k:Int)by omega]at cW
   have HWB:Hid ((Z0i S.disk (jnlB (bl.take (k+1)))).1.blocks.length=(Z0i S.disk (jnlB (bl.take k))).1.blocks.length):=by unfold Hid;rw[Z2q,Z2q]
   obtain⟨D2,R,hR⟩:∃D2 R,Z0i S.disk (jnlB (bl.take (k+1)))=(D2,R):=⟨_,_,rfl⟩
   rw[hR]at cW HWB
   dsimp only at cW HWB
   have HRR:=hD hR
   clear hR
   by_cases hR0:R=0
   ·subst hR0
    go_wp2_with (go_at_call 105;refine cW.mono ?_;clear cW;rintro e w3 ⟨rfl,F2,hd3,hk3⟩;have HS3:=hD (StoreAs.disked H1.out hd3 hk3 HWB.out);clear hd3 hk3)
    go_roundw
    case measure=>simp[intOf];omega
    case rel=>exact⟨k+1,by omega,by go_num,⟨by rw[HRR.out],_,by rw[HRR.out];exact HS3.out.1.shrink,(HK1.out.trans HS3.out.2).shrink,fun i q=>q.2⟩⟩
   ·have q1:¬R=0:=hR0
    have q3:(R !=0)=true:=by simpa using hR0
    have q4:decide (R=0)=false:=decide_eq_false hR0
    have HALL:Hid (Z0i S.disk (jnlB (Z2d l))=(D2,R)):=by
     unfold Hid
     rw[HBL.out,←List.take_append_drop (k+1) (jnlB bl),V6k bl (k+1) (by omega),Z2o,if_neg (by rw[HRR.out];exact hR0),HRR.out]
    have HCS:Hid (Z2k S l=({ S with disk:=D2},R)):=by
     unfold Hid Z2k
     rw[HALL.out,if_pos hR0]
    go_wp2_with (go_at_call 105;refine cW.mono ?_;clear cW;rintro e w3 ⟨rfl,F2,hd3,hk3⟩;have HS3:=hD (StoreAs.disked H1.out hd3 hk3 HWB.out);clear hd3 hk3)
    go_ret
    rw[HCS.out]
    exact⟨rfl,_,⟨g,m,HS3.out.1⟩,(((Keeps.of HX1.out).trans HK1.out).trans HS3.out.2).widen (fun i q=>q.1)⟩
  ·obtain rfl:k=n:=by omega
   have hd:decide ((k:Int)<(k:Int))=false:=by simp
   have HTK:Hid (bl.take k=bl):=by unfold Hid;rw[←HN.out];exact List.take_length
   rw[HTK.out]at HI H1
   have HZ:=hD HI.out.ok
   obtain⟨Dn,hDn⟩:∃Dn,(Z0i S.disk (jnlB bl)).1=Dn:=⟨_,rfl⟩
   have HLD:Hid (Dn.late.length≤2000000∧Dn.blocks.length=S.disk.blocks.length):=by
    unfold Hid
    rw[←hDn]
    refine⟨?_,Z2q _ _⟩
    have h1:=Z3u (jnlB bl) S.disk
    have h2:(jnlB bl).length=k:=by rw[X4e,HN.out]
    have h3:=HLT.out
    omega
   rw[hDn]at H1
   have HCO:Hid (Z2k S l=if(Z0u Dn).2≠0 then({ S with disk:=(Z0u Dn).1},(Z0u Dn).2)else if(putD (Z0u Dn).1 (Z1i S.head k)).2≠0 then(Z6r { S with disk:=(Z0u Dn).1} k,(putD (Z0u Dn).1 (Z1i S.head k)).2)else Y0w (Z6r { S with disk:=(Z0u Dn).1} k) l):=by
    unfold Hid Z2k
    rw[HBL.out,if_neg (fun q=>q HZ.out),hDn,HN.out]
   clear hDn
   have cF:=Z6b wr H1.out.diskF
   dsimp only at cF
   have HFB:=hD (Z4n Dn)
   have HFT:=hD (Z8n Dn)
   obtain⟨D2,R,hR⟩:∃D2 R,Z0u Dn=(D2,R):=⟨_,_,rfl⟩
   rw[hR]at cF HCO HFB HFT
   dsimp only at cF HCO HFB HFT
   have c0:wr.cell? ⟨s,0,none⟩=some (.pointer (some ⟨g,0,none⟩)):=H1.out.row.cell 0
   clear hR
   by_cases hR0:R=0
   ·subst hR0
    rw[if_neg (fun q=>q rfl)]at HCO
    have HKR:Hid (k≤S.head.room∧k≤2048):=by
     unfold Hid
     have h1:=HRO.out
     have h2:=HPL.out
     rw[HBL.out,HN.out]at h2
     omega
    have HFI:Hid (FitsH D2.blocks.length (Z1i S.head k)):=by
     unfold Hid
     have hf:=HF.out
     have hs:=HSQ.out
     have hk:=HKR.out
     rw[HFB.out,HLD.out.2]
     exact⟨⟨by simp[Z1i];omega,by simp[Z1i];omega,hf.ok.room,hf.ok.pages⟩,hf.room,hf.pages,hf.most,hk.1,hf.fits⟩
    have HLL:Hid (D2.late.length+1≤1000000000):=by unfold Hid;have h1:=HFT.out;have h2:=HLD.out.1;omega
    obtain⟨D3,R2,hR2⟩:∃D3 R2,putD D2 (Z1i S.head k)=(D3,R2):=⟨_,_,rfl⟩
    rw[hR2]at HCO
    dsimp only at HCO
    have HSS:Hid (Z6r { S with disk:=D2} k=if R2=0 then { S with disk:=D3,head:=Z1i S.head k}else { S with disk:=D3}):=by unfold Hid Z6r;dsimp only;rw[hR2]
    have cS:Hid (∀W F',StoreAt W s F' { S with disk:=D2}→Calls Tryz.prog 166 #[.pointer (some ⟨s,0,none⟩),.int .i64 k] W fun e w'=>e= .returned (.int .i64 R2)∧∃F'',StoreAt w' s F'' (Z6r { S with disk:=D2} k)∧Keeps F' F'' W w'):=fun W F' h=>by
     have h1:=X3b k W h HFI.out HLL.out
     dsimp only at h1
     rw[hR2]at h1
     exact h1
    have HL3:Hid (D3.late.length≤D2.late.length+1):=by unfold Hid;have h1:=X9u D2 (Z1i S.head k);rw[hR2]at h1;exact h1
    clear hR2
    by_cases hz:R2=0
    ·subst hz
     rw[if_neg (fun q=>q rfl)]at HCO
     rw[if_pos rfl]at HSS
     rw[HSS.out]at HCO cS
     have cH:Hid (∀W F',StoreAt W s F' { S with disk:=D3,head:=Z1i S.head k}→Keeps (fun i=>F i∧i<w.heap.size) F' w W→Calls Tryz.prog 109 #[.pointer (some ⟨s,0,none⟩),.slice A l.length c] W fun e w'=>e= .returned (.int .i64 (Z2k S l).2)∧∃F'',StoreAt w' s F'' (Z2k S l).1∧Keeps F' F'' W w'):=fun W F' h1 h2=>by
      rw[HCO.out]
      refine V6s (.slice A l.length c) l W h1 (HSL.out.onlyC h2.only (fun b _ hb q=>HV.out b hb q.1)) (fun b hl0 hb=> ?_) (fun p q=>(HP.out p q).1) (by have:=HL.out;omega) (by have h3:=HL3.out;have h4:=HFT.out;have h5:=HLD.out.1;dsimp only;omega) (by have:=HSQ.out;simp[Z1i];omega)
      obtain⟨b',off,e,hb',_⟩:=HSL.out.at.2.2.2 hl0
      subst e
      have e:b'=b:=Option.some.inj hb
      exact h2.out (by omega) (fun q=>HV.out b hb q.1)
     go_wp2_with (first
      | (go_at_call 160;refine cF.mono ?_;clear cF;rintro e w3 ⟨rfl,hd3,hk3⟩;have HS3:=hD (StoreAs.disked H1.out hd3 ⟨hk3,fun _ q=> .inl q⟩ HFB.out);clear hd3 hk3)
      | (go_at_call 166;refine(cS.out w3 _ ⟨g,m,HS3.out.1⟩).mono ?_;clear cS;rintro e w4 ⟨rfl,F4,hs4,hk4⟩;have HS4:=hD hs4;have HK4:=hD ((((Keeps.of HX1.out).trans HK1.out).trans HS3.out.2).trans hk4);clear hs4 hk4)
      | (go_at_call 109;refine(cH.out w4 _ HS4.out HK4.out).mono ?_;clear cH;rintro e w5 ⟨rfl,F5,hs5,hk5⟩;have HS5:=hD hs5;have HK5:=hD (HK4.out.trans hk5);clear hs5 hk5))
     go_ret
     exact⟨rfl,F5,HS5.out,HK5.out.widen (fun i q=>q.1)⟩
    ·rw[if_pos hz]at HCO
     have q1:¬R2=0:=hz
     have q3:(R2 !=0)=true:=by simpa using hz
     have q4:decide (R2=0)=false:=decide_eq_false hz
     go_wp2_with (first
      | (go_at_call 160;refine cF.mono ?_;clear cF;rintro e w3 ⟨rfl,hd3,hk3⟩;have HS3:=hD (StoreAs.disked H1.out hd3 ⟨hk3,fun _ q=> .inl q⟩ HFB.out);clear hd3 hk3)
      | (go_at_call 166;refine(cS.out w3 _ ⟨g,m,HS3.out.1⟩).mono ?_;clear cS;rintro e w4 ⟨rfl,F4,hs4,hk4⟩;have HS4:=hD hs4;have HK4:=hD hk4;clear hs4 hk4))
     go_ret
     rw[HCO.out]
     exact⟨rfl,F4,HS4.out,((((Keeps.of HX1.out).trans HK1.out).trans HS3.out.2).trans HK4.out).widen (fun i q=>q.1)⟩
   ·rw[if_pos hR0]at HCO
    have q1:¬R=0:=hR0
    have q3:(R !=0)=true:=by simpa using hR0
    have q4:decide (R=0)=false:=decide_eq_false hR0
    go_wp2_with (go_at_call 160;refine cF.mono ?_;clear cF;rintro e w3 ⟨rfl,hd3,hk3⟩;have HS3:=hD (StoreAs.disked H1.out hd3 ⟨hk3,fun _ q=> .inl q⟩ HFB.out);clear hd3 hk3)
    go_ret
    rw[HCO.out]
    exact⟨rfl,_,⟨g,m,HS3.out.1⟩,(((Keeps.of HX1.out).trans HK1.out).trans HS3.out.2).widen (fun i q=>q.1)⟩
structure Pow (D:DiskD):Prop where
 live:D.dead=false
 left:D.left= -1
theorem Y5k{D:DiskD}(h:Pow D){n:Int}(h0:0≤n)(h1:n<D.blocks.length):Z4c D n=0:=by
 unfold Z4c
 rw[if_neg (by rw[h.live];simp),if_neg (by omega)]
theorem X2w{D:DiskD}(h:Pow D):useD D=(D,0):=by
 unfold useD
 rw[if_neg (by rw[h.left];simp),if_neg (by rw[h.left];simp)]
theorem Y5a{D:DiskD}(h:Pow D){n:Nat}{s:ByteArray}(h1:n<D.blocks.length)(hs:s.size≤256):Z1d D n s=({ D with late:=D.late++ [(n,padB s)]},0):=by
 unfold Z1d
 rw[Y5k h (by omega) (by omega),if_neg (by simp),if_neg (by omega),X2w h,if_neg (by simp)]
 rfl
theorem Z7y{D:DiskD}(h:Pow D)(h1:0<D.blocks.length):Z0u D=({ D with blocks:=layB D.late D.blocks,late:= []},0):=by
 unfold Z0u
 rw[Y5k h (by omega) (by omega),if_neg (by simp),X2w h,if_neg (by simp)]
theorem Z8f:∀(l:List (Nat×ByteArray)) (D:DiskD),Pow D→(∀p∈l,p.1<D.blocks.length∧p.2.size≤256)→Z0i D l=({ D with late:=D.late++l.map (fun p=>(p.1,padB p.2))},0)
 | [],D,_,_=>by simp[Z0i]
 | p::r,D,h,hp=>by
   have h1:=hp p (by simp)
   rw[Z3v,Y5a h h1.1 h1.2,if_pos rfl]
   refine(Z8f r { D with late:=D.late++ [(p.1,padB p.2)]} ⟨h.live,h.left⟩ (fun q hq=>hp q (by simp[hq]))).trans ?_
   simp
theorem V1e(n:Nat)(a b:List (Nat×ByteArray))(s:ByteArray):Z2v n (a++b) s=Z2v n b (Z2v n a s):=by unfold Z2v;rw[List.foldl_append]
theorem Z5l(n:Nat):∀(l:List (Nat×ByteArray)) (s:ByteArray),(∀p∈l,p.1≠n)→Z2v n l s=s
 | [],_,_=>rfl
 | p::r,s,h=>by
   have:Z2v n (p::r) s=Z2v n r (if p.1=n then p.2 else s):=rfl
   rw[this,if_neg (h p (by simp)),Z5l n r s (fun q hq=>h q (by simp[hq]))]
theorem V6d(late:List (Nat×ByteArray)):∀(bs:List ByteArray) (n:Nat),n<bs.length→(layB late bs)[n]?.getD zeroB=Z2v n late (bs[n]?.getD zeroB):=by
 induction late with
 | nil=>intro bs n _;rfl
 | cons p r ih=>
   intro bs n hn
   have e1:layB (p::r) bs=layB r (bs.set p.1 p.2):=rfl
   have e2:Z2v n (p::r) (bs[n]?.getD zeroB)=Z2v n r (if p.1=n then p.2 else bs[n]?.getD zeroB):=rfl
   rw[e1,e2,ih _ n (by simpa using hn)]
   congr 1
   rw[List.getElem?_set]
   split
   ·simp_all
   ·rfl
theorem Z7j{D:DiskD}(h:Pow D){n:Nat}(hn:n<D.blocks.length):Z0x (Z0u D).1 n=Z0x D n:=by
 rw[Z7y h (by omega)]
 unfold Z0x
 dsimp only
 rw[V6d _ _ _ hn]
 rfl
theorem Z8r(D:DiskD)(l:List (Nat×ByteArray))(n:Nat):Z0x { D with late:=D.late++l} n=Z2v n l (Z0x D n):=by
 unfold Z0x
 dsimp only
 rw[V1e]
structure PowAs (D D':DiskD):Prop where
 pow:Pow D'
 len:D'.blocks.length=D.blocks.length
 late:D'.late= []
theorem X3r{D:DiskD}(h:Pow D)(hl:2≤D.blocks.length)(H:HeadD):(putD D H).2=0∧PowAs D (putD D H).1∧∀n,2≤n→n<D.blocks.length→Z0x (putD D H).1 n=Z0x D n:=by
 have hm:H.seq%2<2:=Nat.mod_lt _ (by omega)
 have hw:=Y5a h (n:=H.seq%2) (s:=Z5o H) (by omega) (by rw[Z7x];omega)
 have hP:Pow { D with late:=D.late++ [(H.seq%2,padB (Z5o H))]}:=⟨h.live,h.left⟩
 have hf:=Z7y hP (by dsimp only;omega)
 have e:putD D H=Z0u { D with late:=D.late++ [(H.seq%2,padB (Z5o H))]}:=by
  unfold putD
  rw[hw,if_neg (by simp)]
 rw[e]
 refine⟨by rw[hf],⟨by rw[hf];exact⟨h.live,h.left⟩,by rw[Z4n],by rw[hf]⟩,fun n h2 hn=> ?_⟩
 rw[Z7j hP (by dsimp only;exact hn),Z8r,Z5l _ _ _ (by intro p hp;simp at hp;subst hp;dsimp only;omega)]
theorem V1v{S:StoreD}{l:List (Nat×ByteArray)}(h:Pow S.disk)(hf:FitsH S.disk.blocks.length S.head)(hp:∀p∈l,p.1<S.head.pages∧p.2.size≤256):
  (Y0w S l).2=0∧∃D',(Y0w S l).1= { S with disk:=D',head:=Z1i S.head 0}∧PowAs S.disk D'∧∀n,n<S.head.pages→Z0x D' (2+S.head.room+n)=Z2v n (l.map fun p=>(p.1,padB p.2)) (Z0x S.disk (2+S.head.room+n)):=by
 have hfi:=hf.fits
 have hpg:=hf.pages
 have hw:=Z8f (atH S l) S.disk h (by
  intro q hq
  obtain⟨p,hpl,rfl⟩:=List.mem_map.1 hq
  have:=hp p hpl
  dsimp only
  exact⟨by omega,this.2⟩)
 have hP1:Pow { S.disk with late:=S.disk.late++(atH S l).map (fun p=>(p.1,padB p.2))}:=⟨h.live,h.left⟩
 have hfl:=Z7y hP1 (by dsimp only;omega)
 obtain⟨D2,hD2⟩:∃D2,(Z0u { S.disk with late:=S.disk.late++(atH S l).map (fun p=>(p.1,padB p.2))}).1=D2:=⟨_,rfl⟩
 have hz:(Z0u { S.disk with late:=S.disk.late++(atH S l).map (fun p=>(p.1,padB p.2))}).2=0:=by rw[hfl]
 have hP2:Pow D2:=by rw[←hD2,hfl];exact⟨h.live,h.left⟩
 have hL2:D2.blocks.length=S.disk.blocks.length:=by rw[←hD2,Z4n]
 obtain⟨hq,hA,hB⟩:=X3r hP2 (by omega) (Z1i S.head 0)
 have e:Y0w S l=(Z6r { S with disk:=D2} 0,0):=by
  unfold Y0w
  rw[hw]
  dsimp only
  rw[if_neg (fun q=>q rfl),if_neg (fun q=>q hz),hD2,hq]
 have e2:Z6r { S with disk:=D2} 0= { S with disk:=(putD D2 (Z1i S.head 0)).1,head:=Z1i S.head 0}:=by
  unfold Z6r
  dsimp only
  rw[if_pos hq]
 rw[e]
 refine⟨rfl,_,e2,⟨hA.pow,hA.len.trans hL2,hA.late⟩,fun n hn=> ?_⟩
 rw[hB _ (by omega) (by omega),←hD2,Z7j hP1 (by dsimp only;omega),Z8r]
 generalize Z0x S.disk (2+S.head.room+n)=s
 unfold atH
 clear e e2 hw hfl hD2 hz hP1 hP2 hL2 hA hB hq hp
 induction l generalizing s with
 | nil=>rfl
 | cons p r ih=>
   have e1:∀(k:Nat) (q:Nat×ByteArray) (m:List (Nat×ByteArray)) (s:ByteArray),Z2v k (q::m) s=Z2v k m (if q.1=k then q.2 else s):=fun _ _ _ _=>rfl
   simp only[List.map_cons,e1]
   have e2:(if 2+S.head.room+p.1=2+S.head.room+n then padB p.2 else s)=(if p.1=n then padB p.2 else s):=by
    by_cases q:p.1=n
    ·rw[if_pos q,if_pos (by omega)]
    ·rw[if_neg q,if_neg (by omega)]
   rw[e2]
   exact ih _
theorem X6l{l:List (Nat×ByteArray)}(hp:∀p∈l,p.2.size≤256):∀b∈Z2d l,b.size=256:=by
 intro b hb
 unfold Z2d Y4g at hb
 rcases List.mem_append.1 hb with hb | hb
 ·obtain⟨i,_,rfl⟩:=List.mem_map.1 hb
  exact Z6v _ (by rw[Z0h,List.length_take];omega)
 ·obtain⟨p,hpl,rfl⟩:=List.mem_map.1 hb
  exact Z6v _ (hp p hpl)
theorem V6l{l:List ByteArray}{q:Nat×ByteArray}(h:q∈jnlB l):q.1<2+l.length∧q.2∈l:=by
 obtain⟨i,hi,rfl⟩:=List.mem_map.1 h
 have hi:=List.mem_range.1 hi
 refine⟨by dsimp only;omega,?_⟩
 dsimp only
 rw[List.getElem?_eq_getElem hi]
 exact List.getElem_mem hi
theorem X2j{S:StoreD}{l:List (Nat×ByteArray)}(h:Pow S.disk)(hf:FitsH S.disk.blocks.length S.head)(hp:∀p∈l,p.1<S.head.pages∧p.2.size≤256)(hroom:hdsN l.length+l.length≤S.head.room)(hsq:S.head.seq+1<18446744073709551616):
  (Z2k S l).2=0∧∃D',(Z2k S l).1= { S with disk:=D',head:=Z1i (Z1i S.head (Z2d l).length) 0}∧PowAs S.disk D'∧∀n,n<S.head.pages→Z0x D' (2+S.head.room+n)=Z2v n (l.map fun p=>(p.1,padB p.2)) (Z0x S.disk (2+S.head.room+n)):=by
 have hfi:=hf.fits
 have hpg:=hf.pages
 have hlen:=Y3i l
 have hmem:∀q∈jnlB (Z2d l),q.1<2+S.head.room∧q.2.size≤256:=fun q hq=>by
  have h1:=V6l hq
  have h2:=X6l (fun p q=>(hp p q).2) _ h1.2
  omega
 have hw:=Z8f (jnlB (Z2d l)) S.disk h (fun q hq=>by have:=hmem q hq;omega)
 have hP1:Pow { S.disk with late:=S.disk.late++(jnlB (Z2d l)).map (fun p=>(p.1,padB p.2))}:=⟨h.live,h.left⟩
 have hfl:=Z7y hP1 (by dsimp only;omega)
 obtain⟨D2,hD2⟩:∃D2,(Z0u { S.disk with late:=S.disk.late++(jnlB (Z2d l)).map (fun p=>(p.1,padB p.2))}).1=D2:=⟨_,rfl⟩
 have hz:(Z0u { S.disk with late:=S.disk.late++(jnlB (Z2d l)).map (fun p=>(p.1,padB p.2))}).2=0:=by rw[hfl]
 have hP2:Pow D2:=by rw[←hD2,hfl];exact⟨h.live,h.left⟩
 have hL2:D2.blocks.length=S.disk.blocks.length:=by rw[←hD2,Z4n]
 obtain⟨hq,hA,hB⟩:=X3r hP2 (by omega) (Z1i S.head (Z2d l).length)
 obtain⟨D3,hD3⟩:∃D3,(putD D2 (Z1i S.head (Z2d l).length)).1=D3:=⟨_,rfl⟩
 rw[hD3]at hA hB
 have e2:Z6r { S with disk:=D2} (Z2d l).length= { S with disk:=D3,head:=Z1i S.head (Z2d l).length}:=by
  unfold Z6r
  dsimp only
  rw[if_pos hq,hD3]
 have e:Z2k S l=Y0w { S with disk:=D3,head:=Z1i S.head (Z2d l).length} l:=by
  unfold Z2k
  rw[hw]
  dsimp only
  rw[if_neg (fun q=>q rfl),if_neg (fun q=>q hz),hD2,if_neg (fun q=>q hq),e2]
 have hL3:=hA.len.trans hL2
 obtain⟨h1,D',h2,h3,h4⟩:=V1v (S:= { S with disk:=D3,head:=Z1i S.head (Z2d l).length}) (l:=l) hA.pow
  (by dsimp only;rw[hL3];exact⟨⟨hsq,by have:=hf.ok.room;simp[Z1i];omega,hf.ok.room,hf.ok.pages⟩,hf.room,hf.pages,hf.most,by simp[Z1i];omega,hf.fits⟩) hp
 rw[e]
 refine⟨h1,D',h2,⟨h3.pow,h3.len.trans hL3,h3.late⟩,fun n hn=> ?_⟩
 have h5:=h4 n hn
 dsimp only[Z1i]at h5
 rw[h5,hB _ (by omega) (by omega),←hD2,Z7j hP1 (by dsimp only;omega),Z8r]
 congr 1
 refine Z5l _ _ _ (fun p hp=> ?_)
 obtain⟨q,hq,rfl⟩:=List.mem_map.1 hp
 have:=(hmem q hq).1
 dsimp only
 omega
theorem Y9z(n:Nat)(b:ByteArray):∀(l:List (Nat×ByteArray)) (s:ByteArray),(∀p∈l,p.1=n→p.2=b)→(∃p∈l,p.1=n)→Z2v n l s=b
 | [],_,_,h=>by obtain⟨p,hp,_⟩:=h;cases hp
 | p::r,s,h,hx=>by
   have e:Z2v n (p::r) s=Z2v n r (if p.1=n then p.2 else s):=rfl
   rw[e]
   by_cases q:∃p∈r,p.1=n
   ·exact Y9z n b r _ (fun x hx=>h x (by simp[hx])) q
   ·rw[Z5l n r _ (fun x hx e=>q ⟨x,hx,e⟩)]
    obtain⟨y,hy,e2⟩:=hx
    rcases List.mem_cons.1 hy with rfl | hy
    ·rw[if_pos e2];exact h y (by simp) e2
    ·exact absurd ⟨y,hy,e2⟩ q
def U1f(S:StoreD)(l:List (Nat×ByteArray)):Prop:=∀(n:Nat) b,(n,b)∈l↔S.dirty (n:Int)=some b
structure Cmtd (S S':StoreD):Prop where
 pages:S'.head.pages=S.head.pages
 room:S'.head.room=S.head.room
 seq:S'.head.seq≤S.head.seq+2
 clean:∀n:Nat,S'.dirty (n:Int)=none
 dead:S'.dead=false
 pow:Pow S'.disk
 late:S'.disk.late= []
 len:S'.disk.blocks.length=S.disk.blocks.length
 view:∀n,n<S.head.pages→Z1a S' n=Z1a S n
theorem V3m{S:StoreD}(hl:Live S)(hp:Pow S.disk)(h0:S.disk.late= [])(hd:∀n:Nat,S.dirty (n:Int)=none):Cmtd S S:=
 ⟨rfl,rfl,by omega,hd,hl.1,hp,h0,rfl,fun _ _=>rfl⟩
theorem V5h{b:ByteArray}(h:b.size=256):padB b=b:=by
 unfold padB
 have e:zeroB.extract b.size 256=⟨#[]⟩:=by
  rw[ByteArray.ext_iff,ByteArray.data_extract,h]
  simp
  omega
 rw[e,ByteArray.ext_iff,ByteArray.data_append]
 simp
theorem V3l{S:StoreD}{l:List (Nat×ByteArray)}(hp:Pow S.disk)(hf:FitsH S.disk.blocks.length S.head)(hw:∀x b,S.dirty x=some b→0≤x∧x<S.head.pages∧b.size=256)(hl:U1f S l)
 (hroom:hdsN l.length+l.length≤S.head.room)(hsq:S.head.seq+2<18446744073709551616):
  (Z2k { S with dirty:=Y9t} l).2=0∧Cmtd S { (Z2k { S with dirty:=Y9t} l).1 with dead:=false}:=by
 have hpl:∀p∈l,p.1<S.head.pages∧p.2.size≤256:=fun p hpm=>by
  obtain⟨n,b⟩:=p
  have:=hw _ _ ((hl n b).1 hpm)
  dsimp only
  omega
 obtain⟨h1,D',h2,h3,h4⟩:=X2j (S:= { S with dirty:=Y9t}) (l:=l) hp hf hpl hroom (by dsimp only;omega)
 refine⟨h1,?_⟩
 rw[h2]
 dsimp only at h4 ⊢
 refine⟨rfl,rfl,?_,fun n=>rfl,rfl,h3.pow,?_,h3.len,fun n hn=> ?_⟩
 ·dsimp only[Z1i];omega
 ·exact h3.late
 ·have h5:=h4 n hn
  show Z0x D' (2+S.head.room+n)=(S.dirty n).getD (Z0x S.disk (2+S.head.room+n))
  rw[h5]
  cases hd:S.dirty (n:Int)with
  | none=>
    refine Z5l _ _ _ (fun p hpm=> ?_)
    obtain⟨q,hq,rfl⟩:=List.mem_map.1 hpm
    dsimp only
    intro e
    have:=(hl q.1 q.2).1 hq
    rw[e,hd]at this
    cases this
  | some b=>
    have hb:padB b=b:=V5h (hw _ _ hd).2.2
    refine Y9z n b _ _ (fun p hpm e=> ?_) ⟨(n,padB b),List.mem_map.2 ⟨(n,b),(hl n b).2 hd,rfl⟩,rfl⟩
    obtain⟨q,hq,rfl⟩:=List.mem_map.1 hpm
    dsimp only at e ⊢
    have:=(hl q.1 q.2).1 hq
    rw[e,hd]at this
    injection this with this
    rw[←this]
    exact hb
def BX(w wr:World)(b B:Nat)(t:TypeId)(cs:List Value)(l:List UInt8):Prop:=
 ∃F:Nat→Prop,BldAt wr b F l∧(∀i,F i→w.heap.size≤i∧i≠B)∧Ext w wr∧Row1 wr B t cs
theorem BX.bstep{w wr w':World}{b B:Nat}{t:TypeId}{cs:List Value}{l':List UInt8}{F F':Nat→Prop}(hF:∀i,F i→w.heap.size≤i∧i≠B)(hx:Ext w wr)(hr:Row1 wr B t cs)(hb:BldAt w' b F' l')(hk:Keeps F F' wr w'):BX w w' b B t cs l':=by
 have hs:=hx.size
 refine⟨F',hb,fun i q=> ?_,?_,hk.only.row hr (fun q=>(hF _ q).2 rfl)⟩
 ·rcases hk.new i q with q | q
  ·exact hF i q
  ·have:=hr.lt;omega
 ·refine Only.toExt (F:=fun i=>w.heap.size≤i) ?_ (fun i q=>q)
  exact(Only.of hx).trans' (hk.only.mono (fun i q=> .inl (hF i q).1))
theorem BX.ext{w W W':World}{b B:Nat}{t:TypeId}{cs:List Value}{l:List UInt8}(h:BX w W b B t cs l)(hx:Ext W W'):BX w W' b B t cs l:=by
 obtain⟨F,h1,h2,h3,h4⟩:=h
 exact⟨F,h1.ext hx,h2,h3.trans hx,h4.ext hx h4.lt⟩
theorem V7u{w W:World}{b B:Nat}{t:TypeId}{cs:List Value}{l:List UInt8}(s:ByteArray)(hs:s.size≤1000000)(h:BX w W b B t cs l)(hl:l.length≤100000000):
  Calls Tryz.prog 172 #[.pointer (some ⟨b,0,none⟩),.string s] W fun e w'=>e= .returned (.tuple #[.int .i64 s.size,.nilIface])∧BX w w' b B t cs (l++s.data.toList):=by
 obtain⟨F,h1,h2,h3,h4⟩:=h
 refine(Z6c s h1 (by omega)).mono ?_
 rintro e w' ⟨rfl,F',q1,q2⟩
 exact⟨rfl,BX.bstep h2 h3 h4 q1 q2⟩
theorem U1c{w W:World}{b B:Nat}{t:TypeId}{cs:List Value}{l:List UInt8}(h:BX w W b B t cs l)(h0:l≠ []):
  Calls Tryz.prog 175 #[.pointer (some ⟨b,0,none⟩)] W fun e w'=>e= .returned (.string (bts l))∧Ext w w':=by
 obtain⟨F,h1,h2,h3,h4⟩:=h
 refine(Z8s h1 h0).mono ?_
 rintro e w' ⟨rfl,q2⟩
 refine⟨rfl,Only.toExt (F:=fun i=>w.heap.size≤i) ?_ (fun i q=>q)⟩
 exact(Only.of h3).trans' (q2.mono (fun i q=> .inl (h2 i q).1))
def opP(o:OpD)(k:Nat):List UInt8:=((opV o).take k).flatMap (fun n=>varL n.toNat)
theorem V5r(o:OpD)(k:Nat)(n:Int)(h:(opV o)[k]? =some n):opP o (k+1)=opP o k++varL n.toNat:=by
 unfold opP
 rw[List.take_add_one,h,List.flatMap_append]
 simp
theorem V0l{o:OpD}(h:OpIn o)(k:Nat):(opP o k).length≤100:=by
 have h1:=Y1m ((opV o).take k) (fun n hn=>h.nums n (List.mem_of_mem_take hn))
 have h2:((opV o).take k).length≤8:=by rw[List.length_take];exact Nat.min_le_right _ _
 unfold opP
 omega
theorem Z6x(o:OpD)(w:World)(hr: -9223372036854775808≤o.result∧o.result≤9223372036854775807):
  Calls Tryz.prog 118 #[o.val] w fun e w'=>e= .returned (.tuple #[.string (if Z2e o=0 then bts (opL o)else⟨#[]⟩),.int .i64 (Z2e o)])∧Ext w w':=by
 have cC:Hid (∀W,Calls Tryz.prog 171 #[.agg #[.int .i64 o.id,.int .i64 o.proc,.int .i64 o.object,.int .i64 o.kind,.int .i64 o.method,.int .i64 o.arg,.int .i64 o.second,.bool o.done,.int .i64 o.result,.int .i64 o.invoke,.int .i64 o.ret]] W fun e w'=>e= .returned (.int .i64 (Z2e o))∧Ext W w'):=fun W=>Y3l o W hr
 have HBX:Hid (∀W:World,Ext (w.alloc (.cells #[.int .i64 o.id,.int .i64 o.proc,.int .i64 o.object,.int .i64 o.kind,.int .i64 o.method,.int .i64 o.arg,.int .i64 o.second,.bool o.done,.int .i64 o.result,.int .i64 o.invoke,.int .i64 o.ret] 32)) W→At11 W w.heap.size o):=fun W h=>(At11.row (Row1.made w 32 o.cells)).ext h (by simp)
 have HIN:Hid (Z2e o=0→OpIn o):=OpIn.of
 obtain⟨c,hc⟩:∃c,Z2e o=c:=⟨_,rfl⟩
 rw[hc]at cC HIN
 rw[hc]
 clear hc hr
 by_cases h0:c=0
 ·subst h0
  rw[if_pos rfl]
  have HI:=hD (HIN.out rfl)
  clear HIN
  go_enter Tryz.func118,Tryz.ntmps118
  go_upto_region 5 with (go_at_call 171;(with_reducible refine(cC.out _).mono ?_);clear cC;rintro e w1 ⟨rfl,hb1⟩;have HB1:=hD hb1;clear hb1)
  obtain⟨d0,d1,d2,d3,d4,d5,d6,d7,d8,d9,d10⟩:=HBX.out (w1.alloc (.cells #[.pointer none,.slice none 0 0] 248)) (HB1.out.trans (Ext.alloc _ _))
  have HBB:Hid (BX w1 ((w1.alloc (.cells #[.pointer none,.slice none 0 0] 248)).alloc (.cells #[.int .i64 o.id,.int .i64 o.proc,.int .i64 o.object,.int .i64 o.kind,.int .i64 o.method,.int .i64 o.arg,.int .i64 o.second,.int .i64 o.invoke] 3)) w1.heap.size (w1.heap.size+1) 3 ((opV o).map (fun n=>Value.int .i64 n)) (opP o 0)):=
   ⟨fun i=>i=w1.heap.size,(BldAt.made w1).ext (Ext.alloc _ _),fun i q=>by omega,(Ext.alloc _ _).trans (Ext.alloc _ _),Row1.made' (by simp) _ _⟩
  have cS:Hid (∀(s:ByteArray) (l:List UInt8) W,s.size≤1000000→BX w1 W w1.heap.size (w1.heap.size+1) 3 ((opV o).map (fun n=>Value.int .i64 n)) l→l.length≤100000000→Calls Tryz.prog 172 #[.pointer (some ⟨w1.heap.size,0,none⟩),.string s] W fun e w'=>e= .returned (.tuple #[.int .i64 s.size,.nilIface])∧BX w1 w' w1.heap.size (w1.heap.size+1) 3 ((opV o).map (fun n=>Value.int .i64 n)) (l++s.data.toList)):=fun s l W hs hb hl=>V7u s hs hb hl
  have cV:Hid (∀(n:Nat) W,n<18446744073709551616→Calls Tryz.prog 173 #[.int .u64 n] W fun e w'=>e= .returned (.string (bts (varL n)))∧Ext W w'):=fun n W hn=>V8u n W hn
  have HVS:Hid (∀n,(bts (varL n)).size≤1000000):=fun n=>by have:=(Z7n n).2;rw[Z0h];omega
  go_wp2_with fail
  clear d0 d1 d2 d3 d4 d5 d6 d7 d8 d9 d10
  go_loopw [31] (fun i wr=>∃k:Nat,k≤8∧i= .int .i64 k∧BX w1 wr w1.heap.size (w1.heap.size+1) 3 ((opV o).map (fun n=>Value.int .i64 n)) (opP o k)) (fun i _=>8-(intOf i).toNat)
  case atStart=>exact⟨0,by omega,rfl,HBB.out⟩
  case round=>
   obtain⟨k,hk,rfl,hbw⟩:=hrel
   have HBW:=hD hbw
   have hx1:Ext w1 wr:=hbw.choose_spec.2.2.1
   have hrow:Row1 wr (w1.heap.size+1) 3 ((opV o).map (fun n=>Value.int .i64 n)):=hbw.choose_spec.2.2.2
   clear hbw
   by_cases hkl:k<8
   ·have q1:decide ((k:Int)<8)=true:=decide_eq_true (by omega)
    have hkv:k<(opV o).length:=hkl
    have c0:wr.cell? ⟨w1.heap.size+1,k,none⟩=some (.int .i64 (opV o)[k]):=by rw[hrow.cell k,List.getElem?_map,List.getElem?_eq_getElem hkv];rfl
    have hin:=HI.out.nums _ (List.getElem_mem hkv)
    have HST:=hD (V5r o k _ (List.getElem?_eq_getElem hkv))
    have hpl:=V0l HI.out k
    have HROW:=hD hrow
    have hgl:=hrow.lt
    generalize (opV o)[k]=n at *
    obtain⟨m,rfl⟩:∃m:Nat,n=m:=⟨n.toNat,by omega⟩
    have hu:IntKind.u64.wrap (m:Int)=m:=by rw[IntKind.wrap_u64];omega
    have cV1:=cV.out m wr (by omega)
    have cS1:Hid (∀W,Ext wr W→Calls Tryz.prog 172 #[.pointer (some ⟨w1.heap.size,0,none⟩),.string (bts (varL m))] W fun e w'=>e= .returned (.tuple #[.int .i64 (bts (varL m)).size,.nilIface])∧BX w1 w' w1.heap.size (w1.heap.size+1) 3 ((opV o).map (fun n=>Value.int .i64 n)) (opP o (k+1))):=fun W hW=>by
     have h1:=cS.out (bts (varL m)) (opP o k) W (HVS.out m) (HBW.out.ext hW) (by omega)
     rw[Z1o]at h1
     rw[HST.out]
     exact h1
    generalize bts (varL m)=bx at *
    clear hx1 hrow hin HST cS
    go_wp2_with (first
     | (go_at_call 173;(with_reducible refine cV1.mono ?_);clear cV1;rintro e w2 ⟨rfl,hb2⟩)
     | (go_at_call 172;(with_reducible refine(cS1.out _ hb2).mono ?_);clear cS1;rintro e w3 ⟨rfl,hb3⟩;have HB3:=hD hb3;clear hb3))
    go_roundw
    case rel=>exact⟨k+1,by omega,by go_num,HB3.out⟩
    case measure=>simp[intOf];omega
   ·obtain rfl:k=8:=by omega
    obtain⟨d0,d1,d2,d3,d4,d5,d6,d7,d8,d9,d10⟩:=HBX.out wr (HB1.out.trans hx1)
    have HX1:=hD hx1
    have HE:Hid (opP o 8=(opV o).flatMap (fun n=>varL n.toNat)):=rfl
    have cT:Hid (∀(l:List UInt8) W,BX w1 W w1.heap.size (w1.heap.size+1) 3 ((opV o).map (fun n=>Value.int .i64 n)) l→l=opL o→Calls Tryz.prog 175 #[.pointer (some ⟨w1.heap.size,0,none⟩)] W fun e w'=>e= .returned (.string (bts (opL o)))∧Ext w1 w'):=fun l W hb hl=>by
     subst hl
     exact U1c hb (V9r o)
    have hpl:=V0l HI.out 8
    clear hx1 hrow d0 d1 d2 d3 d4 d5 d6
    cases hd:o.done with
    | false=>
      rw[hd]at d7
      have cT1:=cT.out _ _ HBW.out (by unfold opL;rw[if_neg (by rw[hd];simp),List.append_nil];rfl)
      generalize hbx:bts (opL o)=bx at cT1
      go_wp2_with (go_at_call 175;(with_reducible refine cT1.mono ?_);clear cT1;rintro e w4 ⟨rfl,hb4⟩;have HB4:=hD hb4;clear hb4)
      go_ret2
      subst hbx
      exact⟨rfl,((Ext.alloc _ _).trans HB1.out).trans HB4.out⟩
    | true=>
      rw[hd]at d7
      have hy:=HI.out.yes hd
      have hiv:=HI.out.invoke
      have hre:=HI.out.result
      obtain⟨m,hm⟩:∃m:Nat,o.ret-o.invoke=m:=⟨(o.ret-o.invoke).toNat,by omega⟩
      have hu1:IntKind.i64.wrap (o.ret-o.invoke)=o.ret-o.invoke:=by rw[IntKind.wrap_i64];omega
      have hu:IntKind.u64.wrap (m:Int)=m:=by rw[IntKind.wrap_u64];omega
      have HEND:Hid (opL o=opP o 8++varL m++varL (Z4b o.result)):=by
       unfold Hid opL
       rw[if_pos hd,HE.out,hm,List.append_assoc]
       rfl
      have cV1:=cV.out m wr (by omega)
      have cV2:Hid (∀W,Calls Tryz.prog 173 #[.int .u64 (Z4b o.result)] W fun e w'=>e= .returned (.string (bts (varL (Z4b o.result))))∧Ext W w'):=fun W=>cV.out _ W (V7b (by omega) (by omega))
      have cF:Hid (∀W,Calls Tryz.prog 174 #[.int .i64 o.result] W fun e w'=>e= .returned (.int .u64 (Z4b o.result))∧W=w'):=fun W=>V7a o.result W (by omega) (by omega)
      have HQ8:Hid ((opP o 8).length≤100):=hpl
      have cS1:Hid (∀W,Ext wr W→Calls Tryz.prog 172 #[.pointer (some ⟨w1.heap.size,0,none⟩),.string (bts (varL m))] W fun e w'=>e= .returned (.tuple #[.int .i64 (bts (varL m)).size,.nilIface])∧BX w1 w' w1.heap.size (w1.heap.size+1) 3 ((opV o).map (fun n=>Value.int .i64 n)) (opP o 8++varL m)):=fun W hW=>by
       have h1:=cS.out (bts (varL m)) (opP o 8) W (HVS.out m) (HBW.out.ext hW) (by have:=HQ8.out;omega)
       rw[Z1o]at h1
       exact h1
      have cS2:Hid (∀W,BX w1 W w1.heap.size (w1.heap.size+1) 3 ((opV o).map (fun n=>Value.int .i64 n)) (opP o 8++varL m)→Calls Tryz.prog 172 #[.pointer (some ⟨w1.heap.size,0,none⟩),.string (bts (varL (Z4b o.result)))] W fun e w'=>e= .returned (.tuple #[.int .i64 (bts (varL (Z4b o.result))).size,.nilIface])∧BX w1 w' w1.heap.size (w1.heap.size+1) 3 ((opV o).map (fun n=>Value.int .i64 n)) (opL o)):=fun W hW=>by
       have h1:=cS.out (bts (varL (Z4b o.result))) (opP o 8++varL m) W (HVS.out _) hW (by have:=HQ8.out;have:=(Z7n m).2;rw[List.length_append];omega)
       rw[Z1o]at h1
       rw[HEND.out]
       exact h1
      have cT1:Hid (∀W,BX w1 W w1.heap.size (w1.heap.size+1) 3 ((opV o).map (fun n=>Value.int .i64 n)) (opL o)→Calls Tryz.prog 175 #[.pointer (some ⟨w1.heap.size,0,none⟩)] W fun e w'=>e= .returned (.string (bts (opL o)))∧Ext w1 w'):=fun W hW=>cT.out _ W hW rfl
      have HAX:Hid (∀(W:World) (l:List UInt8),BX w1 W w1.heap.size (w1.heap.size+1) 3 ((opV o).map (fun n=>Value.int .i64 n)) l→W.cell? ⟨w.heap.size,8,none⟩=some (.int .i64 o.result)):=fun W l ⟨_,_,_,hx,_⟩=>(HBX.out W (HB1.out.trans hx)).2.2.2.2.2.2.2.2.1
      generalize hbx:bts (opL o)=bx at cT1
      generalize bts (varL (Z4b o.result))=by2 at *
      generalize Z4b o.result=fr at *
      generalize bts (varL m)=by1 at *
      obtain⟨hy1,hy2⟩:=hy
      have hu:IntKind.u64.wrap (o.ret-o.invoke)=m:=by rw[hm];exact hu
      clear cT cS cV HEND
      go_wp2_with (first
       | (go_at_call 173;(with_reducible refine cV1.mono ?_);clear cV1;rintro e w2 ⟨rfl,hb2⟩)
       | (go_at_call 172;(with_reducible refine(cS1.out _ hb2).mono ?_);clear cS1;rintro e w3 ⟨rfl,hb3⟩;have e8:=HAX.out _ _ hb3)
       | (go_at_call 174;(with_reducible refine(cF.out _).mono ?_);clear cF;rintro e w4 ⟨rfl,rfl⟩)
       | (go_at_call 173;(with_reducible refine(cV2.out _).mono ?_);clear cV2;rintro e w5 ⟨rfl,hb5⟩;have hb6:=hb3.ext hb5)
       | (go_at_call 172;(with_reducible refine(cS2.out _ hb6).mono ?_);clear cS2;rintro e w7 ⟨rfl,hb7⟩)
       | (go_at_call 175;(with_reducible refine(cT1.out _ hb7).mono ?_);clear cT1;rintro e w8 ⟨rfl,hb8⟩;have HB4:=hD hb8))
      go_ret2
      subst hbx
      exact⟨rfl,((Ext.alloc _ _).trans HB1.out).trans HB4.out⟩
 ·rw[if_neg h0]
  have q1:decide (c=0)=false:=decide_eq_false h0
  go_enter Tryz.func118,Tryz.ntmps118
  go_wp2_with (go_at_call 171;(with_reducible refine(cC.out _).mono ?_);clear cC;rintro e w1 ⟨rfl,hb1⟩;have HB1:=hD hb1;clear hb1)
  go_ret2
  exact⟨rfl,(Ext.alloc _ _).trans HB1.out⟩
abbrev U0u(w:World)(r:Nat)(s:ByteArray)(ok:Bool):Prop:=Row1 w r 270 [.string s,.bool ok]
theorem V7w(a b:List UInt8):(bts (a++b)).extract a.length (bts (a++b)).size=bts b:=by
 rw[ByteArray.ext_iff,ByteArray.data_extract,Z0h]
 apply Array.ext'
 simp[bts]
theorem Y5o{r:Nat}(n:Nat)(t:List UInt8)(w:World)(h:U0u w r (bts (varL n++t)) true)(hn:n≤1099511627776)(ht:t.length≤1000000):
  Calls Tryz.prog 190 #[.pointer (some ⟨r,0,none⟩)] w fun e w'=>e= .returned (.int .i64 n)∧U0u w' r (bts t) true∧Only (fun i=>i=r) w w':=by
 have hv:=Z7n n
 have hsz:(bts (varL n++t)).size=(varL n).length+t.length:=by rw[Z0h,List.length_append]
 have cU:=X8o (bts (varL n++t)) (by omega) w
 rw[Z1o,X5m (by omega) t]at cU
 have hex:=V7w (varL n) t
 generalize bts (varL n++t)=s at *
 generalize (varL n).length=k at *
 have c0:w.cell? ⟨r,0,none⟩=some (.string s):=h.cell 0
 have c1:w.cell? ⟨r,1,none⟩=some (.bool true):=h.cell 1
 have f0:w.frozen? ⟨r,0,none⟩=false:=h.soft 0
 have f1:w.frozen? ⟨r,1,none⟩=false:=h.soft 1
 have HR:=hD h
 clear h
 have q1:decide ((0:Int)<(k:Int))=true:=decide_eq_true (by omega)
 have q2:decide ((n:Int)≤1099511627776)=true:=decide_eq_true (by omega)
 have hks:k≤s.size:=by omega
 have hu:IntKind.i64.wrap (n:Int)=n:=by rw[IntKind.wrap_i64];omega
 have HO:Hid (∀(o9:Bool) (s9:ByteArray),Only (fun i=>i=r) w ((w.setCell ⟨r,1,none⟩ (.bool o9)).setCell ⟨r,0,none⟩ (.string s9))):=fun o9 s9=>(Only.setCell (F:=fun i=>i=r) (p:=⟨r,1,none⟩) Only.refl (.inl rfl) _).setCell (p:=⟨r,0,none⟩) (.inl rfl) _
 have HEX:=hD hex
 clear hex hsz
 go_enter Tryz.func190,Tryz.ntmps190
 go_wp2_with (go_at_call 230;(with_reducible refine cU.mono ?_);clear cU;rintro e w1 ⟨rfl,rfl⟩)
 go_ret
 refine⟨rfl,?_,HO.out _ _⟩
 have h9:=(HR.out.set 1 (.bool true)).set 0 (.string (s.extract k s.size))
 rw[←HEX.out]
 exact h9
end Go.Proofs.YtmiolpfanlpfnaaGreat
