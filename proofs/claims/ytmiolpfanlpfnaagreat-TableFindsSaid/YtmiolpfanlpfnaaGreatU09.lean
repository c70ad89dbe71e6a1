/- A store as data, and in memory: ready, Len, Read. Conditions: a store whose disk has power. -/
import Derived.Test.YtmiolpfanlpfnaaGreatU08
set_option maxRecDepth 100000
set_option maxHeartbeats 4000000
set_option linter.unusedSimpArgs false
set_option linter.unusedVariables false
namespace Go.Proofs.YtmiolpfanlpfnaaGreat
open Go.RowKit
structure StoreD where
 disk:DiskD
 head:HeadD
 dirty:Int→Option ByteArray
 dead:Bool
structure StoreWf (S:StoreD):Prop where
 fits:FitsH S.disk.blocks.length S.head
 dirty:∀x b,S.dirty x=some b→0≤x∧x<S.head.pages∧b.size=256
theorem StoreWf.small{S:StoreD}(h:StoreWf S):Small 1024 S.dirty:=fun x hx=>by
 obtain⟨b,hb⟩:=Option.isSome_iff_exists.1 hx
 have h1:=h.dirty x b hb
 have h2:=h.fits.most
 omega
def encB(b:ByteArray):Value:= .string b
structure StoreAs (w:World) (s:Nat) (F:Nat→Prop) (S:StoreD) (g m:Nat):Prop where
 row:Row1 w s 175 [.pointer (some ⟨g,0,none⟩),.int .u64 S.head.seq,.int .i64 S.head.used,.int .i64 S.head.room,.int .i64 S.head.pages,.map (some m),.bool S.dead]
 disk:DiskAt w g F S.disk
 map:MapI w 3 m 1024 encB S.dirty
 fs:F s
 fm:F m
 wf:StoreWf S
def StoreAt(w:World)(s:Nat)(F:Nat→Prop)(S:StoreD):Prop:=∃g m,StoreAs w s F S g m
section
variable {w w':World} {s:Nat} {F F' G:Nat→Prop} {S:StoreD} {g m:Nat}
theorem StoreAs.only(h:StoreAs w s F S g m)(hb:Only G w w')(hG:∀i,F i→¬G i):StoreAs w' s F S g m:=
 ⟨hb.row h.row (hG s h.fs),h.disk.only hb hG,hb.map h.map (hG m h.fm),h.fs,h.fm,h.wf⟩
theorem StoreAs.ext(h:StoreAs w s F S g m)(hb:Ext w w'):StoreAs w' s F S g m:=h.only (G:=fun _=>False) (Only.of hb) (fun _ _ q=>q)
theorem StoreAs.shrink(h:StoreAs w s F S g m):StoreAs w s (fun i=>F i∧i<w.heap.size) S g m:=⟨h.row,h.disk.shrink,h.map,⟨h.fs,h.row.lt⟩,⟨h.fm,h.map.lt⟩,h.wf⟩
theorem StoreAt.only(h:StoreAt w s F S)(hb:Only G w w')(hG:∀i,F i→¬G i):StoreAt w' s F S:=let ⟨_,_,h⟩:=h;⟨_,_,h.only hb hG⟩
theorem StoreAt.ext(h:StoreAt w s F S)(hb:Ext w w'):StoreAt w' s F S:=let ⟨_,_,h⟩:=h;⟨_,_,h.ext hb⟩
theorem StoreAt.shrink(h:StoreAt w s F S):StoreAt w s (fun i=>F i∧i<w.heap.size) S:=let ⟨_,_,h⟩:=h;⟨_,_,h.shrink⟩
theorem StoreAt.wf(h:StoreAt w s F S):StoreWf S:=let ⟨_,_,h⟩:=h;h.wf
end
theorem Y4n{D:DiskD}(h:DiskWf D)(n:Nat):(Z0x D n).size=256:=by
 unfold Z0x Z2v
 have h0:(D.blocks[n]?.getD zeroB).size=256:=by
  cases hb:D.blocks[n]? with
  | none=>exact Z4i
  | some b=>exact h.size b (List.mem_of_getElem? hb)
 have hl:=h.late
 generalize D.blocks[n]?.getD zeroB=s at h0
 generalize D.late=l at hl
 induction l generalizing s with
 | nil=>exact h0
 | cons p r ih=>
   rw[List.foldl_cons]
   exact ih _ (by split;exact(hl p (by simp)).2;exact h0) (fun q hq=>hl q (by simp[hq]))
def Z1a(S:StoreD)(n:Nat):ByteArray:=(S.dirty n).getD (Z0x S.disk (2+S.head.room+n))
def Live(S:StoreD):Prop:=S.dead=false∧S.disk.dead=false
theorem X5l{w:World}{s:Nat}{F:Nat→Prop}{S:StoreD}(h:StoreAt w s F S)(n:Nat):(Z1a S n).size=256:=by
 obtain⟨g,m,h⟩:=h
 unfold Z1a
 cases hd:S.dirty n with
 | none=>exact Y4n h.disk.wf _
 | some b=>exact(h.wf.dirty _ _ hd).2.2
def Y9e(S:StoreD)(n:Int):Int:=if S.dead=true then 11 else if n<0∨(S.head.pages:Int)≤n then 10 else 0
theorem Y0j{s:Nat}{F:Nat→Prop}{S:StoreD}(n:Int)(w:World)(h:StoreAt w s F S):
  Calls Tryz.prog 167 #[.pointer (some ⟨s,0,none⟩),.int .i64 n] w fun e w'=>e= .returned (.int .i64 (Y9e S n))∧w=w':=by
 obtain⟨g,m,h⟩:=h
 have c0:w.cell? ⟨s,0,none⟩=some (.pointer (some ⟨g,0,none⟩)):=h.row.cell 0
 obtain⟨pa,hpa⟩:∃pa,S.head.pages=pa:=⟨_,rfl⟩
 have c4:w.cell? ⟨s,4,none⟩=some (.int .i64 pa):=by rw[←hpa];exact h.row.cell 4
 obtain⟨dd,hdd⟩:∃dd,S.dead=dd:=⟨_,rfl⟩
 have c6:w.cell? ⟨s,6,none⟩=some (.bool dd):=by rw[←hdd];exact h.row.cell 6
 have HR:Hid (Y9e S n=if dd=true then 11 else if n<0∨(pa:Int)≤n then 10 else 0):=by unfold Hid Y9e;rw[hpa,hdd]
 rw[HR.out]
 clear h hpa hdd HR
 cases dd
 ·by_cases hn:n<0
  ·have q1:decide (n<0)=true:=decide_eq_true hn
   go_enter Tryz.func167,Tryz.ntmps167
   go_wp2_with fail
   go_ret
   exact⟨by simp[hn],rfl⟩
  ·have q1:decide (n<0)=false:=decide_eq_false hn
   by_cases hm:(pa:Int)≤n
   ·have q2:decide ((pa:Int)≤n)=true:=decide_eq_true hm
    go_enter Tryz.func167,Tryz.ntmps167
    go_wp2_with fail
    go_ret
    exact⟨by simp[hm],rfl⟩
   ·have q2:decide ((pa:Int)≤n)=false:=decide_eq_false hm
    go_enter Tryz.func167,Tryz.ntmps167
    go_wp2_with fail
    go_ret
    exact⟨by simp[hn,hm],rfl⟩
 ·go_enter Tryz.func167,Tryz.ntmps167
  go_wp2_with fail
  go_ret
  exact⟨by simp,rfl⟩
theorem Z4x{s:Nat}{F:Nat→Prop}{S:StoreD}(w:World)(h:StoreAt w s F S):
  Calls Tryz.prog 113 #[.pointer (some ⟨s,0,none⟩)] w fun e w'=>e= .returned (.int .i64 S.head.pages)∧w=w':=by
 obtain⟨g,m,h⟩:=h
 have c4:w.cell? ⟨s,4,none⟩=some (.int .i64 S.head.pages):=h.row.cell 4
 clear h
 go_enter Tryz.func113,Tryz.ntmps113
 go_wp2_with fail
 go_ret
 exact⟨rfl,rfl⟩
theorem Y2z{S:StoreD}{n:Nat}(h1:S.dead=false)(h2:n<S.head.pages):Y9e S n=0:=by
 unfold Y9e
 rw[h1,if_neg (by simp),if_neg (by omega)]
theorem Tryz.zeroStr(w:World):(zeroValue 9).run Tryz.prog w= .ok (.string ⟨#[]⟩) w:=by kernel_rfl
theorem V8t{n:Nat}(h:n<1000000):(Lit.int .i64 (n:Int)).wf=true:=by
 have e1:IntKind.i64.min= -9223372036854775808:=by decide
 have e2:IntKind.i64.max=9223372036854775807:=by decide
 simp only[Lit.wf,e1,e2,Bool.and_eq_true,decide_eq_true_eq]
 omega
theorem Z9a{s:Nat}{F:Nat→Prop}{S:StoreD}(n:Nat)(w:World)(h:StoreAt w s F S)(hL:Live S)(hn:n<S.head.pages):
  Calls Tryz.prog 110 #[.pointer (some ⟨s,0,none⟩),.int .i64 n] w fun e w'=>e= .returned (.tuple #[.string (Z1a S n),.int .i64 0])∧Ext w w':=by
 have hr:=Y0j (n:Int) w h
 rw[Y2z hL.1 hn]at hr
 obtain⟨g,m,h⟩:=h
 have hm:=h.wf.fits.most
 have hft:=h.wf.fits.fits
 have hl:=(h.map.look (t:=173) (e:=9) Tryz.underlying3 Tryz.underlying173 (Tryz.zeroStr w) (V8t (n:=n) (by omega)))
 have c0:w.cell? ⟨s,0,none⟩=some (.pointer (some ⟨g,0,none⟩)):=h.row.cell 0
 have c3:w.cell? ⟨s,3,none⟩=some (.int .i64 S.head.room):=h.row.cell 3
 have c5:w.cell? ⟨s,5,none⟩=some (.map (some m)):=h.row.cell 5
 have HV:Hid (Z1a S n=(S.dirty n).getD (Z0x S.disk (2+S.head.room+n))):=rfl
 cases hd:S.dirty n with
 | some b=>
   rw[hd]at hl HV
   simp only[Option.map_some,Option.getD_some,Option.isSome_some,encB]at hl HV
   rw[HV.out]
   clear h hd HV
   go_enter Tryz.func110,Tryz.ntmps110
   go_wp2_with (go_at_call 167;refine hr.mono ?_;clear hr;rintro e w1 ⟨rfl,rfl⟩)
   go_ret2
   exact⟨rfl,Ext.refl _⟩
 | none=>
   rw[hd]at hl HV
   simp only[Option.map_none,Option.getD_none,Option.isSome_none]at hl HV
   rw[HV.out]
   have cR:Hid (∀W,Ext w W→Calls Tryz.prog 104 #[.pointer (some ⟨g,0,none⟩),.int .i64 ((2:Int)+S.head.room+n)] W fun e w'=>e= .returned (.tuple #[.string (Z0x S.disk (2+S.head.room+n)),.int .i64 0])∧Ext W w'):=fun W hW=>Z8p (2+S.head.room+n) W (h.disk.ext hW) hL.2 (by omega)
   have HKS:Hid (∀W,Ext w W→W.cell? ⟨s,0,none⟩=some (.pointer (some ⟨g,0,none⟩))∧W.cell? ⟨s,3,none⟩=some (.int .i64 S.head.room)):=fun W hW=>⟨((h.ext hW).row).cell 0,((h.ext hW).row).cell 3⟩
   obtain⟨ro,hro⟩:∃ro,S.head.room=ro:=⟨_,rfl⟩
   rw[hro]at cR HKS c3 hft ⊢
   obtain⟨bk,hbk⟩:∃bk,Z0x S.disk (2+ro+n)=bk:=⟨_,rfl⟩
   rw[hbk]at cR ⊢
   have hmany:=h.disk.wf.many
   have hro2:(ro:Int)<2048:=by omega
   have hn2:(n:Int)<1024:=by omega
   have u1:IntKind.i64.wrap ((2:Int)+ro)=2+ro:=by rw[IntKind.wrap_i64];omega
   have u2:IntKind.i64.wrap ((2:Int)+ro+n)=2+ro+n:=by rw[IntKind.wrap_i64];omega
   clear h hd HV hro hbk
   go_enter Tryz.func110,Tryz.ntmps110
   go_upto_region 7 with (go_at_call 167;refine hr.mono ?_;clear hr;rintro e w1 ⟨rfl,rfl⟩)
   refine wp_region_held_drew (S:=fun W=>W.cell? ⟨s,0,none⟩=some (.pointer (some ⟨g,0,none⟩))∧W.cell? ⟨s,3,none⟩=some (.int .i64 ro)) (by kernel_rfl) (HKS.out _ (by exact Xt)) (fun hHeld=> ?_)
   refine' tk 0 ?_
   refine' tk 1 ?_
   refine' tk 2 ?_
   refine' tk 3 ?_
   refine' tk 4 ?_
   refine' tk 5 ?_
   refine' tk 6 ?_
   refine' tk 7 ?_
   refine' tk 8 ?_
   refine' tk 9 ?_
   refine' tk 10 ?_
   refine' tk 11 ?_
   refine stp 12 (fun K hK=> ?_);go_simp
   (with_reducible refine(cR.out _ ?_).mono ?_)
   ·exact Xt
   rintro e w2 ⟨rfl,hb2⟩
   have HB:Hid (Ext w w2):=Ext.trans (by exact Xt) hb2
   clear hb2
   (try dsimp only)
   (try go_simp)
   refine hK.out _ _ (HKS.out _ HB.out) (fun hHeld=> ?_)
   clear hK K
   refine pt ?_
   refine' tk 13 ?_
   refine' tk 14 ?_
   refine' tk 15 ?_
   refine' tk 16 ?_
   refine' tk 17 ?_
   refine wpAnyH_done (by kernel_rfl) ?_ _
   go_wp2_with fail
   go_ret2
   exact⟨rfl,HB.out⟩
theorem Y2d(s:ByteArray)(k:Nat)(hk:k=256-s.size)(hs:s.size≤256):s++bts (List.replicate k 0)=padB s:=by
 unfold padB
 congr 1
 rw[ByteArray.ext_iff,ByteArray.data_extract,V3n]
 simp only[zeroB]
 subst hk
 apply Array.ext
 ·simp
 ·intro i h1 h2
  simp
def putP(S:StoreD)(n:Nat)(s:ByteArray):StoreD:= { S with dirty:=updI S.dirty n (some (padB s))}
theorem V9g{S:StoreD}(h:StoreWf S){n:Nat}{s:ByteArray}(hn:n<S.head.pages)(hs:s.size≤256):StoreWf (putP S n s):=
 ⟨h.fits,fun x b hb=>by
   unfold putP at hb ⊢
   dsimp only at hb ⊢
   by_cases e:x=n
   ·subst e
    rw[Z8y]at hb
    injection hb with hb
    subst hb
    exact⟨by omega,by omega,Z6v s hs⟩
   ·rw[Z3i _ _ e]at hb
    exact h.dirty x b hb⟩
theorem Z2b(S:StoreD)(n:Nat)(s:ByteArray)(i:Nat):Z1a (putP S n s) i=if i=n then padB s else Z1a S i:=by
 unfold Z1a putP
 dsimp only
 by_cases e:i=n
 ·subst e;rw[Z8y,if_pos rfl];rfl
 ·rw[Z3i _ _ (by omega),if_neg e]
theorem X4b{S:StoreD}(h:Live S)(n:Nat)(s:ByteArray):Live (putP S n s):=h
theorem Y9b(w:World)(n:Nat)(hn:n≤1000000000):∃w',(Instr.makeSlice 227 (.int .i64 (n:Int)) (.int .i64 (n:Int))).run Tryz.prog w= .ok (.slice (some ⟨w.heap.size,0,none⟩) n n) w'∧OwnB w' w.heap.size (.slice (some ⟨w.heap.size,0,none⟩) n n) (List.replicate n 0)∧Ext w w':=by
 obtain⟨i,hi,hz,hs,hb⟩:=info_parts Tryz.elemU8
 obtain⟨w',h,h1,h2⟩:=run_make_full (P:=Tryz.prog) w w.heap.size 227 5 i (.int .u8 0) 1 Tryz.underlying227 hi hz hs .i64 .i64 n (by rw[hb];omega) (by simp[maxLen];omega) (Nat.le_refl _)
 refine⟨w',h,?_,⟨h2.os,h2.tape,h2.output,h2.size,fun k hk=>h2.block k hk (by simp)⟩⟩
 rw[V8g]at h1
 unfold OwnB OwnL
 rw[List.length_replicate]
 exact h1
theorem Row1.notMap{α:Type}{enc:α→Value}{f:Int→Option α}{w:World}{k t:TypeId}{s b n:Nat}{cs:List Value}(h:Row1 w s t cs)(hm:MapI w k b n enc f):s≠b:=fun e=>by
 obtain⟨D,⟨es,clock,hb,_⟩,_⟩:=hm
 subst e
 have:=h.symm.trans hb
 cases this
theorem OwnL.notMap{α β:Type}{w:World}{base sz:Nat}{e k:TypeId}{enc:α→List Value}{v:Value}{l:List α}{enc':β→Value}{f:Int→Option β}{b n:Nat}(h:OwnL w base e sz enc v l)(hm:MapI w k b n enc' f):v.ownBlock≠some b:=fun q=>by
 obtain⟨cur,hc⟩:=Z9h h q
 obtain⟨D,⟨es,clock,hb,_⟩,_⟩:=hm
 have:=hc.symm.trans hb
 cases this
theorem DiskAt.butMap{β:Type}{enc':β→Value}{f:Int→Option β}{w w':World}{g:Nat}{F:Nat→Prop}{D:DiskD}{k:TypeId}{b n:Nat}(h:DiskAt w g F D)(hm:MapI w k b n enc' f)(hb:But b w w'):DiskAt w' g F D:=by
 obtain⟨bv,lv,h⟩:=h
 have ho:Only (fun i=>i=b) w w':=Only.but hb (.inl rfl)
 exact⟨bv,lv,⟨ho.row h.row (h.row.notMap hm),h.blocks.only ho (fun k hk q=>h.blocks.notMap hm (by rw[hk,q])),h.late.only ho (fun k hk q=>h.late.notMap hm (by rw[hk,q])),h.fg,h.fb,h.fl,h.wf⟩⟩
theorem MapI.storeT{α:Type}{enc:α→Value}{f:Int→Option α}{w:World}{k t e:TypeId}{b:Nat}{N:Nat}(h:MapI w k b N enc f)(hk:Tryz.prog.underlying k=some (.int .i64))(ht:Tryz.prog.underlying t=some (.map k e))(hN:N≤1000000){x:Nat}(hx:x<N)(hf:Small N f)(a:α){V:Value}(hV:V=enc a):
  ∃w',(Instr.mapUpdate t (.map (some b)) (.int .i64 x) V).run Tryz.prog w= .ok () w'∧MapI w' k b N enc (updI f x (some a))∧But b w w':=by
 obtain⟨w',h1,h2,h3⟩:=h.store hk ht (by omega) (V8t (n:=x) (by omega)) a hV
 refine⟨w',h1,h2.tight hk (fun y hy=> ?_),Y7l h3⟩
 by_cases e:y=x
 ·subst e;omega
 ·rw[Z3i _ _ e]at hy;exact hf y hy
theorem Y4t{s:Nat}{F:Nat→Prop}{S:StoreD}(n:Nat)(d:ByteArray)(w:World)(h:StoreAt w s F S)(hL:Live S)(hn:n<S.head.pages)(hs:d.size≤256):
  Calls Tryz.prog 169 #[.pointer (some ⟨s,0,none⟩),.int .i64 n,.string d] w fun e w'=>e= .returned (.int .i64 0)∧StoreAt w' s F (putP S n d)∧Only F w w':=by
 have hr:=Y0j (n:Int) w h
 rw[Y2z hL.1 hn]at hr
 obtain⟨g,m,h⟩:=h
 have hm:=h.wf.fits.most
 have HH:=hD h
 have c5:w.cell? ⟨s,5,none⟩=some (.map (some m)):=h.row.cell 5
 have HKS:Hid (∀W,Ext w W→W.cell? ⟨s,5,none⟩=some (.map (some m))):=fun W hW=>((h.ext hW).row).cell 5
 have q1:decide (256<(d.size:Int))=false:=decide_eq_false (by omega)
 have hs1:(d.size:Int)≤256:=by omega
 obtain⟨k,hk⟩:∃k:Nat,k=256-d.size:=⟨_,rfl⟩
 have u1:IntKind.i64.wrap ((256:Int)-d.size)=(k:Int):=by rw[IntKind.wrap_i64];omega
 have hkl:k≤256:=by omega
 have HPB:=hD (Y2d d k hk hs)
 have hq:¬9223372036854775807<d.size+(bts (List.replicate k 0)).size:=by rw[Z0h,List.length_replicate];omega
 clear h hk
 go_enter Tryz.func169,Tryz.ntmps169
 go_upto_region 6 with (go_at_call 167;refine hr.mono ?_;clear hr;rintro e w1 ⟨rfl,rfl⟩)
 refine wp_region_held_drew (S:=fun W=>W.cell? ⟨s,5,none⟩=some (.map (some m))) (by kernel_rfl) (HKS.out _ (by exact Xt)) (fun hHeld=> ?_)
 refine' tk 0 ?_
 refine' tk 1 ?_
 refine' tk 2 ?_
 refine' tk 3 ?_
 refine' tk 4 ?_
 refine' tk 5 ?_
 refine' tk 6 ?_
 refine' tk 7 ?_
 refine' tk 8 ?_
 refine stp 9 (fun K hK=> ?_);go_simp
 obtain⟨w2,hrun,ho2,hb2⟩:=Y9b w.drew k (by omega)
 rw[hrun]
 simp only[Result.andThen]
 rw[Oper.upon_value]
 have HB:Hid (Ext w w2):=Ext.trans (by exact Xt) hb2
 have hc2:Sem.run Tryz.prog (convert 227 9 (.slice (some ⟨w.heap.size,0,none⟩) k k)) w2=_:=ho2.text
 clear hrun hb2 ho2
 refine hK.out _ _ (HKS.out _ HB.out) (fun hHeld=> ?_)
 clear hK K
 refine pt ?_
 refine stp 10 (fun K hK=> ?_);go_simp
 skip
 refine hK.out _ _ (HKS.out _ HB.out) (fun hHeld=> ?_)
 clear hK K
 refine pt ?_
 refine' tk 11 ?_
 refine stp 12 (fun K hK=> ?_);go_simp
 rw[HPB.out]
 obtain⟨w3,hrun,hm3,hb3⟩:=(HH.out.ext HB.out).map.storeT (t:=173) (e:=9) Tryz.underlying3 Tryz.underlying173 (by omega) (x:=n) (by omega) HH.out.wf.small (padB d) (V:= .string (padB d)) rfl
 rw[hrun]
 simp only[Result.andThen]
 rw[Oper.upon_skip]
 have hne:s≠m:=HH.out.row.notMap HH.out.map
 have HB:Hid (Only F w w3∧But m w2 w3∧Ext w w2):=⟨(Only.of HB.out).turn hb3 (.inl HH.out.fm),hb3,HB.out⟩
 have HR:=hD ((HH.out.ext HB.out.2.2).row.grown hb3 (by simpa using hne))
 have HM:=hD hm3
 clear hb3 hrun hm3
 refine hK.out _ _ (HR.out.cell 5) (fun hHeld=> ?_)
 clear hK K
 refine pt ?_
 refine wpAnyH_done (by kernel_rfl) ?_ _
 go_wp2_with fail
 go_ret
 refine⟨rfl,⟨g,m,HR.out,?_,HM.out,HH.out.fs,HH.out.fm,V9g HH.out.wf hn hs⟩,HB.out.1⟩
 exact(HH.out.ext HB.out.2.2).disk.butMap (HH.out.ext HB.out.2.2).map HB.out.2.1
def hdsN(n:Nat):Nat:=(4*n+259)/256
theorem Y5u(n:Nat)(w:World)(hn:n≤1000000):Calls Tryz.prog 165 #[.int .i64 n] w fun e w'=>e= .returned (.int .i64 (hdsN n))∧w=w':=by
 have HH:Hid (((4*(n:Int)+4+256-1)/256:Int)=(hdsN n:Int)):=by unfold Hid hdsN;omega
 go_enter Tryz.func165,Tryz.ntmps165
 go_wp2_with fail
 go_ret
 refine⟨?_,rfl⟩
 exact congrArg (fun x=>Ending.returned (Value.int .i64 x)) HH.out
theorem X1u(n:Nat)(w:World)(hn:n≤1000000):Calls Tryz.prog 163 #[.int .i64 n] w fun e w'=>e= .returned (.int .i64 ((hdsN n+n:Nat):Int))∧w=w':=by
 have c1:=Y5u n w hn
 obtain⟨h,hh⟩:∃h,hdsN n=h:=⟨_,rfl⟩
 have hh2:h≤1000000:=by unfold hdsN at hh;omega
 rw[hh]at c1 ⊢
 clear hh
 go_enter Tryz.func163,Tryz.ntmps163
 go_wp2_with (go_at_call 165;refine c1.mono ?_;clear c1;rintro e w1 ⟨rfl,rfl⟩)
 go_ret
 refine⟨?_,rfl⟩
 exact congrArg (fun x=>Ending.returned (Value.int .i64 x)) (by omega)
theorem X0c(s:ByteArray)(w:World)(hs:s.size≤256):Calls Tryz.prog 284 #[.string s] w fun e w'=>e= .returned (.string (padB s))∧Ext w w':=by
 obtain⟨k,hk⟩:∃k:Nat,k=256-s.size:=⟨_,rfl⟩
 have u1:IntKind.i64.wrap ((256:Int)-s.size)=(k:Int):=by rw[IntKind.wrap_i64];omega
 have hkl:k≤256:=by omega
 have HPB:=hD (Y2d s k hk hs)
 have hq:¬9223372036854775807<s.size+(bts (List.replicate k 0)).size:=by rw[Z0h,List.length_replicate];omega
 clear hk
 obtain⟨w2,hrun,ho2,hb2⟩:=Y9b w k (by omega)
 have hc2:Sem.run Tryz.prog (convert 227 9 (.slice (some ⟨w.heap.size,0,none⟩) k k)) w2=_:=ho2.text
 have HB:=hD hb2
 clear ho2 hb2
 go_enter Tryz.func284,Tryz.ntmps284
 go_wp2_with fail
 go_ret
 exact⟨by rw[HPB.out];rfl,HB.out⟩
theorem MapI.alloc'{α:Type}{enc:α→Value}{f:Int→Option α}{w:World}{k:TypeId}{b n:Nat}(h:MapI w k b n enc f)(o:Obj):MapI (w.alloc o) k b n enc f:=h.ext (Ext.alloc w o)
def Y9t:Int→Option ByteArray:=fun _=>none
theorem X5w{g:Nat}{F:Nat→Prop}{D:DiskD}(h:HeadD)(w:World)(hd:DiskAt w g F D)(hde:D.dead=false)(hN:2≤D.blocks.length)(jH:∀i,i<2→X5e D.blocks.length (Z0x D i))(hnew:Y0r D=(h,true))(hu:h.used=0):
  Calls Tryz.prog 51 #[.pointer (some ⟨g,0,none⟩)] w fun e w'=>∃s F',e= .returned (.tuple #[.pointer (some ⟨s,0,none⟩),.int .i64 0])∧StoreAt w' s F' ⟨D,h,Y9t,false⟩∧Keeps F F' w w'∧w.heap.size≤s:=by
 have hok:=Y8d D jH 2 (by omega)
 have hn2:Z3p D 2=(h,true):=hnew
 rw[hn2]at hok
 have hfit:=hok.2 rfl
 have cN:=X6p w hd hde hN jH (fun i=>Y4n hd.wf i)
 have he:Y3o D=0:=by unfold Y3o;rw[hnew];rfl
 rw[he,hnew]at cN
 have HD:=hD hd
 obtain⟨s,us,ro,pa⟩:=h
 dsimp only at hu
 subst hu
 have cN:Calls Tryz.prog 107 #[.pointer (some ⟨g,0,none⟩)] w fun e w'=>e= .returned (.tuple #[.agg #[.int .u64 s,.int .i64 0,.int .i64 ro,.int .i64 pa],.int .i64 0])∧Ext w w':=cN
 have HF:=hD hfit
 clear hd hnew hn2 hok he hfit
 have hmm:= @run_makeMap Tryz.prog
 go_enter Tryz.func51,Tryz.ntmps51
 go_wp2_with (go_at_call 107;refine cN.mono ?_;clear cN;rintro e w1 ⟨rfl,hb1⟩)
 go_ret2
 have hz:=hb1.size
 have hE1:Ext w (w1.alloc (.cells #[.int .u64 s,.int .i64 0,.int .i64 ro,.int .i64 pa] 170)):=by exact Xx (hb1)
 generalize hw2:w1.alloc (.cells #[.int .u64 s,.int .i64 0,.int .i64 ro,.int .i64 pa] 170)=w2 at *
 have hz2:w2.heap.size=w1.heap.size+1:=by rw[←hw2];simp
 rw[←hz2]
 have hm:=((MapI.made w2 3 encB).alloc' (.cells #[.pointer (some ⟨g,0,none⟩),.int .u64 s,.int .i64 0,.int .i64 ro,.int .i64 pa,.map (some w2.heap.size),.bool false] 175)).mono (m:=1024) (by omega)
 have hX:Ext w ((w2.alloc (.map #[] 0)).alloc (.cells #[.pointer (some ⟨g,0,none⟩),.int .u64 s,.int .i64 0,.int .i64 ro,.int .i64 pa,.map (some w2.heap.size),.bool false] 175)):=by
  have:=hE1.size
  exact Xx (hE1)
 refine⟨w2.heap.size+1,fun i=>F i∨w2.heap.size≤i,rfl,⟨g,w2.heap.size,Row1.made' (by simp) _ _,(HD.out.ext hX).mono (fun i q=> .inl q),hm,.inr (by omega),.inr (by omega),⟨HF.out,fun x b hb=>by cases hb⟩⟩,⟨by rw[←hw2]at hX ⊢;exact Only.of hX,fun i q=>by
  rcases q with q | q
  ·exact .inl q
  ·exact .inr (by have:=hE1.size;omega)⟩,by have:=hE1.size;omega⟩
end Go.Proofs.YtmiolpfanlpfnaaGreat
