/- slices.SortFunc at pages: sorted by their numbers. Conditions: fewer than 10^9. -/
import Derived.Test.YtohaldfnmgcofaaGreatT16
import Derived.Test.YtohaldfnmgcofaaGreatT35
import Derived.Test.YtohaldfnmgcofaaGreatLaidP
import Derived.Shelf.SlSortCmp.NoneTotal
set_option maxRecDepth 100000
set_option maxHeartbeats 4000000
set_option linter.unusedSimpArgs false
set_option linter.unusedVariables false
namespace Go.Proofs.YtohaldfnmgcofaaGreat
section
open Go.RowKit Go.Sort Go.Shelf Go.Proofs
instance:Inhabited (Nat×ByteArray):=⟨(0,⟨#[]⟩)⟩
theorem Y7s(a b:Nat×ByteArray)(W:World):cQ 173 #[.agg (encP a).toArray,.agg (encP b).toArray] W fun e w'=>e= .returned (.int .i64 (cmpI (a.1:Int) (b.1:Int)))/\∃q os',w'=grow (W.drewN q) os':=by obtain⟨a1,a2⟩:=a;obtain⟨b1,b2⟩:=b;show cQ 173 #[.agg #[.int .i64 a1,.string a2],.agg #[.int .i64 b1,.string b2]] W _;go_enter Tryz.func173,Tryz.ntmps173;go_wp2_with (go_at_call 174;refine(Y5q _ _ _).mono ?_;rintro e w' ⟨rfl,rfl⟩);go_ret;exact⟨rfl,0,_,by rw[alloc_eq_grow,alloc_eq_grow,grow_grow];rfl⟩
theorem ltP(x y:Nat×ByteArray):ltOf (fun x y:Nat×ByteArray=>cmpI (x.1:Int) (y.1:Int)) x y=decide ((x.1:Int)<y.1):=by
 unfold ltOf cmpI;by_cases h1:(x.1:Int)<y.1
 ·simp[h1]
 ·by_cases h2:(y.1:Int)<x.1<;>simp[h1,h2]
theorem swoP:SWO (ltOf fun x y:Nat×ByteArray=>cmpI (x.1:Int) (y.1:Int)) where
 irrefl x:=by rw[ltP];simp
 trans x y z h1 h2:=by rw[ltP]at *;simp at *;omega
 ntrans x y z h1 h2:=by rw[ltP]at *;simp at *;omega
theorem Tryz.isAggP:∀w,(isAgg (Tryz.laysSortP_ren.t 24)).run Tryz.prog w= .ok true w:=fun w=>by kernel_rfl
theorem Tryz.sizeOfP:∀w,(Go.sizeOf (Tryz.laysSortP_ren.t 24)).run Tryz.prog w= .ok 2 w:=fun w=>by kernel_rfl
theorem Y7r(v:Value)(gs:List (Nat×ByteArray))(base:Nat)(w:World)(h:w.ownsRow base 259 2 v gs.length (gs.flatMap encP))(hn:gs.length<=1000000000):
  cQ 172 #[v,.func (.func 173) #[] #[]] w fun e w'=>e= .returned (.tuple #[])/\(∃gs':List (Nat×ByteArray),gs'.Perm gs/\gs'.Pairwise (fun a b=>a.1<=b.1)/\Sl w' 2 RPg v gs')/\w.grownBy w' v.ownBlock:=by
 obtain⟨A,c,rfl,hc1,hc2,hx⟩:=Z3c h;by_cases h0:gs.length=0
 ·obtain rfl:gs= []:=List.eq_nil_of_length_eq_zero h0;have hcon:=AnyF.slices_SortFunc_none Tryz.laysSortP A c (.func (.func 173) #[] #[]) w;change cQ 172 _ _ _ at hcon;refine hcon.mono ?_;rintro e w' ⟨rfl,rfl⟩;exact⟨rfl,⟨[],List.Perm.refl _,List.Pairwise.nil,⟨A,c,rfl,by simp,by simpa [maxLen]using hc2,fun h=>absurd h (by simp)⟩⟩,World.grownBy.refl _ _⟩
 ·obtain⟨g,rfl,_,hgl,_,_⟩:=hx (by omega);have eg:∀args w,(callFunc 173 args).run Tryz.prog w= .ok (.enter 173 args) w:=enters_of Tryz.func173 (by kernel_rfl) rfl;have hH:=Y8o (enc:=encP) (k:=2) (fun _=>rfl) h;have hcon:=AnyQ.slices_SortFunc Tryz.laysSortP 2 Tryz.isAggP Tryz.sizeOfP encP (fun _=>rfl) (fun x v hv=>by simp[encP]at hv;rcases hv with rfl | rfl<;>rfl) (fun x y=>cmpI (x.1:Int) (y.1:Int)) swoP 173 #[] g 0 c gs.toArray w eg (fun m os dk _ x y=>Y7s x y _) hH hgl (by simp;omega);change cQ 172 _ _ _ at hcon;simp only[List.size_toArray]at hcon;refine hcon.mono ?_;rintro e w' ⟨rfl,d',n,os,hp,hs,rfl⟩;have hds:d'.size=gs.length:=by have:=hp.1;simpa using this
  refine⟨rfl,⟨d'.toList,by simpa using X2h (d:=gs.toArray) (by simpa using hp),?_,?_⟩,Y8q d'⟩
  ·refine(Y1b hds.symm hs).imp fun {a b} h=> ?_;rw[ltP]at h;simpa using h
  ·exact Y9t (enc:=encP) (k:=2) (R:=RPg) (fun _=>rfl) (fun _=>rfl) (holdsK_sortWorldK_c encP 2 w g 0 gs.toArray d' n os hH hgl (by simpa using hds)) hds.symm hc1 (by simpa [maxLen]using hc2) (by simp[sortWorldK,putRowK,putRow,mapBlock,grow,Sort.ahead];omega)
end
section
open Go.RowKit Go.Maps
theorem Tryz.infoPg:(Tryz.prog.info? 259).map (fun i=>(i.zero,i.size,i.bytes))=some (some (.agg #[.int .i64 0,.string ⟨#[]⟩]),2,24):=by kernel_rfl
theorem elPg:Elem Tryz.prog 213 259 2 24:=Elem.of Tryz.underlying213 Tryz.infoPg rfl (by decide)
structure CollB (M:Int->Option ByteArray) (left:Int->Bool) (gs:List (Nat×ByteArray)):Prop where
 nodup:(gs.map Prod.fst).Nodup
 iff:∀(n:Nat) b,(n,b)∈gs↔M (n:Int)=some b/\left (n:Int)=false
theorem CollB.start{M:Int->Option ByteArray}:CollB M (fun x=>(M x).isSome) []:=⟨List.nodup_nil,fun n b=>⟨fun h=>(by cases h),fun⟨h,h2⟩=>by rw[h]at h2;cases h2⟩⟩
theorem CollB.step{M:Int->Option ByteArray}{left:Int->Bool}{gs:List (Nat×ByteArray)}(h:CollB M left gs){n:Nat}{c:ByteArray}(hx:left (n:Int)=true)(hc:M (n:Int)=some c):CollB M (fun y=>left y&& !decide (y=(n:Int))) (gs++ [(n,c)]):=by
 have hn:∀o∈gs,o.1≠n:=fun o ho e=>by have:=((h.iff o.1 o.2).1 ho).2;rw[e,hx]at this;cases this
 refine⟨?_,fun k b=> ?_⟩
 ·rw[List.map_append,List.nodup_append];refine⟨h.nodup,by simp,fun a ha b hb=> ?_⟩;obtain⟨g,hg,rfl⟩:=List.mem_map.1 ha;simp only[List.map_cons,List.map_nil,List.mem_singleton]at hb;rw[hb];exact hn g hg
 ·rw[List.mem_append,List.mem_singleton,h.iff k b];by_cases e:k=n
  ·subst e;simp[hx,hc];exact⟨fun q=>q.symm,fun q=>q.symm⟩
  ·have e1:¬(k:Int)=(n:Int):=by omega
   simp[e,e1]
theorem CollB.size{M:Int->Option ByteArray}{left:Int->Bool}{gs:List (Nat×ByteArray)}(h:CollB M left gs){N:Nat}(hs:Small N M):gs.length<=(Z2h N M).length:=by
 have hsub:gs.map Prod.fst ⊆ Z2h N M:=fun n hn=>by obtain⟨g,hg,rfl⟩:=List.mem_map.1 hn;have h1:=((h.iff g.1 g.2).1 hg).1;have h2:=hs g.1 (by rw[h1];rfl);exact Z8i.2 ⟨by omega,by rw[h1];rfl⟩
 have:=h.nodup.length_le_of_subset hsub;simpa using this
theorem V2q{M:Int->Option ByteArray}{N:Nat}(hs:Small N M)(h:(Z2h N M).length=0)(n:Nat):M (n:Int)=none:=by
 cases hm:M (n:Int)with
 | none=>rfl
 | some b=>
   have h2:=hs n (by rw[hm];rfl);have h3:n∈Z2h N M:=Z8i.2 ⟨by omega,by rw[hm];rfl⟩;rw[List.eq_nil_of_length_eq_zero h]at h3;cases h3
def X1g(S:StoreD):StoreD:= { S with dirty:=X0m}
theorem StoreAs.clean{w w':World}{s g m n:Nat}{F:Nat->Prop}{S:StoreD}(h:StoreAs w s F S g m)(hm:MapI w' 3 m n encB X0m)(hn:n<=1024)(hb:But m w w'):StoreAs w' s F (X1g S) g m:=
 ⟨(Only.but (F:=fun i=>i=m) hb (.inl rfl)).row h.row (h.row.notMap h.map),h.disk.butMap h.map hb,hm.mono hn,h.fs,h.fm,⟨h.wf.fits,fun x b hb=>by cases hb⟩⟩
theorem StoreAs.marked{w:World}{s g m:Nat}{F:Nat->Prop}{S:StoreD}(h:StoreAs w s F S g m)(b:Bool):StoreAs (w.setCell ⟨s,6,none⟩ (.bool b)) s F { S with dead:=b} g m/\Only (fun i=>i=s) w (w.setCell ⟨s,6,none⟩ (.bool b)):=by have ho:Only (fun i=>i=s) w (w.setCell ⟨s,6,none⟩ (.bool b)):=setS Only.refl 6 _;exact⟨⟨h.row.set 6 _,(h.diskF.only ho (fun i q=>q.2.1)).mono (fun i q=>q.1.1),ho.map h.map (fun e=>h.row.notMap h.map e.symm),h.fs,h.fm,⟨h.wf.fits,h.wf.dirty⟩⟩,ho⟩
theorem Y3n{s:Nat}{F:Nat->Prop}{S:StoreD}(w:World)(h:StoreAt w s F S)(hL:Live S)(hP:Pow S.disk)(h0:S.disk.late= [])(hroom:hdsN (Z2h 1024 S.dirty).length+(Z2h 1024 S.dirty).length<=S.head.room)(hsq:S.head.seq+2<18446744073709551616):
  cQ 126 #[tp s] w fun e w'=>e= .returned (.int .i64 0)/\∃S' F',Cmtd S S'/\StoreAt w' s F' S'/\Keeps F F' w w':=by
 have hr:=Y1g (0:Nat) w h;have hft:=h.wf.fits;have hpg:=hft.pages;rw[Y3u hL.1 (by omega)]at hr;obtain⟨g,m,h⟩:=h;have hsm:=h.wf.small;have HH:Hid (StoreAs w s (fun i=>F i/\i<w.heap.size) S g m):=h.shrink;have hlen:=h.map.len (t:=210) (e:=9) Tryz.underlying3 Tryz.underlying210 hsm 3;obtain⟨K,hK⟩:∃K,(Z2h 1024 S.dirty).length=K:=⟨_,rfl⟩;rw[hK]at hroom hlen;have c2:w.cell? ⟨s,5,none⟩=some (.map (some m)):=h.row.cell 5;have hslt:=h.row.lt;by_cases hk0:K=0
 ·have HC:=hD (V4r hL hP h0 (V2q hsm (hK.trans hk0)));subst hk0;have HH2:=hD h;clear h hK hroom hft hpg hsm;go_enter Tryz.func126,Tryz.ntmps126;go_wp2_with (go_at_call 166;refine hr.mono ?_;clear hr;rintro e w1 ⟨rfl,rfl⟩);go_ret;exact⟨rfl,S,F,HC.out,⟨g,m,HH2.out⟩,Keeps.refl⟩
 ·have q1:((K:Int)==0)=false:=by simp[hk0]
  have q2:decide ((K:Int)=0)=false:=aM;have q3:¬(K:Int)=0:=by omega
  have HK:=hD hK;have HRO:=hD hroom;have HFT:=hD hft;have HSM:=hD hsm;have HLV:=hD hL;have HP:=hD hP;have HL0:=hD h0;have HSQ:=hD hsq;clear h hK hroom hft hpg hsm hL hP h0 hsq hk0;go_enter Tryz.func126,Tryz.ntmps126;go_wp2_with (first
   | (go_at_call 166;refine hr.mono ?_;clear hr;rintro e w1 ⟨rfl,rfl⟩)
   | (at_range;refine Y5j _ rfl _ 210 rfl 3 9 Tryz.underlying3 Tryz.underlying210 m 1024 rfl HH.out.map ?_;intro w0 cnt hcnt hrg0 hg0 hs0))
  go_frame
  have hB0:Ext w w0:=⟨hg0.os,hg0.tape,hg0.output,hg0.size,fun k hk=>hg0.block k hk (by simp)⟩;obtain⟨r,hr⟩:∃r,w.heap.size=r:=⟨_,rfl⟩;have HR:=hD hr;have hms:m<r:=by rw[<-hr];exact HH.out.map.lt
  rw[hr]at hrg0 hs0 hslt ⊢;have hs1:r<w0.heap.size:=by omega
  clear hs0 hr hg0 c2 hlen q1 q2 q3
  go_loopw [4] (fun v wz=>∃(left:Int->Bool) (cnt:Nat) (gs:List (Nat×ByteArray)),RangeI wz 3 m r 1024 encB S.dirty left cnt/\gs.length+cnt<=1024/\OwnL wz (r+1) 259 2 encP v gs/\CollB S.dirty left gs/\Ext w wz/\r<wz.heap.size) (fun _ wz=>wz.rangeLeft m r)
  case atStart=>exact⟨_,cnt,[],hrg0,by simp;omega,OwnL.nil _ _ _ _ _,CollB.start,hB0,hs1⟩
  case round=>
   obtain⟨left,cnt2,gs,hrg,hcs,hown,hC,hb,hrl⟩:=hrel;have HB2:=hD hb;have HC:=hD hC;have HOW:=hD hown;have HRG:=hD hrg;obtain⟨vA,vc,rfl⟩:=hown.form;clear hb hC hown hrg hrg0 hB0 hs1 hcnt;go_wp2_with (at_next;refine Y7f _ rfl _ rfl 3 Tryz.underlying3 m r 1024 _ rfl HRG.out ?_ ?_)
   ·intro hc0 hl0;have HD:Hid (∀gs':List (Nat×ByteArray),gs'.Perm gs->U2n S gs'):=fun gs' hp n b=>by rw[hp.mem_iff,HC.out.iff,hl0];simp
    have hszK:=HC.out.size HSM.out;rw[HK.out]at hszK;clear hc0 hl0;obtain⟨n,hn⟩:∃n,gs.length=n:=⟨_,rfl⟩;rw[hn]at hszK;have cS:=Y7r (.slice vA gs.length vc) gs (r+1) wr HOW.out (by omega);rw[hn]at cS ⊢;have HN:=hD hn;have hn1:n<=1024:=by omega
    clear hn;go_wp2_with fail;refine cS.mono ?_;clear cS;rintro e w3 ⟨rfl,⟨gs',hp,hso,hsl⟩,hgr⟩;have HVB:Hid (∀b,(Value.slice vA n vc).ownBlock=some b->r<b):=by have h1:=HOW.out.lt;rw[HN.out]at h1;exact fun b hb=>(h1 b hb).1
    have HB3:Hid (Ext w w3):=HB2.out.grown hgr HB2.out.size (fun j hj=>by have:=HVB.out j hj;have:=HR.out;omega);have HG:=hD (HD.out gs' hp);have HLE:Hid (gs'.length=n):=hp.length_eq.trans HN.out;have HSL:=hD hsl;clear hp hso hsl hgr HD HC HOW HRG HB2;obtain⟨w4,hclr,hm4,hb4⟩:=(HH.out.ext HB3.out).map.clear (t:=210) (e:=9) Tryz.underlying210;have c5:w3.cell? ⟨s,5,none⟩=some (.map (some m)):=(HH.out.ext HB3.out).row.cell 5;have HS4:Hid (StoreAs w4 s (fun i=>F i/\i<w.heap.size) (X1g S) g m):=(HH.out.ext HB3.out).clean hm4 (by omega) hb4;have HK4:Hid (Keeps (fun i=>F i/\i<w.heap.size) (fun i=>F i/\i<w.heap.size) w w4):=(Keeps.of HB3.out).trans ⟨Only.but hb4 (.inl HH.out.fm),fun i q=> .inl q⟩;have HSL4:Hid (Sl w4 2 RPg (.slice vA n vc) gs'):=HSL.out.onlyC (G:=fun i=>i=m) (Only.but hb4 (.inl rfl)) (fun b hb hv e=>by have:=HVB.out b hv;omega);clear hm4 hb4;obtain⟨ro,hro⟩:∃ro,S.head.room=ro:=⟨_,rfl⟩;have HRM:Hid (S.head.room=ro):=hro;have HCM:=hD (V4q HP.out HFT.out HH.out.wf.dirty HG.out (by rw[HLE.out];have:=HRO.out;unfold hdsN at *;omega) HSQ.out);have hfull:hdsN n+n<=ro:=by rw[<-hro];have:=HRO.out;unfold hdsN at *;omega
    obtain⟨bn,hbn⟩:∃bn,hdsN n+n=bn:=⟨_,rfl⟩;have cB:Hid (∀W,cQ 162 #[.int .i64 n] W fun e w'=>e= .returned (.int .i64 bn)/\W=w'):=fun W=>by have h1:=X2q n W (by omega);rw[hbn]at h1;exact h1
    have cC:Hid (∀W,Ext w4 W->cQ 175 #[tp s,.slice vA n vc] W fun e w'=>e= .returned (.int .i64 0)/\∃F',StoreAt w' s F' (Z2j (X1g S) gs').1/\Keeps (fun i=>F i/\i<w.heap.size) F' W w'):=fun W hW=>by
     have h1:=X8m (.slice vA n vc) gs' W ⟨g,m,HS4.out.ext hW⟩ (HSL4.out.ext hW) (fun b hb q=>by have:=HVB.out b hb;have:=HR.out;omega) (fun p hp=>by
      obtain⟨k,b⟩:=p;have:=HH.out.wf.dirty _ _ ((HG.out k b).1 hp);show k<S.head.pages/\b.size<=256;omega) (by rw[HLE.out];omega) (by show S.disk.late.length<=_;rw[HL0.out];decide) (by rw[HLE.out];show _<=S.head.room;omega) HSQ.out
     rw[show (Z2j (X1g S) gs').2=0 from HCM.out.1]at h1;exact h1
    have HKS:Hid (∀W,Ext w4 W->W.cell? ⟨s,3,none⟩=some (.int .i64 ro)):=fun W hW=>by rw[<-HRM.out];exact(HS4.out.ext hW).row.cell 3
    have q4:decide ((ro:Int)<(bn:Int))=false:=aM;have q5:¬(ro:Int)<(bn:Int):=by omega
    clear hro hbn hfull hszK hn1;go_upto_region 11 with fail;clear hclr c5;refine wp_region_held_drew (S:=fun W=>W.cell? ⟨s,3,none⟩=some (.int .i64 ro)) (by kernel_rfl) (HKS.out _ (by exact Xt)) (fun hHeld=> ?_);refine' tk 0 ?_;refine' tk 1 ?_;refine' tk 3 ?_;refine' tk 4 ?_;refine' tk 5 ?_;refine' tk 6 ?_;refine' tk 7 ?_;refine stp 2 (fun K hK=> ?_);go_simp
    (with_reducible refine(cB.out _).mono ?_)
    rintro e w5 ⟨rfl,rfl⟩
    (try dsimp only)
    (try go_simp)
    refine hK.out _ _ (HKS.out _ (by exact Xt)) (fun hHeld=> ?_);clear hK K;refine pt ?_;refine' tk 8 ?_;refine wpAnyH_done (by kernel_rfl) ?_ _;go_wp2_with fail;refine(cC.out _ (by exact Xt)).mono ?_;rintro e w6 ⟨rfl,F6,hs6,hk6⟩;have HK6:=hD (HK4.out.trans ((Keeps.of (by exact Xt:Ext w4 (World.drew w4))).trans hk6));obtain⟨g6,m6,hs6⟩:=hs6;have HS6:=hD hs6;have c6:w6.cell? ⟨s,6,none⟩=some (.bool (Z2j (X1g S) gs').1.dead):=hs6.row.cell 6;have f6:w6.frozen? ⟨s,6,none⟩=false:=hs6.row.soft 6;clear hs6 hk6;go_wp2_with fail;go_ret;have h1:=HS6.out.marked false;exact⟨rfl,_,_,HCM.out.2,⟨g6,m6,h1.1⟩,(HK6.out.trans ⟨h1.2.mono (fun i q=> .inl (q▸HS6.out.fs)),fun i q=> .inl q⟩).widen (fun i q=>q.1)⟩
   ·intro x cc w1 cnt1 hwx hlx hfx hrg1 hlt hg1 hs1 hen;obtain⟨n,rfl⟩:∃n:Nat,x=n:=⟨x.toNat,by have:=(HSM.out x (by rw[hfx];rfl)).1;omega⟩;have HC1:=hD (HC.out.step hlx hfx);have HRG1:=hD hrg1;have HO1:Hid (OwnL w1 (r+1) 259 2 encP (.slice vA gs.length vc) gs):=World.ownsRow.kept HOW.out hg1 (.inr (fun e=>by have:=(HOW.out.lt r e).1;omega));have HB1:=hD (HB2.out.grown hg1 HB2.out.size (fun j hj=>by cases hj;have:=HR.out;omega));have hrl1:r<w1.heap.size:=by rw[hs1];exact hrl
    have hlc:=hlt;clear hlx hfx hrg1 hg1 hs1;have hen':(Instr.entry (tp r)).run Tryz.prog w1= .ok (.tuple #[.int .i64 n,.string cc]) w1:=hen;clear hen;go_wp2_with (at_builtin;refine Z2u elPg Y2y X5n rfl (.tmp 31) (.tmp 35) rfl _ gs rfl (HO1.out.ext (by exact Xt)) (by simp;omega) _ 1 (n,cc) rfl (Row1.made' (by simp) _ (encP (n,cc))) (by omega) (by decide) ?_);intro pA pc wp hp hgp;have HRG2:=hD ((HRG1.out.ext (by exact Xt)).kept hgp (fun e=>by have:=(HO1.out.lt _ e.symm).1;omega) (fun e=>by have:=(HO1.out.lt _ e.symm).1;omega));have HX2:Hid (Ext w wp):=(by exact Xx (HB1.out):Ext w _).grown hgp (by have:=HB1.out.size;first | omega | (simp;omega)) (fun j hj=>by have:=(HO1.out.lt j hj).1;have:=HR.out;omega);have hsz2:=hgp.size;simp at hsz2;have HP2:=hD hp;clear hp hgp;go_wp2_with fail
    go_roundw
    case measure=>rw[HRG2.out.left_eq,HRG.out.left_eq];exact hlc
    case rel=>exact⟨_,cnt1,gs++ [(n,cc)],HRG2.out.ext (by exact Xt),by simp;omega,HP2.out.ext (by exact Xt),HC1.out,by exact Xx (HX2.out),by omega⟩
end
end Go.Proofs.YtohaldfnmgcofaaGreat
