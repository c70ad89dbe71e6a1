/- The iterator of any tree (From), and whether a tree is empty. Conditions: pages that bear a tree. -/
import Derived.Test.YtmiolpfanlpfnaaGreatU32
set_option maxRecDepth 100000
set_option maxHeartbeats 4000000
set_option linter.unusedSimpArgs false
set_option linter.unusedVariables false
namespace Go.Proofs.YtmiolpfanlpfnaaGreat
section
open Go.RowKit Go.Shelf
attribute [local go_sem] Oper.semAt_some
theorem Y7j{l:List Nat}(h:l.Nodup){n:Nat}(hb:∀b∈l,b<n):l.length≤n:=by
 have h1:l.Perm ((List.range n).filter (fun b=>decide (b∈l))):=by
  rw[List.perm_ext_iff_of_nodup h (List.nodup_range.filter _)]
  intro b
  rw[List.mem_filter,List.mem_range,decide_eq_true_iff]
  exact⟨fun q=>⟨hb b q,q⟩,fun q=>q.2⟩
 have h2:=List.length_filter_le (fun b=>decide (b∈l)) (List.range n)
 rw[h1.length_eq]
 rwa [List.length_range]at h2
theorem X7d(l:List KV):Z1h l ⟨#[]⟩=l:=Z2m (fun x _=>by rw[V0u];rfl)
theorem X0e{t p i m tb kb:Nat}{S:StoreD}{K:Nat→Prop}(key:ByteArray)(T:TrD)(w:World)(hT:TrS S i T)(hd:T.fine)(hi:i<16)(htb:Row1 w tb 116 [.pointer (some ⟨t,0,none⟩)])(hkb:Row1 w kb 9 [.string key])(hK1:K tb)(hK2:K kb):
  SeqB Tryz.prog m 131 #[.pointer (some ⟨tb,0,none⟩),.pointer (some ⟨kb,0,none⟩)] (ItT p t i S K) (Z1h T.list key) w:=by
 intro l J Jx W F G hx hit hdis hJ hJx hY h0
 refine callsIn_wide.2 ?_
 have hY':X2p Tryz.prog l (ItT p t i S K) J Jx (fun pre x=>pre++ [x] <+: Z1h T.list key):=fun pre x W1 F1 G1 q1 q2 q3 q4=>Y8j (hY pre x W1 F1 G1 q1 q2 q3 q4)
 have cR:=Z3w W hit.2.1 hit.2.2.1 hit.1 hi
 have htW:=htb.ext hx htb.lt
 have hkW:=hkb.ext hx hkb.lt
 have a0:W.cell? ⟨tb,0,none⟩=some (.pointer (some ⟨t,0,none⟩)):=htW.cell 0
 have HIT:=hD hit
 have HD:=hD hdis
 have HJ:=hD hJ
 have HY:=hD hY'
 have H0:=hD h0
 have HTB:=hD htW
 have HKB:=hD hkW
 have HK1:=hD hK1
 have HK2:=hD hK2
 clear hx hit hdis hJ hJx hY hY' h0 htb hkb htW hkW hK1 hK2
 cases T with
 | no=>
   rw[show Z1v S i=0 from hT]at cR
   go_enter Tryz.func131,Tryz.ntmps131
   go_wp2_with (first
    | (go_at_call 132;(with_reducible refine cR.mono ?_);clear cR;rintro e w1 ⟨rfl,F1,hp1,hk1⟩;have HP1:=hD hp1;have HK1:=hD hk1;clear hp1 hk1))
   go_end0
   obtain⟨F2,q1,q2,q3,q4,_⟩:=Y5j HIT.out HD.out HJ.out H0.out HP1.out HK1.out
   exact⟨⟨_,rfl⟩,F2,G,q1,q2,q3,.inl ⟨_,rfl,q4⟩⟩
 | yes d T=>
   obtain⟨hr,hon,hok,hnd⟩:=hT
   have hd':d<31:=hd
   have hm:S.head.pages≤1024:=HIT.out.1.most
   have hnod:Z3h d T≤1024:=Y7j hnd (fun b hb=>by have:=(Z0k d T hon b hb).2.1;omega)
   have ha2:=(Z0k d T hon _ (Z0q d T)).1
   rw[hr]at cR
   obtain⟨lf,hlf⟩:∃lf,lf+Z3h d T=1024:=⟨1024-Z3h d T,by omega⟩
   have HON:=hD hon
   have HOKT:=hD hok
   have HLF:=hD hlf
   have HROW:Hid (∀W b,Z3e W b t l key 1024→Z3e W b t l key ((lf+Z3h d T:Nat):Int)):=hD (fun W b q=>by rw[hlf];exact q)
   obtain⟨a,ha⟩:∃a,atT d T=a:=⟨_,rfl⟩
   rw[ha]at cR ha2
   have HA:=hD ha
   have T1:((a:Int)==0)=false:=by simp;omega
   have T2:((a:Int)!=0)=true:=by simp;omega
   clear hr hon hok hnd ha hm hnod hlf
   go_enter Tryz.func131,Tryz.ntmps131
   go_wp2_with (first
    | (go_at_call 132;(with_reducible refine cR.mono ?_);clear cR;rintro e w1 ⟨rfl,F1,hp1,hk1⟩
       obtain⟨F2,q1,q2,q3,q4,q5⟩:=Y5j HIT.out HD.out HJ.out H0.out hp1 hk1
       have b0:w1.cell? ⟨tb,0,none⟩=some (.pointer (some ⟨t,0,none⟩)):=(q5.only.row HTB.out (HIT.out.2.2.2 _ HK1.out).1).cell 0
       have b1:w1.cell? ⟨kb,0,none⟩=some (.string key):=(q5.only.row HKB.out (HIT.out.2.2.2 _ HK2.out).1).cell 0
       have hxa:Ext w1 (w1.alloc (.cells #[.pointer (some ⟨t,0,none⟩),.string key,.func (.yield l) #[] #[],.int .i64 1024] 206)):=Ext.alloc _ _
       have cW:=X8g (Ok:=fun pre x=>pre++ [x] <+: Z1h (Z0e d T) key) l w1.heap.size key HJ.out HY.out d F2 G 32 T [] (w1.alloc (.cells #[.pointer (some ⟨t,0,none⟩),.string key,.func (.yield l) #[] #[],.int .i64 1024] 206)) lf (q1.ext hxa)
        ⟨fun i q=>Nat.lt_of_lt_of_le (q2.1 i q) hxa.size,fun i q=>⟨Nat.lt_of_lt_of_le (q2.2 i q).1 hxa.size,(q2.2 i q).2⟩⟩ (HROW.out _ _ (Row1.made w1 _ _)) (fun q=>q.elim (fun q=>by have:=q2.1 _ q;omega) (fun q=>by have:=(q2.2 _ q).1;omega)) HON.out HOKT.out (HJ.out _ _ _ _ q4 (fun i q=>(q2.2 i q).1) (Only.of hxa)) (fun q x h=>h) (by have:=HLF.out;omega) (by omega) (by decide)
       rw[HA.out]at cW
       have HQ3:=hD q3
       clear hp1 hk1 q1 q2 q3 q4 q5 hxa)
    | (go_at_call 133;refine cW.mono ?_;clear cW;rintro e w4 ⟨lf4,F4,G4,_,_,r1,r2,r3,r4,r5,r6⟩
       obtain⟨yb,rfl,r7⟩:∃yb:Bool,e= .returned (.bool yb)∧((yb=true∧J ([]++Z1h (Z0e d T) key) G4 w4)∨(yb=false∧∃q,q <+: Z1h (Z0e d T) key∧Jx ([]++q) G4 w4)):=by
        rcases r6 with ⟨rfl,q⟩ | ⟨rfl,q⟩
        ·exact⟨true,rfl,.inl ⟨rfl,q⟩⟩
        ·exact⟨false,rfl,.inr ⟨rfl,q⟩⟩
       have R1:=hD r1;have R2:=hD r2;have R3:=hD r3;have R5:=hD r5;have R7:=hD r7
       clear r1 r2 r3 r4 r5 r6 r7))
   go_end0
   refine⟨⟨_,rfl⟩,F4,G4,R1.out,R2.out,?_,?_⟩
   ·have hs:=HQ3.out.only.size
    refine⟨(HQ3.out.only.ext (Ext.alloc _ _)).trans R3.out.only (fun i q=> ?_),fun i q=> ?_⟩
    ·rcases q with q | q
     ·exact HQ3.out.new i q
     ·exact .inr (by omega)
    ·rcases R3.out.new i (.inl q)with (r | r) | r
     ·exact HQ3.out.new i r
     ·exact .inr (by omega)
     ·rw[World.size_alloc]at r;exact .inr (by omega)
   ·rcases R7.out with ⟨_,q⟩ | ⟨_,q,h1,h2⟩
    ·exact .inl ⟨_,rfl,q⟩
    ·exact .inr ⟨q,h1,h2⟩
theorem X1c{t p i:Nat}{F:Nat→Prop}{S:StoreD}(T:TrD)(w:World)(ht:Z0b w t p i)(hnt:¬F t)(h:PagerAt w p F S)(hi:i<16)(hT:TrS S i T)(hd:T.fine):
  Calls Tryz.prog 184 #[.pointer (some ⟨t,0,none⟩)] w fun e w'=>e= .returned (.bool (T.list.isEmpty))∧∃F',PagerAt w' p F' S∧Keeps F F' w w':=by
 obtain⟨out,hout⟩:∃out,T.list=out:=⟨_,rfl⟩
 have hseq:=fun(m tb kb:Nat) (K:Nat→Prop) (w:World) (q1) (q2) (q3) (q4)=>X0e (t:=t) (p:=p) (m:=m) (tb:=tb) (kb:=kb) (K:=K) ⟨#[]⟩ T w hT hd hi q1 q2 q3 q4
 rw[show Z1h T.list ⟨#[]⟩=T.list from X7d _,hout]at hseq
 rw[hout]
 refine callsIn_wide (n:=3).1 ?_
 refine callsIn_of_wp_marks Tryz.func184 rfl trivial ?_ rfl
 simp only[Tryz.ntmps184,List.size_toArray,List.length_cons,List.length_nil,Nat.reduceAdd,Nat.reduceSub,Array.replicate_succ,Array.replicate_zero,List.push_toArray,List.append_toArray,List.nil_append,List.cons_append]
 have cA:=U0q t (w.alloc (.cells #[.bool false] 4))
 gi_wp2_with (refine ⟨trivial,?_⟩;gi_at_call 202;refine(callsIn_wide.2 cA).mono ?_;clear cA;rintro e w1 ⟨tb,kb,rfl,h1,h2,h3,h4,h5⟩)
 have hx:Ext w w1:=Ext.trans (Ext.alloc _ _) h1
 have hB:Row1 w1 w.heap.size 4 [.bool false]:=(Row1.made w _ [.bool false]).ext h1 (by simp)
 rw[World.size_alloc]at h2 h3
 have hB1:=hB.lt
 have hb2:=h4.lt
 have hb3:=h5.lt
 refine Z6e rfl (by decide) (gf:=131) (lb:=#[.pointer (some ⟨tb,0,none⟩),.pointer (some ⟨kb,0,none⟩)]) rfl trivial (enters_of Tryz.func131 (by kernel_rfl) rfl)
  (hseq _ tb kb (fun b=>b=tb∨b=kb) w1 h4 h5 (.inl rfl) (.inr rfl)) (Ext.refl w1) (fun _=>rfl) (fun j=>F j∧j<w.heap.size) (fun b=>b=w.heap.size) (ItT.abides (p:=p) (i:=i) (Nat.lt_of_lt_of_le ht.lt hx.size))
  ⟨h.shrink.ext hx,ht.ext hx ht.lt,fun q=>hnt q.1,fun b q=>⟨fun r=>by rcases q with q | q<;>(subst q;have:=r.2;omega),by rcases q with q | q<;>(subst q;assumption)⟩⟩
  ⟨fun j q=>by have:=q.2;omega,fun j q=>by subst q;exact⟨hB1,fun r=>by have:=r.2;omega⟩⟩
  (fun pre G W=>G=(fun b=>b=w.heap.size)∧pre= []∧Row1 W w.heap.size 4 [.bool false])
  (fun c pre G W=>c= .ret∧G=(fun b=>b=w.heap.size)∧pre≠ []∧Row1 W w.heap.size 4 [.bool false])
  (fun s G W W' q q2 q3=>⟨q.1,q.2.1,q3.row q.2.2 (fun r=>r (by rw[q.1]))⟩)
  (fun c s G W W' q q2 q3=>⟨q.1,q.2.1,q.2.2.1,q3.row q.2.2.2 (fun r=>r (by rw[q.2.1]))⟩)
  ⟨rfl,rfl,hB⟩ (fun x=> { tmps:=#[.pointer (some ⟨t,0,none⟩),undef,.pointer (some ⟨w.heap.size,0,none⟩),.pointer (some ⟨t,0,none⟩),.func (.func 131) #[] #[.pointer (some ⟨tb,0,none⟩),.pointer (some ⟨kb,0,none⟩)],.string x.1,.string x.2],defers:= []}) ?assign ?body ?done ?stop
 case assign=>
  intro l x W K hK
  simp only[V7e]
  gi_wp2
  simpa using hK
 case body=>
  rintro l pre x W F1 G1 ⟨rfl,rfl,hr⟩ hit hd hok
  have z0:W.cell? ⟨w.heap.size,0,none⟩=some (.bool false):=hr.cell 0
  have z1:W.frozen? ⟨w.heap.size,0,none⟩=false:=hr.soft 0
  have ho:=Y4w W w.heap.size 0 (.bool false)
  have hB9:¬F1 w.heap.size:=(hd.2 _ rfl).2
  have hz:=Z1y W ⟨w.heap.size,0,none⟩ (.bool false)
  have A1:=hD (hit.only ho (fun j q q'=>by subst q';exact hB9 q) (fun q=>by have:=ht.lt;omega))
  have A2:Hid (Dis F1 (fun b=>b=w.heap.size) (W.setCell ⟨w.heap.size,0,none⟩ (.bool false))):=⟨fun j q=>by rw[hz];exact hd.1 j q,fun j q=>by rw[hz];exact hd.2 j q⟩
  have A3:Hid (Keeps (Un F1 (fun b=>b=w.heap.size)) (Un F1 (fun b=>b=w.heap.size)) W (W.setCell ⟨w.heap.size,0,none⟩ (.bool false))):=⟨ho.mono (fun j q=> .inl (.inr q)),fun j q=> .inl q⟩
  have A4:=hD (hr.set 0 (.bool false))
  clear hit hd hok ho hr hz
  gi_wp2
  exact⟨F1,_,A1.out,A2.out,A3.out,rfl,rfl,by simp,A4.out⟩
 case done=>
  rintro D xs W F1 G1 jH rfl ⟨rfl,rfl,hr⟩ hit hd hn1 hn2 hk hK
  have z0:W.cell? ⟨w.heap.size,0,none⟩=some (.bool false):=hr.cell 0
  have z1:W.frozen? ⟨w.heap.size,0,none⟩=false:=hr.soft 0
  have hDB:¬D=w.heap.size:=hn2
  have ho:=Y4w W w.heap.size 0 (.bool true)
  have hK2:(W.setCell ⟨w.heap.size,0,none⟩ (.bool true)).heap[D]? =some (.deferred (some [])):=(ho.block D (Array.getElem?_eq_some_iff.1 hK).1 hDB).trans hK
  have ho2:=Only.putObj (W.setCell ⟨w.heap.size,0,none⟩ (.bool true)) D (.deferred none)
  have hrr:Row1 ((W.setCell ⟨w.heap.size,0,none⟩ (.bool true)).putObj D (.deferred none)) w.heap.size 4 [.bool true]:=ho2.row (hr.set 0 _) (fun q=>hDB q.symm)
  have HEND:=hD (Y9g (F:=F) hk (fun j q=>q.1) (Nat.le_refl _) hx hit.1 (hd.2 _ rfl).2 hn1 (by have:=hx.size;omega) ((ho.mono (fun j q=> .inl (.inl q))).trans' (ho2.mono (fun j q=> .inl (.inr q)))))
  have HK2:=hD hK2
  have HRR:=hD hrr
  clear hk hit hd hK hK2 hrr ho ho2 hr
  gi_wp2
  exact⟨by simp,.inl ⟨_,_,rfl,run_takeDeferred HK2.out,_,X3l rfl _ _ w.heap.size true rfl (HRR.out.cell 0),rfl,HEND.out⟩⟩
 case stop=>
  rintro D c pre W F1 G1 jH hpre ⟨rfl,rfl,hne,hr⟩ hit hd hn1 hn2 hk hK
  have hDB:¬D=w.heap.size:=hn2
  have ho2:=Only.putObj W D (.deferred none)
  have hrr:Row1 (W.putObj D (.deferred none)) w.heap.size 4 [.bool false]:=ho2.row hr (fun q=>hDB q.symm)
  have HEND:=hD (Y9g (F:=F) hk (fun j q=>q.1) (Nat.le_refl _) hx hit.1 (hd.2 _ rfl).2 hn1 (by have:=hx.size;omega) (ho2.mono (fun j q=> .inl (.inr q))))
  have HRR:=hD hrr
  have HK:=hD hK
  have HO:Hid (out.isEmpty=false):=by
   cases out with
   | nil=>exact absurd (List.prefix_nil.1 hpre) hne
   | cons _ _=>rfl
  clear hk hit hd hK hrr ho2 hr
  gi_wp2
  refine⟨by simp,.inl ⟨_,_,rfl,run_takeDeferred HK.out,_,X3l rfl _ _ w.heap.size false rfl (HRR.out.cell 0),by rw[HO.out],HEND.out⟩⟩
end
section
open Go.RowKit
theorem V3b(l:List OpD)(id:Int)(k:Nat)(h:k<l.length):delO (l.take (k+1)) id=delO (l.take k) id++(if l[k].id=id then []else [l[k]]):=by
 unfold delO
 rw[List.take_succ_eq_append_getElem h,List.filter_append]
 congr 1
 by_cases e:l[k].id=id<;>simp[e]
theorem X4s(l:List OpD)(id:Int):(delO l id).length≤l.length:=List.length_filter_le _ _
theorem Y4u(V:Value)(l:List OpD)(id:Int)(w:World)(hs:Sl w 11 ROp V l)(hn:l.length≤100000000):
  Calls Tryz.prog 58 #[V,.int .i64 id] w fun e w'=>(∃v,e= .returned v∧OwnL w' w.heap.size 32 11 OpD.cells v (delO l id))∧Ext w w':=by
 obtain⟨A,c,rfl⟩:=hs.form
 obtain⟨_,hc1,hc2,hA⟩:=hs.at
 have HA:=hD hA
 clear hs hA
 go_enter Tryz.func58,Tryz.ntmps58
 go_wp2_with fail
 go_loopw [5,6] (fun v i wr=>∃k:Nat,k≤l.length∧i= .int .i64 k∧Ext w wr∧OwnL wr w.heap.size 32 11 OpD.cells v (delO (l.take k) id))
  (fun _ i _=>l.length-(intOf i).toNat)
 case atStart=>exact⟨0,by omega,rfl,Ext.refl _,OwnL.nil _ _ _ _ _⟩
 case round=>
  obtain⟨k,hk,rfl,hb,hown⟩:=hrel
  have HB:=hD hb
  have HO:=hD hown
  have hzr:=hb.size
  have HLEN:Hid ((delO (l.take k) id).length≤k):=by
   have:=X4s (l.take k) id
   rw[List.length_take]at this
   unfold Hid;omega
  clear hb hown
  by_cases hlt:k<l.length
  ·have hd:decide ((k:Int)<(l.length:Int))=true:=by simp;omega
   have HT:=hD (V3b l id k hlt)
   obtain⟨b,off,rfl,hbl,hx⟩:=HA.out (by omega)
   obtain⟨cs,rfl,_,hcs⟩:=hx k hlt
   have HE:Hid (∀W:World,Ext w W→(W.cell? ⟨b,off+k*11,none⟩=some (.int .i64 l[k].id)∧W.cell? ⟨b,off+k*11+1,none⟩=some (.int .i64 l[k].proc)∧W.cell? ⟨b,off+k*11+2,none⟩=some (.int .i64 l[k].object)∧W.cell? ⟨b,off+k*11+3,none⟩=some (.int .i64 l[k].kind)∧W.cell? ⟨b,off+k*11+4,none⟩=some (.int .i64 l[k].method)∧W.cell? ⟨b,off+k*11+5,none⟩=some (.int .i64 l[k].arg)∧W.cell? ⟨b,off+k*11+6,none⟩=some (.int .i64 l[k].second)∧W.cell? ⟨b,off+k*11+7,none⟩=some (.bool l[k].done)∧W.cell? ⟨b,off+k*11+8,none⟩=some (.int .i64 l[k].result)∧W.cell? ⟨b,off+k*11+9,none⟩=some (.int .i64 l[k].invoke)∧W.cell? ⟨b,off+k*11+10,none⟩=some (.int .i64 l[k].ret))):=by
    intro W h
    have hw:=fun j u hu=>(h.cell (p:=⟨b,off+k*11+j,none⟩) hbl).trans (hcs j u hu)
    exact⟨hw 0 _ rfl,hw 1 _ rfl,hw 2 _ rfl,hw 3 _ rfl,hw 4 _ rfl,hw 5 _ rfl,hw 6 _ rfl,hw 7 _ rfl,hw 8 _ rfl,hw 9 _ rfl,hw 10 _ rfl⟩
   clear hx hcs
   generalize l[k]=x at *
   generalize delO (l.take k) id=s at *
   obtain⟨vA,vc,rfl⟩:=HO.out.form
   have hbw:=Nat.lt_of_lt_of_le hbl HB.out.size
   obtain⟨e0,e1,e2,e3,e4,e5,e6,e7,e8,e9,e10⟩:=HE.out wr HB.out
   by_cases heq:x.id=id
   ·have hq:(x.id !=id)=false:=by simpa using heq
    have HT3:Hid (delO (l.take (k+1)) id=s):=by unfold Hid;rw[HT.out,if_pos heq];simp
    clear heq HT
    go_wp2_with fail
    go_roundw
    case measure=>simp[intOf];omega
    case rel=>
     exact⟨k+1,by omega,by go_num,HB.out,by rw[HT3.out];exact HO.out⟩
   ·have hq:(x.id !=id)=true:=by simpa using heq
    have HT3:Hid (delO (l.take (k+1)) id=s++ [x]):=by unfold Hid;rw[HT.out,if_neg heq]
    clear heq HT
    go_wp2_with (at_builtin;refine Z2f elOp Z3z Y1l rfl (.tmp 20) (.tmp 25) rfl _ s rfl (HO.out.ext (by exact Xt)) (by simp;omega) _ 1 x rfl (Row1.made _ _ x.cells) (by have:=HLEN.out;omega) (by decide) ?_)
    intro pA pc wp hp hgp
    have HXP:=hD ((HO.out.ext (by exact Xt)).grown (a:=w) (by exact Xx (HB.out)) hgp (by simp))
    have HP:=hD hp
    clear hp hgp
    go_wp2_with fail
    go_roundw
    case measure=>simp[intOf];omega
    case rel=>
     exact⟨k+1,by omega,by go_num,HXP.out,by rw[HT3.out];exact HP.out⟩
  ·obtain rfl:k=l.length:=by omega
   have hd:decide ((l.length:Int)<(l.length:Int))=false:=by simp
   rw[List.take_length]at HO HLEN
   obtain⟨s,hs⟩:∃s,delO l id=s:=⟨_,rfl⟩
   rw[hs]at HO HLEN
   have HS:=hD hs
   clear hs
   obtain⟨vA,vc,rfl⟩:=HO.out.form
   go_wp2_with fail
   go_ret
   exact⟨⟨_,rfl,by rw[HS.out];exact HO.out⟩,HB.out⟩
theorem X5s{tb p:Nat}{ts:Nat→Nat}{F:Nat→Prop}(o:OpD)(w:World)(ht:TblAt w tb p ts F)(ho:Z2e o≠0)(hr:In64 o.result):
  Calls Tryz.prog 55 #[.pointer (some ⟨tb,0,none⟩),o.val] w fun e w'=>e= .returned (.int .i64 (Z2e o))∧Ext w w':=by
 obtain⟨W0,hW0⟩:∃W0,w.alloc (.cells #[.int .i64 o.id,.int .i64 o.proc,.int .i64 o.object,.int .i64 o.kind,.int .i64 o.method,.int .i64 o.arg,.int .i64 o.second,.bool o.done,.int .i64 o.result,.int .i64 o.invoke,.int .i64 o.ret] 32)=W0:=⟨_,rfl⟩
 have HX0:Hid (Ext w W0):=by unfold Hid;rw[←hW0];exact Ext.alloc _ _
 have HR0:Hid (Row1 W0 w.heap.size 32 o.cells):=by unfold Hid;rw[←hW0];exact Row1.made w _ _
 have cE:Hid (∀W,Calls Tryz.prog 118 #[.agg #[.int .i64 o.id,.int .i64 o.proc,.int .i64 o.object,.int .i64 o.kind,.int .i64 o.method,.int .i64 o.arg,.int .i64 o.second,.bool o.done,.int .i64 o.result,.int .i64 o.invoke,.int .i64 o.ret]] W fun e w'=>e= .returned (.tuple #[.string ⟨#[]⟩,.int .i64 (Z2e o)])∧Ext W w'):=fun W=>by
  have h1:=Z6x o W hr
  rw[if_neg ho]at h1
  exact h1
 have cM:Hid (∀W,Ext w W→Calls Tryz.prog 70 #[.pointer (some ⟨tb,0,none⟩)] W fun e w'=>e= .returned (.bool true)∧W=w'):=fun W hW=>Z3j W (ht.ext hW).row
 obtain⟨c,hc⟩:∃c,Z2e o=c:=⟨_,rfl⟩
 rw[hc]at cE ho ⊢
 have q1:(c==0)=false:=by simpa using ho
 have q2:(c !=0)=true:=by simpa using ho
 clear hc ht hr
 go_enter Tryz.func55,Tryz.ntmps55
 go_upto_region 1 with fail
 clear hW0
 obtain⟨b0,b1,b2,b3,b4,b5,b6,b7,b8,b9,b10⟩:=At11.row HR0.out
 go_wp2_with (first
  | (go_at_call 118;(with_reducible refine(cE.out _).mono ?_);clear cE;rintro e w1 ⟨rfl,hb1⟩;have b0:=(At11.row (HR0.out.ext hb1 HR0.out.lt)).1;have HB1:Hid (Ext w w1):=HX0.out.trans hb1;clear hb1)
  | (go_at_call 70;(with_reducible refine(cM.out _ HB1.out).mono ?_);clear cM;rintro e w2 ⟨rfl,rfl⟩))
 go_ret
 exact⟨rfl,HB1.out⟩
def RIn(x:Int)(cs:List Value):Prop:=cs=encN x
theorem V5l{W:World}{g base:Nat}{l:List Int}(h:Row1 W g 3 (l.flatMap encN))(hl:l.length≤100)(hb:base≤g):OwnL W base 3 1 encN (.slice (some ⟨g,0,none⟩) l.length l.length) l:=
 OwnL.ofRow (spare:= []) (by rw[List.append_nil];exact h) hb (Nat.le_refl _) (by omega) (by rw[List.append_nil];exact(Z3c encN 1 Z0j l).symm▸rfl) Z0j
def wayI(way:Int)(o:OpD):List Int:=if 0≤way∧way<5 then wayL way.toNat o else []
theorem Y1k(way:Int)(o:OpD)(w:World):Calls Tryz.prog 62 #[.int .i64 way,o.val] w fun e w'=>(∃v,e= .returned v∧OwnL w' w.heap.size 3 1 encN v (wayI way o))∧Ext w w':=by
 have HBX:Hid (∀W:World,Ext (w.alloc (.cells #[.int .i64 o.id,.int .i64 o.proc,.int .i64 o.object,.int .i64 o.kind,.int .i64 o.method,.int .i64 o.arg,.int .i64 o.second,.bool o.done,.int .i64 o.result,.int .i64 o.invoke,.int .i64 o.ret] 32)) W→At11 W w.heap.size o):=fun W h=>(At11.row (Row1.made w 32 o.cells)).ext h (by simp)
 obtain⟨h0,h1,h2,h3,h4,h5,h6,h7,h8,h9,h10⟩:=HBX.out _ (Ext.refl _)
 have HE:Hid (endI o=if o.done=true then o.ret else 1099511627777):=rfl
 have HO:Hid (∀(l:List Int) (W:World),W.heap.size=w.heap.size+1→l.length≤3→OwnL (W.alloc (.cells (l.flatMap encN).toArray 3)) w.heap.size 3 1 encN (.slice (some ⟨w.heap.size+1,0,none⟩) l.length l.length) l):=fun l W hW hl=>V5l (Row1.made' hW _ _) (by omega) (by omega)
 go_enter Tryz.func62,Tryz.ntmps62
 go_upto_if 10 with fail
 go_cut [5] (fun s wx=>s= .int .i64 (endI o)∧w.alloc (.cells #[.int .i64 o.id,.int .i64 o.proc,.int .i64 o.object,.int .i64 o.kind,.int .i64 o.method,.int .i64 o.arg,.int .i64 o.second,.bool o.done,.int .i64 o.result,.int .i64 o.invoke,.int .i64 o.ret] 32)=wx)
 case first=>
  cases hd:o.done with
  | true=>
    rw[hd]at h7
    go_wp2_with fail
    go_meet
    exact⟨by rw[HE.out,if_pos hd],by rw[hd]⟩
  | false=>
    rw[hd]at h7
    go_wp2_with fail
    go_meet
    exact⟨by rw[HE.out,if_neg (by rw[hd];simp)],by rw[hd]⟩
 case rest=>
 obtain⟨rfl,rfl⟩:=hcut
 clear HE
 by_cases q0:way=0
 ·subst q0
  go_wp2_with fail
  go_ret
  exact⟨⟨_,rfl,HO.out (wayL 0 o) _ (by simp) (Z3q 0 o).2⟩,by exact Xt⟩
 by_cases q1:way=1
 ·subst q1
  go_wp2_with fail
  go_ret
  exact⟨⟨_,rfl,HO.out (wayL 1 o) _ (by simp) (Z3q 1 o).2⟩,by exact Xt⟩
 by_cases q2:way=2
 ·subst q2
  go_wp2_with fail
  go_ret
  exact⟨⟨_,rfl,HO.out (wayL 2 o) _ (by simp) (Z3q 2 o).2⟩,by exact Xt⟩
 by_cases q3:way=3
 ·subst q3
  go_wp2_with fail
  go_ret
  exact⟨⟨_,rfl,HO.out (wayL 3 o) _ (by simp) (Z3q 3 o).2⟩,by exact Xt⟩
 by_cases q4:way=4
 ·subst q4
  go_wp2_with fail
  go_ret
  exact⟨⟨_,rfl,HO.out (wayL 4 o) _ (by simp) (Z3q 4 o).2⟩,by exact Xt⟩
 have z0:(way==0)=false:=by simpa using q0
 have z1:(way==1)=false:=by simpa using q1
 have z2:(way==2)=false:=by simpa using q2
 have z3:(way==3)=false:=by simpa using q3
 have z4:(way==4)=false:=by simpa using q4
 have HN:Hid (wayI way o= []):=by unfold Hid wayI;rw[if_neg (by omega)]
 go_wp2_with fail
 go_ret
 exact⟨⟨_,rfl,by rw[HN.out];exact OwnL.nil _ _ _ _ _⟩,by exact Xt⟩
theorem V9h(fr l:List Int):fr.isPrefixOf l=true↔∀(i:Nat) (h:i<fr.length),l[i]? =some fr[i]:=by
 rw[List.isPrefixOf_iff_prefix,List.prefix_iff_getElem?]
theorem Y7d(V U:Value)(l fr:List Int)(w:World)(hs:Sl w 1 RIn V l)(hu:Sl w 1 RIn U fr):
  Calls Tryz.prog 63 #[V,U] w fun e w'=>e= .returned (.bool (fr.isPrefixOf l))∧Ext w w':=by
 obtain⟨A,c,rfl⟩:=hs.form
 obtain⟨B,d,rfl⟩:=hu.form
 obtain⟨_,hc1,hc2,hA⟩:=hs.at
 obtain⟨_,hd1,hd2,hB⟩:=hu.at
 have HA:=hD hA
 have HB:=hD hB
 have HP:=hD (V9h fr l)
 clear hs hu hA hB
 go_enter Tryz.func63,Tryz.ntmps63
 go_wp2_with fail
 go_loopw [5] (fun i wr=>∃k:Nat,k≤fr.length∧i= .int .i64 k∧(∃q,wr=w.drewN q)∧∀j (hj:j<fr.length),j<k→l[j]? =some fr[j]) (fun i _=>fr.length-(intOf i).toNat)
 case atStart=>exact⟨0,by omega,rfl,⟨0,rfl⟩,fun j _ h=>absurd h (by omega)⟩
 case round=>
  obtain⟨k,hk,rfl,⟨q,rfl⟩,hf⟩:=hrel
  have HF:=hD hf
  clear hf
  by_cases hlt:k<fr.length
  ·have hdk:decide ((k:Int)<(fr.length:Int))=true:=by simp;omega
   by_cases hl:k<l.length
   ·have hdl:decide ((l.length:Int)≤(k:Int))=false:=by simp;omega
    have hdl2:decide (l.length≤k)=false:=by simp;omega
    obtain⟨b,off,rfl,hbl,hx⟩:=HA.out (by omega)
    obtain⟨b',off',rfl,hbl',hx'⟩:=HB.out (by omega)
    obtain⟨cs,rfl,_,hcs⟩:=hx k hl
    obtain⟨cs',rfl,_,hcs'⟩:=hx' k hlt
    have h0:=hcs 0 _ rfl
    have g0:=hcs' 0 _ rfl
    simp only[Nat.add_zero,Nat.mul_one]at h0 g0
    have HL:Hid (l[k]? =some l[k]):=List.getElem?_eq_getElem hl
    have HS:Hid (l[k]=fr[k]→∀j (hj:j<fr.length),j<k+1→l[j]? =some fr[j]):=fun e j hj h=>by
     by_cases ej:j=k
     ·subst ej;rw[HL.out,e]
     ·exact HF.out j hj (by omega)
    have HN:Hid (l[k]≠fr[k]→fr.isPrefixOf l=false):=fun e=>by
     cases hp:fr.isPrefixOf l with
     | false=>rfl
     | true=>
       have h1:=HP.out.1 hp k hlt
       rw[HL.out]at h1
       exact absurd (Option.some.inj h1) e
    clear hx hcs hx' hcs' HL HF
    generalize l[k]=x at *
    generalize fr[k]=y at *
    by_cases he:x=y
    ·subst he
     have e1:(x !=x)=false:=bne_self_eq_false _
     go_wp2_with fail
     refine wp_region_held_drew (S:=fun W=>W.cell? ⟨b,off+k,none⟩=some (.int .i64 x)∧W.cell? ⟨b',off'+k,none⟩=some (.int .i64 x)) (by kernel_rfl) (⟨h0,g0⟩) (fun hHeld=> ?_)
     refine' tk 0 ?_
     refine' tk 1 ?_
     refine' tk 2 ?_
     refine' tk 3 ?_
     refine' tk 4 ?_
     refine' tk 5 ?_
     refine' tk 6 ?_
     refine' tk 7 ?_
     refine' tk 8 ?_
     refine' tk 9 ?_
     refine' tk 10 ?_
     refine' tk 11 ?_
     refine' tk 12 ?_
     refine' tk 13 ?_
     refine' tk 14 ?_
     refine wpAnyH_done (by kernel_rfl) ?_ _
     go_wp2_with fail
     go_roundw
     case measure=>simp[intOf];omega
     case rel=>exact⟨k+1,by omega,by go_num,⟨_,rfl⟩,HS.out (by simp)⟩
    ·have e1:(x !=y)=true:=by simpa using he
     have HN2:=hD (HN.out he)
     go_wp2_with fail
     refine wp_region_held_drew (S:=fun W=>W.cell? ⟨b,off+k,none⟩=some (.int .i64 x)∧W.cell? ⟨b',off'+k,none⟩=some (.int .i64 y)) (by kernel_rfl) (⟨h0,g0⟩) (fun hHeld=> ?_)
     refine' tk 0 ?_
     refine' tk 1 ?_
     refine' tk 2 ?_
     refine' tk 3 ?_
     refine' tk 4 ?_
     refine' tk 5 ?_
     refine' tk 6 ?_
     refine' tk 7 ?_
     refine' tk 8 ?_
     refine' tk 9 ?_
     refine' tk 10 ?_
     refine' tk 11 ?_
     refine' tk 12 ?_
     refine' tk 13 ?_
     refine' tk 14 ?_
     refine wpAnyH_done (by kernel_rfl) ?_ _
     go_wp2_with fail
     go_ret
     exact⟨by rw[HN2.out];rfl,by exact Xt⟩
   ·have hdl:decide ((l.length:Int)≤(k:Int))=true:=by simp;omega
    have hdl2:decide (l.length≤k)=true:=by simp;omega
    have HN2:Hid (fr.isPrefixOf l=false):=by
     cases hp:fr.isPrefixOf l with
     | false=>rfl
     | true=>
       have h1:=HP.out.1 hp k hlt
       rw[List.getElem?_eq_none (by omega)]at h1
       cases h1
    go_wp2_with fail
    refine wp_region_held_drew (S:=fun W=>0≤W.heap.size) (by kernel_rfl) (Nat.zero_le _) (fun hHeld=> ?_)
    refine' tk 0 ?_
    refine' tk 1 ?_
    refine' tk 2 ?_
    refine' tk 3 ?_
    refine' tk 4 ?_
    refine' tkn 5 ?_
    refine' tkn 6 ?_
    refine' tkn 7 ?_
    refine' tkn 8 ?_
    refine' tkn 9 ?_
    refine' tkn 10 ?_
    refine' tkn 11 ?_
    refine' tkn 12 ?_
    refine' tkn 13 ?_
    refine' tk 14 ?_
    refine wpAnyH_done (by kernel_rfl) ?_ _
    go_wp2_with fail
    go_ret
    exact⟨by rw[HN2.out];rfl,by exact Xt⟩
  ·obtain rfl:k=fr.length:=by omega
   have hdk:decide ((fr.length:Int)<(fr.length:Int))=false:=by simp
   have HT:Hid (fr.isPrefixOf l=true):=HP.out.2 (fun j hj=>HF.out j hj hj)
   go_wp2_with fail
   go_ret
   exact⟨by rw[HT.out];rfl,by exact Xt⟩
def ltI:List Int→List Int→Bool
 | [],[]=>false
 | [],_::_=>true
 | _::_,[]=>false
 | x::a,y::b=>if x=y then ltI a b else decide (x<y)
theorem V0s:∀(a b:List Int),ltI a b=true↔a<b
 | [],[]=>by simp[ltI]
 | [],y::b=>by simp[ltI]
 | x::a,[]=>by simp[ltI]
 | x::a,y::b=>by
   unfold ltI
   rw[List.cons_lt_cons_iff]
   by_cases e:x=y
   ·rw[if_pos e,V0s a b]
    subst e
    constructor
    ·exact fun h=> .inr ⟨rfl,h⟩
    ·rintro(h | ⟨_,h⟩)
     ·omega
     ·exact h
   ·rw[if_neg e,decide_eq_true_iff]
    constructor
    ·exact fun h=> .inl h
    ·rintro(h | ⟨h,_⟩)
     ·exact h
     ·exact absurd h e
theorem V5z{a b:List Int}{k:Nat}(ha:k<a.length)(hb:k<b.length):ltI (a.drop k) (b.drop k)=if a[k]=b[k]then ltI (a.drop (k+1)) (b.drop (k+1))else decide (a[k]<b[k]):=by
 rw[List.drop_eq_getElem_cons ha,List.drop_eq_getElem_cons hb]
 rfl
theorem V0t{a b:List Int}{k:Nat}(ha:k≤a.length)(hb:k≤b.length)(h:k=a.length∨k=b.length):ltI (a.drop k) (b.drop k)=decide (a.length<b.length):=by
 rcases h with h | h
 ·rw[List.drop_eq_nil_of_le (by omega:a.length≤k)]
  cases hd:b.drop k with
  | nil=>
    have:b.length-k=0:=by rw[←List.length_drop,hd];rfl
    simp only[ltI]
    exact(decide_eq_false (by omega)).symm
  | cons y r=>
    have:b.length-k=r.length+1:=by rw[←List.length_drop,hd];rfl
    simp only[ltI]
    exact(decide_eq_true (by omega)).symm
 ·rw[List.drop_eq_nil_of_le (by omega:b.length≤k)]
  cases hd:a.drop k with
  | nil=>simp only[ltI];exact(decide_eq_false (by omega)).symm
  | cons y r=>simp only[ltI];exact(decide_eq_false (by omega)).symm
theorem Y2x(V U:Value)(a b:List Int)(w:World)(hs:Sl w 1 RIn V a)(hu:Sl w 1 RIn U b):
  Calls Tryz.prog 64 #[V,U] w fun e w'=>e= .returned (.bool (ltI a b))∧Ext w w':=by
 obtain⟨A,c,rfl⟩:=hs.form
 obtain⟨B,d,rfl⟩:=hu.form
 obtain⟨_,hc1,hc2,hA⟩:=hs.at
 obtain⟨_,hd1,hd2,hB⟩:=hu.at
 have HA:=hD hA
 have HB:=hD hB
 clear hs hu hA hB
 obtain⟨r,hr⟩:∃r,ltI a b=r:=⟨_,rfl⟩
 have HR:Hid (ltI (a.drop 0) (b.drop 0)=r):=hr
 rw[hr]
 clear hr
 go_enter Tryz.func64,Tryz.ntmps64
 go_wp2_with fail
 go_loopw [5] (fun i wr=>∃k:Nat,k≤a.length∧k≤b.length∧i= .int .i64 k∧(∃q,wr=w.drewN q)∧Hid (ltI (a.drop k) (b.drop k)=r)) (fun i _=>a.length-(intOf i).toNat)
 case atStart=>exact⟨0,by omega,by omega,rfl,⟨0,rfl⟩,HR⟩
 case round=>
  obtain⟨k,hka,hkb,rfl,⟨q,rfl⟩,hf⟩:=hrel
  have HF:=hD hf
  clear hf HR
  by_cases hla:k<a.length
  ·have hda:decide ((k:Int)<(a.length:Int))=true:=by simp;omega
   by_cases hlb:k<b.length
   ·have hdb:decide ((k:Int)<(b.length:Int))=true:=by simp;omega
    obtain⟨g,off,rfl,hbl,hx⟩:=HA.out (by omega)
    obtain⟨g',off',rfl,hbl',hx'⟩:=HB.out (by omega)
    obtain⟨cs,rfl,_,hcs⟩:=hx k hla
    obtain⟨cs',rfl,_,hcs'⟩:=hx' k hlb
    have h0:=hcs 0 _ rfl
    have g0:=hcs' 0 _ rfl
    simp only[Nat.add_zero,Nat.mul_one]at h0 g0
    have HD:Hid ((if a[k]=b[k]then ltI (a.drop (k+1)) (b.drop (k+1))else decide (a[k]<b[k]))=r):=by unfold Hid;rw[←V5z hla hlb];exact HF.out.out
    clear hx hcs hx' hcs' HF
    generalize a[k]=x at *
    generalize b[k]=y at *
    by_cases he:x=y
    ·subst he
     have e1:(x !=x)=false:=bne_self_eq_false _
     have HN:Hid (ltI (a.drop (k+1)) (b.drop (k+1))=r):=by have h:=HD.out;rw[if_pos rfl]at h;exact h
     clear HD
     go_wp2_with fail
     go_quiet (fail)
     go_wp2_with fail
     go_roundw
     case measure=>simp[intOf];omega
     case rel=>exact⟨k+1,by omega,by omega,by go_num,⟨_,rfl⟩,HN⟩
    ·have e1:(x !=y)=true:=by simpa using he
     have HN:Hid (decide (x<y)=r):=by have h:=HD.out;rw[if_neg he]at h;exact h
     clear HD
     go_wp2_with fail
     go_quiet (fail)
     go_wp2_with fail
     go_quiet (fail)
     go_wp2_with fail
     go_ret
     exact⟨by rw[HN.out];rfl,by exact Xt⟩
   ·have hdb:decide ((k:Int)<(b.length:Int))=false:=by simp;omega
    have HN:Hid (decide (a.length<b.length)=r):=by unfold Hid;rw[←HF.out.out,V0t hka hkb (.inr (by omega))]
    go_wp2_with fail
    go_ret
    exact⟨by rw[←HN.out];show _=Ending.returned (.bool _);simp,by exact Xt⟩
  ·have hda:decide ((k:Int)<(a.length:Int))=false:=by simp;omega
   have HN:Hid (decide (a.length<b.length)=r):=by unfold Hid;rw[←HF.out.out,V0t hka hkb (.inl (by omega))]
   go_wp2_with fail
   go_ret
   exact⟨by rw[←HN.out];show _=Ending.returned (.bool _);simp,by exact Xt⟩
end
end Go.Proofs.YtmiolpfanlpfnaaGreat
