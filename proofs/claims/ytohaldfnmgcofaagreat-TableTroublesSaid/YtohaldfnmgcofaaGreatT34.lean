/- table.keys: under which key each operation must be, way by way. Conditions: a table's first tree. -/
import Derived.Test.YtohaldfnmgcofaaGreatT25
import Derived.Test.YtohaldfnmgcofaaGreatT32
import Derived.Sort.CutIn
set_option maxRecDepth 100000
set_option maxHeartbeats 8000000
set_option linter.unusedSimpArgs false
set_option linter.unusedVariables false
namespace Go.Proofs.YtohaldfnmgcofaaGreat
section
open Go.RowKit
attribute [local go_sem] Oper.semAt_some
def mapC(bs:Nat->Nat)(k:Nat):List Value:=(List.range 5).map fun j=>if j<k then .map (some (bs j))else .map none
theorem Z9b(bs:Nat->Nat)(k j:Nat)(hj:j<5):(mapC bs k)[j]? =some (if j<k then .map (some (bs j))else .map none):=by unfold mapC;rw[List.getElem?_map,List.getElem?_range hj];rfl
theorem V7h(bs:Nat->Nat)(k t:Nat)(hk:k<5):(mapC bs k).set k (.map (some t))=mapC (fun j=>if j=k then t else bs j) (k+1):=by
 apply List.ext_getElem?;intro j;by_cases hj:j<5
 ·rw[Z9b _ _ _ hj,List.getElem?_set,Z9b _ _ _ hj];have hl:(mapC bs k).length=5:=by simp[mapC]
  by_cases e:k=j
  ·subst e;rw[if_pos rfl,if_pos (by rw[hl];exact hk),if_pos (by omega),if_pos rfl]
  ·rw[if_neg e];by_cases h:j<k
   ·rw[if_pos h,if_pos (by omega),if_neg (by omega)]
   ·rw[if_neg h,if_neg (by omega)]
 ·rw[List.getElem?_eq_none (by simp[mapC];omega),List.getElem?_eq_none (by simp[mapC];omega)]
theorem Z3e{w:World}{k t:TypeId}{b n g:Nat}{f:ByteArray->Option Int}{cs:List Value}(h:MapS w k b n f)(hr:Row1 w g t cs):b≠g:=by rintro rfl;obtain⟨D,⟨es,clock,h1,_⟩,_⟩:=h;unfold Row1 at hr;rw[hr]at h1;cases h1
structure MapsAt (W:World) (M:Nat) (bs:Nat->Nat) (n:Nat) (f:Nat->ByteArray->Option Int):Prop where
 row:Row1 W M 170 (mapC bs 5)
 maps:∀i,i<5->MapS W 9 (bs i) n (f i)
 inj:∀i j,i<5->j<5->bs i=bs j->i=j
theorem MapsAt.only{W W':World}{M n:Nat}{bs:Nat->Nat}{f:Nat->ByteArray->Option Int}{G:Nat->Prop}(h:MapsAt W M bs n f)(ho:Only G W W')(hM:¬G M)(hb:∀i,i<5->¬G (bs i)):MapsAt W' M bs n f:=
 ⟨ho.row h.row hM,fun i hi=>ho.mapS (h.maps i hi) (hb i hi),h.inj⟩
theorem X7p(i:Nat)(pre:List OpD)(x:OpD):Z1l i (pre++ [x])=updS (Z1l i pre) (wayK i x) (some x.id):=by unfold Z1l;rw[List.foldl_append];rfl
theorem Y5t{P:Program}{F:Fence}{n id:Nat}{c:Code}{K:Act->World->Prop}{Q:Exit->Act->World->Prop}{a:Act}{w:World}(h:c.wpIn F n P (X2n K) a w):c.wpIn F n P (Exit.inBlock id (Exit.then K Q)) a w:=
 wpIn_mono h (by
  intro e a w q;cases e<;>first | exact q | exact q.elim)
def V1v:List Value:= [.map none,.map none,.map none,.map none,.map none]
structure KeyM (w:World) (k:Nat) (bs:Nat->Nat) (wr:World):Prop where
 rr:Row1 wr w.heap.size 170 V1v
 rm:Row1 wr (w.heap.size+1) 170 (mapC bs k)
 maps:∀j,j<k->MapS wr 9 (bs j) 0 (fun _=>none)/\w.heap.size<=bs j
 inj:∀i j,i<k->j<k->bs i=bs j->i=j
 ext:Ext w wr
structure KeyJ (R M:Nat) (bs:Nat->Nat) (pre:List OpD) (G:Nat->Prop) (W:World):Prop where
 gR:G R
 gM:G M
 gb:∀i,i<5->G (bs i)
 rR:Row1 W R 170 V1v
 at_:MapsAt W M bs pre.length (fun i=>Z1l i pre)
theorem KeyJ.abides{R M:Nat}{bs:Nat->Nat}:Z2y (KeyJ R M bs):=fun _ _ _ _ h _ ho=>
 ⟨h.gR,h.gM,h.gb,ho.row h.rR (fun r=>r h.gR),h.at_.only ho (fun r=>r h.gM) (fun i hi r=>r (h.gb i hi))⟩
structure KeyP (W:World) (bs:Nat->Nat) (pre:List OpD) (x:OpD) (k:Nat) (wr:World):Prop where
 only:Only (fun i=>∃j,j<5/\i=bs j) W wr
 maps:∀i,i<5->MapS wr 9 (bs i) (if i<k then pre.length+1 else pre.length) (if i<k then Z1l i (pre++ [x])else Z1l i pre)
theorem KeyP.next{W wr w9:World}{bs:Nat->Nat}{pre:List OpD}{x:OpD}{k:Nat}(h:KeyP W bs pre x k wr)(hk:k<5)(hinj:∀i j,i<5->j<5->bs i=bs j->i=j)(hb:∀i,i<5->bs i<wr.heap.size)(w5:World)(hx:Ext wr w5)
 (hm:MapS w9 9 (bs k) (pre.length+1) (updS (Z1l k pre) (wayK k x) (some x.id)))(ht:But (bs k) w5 w9):KeyP W bs pre x (k+1) w9:=by
 have ho:Only (fun i=>i=bs k) wr w9:=(Only.of hx).trans' (Only.but ht (.inl rfl));refine⟨h.only.trans' (ho.mono (fun i q=> .inl ⟨k,hk,q⟩)),fun i hi=> ?_⟩;by_cases e:i=k
 ·subst e;rw[if_pos (by omega),if_pos (by omega),X7p];exact hm
 ·have h1:=ho.mapS (h.maps i hi) (fun q=>e (hinj i k hi hk q));by_cases q:i<k
  ·rw[if_pos q,if_pos q]at h1;rw[if_pos (by omega),if_pos (by omega)];exact h1
  ·rw[if_neg q,if_neg q]at h1;rw[if_neg (by omega),if_neg (by omega)];exact h1
theorem V6c{fn:Func}(h:fn.results= #[.cell 2 170])(tmps:Array Value)(w:World)(B:Nat)(m0 m1 m2 m3 m4:Value)(hB:tmps.getD 2 undef= tp B)(hr:Row1 w B 170 [m0,m1,m2,m3,m4]):
  (results fn tmps).run Tryz.prog w= .ok (.agg #[m0,m1,m2,m3,m4]) w:=by
 have hp':tmps[2]?.getD undef= tp B:=by simpa using hB
 have c0:w.cell? ⟨B,0,none⟩=some m0:=hr.cell 0;have c1:w.cell? ⟨B,1,none⟩=some m1:=hr.cell 1;have c2:w.cell? ⟨B,2,none⟩=some m2:=hr.cell 2;have c3:w.cell? ⟨B,3,none⟩=some m3:=hr.cell 3;have c4:w.cell? ⟨B,4,none⟩=some m4:=hr.cell 4;simp only[results,h];simp[hp',asAddr,Sem.run_bind,Result.andThen]
 go_simp
theorem ItF.after{tb p bt:Nat}{ts:Nat->Nat}{S:StoreD}{F G F1 G1:Nat->Prop}{w1 W:World}(hit:ItF tb p ts bt S F1 W)(ht:TblAt w1 tb p ts F)(hb:Row1 w1 bt 66 [tp tb])(hd:Dis F1 G1 W)(hk:Keeps (Un (fun i=>F i\/T1 tb ts bt i) G) (Un F1 G1) w1 W):
  ∃F',F1=(fun i=>F' i\/T1 tb ts bt i)/\TblAt W tb p ts F'/\PagerAt W p F' S/\Keeps (Un F G) (Un F' G1) w1 W:=by
 obtain⟨F',rfl,q1,q2,q3,q4⟩:=hit;refine⟨F',rfl,q1,q2,⟨hk.only.os,hk.only.tape,hk.only.output,hk.only.size,fun i hi hn=> ?_⟩,fun i q=> ?_⟩
 ·by_cases h1:T1 tb ts bt i
  ·rcases h1 with rfl | ⟨j,hj,rfl⟩ | rfl
   ·exact q1.row.trans ht.row.symm
   ·exact(q1.tree j hj).trans (ht.tree j hj).symm
   ·exact q3.trans hb.symm
  ·refine hk.only.block i hi (fun r=> ?_);rcases r with (r | r) | r
   ·exact hn (.inl r)
   ·exact h1 r
   ·exact hn (.inr r)
 ·have hn1:¬T1 tb ts bt i:=fun r=>by
   rcases q with q | q
   ·rcases r with rfl | ⟨j,hj,rfl⟩ | rfl
    ·exact q1.out q
    ·exact q1.outs j hj q
    ·exact q4 q
   ·exact(hd.2 i q).2 (.inr r)
  rcases hk.new i (q.imp (fun q=> .inl q) id)with ((r | r) | r) | r
  ·exact .inl (.inl r)
  ·exact absurd r hn1
  ·exact .inl (.inr r)
  ·exact .inr r
end
section
open Go.RowKit
attribute [local go_sem] Oper.semAt_some
def U2m(tb p:Nat)(ts:Nat->Nat)(S:StoreD)(all:List OpD)(F:Nat->Prop)(w:World)(e:Ending)(w':World):Prop:=
 ∃(bs:Nat->Nat) (F':Nat->Prop),e= .returned (.agg #[.map (some (bs 0)),.map (some (bs 1)),.map (some (bs 2)),.map (some (bs 3)),.map (some (bs 4))])/\(∀i,i<5->MapS w' 9 (bs i) all.length (Z1l i all))/\
  (∀i j,i<5->j<5->bs i=bs j->i=j)/\(∀i,i<5->w.heap.size<=bs i/\¬F' (bs i))/\TblAt w' tb p ts F'/\PagerAt w' p F' S/\Keeps F F' w w'
theorem X1z{tb p:Nat}{ts:Nat->Nat}{F:Nat->Prop}{S:StoreD}{Ts:Nat->TrD}{ls all:List OpD}(w:World)(ht:TblAt w tb p ts F)(hp:PagerAt w p F S)(hlow:∀i,F i->i<w.heap.size)
 (htr:TrS S 0 (Ts 0))(hok:∀o∈ls,Z1p o=0)(hd:depT (Ts 0)<=31)(hf:Finds Ts 0 ⟨#[]⟩ ls all all.length)(hn:all.length<=100000):
  cQ 86 #[tp tb] w (U2m tb p ts S all F w):=by
 refine callsIn_wide (n:=3).1 ?_;refine callsIn_of_wp_marks Tryz.func86 rfl trivial ?_ rfl;simp only[Tryz.ntmps86,List.size_toArray,List.length_cons,List.length_nil,Nat.reduceAdd,Nat.reduceSub,Array.replicate_succ,Array.replicate_zero,List.push_toArray,List.append_toArray,List.nil_append,List.cons_append];have HOKO:Hid (∀o∈all,Z1p o=0):=fun o ho=>hok o (hf.mem o ho);have HST:Hid (∀W,W=(w.alloc (.cells #[.map none,.map none,.map none,.map none,.map none] 170)).alloc (.cells #[.map none,.map none,.map none,.map none,.map none] 170)->KeyM w 0 (fun _=>0) W):=by rintro W rfl;exact⟨(Row1.made w _ V1v).alloc _,Row1.made' (by simp) _ (mapC (fun _=>0) 0),fun j hj=>absurd hj (by omega),fun i j hi=>absurd hi (by omega),(Ext.alloc _ _).trans (Ext.alloc _ _)⟩
 have hmm:= @run_makeMap Tryz.prog;gi_wp2_with fail
 gi_loopw [7] (fun x wr=>∃(k:Nat) (bs:Nat->Nat),k<=5/\x= .int .i64 (k:Nat)/\KeyM w k bs wr) (fun x _=>5-(intOf x).toNat)
 case atStart=>exact⟨0,_,by omega,rfl,HST.out _ rfl⟩
 case round=>
  obtain⟨k,bs,hk,rfl,hr⟩:=hrel;have HR:=hD hr;clear hr;by_cases hk5:k<5
  ·have q1:decide ((k:Int)<5)=true:=aN;have q2:(k:Int)<5:=by omega
   have c0:(wr.alloc (.map #[] 0)).cell? ⟨w.heap.size+1,k,none⟩=some (.map none):=by rw[(HR.out.rm.alloc _).cell k,Z9b _ _ _ hk5,if_neg (by omega)]
   have f0:(wr.alloc (.map #[] 0)).frozen? ⟨w.heap.size+1,k,none⟩=false:=(HR.out.rm.alloc _).soft k;have HREL:Hid (∀W,W=(wr.alloc (.map #[] 0)).setCell ⟨w.heap.size+1,k,none⟩ (.map (some wr.heap.size))->KeyM w (k+1) (fun j=>if j=k then wr.heap.size else bs j) W):=by
    rintro W rfl;have h:=HR.out;have hx:Ext wr (wr.alloc (.map #[] 0)):=Ext.alloc _ _;have ho:=Only.setCell (F:=fun i=>i=w.heap.size+1) (p:=⟨w.heap.size+1,k,none⟩) (Only.refl (a:=wr.alloc (.map #[] 0))) (.inl rfl) (.map (some wr.heap.size));have hz:=h.rm.lt;have hm:∀j,j<k->bs j≠w.heap.size+1/\bs j<wr.heap.size:=fun j hj=>⟨Z3e (h.maps j hj).1 h.rm,(h.maps j hj).1.lt⟩;refine⟨(h.rr.alloc _).setFar (by simp) _,by rw[<-V7h _ _ _ hk5];exact(h.rm.alloc _).set k _,fun j hj=> ?_,fun i j hi hj=> ?_,(Only.of (F:=fun i=>i=w.heap.size+1) (h.ext.trans hx)).trans' ho |>.toExt (fun i q=>by omega)⟩
    ·by_cases e:j=k
     ·subst e;rw[if_pos rfl];exact⟨ho.mapS (MapS.made wr _) (by omega),by omega⟩
     ·rw[if_neg e];exact⟨ho.mapS ((h.maps j (by omega)).1.ext hx) (hm j (by omega)).1,(h.maps j (by omega)).2⟩
    ·intro e;by_cases e1:i=k
     ·by_cases e2:j=k
      ·omega
      ·rw[if_pos e1,if_neg e2]at e;have:=(hm j (by omega)).2;omega
     ·by_cases e2:j=k
      ·rw[if_neg e1,if_pos e2]at e;have:=(hm i (by omega)).2;omega
      ·rw[if_neg e1,if_neg e2]at e;exact h.inj i j (by omega) (by omega) e
   gi_wp2_with fail
   go_roundw
   case rel=>exact⟨k+1,_,by omega,by go_num,HREL.out _ rfl⟩
   case measure=>simp[intOf];omega
  ·obtain rfl:k=5:=by omega
   have q1:decide (((5:Nat):Int)<5)=false:=by simp
   have cA:=Y6b (some ⟨tb,0,none⟩) wr;gi_wp2_with (refine ⟨trivial,?_⟩;gi_at_call 73;refine(callsIn_wide.2 cA).mono ?_;clear cA;rintro e w1 ⟨bt,rfl,h1,h2,h3⟩);have hx:Ext w w1:=HR.out.ext.trans h1;have HM1:Hid (KeyM w 5 bs w1):=⟨HR.out.rr.ext h1 HR.out.rr.lt,HR.out.rm.ext h1 HR.out.rm.lt,fun j hj=>⟨(HR.out.maps j hj).1.ext h1,(HR.out.maps j hj).2⟩,HR.out.inj,hx⟩;have htb:=ht.row.lt;have hts:∀j,j<5->ts j<w.heap.size:=fun j hj=>(ht.tree j hj).lt;have hzx:=hx.size;have hbl:=h3.lt;have hbsz:=HR.out.ext.size;have hrr:=HM1.out.rr.lt;have hrm:=HM1.out.rm.lt;have hbb:∀i,i<5->w.heap.size<=bs i/\bs i<w1.heap.size/\bs i<wr.heap.size:=fun i hi=>⟨(HM1.out.maps i hi).2,(HM1.out.maps i hi).1.lt,(HR.out.maps i hi).1.lt⟩;obtain⟨G0,hG0⟩:∃G0:Nat->Prop,G0=fun i=>i=w.heap.size\/i=w.heap.size+1\/∃j,j<5/\i=bs j:=⟨_,rfl⟩;have hG:∀i,G0 i->w.heap.size<=i/\i<w1.heap.size/\i<wr.heap.size:=fun i q=>by
    rw[hG0]at q;have:=HR.out.rm.lt;rcases q with rfl | rfl | ⟨j,hj,rfl⟩
    ·omega
    ·omega
    ·have:=hbb j hj;omega
   have HD0:Hid (Dis (fun i=>F i\/T1 tb ts bt i) G0 w1):=⟨fun i q=>by
    rcases q with q | rfl | ⟨j,hj,rfl⟩ | rfl
    ·have:=hlow i q;omega
    ·omega
    ·have:=hts j hj;omega
    ·exact hbl,fun i q=>⟨(hG i q).2.1,fun r=>by
     have:=hG i q;rcases r with r | rfl | ⟨j,hj,rfl⟩ | rfl
     ·have:=hlow i r;omega
     ·omega
     ·have:=hts j hj;omega
     ·omega⟩⟩
   have HJ0:Hid (KeyJ w.heap.size (w.heap.size+1) bs [] G0 w1):=⟨by rw[hG0];exact .inl rfl,by rw[hG0];exact .inr (.inl rfl),fun i hi=>by rw[hG0];exact .inr (.inr ⟨i,hi,rfl⟩),HM1.out.rr,⟨HM1.out.rm,fun i hi=>(HM1.out.maps i hi).1,HM1.out.inj⟩⟩;have HIT0:Hid (ItF tb p ts bt S (fun i=>F i\/T1 tb ts bt i) w1):=⟨F,rfl,ht.ext hx,hp.ext hx,h3,fun q=>by have:=hlow _ q;omega⟩;have HTB:Hid (TblAt w1 tb p ts F/\Row1 w1 bt 66 [tp tb]):=⟨ht.ext hx,h3⟩;have HGW:Hid (∀i,G0 i->w.heap.size<=i):=fun i q=>(hG i q).1;have HX1:=hD hx;clear hG hG0;refine Y4q (motive:=fun a=>Code.wpIn Fence.wide 3 Tryz.prog _ _ a _) (fun a0 hA0=> ?_);refine Z4g rfl (by decide) (gf:=132) (lb:=#[tp bt]) (by rw[hA0];rfl) trivial (enters_of Tryz.func132 (by kernel_rfl) rfl)
    (Y7c (bt:=bt) (tb:=tb) (p:=p) (ts:=ts) w1 htr hok hd hf) (Ext.refl w1) (fun _=>rfl) (fun i=>F i\/T1 tb ts bt i) G0 (ItF.abides (by omega) (fun j hj=>by have:=hts j hj;omega) hbl)
    HIT0.out HD0.out (KeyJ w.heap.size (w.heap.size+1) bs) (fun c pre G W=>False) KeyJ.abides (fun c s G W W' q q2 q3=>q) HJ0.out
    (fun x W a1 W1=>W1=W.alloc (.cells x.cells.toArray 73)/\a1= { tmps:=(a0.tmps.setIfInBounds 16 x.val).setIfInBounds 5 (tp W.heap.size),defers:= []})
    (fun x W a1 W1 q=>q.1▸Ext.alloc _ _) ?assign ?body ?done ?stop
   case assign=>
    intro l x W K hK;subst hA0;simp only[V8n,X3n,List.setIfInBounds_toArray,List.set_cons_succ,List.set_cons_zero]at hK ⊢;gi_wp2
    first | exact hK _ _ ⟨rfl,rfl⟩ | exact⟨rfl,rfl⟩ | exact rfl
   case body=>
    rintro l pre x W0 a1 W1 W F1 G1 ⟨rfl,rfl⟩ hl0 hl1 hl2 ho1 hzz hd0 hI hit1 hd1 hok1;subst hA0;simp only[List.setIfInBounds_toArray,List.set_cons_succ,List.set_cons_zero];have hlen:pre.length+1<=all.length:=by obtain⟨r,hr⟩:=hok1;have:=congrArg List.length hr;simp only[aA,List.length_cons,List.length_nil,aD]at this;omega
    have hxm:Z1p x=0:=by
     obtain⟨r,hr⟩:=hok1;refine HOKO.out x ?_;have:x∈(pre++ [x])++r:=by simp
     rw[hr,List.take_length]at this;exact this
    have hwin:=(OpIn.of hxm).way;have HXR:Hid (Row1 W W0.heap.size 73 x.cells):=ho1.row (Row1.made W0 _ x.cells) (by omega);have hbW:∀i,i<5->bs i<W0.heap.size:=fun i hi=>(hd0.2 _ (hI.gb i hi)).1;have hMW:=(hd0.2 _ hI.gM).1;have HI:=hD hI;have HD:=hD hd1;have HIT:=hD hit1;have HW0:Hid (W0.heap.size<W.heap.size):=HXR.out.lt;have HNE:Hid (∀i,i<5->bs i≠w.heap.size+1/\bs i≠W0.heap.size):=fun i hi=>⟨Z3e (hI.at_.maps i hi) hI.at_.row,by have:=hbW i hi;omega⟩;have HCX:Hid (∀wr' W',Only (fun i=>∃j,j<5/\i=bs j) W wr'->Ext wr' W'->∀k,k<5->W'.cell? ⟨w.heap.size+1,k,none⟩=some (.map (some (bs k)))/\(W'.cell? ⟨W0.heap.size,0,none⟩=some (.int .i64 x.id)/\W'.cell? ⟨W0.heap.size,1,none⟩=some (.int .i64 x.proc)/\W'.cell? ⟨W0.heap.size,2,none⟩=some (.int .i64 x.object)/\W'.cell? ⟨W0.heap.size,3,none⟩=some (.int .i64 x.kind)/\W'.cell? ⟨W0.heap.size,4,none⟩=some (.int .i64 x.method)/\W'.cell? ⟨W0.heap.size,5,none⟩=some (.int .i64 x.arg)/\W'.cell? ⟨W0.heap.size,6,none⟩=some (.int .i64 x.second)/\W'.cell? ⟨W0.heap.size,7,none⟩=some (.bool x.done)/\W'.cell? ⟨W0.heap.size,8,none⟩=some (.int .i64 x.result)/\W'.cell? ⟨W0.heap.size,9,none⟩=some (.int .i64 x.invoke)/\W'.cell? ⟨W0.heap.size,10,none⟩=some (.int .i64 x.ret))):=fun wr' W' ho hx' k hk=>by have r1:=ho.row HI.out.at_.row (fun ⟨j,hj,e⟩=>(HNE.out j hj).1 e.symm);have r2:=ho.row HXR.out (fun ⟨j,hj,e⟩=>(HNE.out j hj).2 e.symm);refine⟨?_,At11.row (r2.ext hx' r2.lt)⟩;rw[(r1.ext hx' r1.lt).cell k,Z9b _ _ _ hk,if_pos hk]
    have HLEN:=hD hlen;clear hl0 hl1 hl2 ho1 hzz hd0 hI hit1 hd1 hok1 hmm hbW hMW hlen;gi_wp2_with fail
    gi_loopw [17] (fun v wr=>∃k:Nat,k<=5/\v= .int .i64 (k:Nat)/\KeyP W bs pre x k wr) (fun v _=>5-(intOf v).toNat)
    case atStart=>exact⟨0,by omega,rfl,Only.refl,fun i hi=>by rw[if_neg (by omega),if_neg (by omega)];exact HI.out.at_.maps i hi⟩
    case round=>
     obtain⟨k,hk,rfl,hr⟩:=hrel;have HR:=hD hr;clear hr;by_cases hk5:k<5
     ·have q1:decide ((k:Int)<5)=true:=aN;have q2:(k:Int)<5:=by omega
      have cW:Hid (∀W',cQ 89 #[.int .i64 (k:Nat),.agg #[.int .i64 x.id,.int .i64 x.proc,.int .i64 x.object,.int .i64 x.kind,.int .i64 x.method,.int .i64 x.arg,.int .i64 x.second,.bool x.done,.int .i64 x.result,.int .i64 x.invoke,.int .i64 x.ret]] W' fun e w'=>e= .returned (.string (wayK k x))/\Ext W' w'):=fun W'=>Z5q k x W' hk5 (hwin k);have HKZ:Hid ((wayK k x).size<=maxLen):=by have:=(Z6y k x).2;unfold Hid;simp[maxLen];omega
      have HMS:Hid (∀W',Ext wr W'->MapS W' 9 (bs k) pre.length (Z1l k pre)):=fun W' hW=>by have h:=HR.out.maps k hk5;rw[if_neg (by omega),if_neg (by omega)]at h;exact h.ext hW
      gi_upto_region 12 with fail
      refine Y5t ?_;refine Y7y (S:=fun W=>W.cell? ⟨w.heap.size+1,k,none⟩=some (.map (some (bs k)))/\(W.cell? ⟨W0.heap.size,0,none⟩=some (.int .i64 x.id)/\W.cell? ⟨W0.heap.size,1,none⟩=some (.int .i64 x.proc)/\W.cell? ⟨W0.heap.size,2,none⟩=some (.int .i64 x.object)/\W.cell? ⟨W0.heap.size,3,none⟩=some (.int .i64 x.kind)/\W.cell? ⟨W0.heap.size,4,none⟩=some (.int .i64 x.method)/\W.cell? ⟨W0.heap.size,5,none⟩=some (.int .i64 x.arg)/\W.cell? ⟨W0.heap.size,6,none⟩=some (.int .i64 x.second)/\W.cell? ⟨W0.heap.size,7,none⟩=some (.bool x.done)/\W.cell? ⟨W0.heap.size,8,none⟩=some (.int .i64 x.result)/\W.cell? ⟨W0.heap.size,9,none⟩=some (.int .i64 x.invoke)/\W.cell? ⟨W0.heap.size,10,none⟩=some (.int .i64 x.ret))) (by kernel_rfl) (by kernel_rfl) (HCX.out _ _ HR.out.only (by exact Xt) k hk5) (fun hHeld=> ?_);refine' tkW 0 ?_;refine' tkW 1 ?_;refine' tkW 2 ?_;refine' tkW 3 ?_;refine' tkW 4 ?_;refine' tkW 6 ?_;refine' tkW 7 ?_;refine stpW 5 (fun K hK=> ?_);go_simp
      (with_reducible refine(cW.out _).mono ?_)
      rintro e w5 ⟨rfl,hb5⟩;have HX5:Hid (Ext wr w5):=Ext.trans (by exact Xt) hb5;clear hb5
      (try dsimp only)
      (try go_simp)
      refine hK.out _ _ (HCX.out _ _ HR.out.only HX5.out k hk5) (fun hHeld=> ?_);clear hK K;refine ptW ?_;obtain⟨w9,hr9,hm9,ht9⟩:=MapS.store (w:=w5) (t:=169) (HMS.out _ HX5.out) Tryz.underlying9 Tryz.underlying169 (by have:=HLEN.out;omega) HKZ.out x.id;have HP9:Hid (KeyP W bs pre x (k+1) w9):=HR.out.next hk5 HI.out.at_.inj (fun i hi=>aE (HI.out.at_.maps i hi).lt HR.out.only.size) w5 HX5.out hm9 (Z4m ht9);clear hm9 ht9;refine stpW 8 (fun K hK=> ?_);go_simp;refine hK.out _ _ (HCX.out _ _ HP9.out.only (Ext.refl _) k hk5) (fun hHeld=> ?_);clear hK K;refine ptW ?_;refine Z8a (by kernel_rfl) ?_ _;dsimp only[X2n];gi_wp2_with fail
      go_roundw
      case rel=>exact⟨k+1,by omega,by go_num,HP9.out⟩
      case measure=>simp[intOf];omega
     ·obtain rfl:k=5:=by omega
      have q1:decide (((5:Nat):Int)<5)=false:=by simp
      have HF9:Hid (∃F2 G2,ItF tb p ts bt S F2 wr/\Dis F2 G2 wr/\Keeps (Un F1 G1) (Un F2 G2) W wr/\KeyJ w.heap.size (w.heap.size+1) bs (pre++ [x]) G2 wr):=by have ho:=HR.out.only;have hJ:=HI.out;have hsz:=ho.size;have hbG:∀i,(∃j,j<5/\i=bs j)->G1 i:=fun i ⟨j,hj,e⟩=>e▸hJ.gb j hj;have hne:∀g t cs,Row1 W g t cs->¬∃j,j<5/\g=bs j:=fun g t cs hr ⟨j,hj,e⟩=>Z3e (hJ.at_.maps j hj) hr e.symm;refine⟨F1,G1,HIT.out.only ho (fun i q=>(HD.out.2 i (hbG i q)).2),⟨fun i q=>by have:=HD.out.1 i q;omega,fun i q=>⟨by have:=(HD.out.2 i q).1;omega,(HD.out.2 i q).2⟩⟩,⟨ho.mono (fun i q=> .inl (.inr (hbG i q))),fun i q=> .inl q⟩,hJ.gR,hJ.gM,hJ.gb,ho.row hJ.rR (hne _ _ _ hJ.rR),ho.row hJ.at_.row (hne _ _ _ hJ.at_.row),fun i hi=> ?_,hJ.at_.inj⟩;have h:=HR.out.maps i hi;rw[if_pos hi,if_pos hi]at h;rw[aA];exact h
      gi_wp2_with fail;exact HF9.out
   case done=>
    rintro D xs W F1 G1 jH rfl hI hit1 hd1 hn1 hn2 hk hK;subst hA0;rw[List.take_length]at hI;obtain⟨F',rfl,q1,q2,q3⟩:=hit1.after HTB.out.1 HTB.out.2 hd1 hk;have hRM:Row1 W (w.heap.size+1) 170 [.map (some (bs 0)),.map (some (bs 1)),.map (some (bs 2)),.map (some (bs 3)),.map (some (bs 4))]:=hI.at_.row;have hRR:Row1 W w.heap.size 170 [.map none,.map none,.map none,.map none,.map none]:=hI.rR;have z0:W.cell? ⟨w.heap.size+1,0,none⟩=some (.map (some (bs 0))):=hRM.cell 0;have z1:W.cell? ⟨w.heap.size+1,1,none⟩=some (.map (some (bs 1))):=hRM.cell 1;have z2:W.cell? ⟨w.heap.size+1,2,none⟩=some (.map (some (bs 2))):=hRM.cell 2;have z3:W.cell? ⟨w.heap.size+1,3,none⟩=some (.map (some (bs 3))):=hRM.cell 3;have z4:W.cell? ⟨w.heap.size+1,4,none⟩=some (.map (some (bs 4))):=hRM.cell 4;have y0:W.cell? ⟨w.heap.size,0,none⟩=some (.map none):=hRR.cell 0;have y1:W.cell? ⟨w.heap.size,1,none⟩=some (.map none):=hRR.cell 1;have y2:W.cell? ⟨w.heap.size,2,none⟩=some (.map none):=hRR.cell 2;have y3:W.cell? ⟨w.heap.size,3,none⟩=some (.map none):=hRR.cell 3;have y4:W.cell? ⟨w.heap.size,4,none⟩=some (.map none):=hRR.cell 4;have x0:=hRR.soft 0;have x1:=hRR.soft 1;have x2:=hRR.soft 2;have x3:=hRR.soft 3;have x4:=hRR.soft 4;have HEND:Hid (∀W2,Only (fun i=>i=w.heap.size) W W2->Row1 W2 w.heap.size 170 [.map (some (bs 0)),.map (some (bs 1)),.map (some (bs 2)),.map (some (bs 3)),.map (some (bs 4))]->W2.heap[D]? =some (.deferred (some []))/\
      Row1 (W2.putObj D (.deferred none)) w.heap.size 170 [.map (some (bs 0)),.map (some (bs 1)),.map (some (bs 2)),.map (some (bs 3)),.map (some (bs 4))]/\∀e,e= .returned (.agg #[.map (some (bs 0)),.map (some (bs 1)),.map (some (bs 2)),.map (some (bs 3)),.map (some (bs 4))])->U2m tb p ts S all F w e (W2.putObj D (.deferred none))):=fun W2 hO hR2=>by
     have ho2:=Only.putObj W2 D (.deferred none);have ho:=(hO.mono (F':=fun i=>i=w.heap.size\/i=D) (fun i q=> .inl (.inl q))).trans' (ho2.mono (fun i q=> .inl (.inr q)));have hDR:D≠w.heap.size:=fun e=>hn2 (e▸hI.gR);have hnF:∀i,F' i->¬(i=w.heap.size\/i=D):=fun i q r=>by
      rcases r with rfl | rfl
      ·exact(hd1.2 _ hI.gR).2 (.inl q)
      ·exact hn1 (.inl q)
     have hnT:∀i,T1 tb ts bt i->¬(i=w.heap.size\/i=D):=fun i q r=>by
      rcases r with rfl | rfl
      ·exact(hd1.2 _ hI.gR).2 (.inr q)
      ·exact hn1 (.inr q)
     refine⟨(hO.block D (Array.getElem?_eq_some_iff.1 hK).1 hDR).trans hK,ho2.row hR2 (fun q=>hDR q.symm),fun e he=>⟨bs,F',he,fun i hi=> ?_,hI.at_.inj,fun i hi=>⟨(hbb i hi).1,fun q=>(hd1.2 _ (hI.gb i hi)).2 (.inl q)⟩,⟨ho.row q1.row (hnT _ (.inl rfl)),fun j hj=>ho.row (q1.tree j hj) (hnT _ (.inr (.inl ⟨j,hj,rfl⟩))),q1.out,q1.outs⟩,q2.only ho hnF,?_⟩⟩
     ·refine ho.mapS (hI.at_.maps i hi) (fun r=> ?_);rcases r with r | r
      ·exact Z3e (hI.at_.maps i hi) hRR r
      ·exact hn2 (r▸hI.gb i hi)
     ·have hx1:=HX1.out;have hzz:=hx1.size;refine⟨((Only.of hx1).trans q3.only (fun i q=> ?_)).trans ho (fun i q=> .inr (by omega)),fun i q=> ?_⟩
      ·rcases q with q | q
       ·exact .inl q
       ·exact .inr (HGW.out i q)
      ·rcases q3.new i (.inl q)with (r | r) | r
       ·exact .inl r
       ·exact .inr (HGW.out i r)
       ·exact .inr (by omega)
    clear hk hit1 hd1 hK hI q1 q2 q3 hn1 hn2 hRM;have HRR:=hD hRR;clear hRR;gi_wp2;have hO:∀(a0 a1 a2 a3 a4:Value),Only (fun i=>i=w.heap.size) W (((((W.setCell ⟨w.heap.size,0,none⟩ a0).setCell ⟨w.heap.size,1,none⟩ a1).setCell ⟨w.heap.size,2,none⟩ a2).setCell ⟨w.heap.size,3,none⟩ a3).setCell ⟨w.heap.size,4,none⟩ a4):=fun a0 a1 a2 a3 a4=>
     (Only.refl (F:=fun i=>i=w.heap.size) (a:=W)).setCell (p:=⟨w.heap.size,0,none⟩) (.inl rfl) a0 |>.setCell (p:=⟨w.heap.size,1,none⟩) (.inl rfl) a1 |>.setCell (p:=⟨w.heap.size,2,none⟩) (.inl rfl) a2 |>.setCell (p:=⟨w.heap.size,3,none⟩) (.inl rfl) a3 |>.setCell (p:=⟨w.heap.size,4,none⟩) (.inl rfl) a4
    obtain⟨u1,u2,u3⟩:=HEND.out _ (hO _ _ _ _ _) (((((HRR.out.set 0 (.map (some (bs 0)))).set 1 (.map (some (bs 1)))).set 2 (.map (some (bs 2)))).set 3 (.map (some (bs 3)))).set 4 (.map (some (bs 4))));exact⟨by simp,.inl ⟨_,_,rfl,run_takeDeferred u1,_,V6c rfl _ _ w.heap.size _ _ _ _ _ rfl u2,u3 _ rfl⟩⟩
   case stop=>intro D c pre W F1 G1 _ _ h;exact h.elim
end
section
open Go.RowKit
attribute [local go_sem] Oper.semAt_some
def Z6v(x:Int×Int):List Value:= [.int .i64 x.1,.int .i64 x.2]
theorem Z7v(x:Int×Int):(Z6v x).length=2:=rfl
theorem Y0l(x:Int×Int):∀u∈Z6v x,u.oneCell'=true:=fun u hu=>by unfold Z6v at hu;simp only[List.mem_cons,List.not_mem_nil,or_false]at hu;rcases hu with rfl | rfl<;>rfl
theorem Tryz.infoTr:(Tryz.prog.info? 90).map (fun i=>(i.zero,i.size,i.bytes))=some (some (.agg #[.int .i64 0,.int .i64 0]),2,16):=by kernel_rfl
theorem elTr:Elem Tryz.prog 87 90 2 16:=Elem.of Tryz.underlying87 Tryz.infoTr rfl (by decide)
theorem Z3v{α:Type}{P:Program}{t e:TypeId}{size bytes:Nat}{enc:α->List Value}(el:Elem P t e size bytes)(henc:∀x,(enc x).length=size)(h1:∀x,∀u∈enc x,u.oneCell'=true){l m:Nat}{ops:Array Oper}{rest:List Oper}{o:Oper}{a:Act}{W:World}{Q:Exit->Act->World->Prop}(hgd:o.guard=none)(s x:Operand)
 (ho:o.op= .call { callee:= .builtin .append,args:=#[s,x],argTypes:=#[t,t]})
 {base:Nat}(v:Value)(xs:List α)(hs:a.eval s=v)(hown:OwnL W base e size enc v xs)(hb:base<=W.heap.size)
 (G cc:Nat)(y:α)(hx:a.eval x= .slice (some ⟨G,0,none⟩) 1 cc)(hr:Row1 W G e (enc y))(h63:xs.length+1<=1000000000)(hbytes:bytes<=100000)
 (hK:∀A' c' w',OwnL w' base e size enc (.slice A' (xs++ [y]).length c') (xs++ [y])->W.grownBy w' v.ownBlock->(∀k,(Value.slice A' (xs++ [y]).length c').ownBlock=some k->v.ownBlock=some k\/W.heap.size<=k)->wpListIn (Fence.wide.inRound l) m P ops Q rest (a.put o.dst (.slice A' (xs++ [y]).length c')) w'):
  wpListIn (Fence.wide.inRound l) m P ops Q (o::rest) a W:=by
 obtain⟨i,z,hi,hz,hsize,hby,hzs⟩:=el.hi;obtain⟨v',w',h1',h2,h3,h4⟩:=Z5m (P:=P) W base t o.type e i z size bytes el.ht hi hz hsize hby hzs el.pos v xs.length (xs.flatMap enc) hown ⟨G,0,none⟩ 1 cc (enc y) (by simp[henc]) (fun j u hu=>by rw[Addr.add_lit,Nat.zero_add,hr.cell];exact hu) (h1 y) (by simp[maxLen];omega) (Nat.le_trans (Nat.mul_le_mul h63 hbytes) (by omega)) hb;have hown2:OwnL w' base e size enc v' (xs++ [y]):=by unfold OwnL;rw[aA,aH];simpa using h2
 obtain⟨A',c',rfl⟩:=hown2.form;refine wpListIn_plain hgd fun K hk=> ?_;refine⟨fun _ _=>trivial,?_⟩;rw[Oper.semAt_eq _ _ _ (fun c e=>by rw[ho]at e;cases e)];unfold execOp;simp only[ho,resolve,invoke,builtin,Sem.run_bind,Sem.run_pure,Result.andThen_ok,List.map_toArray,List.map_cons,List.map_nil,hs,hx,h1'];exact hk _ _ (hK A' c' w' hown2 h3 h4)
theorem Y2h{F:Fence}{n:Nat}{P:Program}{fn:Func}{tmps:Array Value}{R:Ending->World->Prop}:∀(Dl:List Nat) (W:World),Dl.Nodup->(∀D∈Dl,W.heap[D]? =some (.deferred (some [])))->
  (∀W',Only (fun i=>i∈Dl) W W'->LeavesInM F n P fn tmps R [] .returning W')->LeavesInM F n P fn tmps R (Dl.map fun D=> { target:= .collected D,args:=#[]}) .returning W
 | [],W,_,_,h=>h W Only.refl
 | D::r,W,hn,hd,h=>by
   obtain⟨h1,h2⟩:=List.nodup_cons.1 hn;have ho:=Only.putObj W D (.deferred none);refine⟨by simp,.inl ⟨D,_,rfl,run_takeDeferred (hd D List.mem_cons_self),Y2h r _ h2 (fun E hE=> ?_) (fun W' hW'=>h W' ?_)⟩⟩
   ·rw[World.putObj_heap_other (fun e=>h1 (by rw[<-e];exact hE))];exact hd E (List.mem_cons_of_mem _ hE)
   ·exact(ho.mono (F':=fun i=>i∈D::r) (fun i q=> .inl (by rw[q];exact List.mem_cons_self))).trans' (hW'.mono (fun i q=> .inl (List.mem_cons_of_mem _ q)))
structure TrJ (ob M ib base:Nat) (bs:Nat->Nat) (N k:Nat) (out:List (Int×Int)) (f:ByteArray->Option Int) (G:Nat->Prop) (W:World):Prop where
 go_:G ob
 gM:G M
 gi:G ib
 gb:G (bs k)
 nw:∀i,G i->base<=i
 rM:Row1 W M 170 (mapC bs 5)
 ri:Row1 W ib 3 [.int .i64 (k:Nat)]
 map:MapS W 9 (bs k) N f
 list:∃A c,Row1 W ob 87 [.slice A out.length c]/\OwnL W base 90 2 Z6v (.slice A out.length c) out/\∀b,(Value.slice A out.length c).ownBlock=some b->G b
section
variable {ob M ib base N k:Nat} {bs:Nat->Nat} {out:List (Int×Int)} {f:ByteArray->Option Int} {G:Nat->Prop} {W W':World}
theorem TrJ.only(h:TrJ ob M ib base bs N k out f G W)(ho:Only (fun i=>¬G i) W W'):TrJ ob M ib base bs N k out f G W':=by obtain⟨A,c,h1,h2,h3⟩:=h.list;exact⟨h.go_,h.gM,h.gi,h.gb,h.nw,ho.row h.rM (fun r=>r h.gM),ho.row h.ri (fun r=>r h.gi),ho.mapS h.map (fun r=>r h.gb),A,c,ho.row h1 (fun r=>r h.go_),h2.only ho (fun b q r=>r (h3 b q)),h3⟩
theorem TrJ.ext(h:TrJ ob M ib base bs N k out f G W)(hx:Ext W W'):TrJ ob M ib base bs N k out f G W':=h.only (Only.of hx)
theorem TrJ.drop(h:TrJ ob M ib base bs N k out f G W){f':ByteArray->Option Int}(hm:MapS W' 9 (bs k) N f')(ht:But (bs k) W W'):TrJ ob M ib base bs N k out f' G W':=by have ho:Only (fun i=>i=bs k) W W':=Only.but ht (.inl rfl);obtain⟨A,c,h1,h2,h3⟩:=h.list;refine⟨h.go_,h.gM,h.gi,h.gb,h.nw,ho.row h.rM (fun r=>Z3e h.map h.rM r.symm),ho.row h.ri (fun r=>Z3e h.map h.ri r.symm),hm,A,c,ho.row h1 (fun r=>Z3e h.map h1 r.symm),h2.only ho (fun b q r=> ?_),h3⟩;obtain⟨cur,hc⟩:=Z3d h2 q;obtain⟨D,⟨es,clock,hm1,_⟩,_⟩:=h.map;rw[r,hm1]at hc;cases hc
theorem TrJ.push(h:TrJ ob M ib base bs N k out f G W){A A':Option Addr}{n c c':Nat}{y:Int×Int}{w3:World}(hl:Row1 W ob 87 [.slice A n c])(hg:∀b,(Value.slice A n c).ownBlock=some b->G b)
 (hown:OwnL w3 base 90 2 Z6v (.slice A' (out++ [y]).length c') (out++ [y]))(hgr:Only (fun i=>(Value.slice A n c).ownBlock=some i) W w3)(hbt:∀g t cs,Row1 W g t cs->t≠90->(Value.slice A n c).ownBlock≠some g)(hbm:(Value.slice A n c).ownBlock≠some (bs k))(hlt:base<=W.heap.size)
 (hwh:∀b,(Value.slice A' (out++ [y]).length c').ownBlock=some b->(Value.slice A n c).ownBlock=some b\/W.heap.size<=b)(hGl:∀i,G i->i<W.heap.size):
  TrJ ob M ib base bs N k (out++ [y]) f (fun i=>G i\/(Value.slice A' (out++ [y]).length c').ownBlock=some i) (w3.setCell ⟨ob,0,none⟩ (.slice A' (out++ [y]).length c'))/\Only G W (w3.setCell ⟨ob,0,none⟩ (.slice A' (out++ [y]).length c')):=by
 have hs:Only (fun i=>i=ob) w3 (w3.setCell ⟨ob,0,none⟩ (.slice A' (out++ [y]).length c')):=Only.setCell (F:=fun i=>i=ob) (p:=⟨ob,0,none⟩) Only.refl (.inl rfl) _;have hob:=hgr.row hl (hbt _ _ _ hl (by decide));have hM:=hgr.row h.rM (hbt _ _ _ h.rM (by decide));have hi:=hgr.row h.ri (hbt _ _ _ h.ri (by decide));have hm:=hgr.mapS h.map hbm;have hsz:=hgr.size;refine⟨⟨.inl h.go_,.inl h.gM,.inl h.gi,.inl h.gb,fun i q=>q.elim (h.nw i) (fun q=>(hown.lt i q).1),hs.row hM (fun e=> ?_),hs.row hi (fun e=> ?_),hs.mapS hm (Z3e hm hob),A',c',hob.set 0 _,hown.only hs (fun b q e=> ?_),fun b q=> .inr q⟩,(hgr.mono (fun i q=> .inl (hg i q))).trans' (hs.mono (fun i q=> .inl (q▸h.go_)))⟩
 ·exact(hM.apart hob (by decide)) e
 ·exact(hi.apart hob (by decide)) e
 ·exact hown.apartRow hob (by decide) (e▸q)
theorem TrJ.pushed(h:TrJ ob M ib base bs N k out f G W){A A':Option Addr}{c c':Nat}{y:Int×Int}{W1 w6:World}(hx:Ext W W1)(hl:Row1 W ob 87 [.slice A out.length c])(hown0:OwnL W base 90 2 Z6v (.slice A out.length c) out)(hg:∀b,(Value.slice A out.length c).ownBlock=some b->G b)(hGl:∀i,G i->i<W.heap.size)
 (hown:OwnL w6 base 90 2 Z6v (.slice A' (out.length+1) c') (out++ [y]))(hgr:W1.grownBy w6 (Value.slice A out.length c).ownBlock)(hwh:∀b,(Value.slice A' (out.length+1) c').ownBlock=some b->(Value.slice A out.length c).ownBlock=some b\/W1.heap.size<=b):
  w6.cell? ⟨ob,0,none⟩=some (.slice A out.length c)/\w6.frozen? ⟨ob,0,none⟩=false/\∃G2,TrJ ob M ib base bs N k (out++ [y]) f G2 (w6.setCell ⟨ob,0,none⟩ (.slice A' (out.length+1) c'))/\Only G W (w6.setCell ⟨ob,0,none⟩ (.slice A' (out.length+1) c'))/\∀i,G2 i->i<(w6.setCell ⟨ob,0,none⟩ (.slice A' (out.length+1) c')).heap.size/\(G i\/W.heap.size<=i):=by
 have hl1':(out++ [y]).length=out.length+1:=by simp
 rw[<-hl1']at hown hwh ⊢;have hjx:=h.ext hx;have hl1:=hl.ext hx hl.lt;have ho1:=hown0.ext hx;have hgo:Only (fun i=>(Value.slice A out.length c).ownBlock=some i) W1 w6:=Only.grown hgr;have hGl1:∀i,G i->i<W1.heap.size:=fun i q=>aE (hGl i q) hx.size;have hbm:(Value.slice A out.length c).ownBlock≠some (bs k):=fun q=>by obtain⟨cur,hc⟩:=Z3d ho1 q;obtain⟨D,⟨es,clock,hm1,_⟩,_⟩:=hjx.map;rw[hm1]at hc;cases hc
 have hbase:base<=W1.heap.size:=Nat.le_trans (h.nw _ h.go_) (Nat.le_of_lt (hGl1 _ h.go_));obtain⟨hj2,ho2⟩:=hjx.push hl1 hg hown hgo (fun g t cs hr ht=>ho1.apartRow hr (fun e=>ht e.symm)) hbm hbase hwh hGl1;have hrb:=hgo.row hl1 (ho1.apartRow hl1 (by decide));have hz6:=hgo.size;have hsz:∀v,(w6.setCell ⟨ob,0,none⟩ v).heap.size=w6.heap.size:=fun v=>by simp
 refine⟨hrb.cell 0,hrb.soft 0,_,hj2,(Only.of hx).trans' ho2,fun i q=> ?_⟩;rcases q with q | q
 ·exact⟨by rw[hsz];have:=hGl1 i q;omega,.inl q⟩
 ·refine⟨by rw[hsz];exact(hown.lt i q).2,?_⟩;rcases hwh i q with s | s
  ·exact .inl (hg i s)
  ·exact .inr (by have:=hx.size;omega)
end
end
section
open Go.RowKit
attribute [local go_sem] Oper.semAt_some
theorem Y7n(i:Nat):∀(kl:List KV) (s:List (Int×Int)×(ByteArray->Option Int)),(kl.foldl (trK i) s).1.length<=s.1.length+kl.length
 | [],s=>by simp
 | x::r,s=>by
   rw[List.foldl_cons];have h:=Y7n i r (trK i s x);have h2:(trK i s x).1.length<=s.1.length+1:=by
    unfold trK;split
    ·exact Nat.le_succ _
    ·simp
   rw[List.length_cons];omega
theorem X3w(i:Nat):∀(kl:List KV) (s:List (Int×Int)×(ByteArray->Option Int)) (k:ByteArray) (id:Int),(kl.foldl (trK i) s).2 k=some id->s.2 k=some id
 | [],_,_,_,h=>h
 | x::r,s,k,id,h=>by
   have h1:=X3w i r (trK i s x) k id h;unfold trK at h1;split at h1
   ·dsimp only[updS]at h1;split at h1
    ·cases h1
    ·exact h1
   ·exact h1
theorem X9s(i:Nat)(f:ByteArray->Option Int)(all:List OpD)(out:List (Int×Int)):(all.foldl (trO i f) out).length<=out.length+all.length:=by rw[X1t,aA,List.length_map];have:=List.length_filter_le (fun o=>(f (wayK i o)).isSome) all;omega
theorem X9t{all:List OpD}{Kl:Nat->List KV}(hn:all.length<=1000)(hk:∀i,i<5->(Kl i).length<=1000):∀k,k<=5->(trAll all Kl k).length<=100000:=by
 have go:∀k,k<=5->(trAll all Kl k).length<=2000*k:=by
  intro k
  induction k with
  | zero=>intro _;exact aF 0
  | succ k ih=>
    intro h;have h1:=ih (by omega);have h2:=Y7n k (Kl k) (trAll all Kl k,Z1l k all);have h3:=X9s k ((Kl k).foldl (trK k) (trAll all Kl k,Z1l k all)).2 all ((Kl k).foldl (trK k) (trAll all Kl k,Z1l k all)).1;have h4:=hk k (by omega);dsimp only at h2;show(trW k all (Kl k) (trAll all Kl k)).length<=_;unfold trW;omega
 exact fun k h=>by have:=go k h;omega
theorem V4s{s:ByteArray}(h:s.toList= []):s=⟨#[]⟩:=by rw[ByteArray.toList_eq]at h;rw[ByteArray.ext_iff];exact Array.toList_inj.1 h
abbrev klF(Ts:Nat->TrD)(i:Nat):List KV:=Z1e (Ts i).list ⟨#[]⟩
structure TrbI (w:World) (tb p:Nat) (ts:Nat->Nat) (S:StoreD) (Ts:Nat->TrD) (all:List OpD) (F0:Nat->Prop) (ob M:Nat) (bs:Nat->Nat) (k:Nat) (Dl:List Nat) (F:Nat->Prop) (W:World):Prop where
 at_:TblAt W tb p ts F
 pag:PagerAt W p F S
 keep:Keeps F0 F w W
 low:∀i,F i->i<W.heap.size
 row:Row1 W M 170 (mapC bs 5)
 maps:∀i,i<5->∃f,MapS W 9 (bs i) all.length f/\(k<=i->f=Z1l i all)
 inj:∀i j,i<5->j<5->bs i=bs j->i=j
 list:∃A c,Row1 W ob 87 [.slice A (trAll all (klF Ts) k).length c]/\OwnL W w.heap.size 90 2 Z6v (.slice A (trAll all (klF Ts) k).length c) (trAll all (klF Ts) k)/\∀b,(Value.slice A (trAll all (klF Ts) k).length c).ownBlock=some b->¬F b
 apart:¬F ob/\¬F M/\∀i,i<5->¬F (bs i)
 new:w.heap.size<=ob/\w.heap.size<=M/\∀i,i<5->w.heap.size<=bs i
 dl:Dl.Nodup/\∀D∈Dl,W.heap[D]? =some (.deferred (some []))/\w.heap.size<=D/\¬F D
theorem TrbI.blt{w:World}{tb p:Nat}{ts:Nat->Nat}{S:StoreD}{Ts:Nat->TrD}{all:List OpD}{F0 F:Nat->Prop}{ob M k:Nat}{bs:Nat->Nat}{Dl:List Nat}{W:World}(h:TrbI w tb p ts S Ts all F0 ob M bs k Dl F W)(i:Nat)(hi:i<5):bs i<W.heap.size:=let ⟨_,m1,_⟩:=h.maps i hi;m1.lt
theorem TrbI.keeps{w:World}{tb p:Nat}{ts:Nat->Nat}{S:StoreD}{Ts:Nat->TrD}{all:List OpD}{F0 F F':Nat->Prop}{ob M k:Nat}{bs:Nat->Nat}{Dl:List Nat}{W W':World}(h:TrbI w tb p ts S Ts all F0 ob M bs k Dl F W)(hk:Keeps F F' W W')(hp:PagerAt W' p F' S)(hl:∀i,F' i->i<W'.heap.size):TrbI w tb p ts S Ts all F0 ob M bs k Dl F' W':=by
 obtain⟨A,c,h1,h2,h3⟩:=h.list;refine⟨⟨hk.only.row h.at_.row h.at_.out,fun j hj=>hk.only.row (h.at_.tree j hj) (h.at_.outs j hj),hk.out h.at_.row.lt h.at_.out,fun j hj=>hk.out (h.at_.tree j hj).lt (h.at_.outs j hj)⟩,hp,h.keep.trans hk,hl,hk.only.row h.row h.apart.2.1,fun i hi=>let ⟨f,m1,m2⟩:=h.maps i hi;⟨f,hk.only.mapS m1 (h.apart.2.2 i hi),m2⟩,h.inj,
  ⟨A,c,hk.only.row h1 h.apart.1,h2.only hk.only h3,fun b q=>hk.out (h2.lt b q).2 (h3 b q)⟩,⟨hk.out h1.lt h.apart.1,hk.out h.row.lt h.apart.2.1,fun i hi=>hk.out (h.blt i hi) (h.apart.2.2 i hi)⟩,h.new,h.dl.1,fun D jH=> ?_⟩
 ·obtain⟨d1,d2,d3⟩:=h.dl.2 D jH;have hlt:=(Array.getElem?_eq_some_iff.1 d1).1;exact⟨(hk.only.block D hlt d3).trans d1,d2,hk.out hlt d3⟩
theorem Tryz.zeroI(w:World):(zeroValue 3).run Tryz.prog w= .ok (.int .i64 0) w:=by kernel_rfl
def TroP(tb p:Nat)(ts:Nat->Nat)(S:StoreD)(Ts:Nat->TrD)(all:List OpD)(F:Nat->Prop)(w:World)(e:Ending)(w':World):Prop:=
 ∃(A:Option Addr) (c:Nat) (F':Nat->Prop),e= .returned (.slice A (trAll all (klF Ts) 5).length c)/\OwnL w' w.heap.size 90 2 Z6v (.slice A (trAll all (klF Ts) 5).length c) (trAll all (klF Ts) 5)/\TblAt w' tb p ts F'/\PagerAt w' p F' S/\Keeps F F' w w'
theorem Y3g{tb p:Nat}{ts:Nat->Nat}{F:Nat->Prop}{S:StoreD}{Ts:Nat->TrD}{ls all:List OpD}(w:World)(ht:TblAt w tb p ts F)(hp:PagerAt w p F S)(hlow:∀i,F i->i<w.heap.size)
 (hfm:Fm S)(htr:∀i,i<5->TrS S i (Ts i))(hok:∀o∈ls,Z1p o=0)(hd:∀i,i<5->depT (Ts i)<=31)(hf:Finds Ts 0 ⟨#[]⟩ ls all all.length)(hn:all.length<=1000)(hkl:∀i,i<5->(klF Ts i).length<=1000):
  cQ 32 #[tp tb] w (TroP tb p ts S Ts all F w):=by
 refine callsIn_wide (n:=3).1 ?_;refine callsIn_of_wp_marks Tryz.func32 rfl trivial ?_ rfl;simp only[Tryz.ntmps32,List.size_toArray,List.length_cons,List.length_nil,Nat.reduceAdd,Nat.reduceSub,Array.replicate_succ,Array.replicate_zero,List.push_toArray,List.append_toArray,List.nil_append,List.cons_append];have cM:Hid (∀W,Ext w W->cQ 85 #[tp tb] W fun e w'=>e= .returned (.bool true)/\W=w'):=fun W hW=>Z2v W (ht.ext hW).row;have hx0:Ext w (w.alloc (.cells #[.slice none 0 0] 87)):=Ext.alloc _ _;have HR0:Hid (Row1 (w.alloc (.cells #[.slice none 0 0] 87)) w.heap.size 87 [.slice none 0 0]):=Row1.made w _ [.slice none 0 0];have cK:=X1z (F:=fun i=>F i/\i<w.heap.size) (w.alloc (.cells #[.slice none 0 0] 87)) (TblAt.ext (F:=fun i=>F i/\i<w.heap.size) ⟨ht.row,ht.tree,fun q=>ht.out q.1,fun j hj q=>ht.outs j hj q.1⟩ hx0) (PagerAt.ext (F:=fun i=>F i/\i<w.heap.size) hp.shrink hx0) (fun i q=>by have:=q.2;simp;omega) (htr 0 (by omega)) hok (hd 0 (by omega)) hf (by omega);have HWID:Hid (∀(F':Nat->Prop) (W':World),Keeps (fun i=>F i/\i<w.heap.size) F' (w.alloc (.cells #[.slice none 0 0] 87)) W'->Keeps F F' w W'):=fun F' W' h=>((Keeps.of hx0).trans h).widen (fun i q=>q.1);have HX0:=hD hx0;clear hx0
 gi_upto_region 5 with (first
  | (refine ⟨trivial,?_⟩;gi_at_call 85;refine(callsIn_wide.2 (cM.out _ (Ext.refl _))).mono ?_;clear cM;rintro e w2 ⟨rfl,rfl⟩)
  | (refine ⟨trivial,?_⟩;gi_at_call 86;refine(callsIn_wide.2 cK).mono ?_;clear cK;rintro e w1 ⟨bs,F1,rfl,hm1,hi1,hb1,ht1,hp1,hk1⟩))
 have HST:Hid (∀W,W=w1.alloc (.cells #[.map (some (bs 0)),.map (some (bs 1)),.map (some (bs 2)),.map (some (bs 3)),.map (some (bs 4))] 170)->TrbI w tb p ts S Ts all F w.heap.size w1.heap.size bs 0 [] (fun i=>F1 i/\i<w1.heap.size) W):=by rintro W rfl;have hx:Ext w1 (w1.alloc (.cells #[.map (some (bs 0)),.map (some (bs 1)),.map (some (bs 2)),.map (some (bs 3)),.map (some (bs 4))] 170)):=Ext.alloc _ _;have hz:=hk1.only.size;rw[World.size_alloc]at hz;have hob:Row1 w1 w.heap.size 87 [.slice none 0 0]:=hk1.only.row HR0.out (fun q=>absurd q.2 (Nat.lt_irrefl _));have hnob:¬F1 w.heap.size:=hk1.out HR0.out.lt (fun q=>absurd q.2 (Nat.lt_irrefl _));refine⟨TblAt.ext (F:=fun i=>F1 i/\i<w1.heap.size) ⟨ht1.row,ht1.tree,fun q=>ht1.out q.1,fun j hj q=>ht1.outs j hj q.1⟩ hx,PagerAt.ext (F:=fun i=>F1 i/\i<w1.heap.size) hp1.shrink hx,((HWID.out _ _ hk1).shrink).ext hx,fun i q=>by have:=q.2;rw[World.size_alloc];omega,Row1.made w1 _ (mapC bs 5),fun i hi=>⟨_,(hm1 i hi).ext hx,fun _=>rfl⟩,hi1,⟨none,0,hob.alloc _,OwnL.nil _ _ _ _ _,fun b q=>(by cases q)⟩,⟨fun q=>hnob q.1,fun q=>absurd q.2 (Nat.lt_irrefl _),fun i hi q=>(hb1 i hi).2 q.1⟩,⟨aF _,by omega,fun i hi=> ?_⟩,List.nodup_nil,fun D q=>(by cases q)⟩;have:=(hb1 i hi).1;rw[World.size_alloc]at this;omega
 clear hm1 hi1 hb1 ht1 hp1 hk1;generalize hW2:World.alloc w1 _=W2;have HI0:Hid (TrbI w tb p ts S Ts all F w.heap.size w1.heap.size bs 0 [] (fun i=>F1 i/\i<w1.heap.size) W2):=HST.out W2 hW2.symm;have HNB:Hid (∀i,F i->i<w.heap.size):=hlow;have HTW:=hD ht;clear hW2 HST HR0 HWID HX0 ht hp hlow;obtain⟨ob,hob⟩:∃ob,w.heap.size=ob:=⟨_,rfl⟩;obtain⟨M,hM⟩:∃M,w1.heap.size=M:=⟨_,rfl⟩;obtain⟨F2,hF2⟩:∃F2:Nat->Prop,(fun i=>F1 i/\i<w1.heap.size)=F2:=⟨_,rfl⟩;rw[hF2]at HI0;have HI0:Hid (TrbI w tb p ts S Ts all F ob M bs 0 [] F2 W2):=by unfold Hid;rw[<-hob,<-hM];exact HI0.out
 rw[hob,hM];have HOB:=hD hob;clear hob hM hF2;have t0:W2.cell? ⟨tb,0,none⟩=some (tp (ts 0)):=HI0.out.at_.row.cell 0;have t1:W2.cell? ⟨tb,1,none⟩=some (tp (ts 1)):=HI0.out.at_.row.cell 1;have t2:W2.cell? ⟨tb,2,none⟩=some (tp (ts 2)):=HI0.out.at_.row.cell 2;have t3:W2.cell? ⟨tb,3,none⟩=some (tp (ts 3)):=HI0.out.at_.row.cell 3;have t4:W2.cell? ⟨tb,4,none⟩=some (tp (ts 4)):=HI0.out.at_.row.cell 4;gi_wp2_with fail;clear t0 t1 t2 t3 t4;refine wpIn_loop (fun a' w'=>∃u5 u6 u7 u8 u9 u10 u11 u12 u13 u14 u15 u25 u26 u27 u28 u29 u30 u31 u32 u33 u34 u35 u36 u37 u38 u39 u40 u41 u42 u43 u44 u45 u46 u47 u48 u49 u50 u51 u52 u53 u54 u55 u56 u57 u58 u59 u60 u61 u62 u63 u64 u65 u66 u67 u68 u69 u70 u71 u72 u73 u74 u75 u76 u77 u78 u79 u80 u81 u82 u83 u84 u85 u86 u87 u88 u89 u90 u91 u92 u93 u94 u95 u96 u97 u98 u99 u100 u101 u102 u103 u104 u105 u106 u107:Value,∃ds:List Deferred,(∃(k:Nat) (Dl:List Nat) (F2:Nat->Prop),k<=5/\u25= .int .i64 (k:Nat)/\ds=Dl.map (fun D=> { target:= .collected D,args:=#[]})/\TrbI w tb p ts S Ts all F ob M bs k Dl F2 w')/\a'= { tmps:=#[tp tb,undef,.slice none 0 0,tp ob,tp M,u5,u6,u7,u8,u9,u10,u11,u12,u13,u14,u15,tp tb,.bool true,.bool false,tp tb,.agg #[.map (some (bs 0)),.map (some (bs 1)),.map (some (bs 2)),.map (some (bs 3)),.map (some (bs 4))],tp tb,tp tb,tp tb,.agg #[tp (ts 0),tp (ts 1),tp (ts 2),tp (ts 3),tp (ts 4)],u25,u26,u27,u28,u29,u30,u31,u32,u33,u34,u35,u36,u37,u38,u39,u40,u41,u42,u43,u44,u45,u46,u47,u48,u49,u50,u51,u52,u53,u54,u55,u56,u57,u58,u59,u60,u61,u62,u63,u64,u65,u66,u67,u68,u69,u70,u71,u72,u73,u74,u75,u76,u77,u78,u79,u80,u81,u82,u83,u84,u85,u86,u87,u88,u89,u90,u91,u92,u93,u94,u95,u96,u97,u98,u99,u100,u101,u102,u103,u104,u105,u106,u107,undef],defers:=ds}) (fun a' _=>5-(intOf (a'.tmps.getD 25 undef)).toNat) ?_ ?_
 ·(repeat apply Exists.intro)
  refine⟨⟨0,[],F2,by omega,rfl,rfl,HI0.out⟩,rfl⟩
 intro a' wr hinv
 iterate 11 (obtain ⟨_,hinv⟩:=hinv)
 obtain⟨u25,hinv⟩:=hinv
 iterate 82 (obtain ⟨_,hinv⟩:=hinv)
 obtain⟨ds,⟨k,Dl,F3,hk,h25,hds,hr⟩,ha⟩:=hinv;subst h25;subst hds;subst ha;have HR:=hD hr;clear hr HI0;by_cases hk5:k=5
 ·subst hk5;have hd5:decide (((5:Nat):Int)<5)=false:=by simp
  obtain⟨A,c,l1,l2,l3⟩:=HR.out.list;have y0:wr.cell? ⟨ob,0,none⟩=some (.slice A (trAll all (klF Ts) 5).length c):=l1.cell 0;have HEND:Hid (∀W' e,e= .returned (.slice A (trAll all (klF Ts) 5).length c)->Only (fun i=>i∈Dl) wr W'->TroP tb p ts S Ts all F w e W'):=fun W' e he ho=>by
   have h:=HR.out;have hdn:∀D∈Dl,∀g t cs,Row1 wr g t cs->g≠D:=fun D jH g t cs hr e=>by subst e;have:=(h.dl.2 g jH).1;unfold Row1 at hr;rw[hr]at this;cases this
   refine⟨A,c,F3,he,l2.only ho (fun b q r=> ?_),⟨ho.row h.at_.row (fun r=>hdn _ r _ _ _ h.at_.row rfl),fun j hj=>ho.row (h.at_.tree j hj) (fun r=>hdn _ r _ _ _ (h.at_.tree j hj) rfl),h.at_.out,h.at_.outs⟩,h.pag.only ho (fun i q r=>(h.dl.2 i r).2.2 q),h.keep.only.trans ho (fun i q=> .inr (h.dl.2 i q).2.1),h.keep.new⟩;obtain⟨cur,hc⟩:=Z3d l2 q;rw[(h.dl.2 b r).1]at hc;cases hc
  have HDL:Hid (Dl.Nodup/\∀D∈Dl,wr.heap[D]? =some (.deferred (some []))):=⟨HR.out.dl.1,fun D jH=>(HR.out.dl.2 D jH).1⟩;clear l1 l2 l3;gi_wp2_with fail;exact Y2h Dl wr HDL.out.1 HDL.out.2 (fun W' ho=>⟨_,results_tmp rfl _ _ _,HEND.out W' _ rfl ho⟩)
 have hk4:k<5:=by omega
 have q1:decide ((k:Int)<5)=true:=aN;have q2:(k:Int)<5:=by omega
 have hix:=V0o ts wr hk4;have hxi:Ext wr (wr.alloc (.cells #[.int .i64 (k:Nat)] 3)):=Ext.alloc _ _;have HI1:Hid (TrbI w tb p ts S Ts all F ob M bs k Dl F3 (wr.alloc (.cells #[.int .i64 (k:Nat)] 3))):=HR.out.keeps (Keeps.of hxi) (HR.out.pag.ext hxi) (fun i q=>aE (HR.out.low i q) hxi.size);have HRI:Hid (Row1 (wr.alloc (.cells #[.int .i64 (k:Nat)] 3)) wr.heap.size 3 [.int .i64 (k:Nat)]/\¬F3 wr.heap.size):=⟨Row1.made wr _ _,fun q=>absurd (HR.out.low _ q) (Nat.lt_irrefl _)⟩;have cS:=V0e (Ts k) (wr.alloc (.cells #[.int .i64 (k:Nat)] 3)) (HI1.out.at_.tree k hk4) (HI1.out.at_.outs k hk4) HI1.out.pag (by omega) hfm (htr k hk4) (Z4a (hd k hk4));have cA:Hid (∀W,cQ 53 #[.pointer (some ⟨ts k,0,none⟩)] W (X3m (ts k) ⟨#[]⟩ W)):=fun W=>X3k (ts k) W;obtain⟨ib,hib⟩:∃ib,wr.heap.size=ib:=⟨_,rfl⟩;rw[hib]at HRI;clear hxi;gi_wp2_with (first
  | (refine ⟨trivial,?_⟩;gi_at_call 87;refine(callsIn_wide.2 cS).mono ?_;clear cS;rintro e w4 ⟨rfl,F4,hp4,hk4'⟩;have HI4:=hD (HI1.out.keeps hk4'.shrink hp4.shrink (fun i q=>q.2));have HRI4:Hid (Row1 w4 ib 3 [.int .i64 (k:Nat)]/\¬F4 ib):=⟨hk4'.only.row HRI.out.1 HRI.out.2,hk4'.out HRI.out.1.lt HRI.out.2⟩;clear hp4 hk4')
  | (refine ⟨trivial,?_⟩;gi_at_call 53;refine(callsIn_wide.2 (cA.out _)).mono ?_;clear cA;rintro e w5 ⟨fb,kb,rfl,h51,h52,h53,h54,h55⟩))
 have HF5:Hid (TrbI w tb p ts S Ts all F ob M bs k Dl (fun i=>F4 i/\i<w4.heap.size) w5/\Row1 w5 ib 3 [.int .i64 (k:Nat)]/\¬(F4 ib/\ib<w4.heap.size)):=⟨HI4.out.keeps (Keeps.of h51) (HI4.out.pag.ext h51) (fun i q=>aE (HI4.out.low i q) h51.size),HRI4.out.1.ext h51 HRI4.out.1.lt,fun q=>HRI4.out.2 q.1⟩;have hfbl:w4.heap.size<=fb:=h52;have hkbl:w4.heap.size<=kb:=h53;have HFK:Hid (∀b,b=fb\/b=kb->¬(F4 b/\b<w4.heap.size)/\b<w5.heap.size):=fun b q=>by
  rcases q with rfl | rfl
  ·exact⟨fun r=>by have:=r.2;omega,h54.lt⟩
  ·exact⟨fun r=>by have:=r.2;omega,h55.lt⟩
 have HCL:Hid (Row1 w5 fb 36 [.pointer (some ⟨ts k,0,none⟩)]/\Row1 w5 kb 9 [.string ⟨#[]⟩]):=⟨h54,h55⟩;obtain⟨F5,hF5⟩:∃F5:Nat->Prop,(fun i=>F4 i/\i<w4.heap.size)=F5:=⟨_,rfl⟩;have HI5:Hid (TrbI w tb p ts S Ts all F ob M bs k Dl F5 w5):=by unfold Hid;rw[<-hF5];exact HF5.out.1
 have HRI5:Hid (Row1 w5 ib 3 [.int .i64 (k:Nat)]/\¬F5 ib):=by unfold Hid;rw[<-hF5];exact HF5.out.2
 have HFK5:Hid (∀b,b=fb\/b=kb->¬F5 b/\b<w5.heap.size):=by unfold Hid;rw[<-hF5];exact HFK.out
 have HIBW:Hid (w.heap.size<=ib):=by unfold Hid;rw[<-hib];exact HR.out.keep.only.size
 clear h51 h52 h53 h54 h55 hfbl hkbl HF5 HFK hF5 hib HI1 HRI HI4 HRI4 HR;obtain⟨A,c,hl5,hown5,hog5⟩:=HI5.out.list;have HL5:=hD hl5;have HOW5:=hD hown5;have HOG5:=hD hog5;obtain⟨out0,hout0⟩:∃out0,trAll all (klF Ts) k=out0:=⟨_,rfl⟩;have HOUT0:=hD hout0;rw[hout0]at HL5 HOW5 HOG5;have HOL:Hid (out0.length<=100000):=by unfold Hid;rw[<-hout0];exact X9t hn hkl k hk
 clear hl5 hown5 hog5 hout0;obtain⟨G0,hG0⟩:∃G0:Nat->Prop,G0=fun i=>i=ob\/i=M\/i=ib\/i=bs k\/(Value.slice A out0.length c).ownBlock=some i:=⟨_,rfl⟩;have HG0:=hD hG0;have HGA:Hid (∀i,G0 i->w.heap.size<=i/\i<w5.heap.size/\¬F5 i):=fun i q=>by
  rw[HG0.out]at q;have h:=HI5.out;rcases q with rfl | rfl | rfl | rfl | q
  ·exact⟨h.new.1,HL5.out.lt,h.apart.1⟩
  ·exact⟨h.new.2.1,h.row.lt,h.apart.2.1⟩
  ·exact⟨HIBW.out,HRI5.out.1.lt,HRI5.out.2⟩
  ·exact⟨h.new.2.2 k hk4,h.blt k hk4,h.apart.2.2 k hk4⟩
  ·exact⟨(HOW5.out.lt i q).1,(HOW5.out.lt i q).2,HOG5.out i q⟩
 have HD5:Hid (Dis F5 G0 w5):=⟨HI5.out.low,fun i q=>(HGA.out i q).2⟩;have HJ5:Hid (TrJ ob M ib w.heap.size bs all.length k out0 (Z1l k all) G0 w5):=⟨by rw[HG0.out];exact .inl rfl,by rw[HG0.out];exact .inr (.inl rfl),by rw[HG0.out];exact .inr (.inr (.inl rfl)),by rw[HG0.out];exact .inr (.inr (.inr (.inl rfl))),fun i q=>(HGA.out i q).1,HI5.out.row,HRI5.out.1,by obtain⟨f,m1,m2⟩:=HI5.out.maps k hk4;rw[<-m2 (aF _)];exact m1,A,c,HL5.out,HOW5.out,fun b q=>by rw[HG0.out];exact .inr (.inr (.inr (.inr q)))⟩;have HTS:Hid (∀j,j<5->ts j<w5.heap.size):=fun j hj=>(HI5.out.at_.tree j hj).lt;have HIT5:Hid (ItT p (ts k) k S (fun b=>b=fb\/b=kb) F5 w5):=⟨HI5.out.pag,HI5.out.at_.tree k hk4,HI5.out.at_.outs k hk4,HFK5.out⟩;have HGN:Hid ((∀i,i<5->i≠k->¬G0 (bs i))/\∀D∈Dl,¬G0 D):=by
  refine⟨fun i hi hne q=> ?_,fun D jH q=> ?_⟩
  ·rw[HG0.out]at q;obtain⟨f,m1,_⟩:=HI5.out.maps i hi;rcases q with q | q | q | q | q
   ·exact Z3e m1 HL5.out q
   ·exact Z3e m1 HI5.out.row q
   ·exact Z3e m1 HRI5.out.1 q
   ·exact hne (HI5.out.inj i k hi hk4 q)
   ·obtain⟨cur,hc⟩:=Z3d HOW5.out q;obtain⟨_,⟨es,clock,h1,_⟩,_⟩:=m1;rw[h1]at hc;cases hc
  ·rw[HG0.out]at q;obtain⟨d1,_,_⟩:=HI5.out.dl.2 D jH;have hrow:∀g t cs,Row1 w5 g t cs->D≠g:=fun g t cs hr e=>by subst e;unfold Row1 at hr;rw[hr]at d1;cases d1
   rcases q with q | q | q | q | q
   ·exact hrow _ _ _ HL5.out q
   ·exact hrow _ _ _ HI5.out.row q
   ·exact hrow _ _ _ HRI5.out.1 q
   ·obtain⟨f,⟨_,⟨es,clock,h1,_⟩,_⟩,_⟩:=HI5.out.maps k hk4;rw[q,h1]at d1;cases d1
   ·obtain⟨cur,hc⟩:=Z3d HOW5.out q;rw[hc]at d1;cases d1
 clear hG0;refine Y4q (motive:=fun a=>Code.wpIn Fence.wide 3 Tryz.prog _ _ a _) (fun a0 hA0=> ?_);refine Z2q rfl (by decide) (gf:=106) (lb:=#[tp fb,tp kb]) (by rw[hA0];rfl) trivial (enters_of Tryz.func106 (by kernel_rfl) rfl)
  (Y0i (K:=fun b=>b=fb\/b=kb) ⟨#[]⟩ (Ts k) w5 (htr k hk4) (Z4a (hd k hk4)) (by omega) HCL.out.1 HCL.out.2 (.inl rfl) (.inr rfl)) (Ext.refl w5) (fun _=>rfl) F5 G0 (ItT.abides (p:=p) (i:=k) (HTS.out k hk4))
  HIT5.out HD5.out (fun pre G W=>TrJ ob M ib w.heap.size bs all.length k (pre.foldl (trK k) (out0,Z1l k all)).1 (pre.foldl (trK k) (out0,Z1l k all)).2 G W)
  (fun c pre G W=>False) (fun s G W W' h _ ho=>h.only ho) (fun c s G W W' q q2 q3=>q) HJ5.out
  (fun x=> { tmps:=(((a0.tmps.setIfInBounds 39 (.string x.1)).setIfInBounds 40 (.string x.2)).setIfInBounds 7 (.string x.1)).setIfInBounds 8 (.string x.2),defers:= []}) ?assign ?body ?done ?stop
 case assign=>
  intro l x W K hK;subst hA0;simp only[X8i,X1n,List.setIfInBounds_toArray,List.set_cons_succ,List.set_cons_zero]at hK ⊢;gi_wp2;exact hK
 case stop=>intro D c pre W F1 G1 _ _ h;exact h.elim
 case body=>
  rintro l' pre x W F1 G1 hI hit hdd hok1;subst hA0;simp only[List.setIfInBounds_toArray,List.set_cons_succ,List.set_cons_zero];have hxin:x∈klF Ts k:=by obtain⟨r,hr⟩:=hok1;rw[show klF Ts k=(pre++ [x])++r from hr.symm];simp
  have hpl:pre.length<=1000:=by obtain⟨r,hr⟩:=hok1;have h1:=congrArg List.length hr;have:=hkl k hk4;unfold klF at this;rw[<-h1]at this;simp only[aA,List.length_cons]at this;omega
  have hxl:x∈(Ts k).list:=(List.mem_filter.1 hxin).1;have hxk:=((htr k hk4).keys x hxl).1.2;have hxv:=((htr k hk4).keys x hxl).2;obtain⟨st,hst⟩:∃st,pre.foldl (trK k) (out0,Z1l k all)=st:=⟨_,rfl⟩;have hnx:(pre++ [x]).foldl (trK k) (out0,Z1l k all)=trK k st x:=by rw[List.foldl_append,hst];rfl
  have hlen:st.1.length<=out0.length+1000:=by have h:=Y7n k pre (out0,Z1l k all);rw[hst]at h;dsimp only at h;omega
  have hfid:∀id,st.2 x.1=some id->Z1l k all x.1=some id:=fun id h=>by rw[<-hst]at h;exact X3w k pre _ _ _ h
  have HNX:=hD hnx;obtain⟨out,f⟩:=st;rw[hst]at hI;dsimp only at hlen hfid hI;have HI:=hD hI;have HIT:=hD hit;have HDD:=hD hdd;obtain⟨A2,c2,hl2,hown2,hog2⟩:=hI.list;have HL2:=hD hl2;have HOW2:=hD hown2;have HOG2:=hD hog2;have z0:W.cell? ⟨ib,0,none⟩=some (.int .i64 (k:Nat)):=hI.ri.cell 0;have z1:W.cell? ⟨M,k,none⟩=some (.map (some (bs k))):=by rw[hI.rM.cell k,Z9b _ _ _ hk4,if_pos hk4]
  have hml:x.1.size<=maxLen:=by simp[maxLen];omega
  have HML:=hD hml;have hlk:=hI.map.look (t:=169) Tryz.underlying9 Tryz.underlying169 (Tryz.zeroI W) hml;have HPOST:Hid (∀(W':World) (G2:Nat->Prop),Only G1 W W'->(∀i,G2 i->i<W'.heap.size/\(G1 i\/W.heap.size<=i))->TrJ ob M ib w.heap.size bs all.length k ((pre++ [x]).foldl (trK k) (out0,Z1l k all)).1 ((pre++ [x]).foldl (trK k) (out0,Z1l k all)).2 G2 W'->
    ∃F2 G2,ItT p (ts k) k S (fun b=>b=fb\/b=kb) F2 W'/\Dis F2 G2 W'/\Keeps (Un F1 G1) (Un F2 G2) W W'/\TrJ ob M ib w.heap.size bs all.length k ((pre++ [x]).foldl (trK k) (out0,Z1l k all)).1 ((pre++ [x]).foldl (trK k) (out0,Z1l k all)).2 G2 W'):=fun W' G2 ho hG2 hj=>by
   have hz:=ho.size;have htk:¬G1 (ts k):=fun q=>by have:=HI.out.nw _ q;have:=(HTW.out.tree k hk4).lt;omega
   refine⟨F1,G2,HIT.out.only ho (fun i q r=>(HDD.out.2 i r).2 q) htk,⟨fun i q=>by have:=HDD.out.1 i q;omega,fun i q=>⟨(hG2 i q).1,fun r=> ?_⟩⟩,⟨ho.mono (fun i q=> .inl (.inr q)),fun i q=> ?_⟩,hj⟩
   ·rcases(hG2 i q).2 with s | s
    ·exact(HDD.out.2 i s).2 r
    ·have:=HDD.out.1 i r;omega
   ·rcases q with q | q
    ·exact .inl (.inl q)
    ·exact(hG2 i q).2.imp .inr id
  have HPUSH:Hid (∀(W1:World),Ext W W1->trK k (out,f) x=(out++ [((k:Int),0)],f)->∀(A6:Option Addr) (c6:Nat) (w6:World),OwnL w6 w.heap.size 90 2 Z6v (.slice A6 (out.length+1) c6) (out++ [((k:Int),(0:Int))])->W1.grownBy w6 (Value.slice A2 out.length c2).ownBlock->(∀b,(Value.slice A6 (out.length+1) c6).ownBlock=some b->(Value.slice A2 out.length c2).ownBlock=some b\/W1.heap.size<=b)->
    w6.cell? ⟨ob,0,none⟩=some (.slice A2 out.length c2)/\w6.frozen? ⟨ob,0,none⟩=false/\∃F2 G2,ItT p (ts k) k S (fun b=>b=fb\/b=kb) F2 (w6.setCell ⟨ob,0,none⟩ (.slice A6 (out.length+1) c6))/\Dis F2 G2 (w6.setCell ⟨ob,0,none⟩ (.slice A6 (out.length+1) c6))/\Keeps (Un F1 G1) (Un F2 G2) W (w6.setCell ⟨ob,0,none⟩ (.slice A6 (out.length+1) c6))/\
     TrJ ob M ib w.heap.size bs all.length k ((pre++ [x]).foldl (trK k) (out0,Z1l k all)).1 ((pre++ [x]).foldl (trK k) (out0,Z1l k all)).2 G2 (w6.setCell ⟨ob,0,none⟩ (.slice A6 (out.length+1) c6))):=fun W1 hx htk A6 c6 w6 hown hgr hwh=>by
   obtain⟨v0,v1,G2,hj2,ho2,hG2⟩:=HI.out.pushed hx HL2.out HOW2.out HOG2.out (fun i q=>(HDD.out.2 i q).1) hown hgr hwh;exact⟨v0,v1,HPOST.out _ G2 ho2 hG2 (by rw[HNX.out,htk];exact hj2)⟩
  clear hI hit hdd hl2 hown2 hog2 hst hnx hok1;have y0:W.cell? ⟨ob,0,none⟩=some (.slice A2 out.length c2):=HL2.out.cell 0;have HB1:Hid (∀o,w.heap.size<=(W.alloc o).heap.size):=fun o=>by rw[World.size_alloc];have:=HI.out.ri.lt;have:=HIBW.out;omega
  have HB2:Hid (out.length+1<=1000000000):=by have:=HOL.out;have:=hlen;unfold Hid;omega
  have HL1:Hid ((out++ [((k:Int),(0:Int))]).length=out.length+1):=by unfold Hid;simp
  have HDEL:Hid (Z6b k f x->∀(W1 w9:World),Ext W W1->MapS w9 9 (bs k) all.length (updS f x.1 none)->But (bs k) W1 w9->∃F2 G2,ItT p (ts k) k S (fun b=>b=fb\/b=kb) F2 w9/\Dis F2 G2 w9/\Keeps (Un F1 G1) (Un F2 G2) W w9/\TrJ ob M ib w.heap.size bs all.length k ((pre++ [x]).foldl (trK k) (out0,Z1l k all)).1 ((pre++ [x]).foldl (trK k) (out0,Z1l k all)).2 G2 w9):=fun hg W1 w9 hx hm9 hb9=>by have ho9:Only G1 W w9:=(Only.of hx).trans' (Only.but hb9 (.inl HI.out.gb));have hz:=ho9.size;refine HPOST.out w9 G1 ho9 (fun i q=>⟨by have:=(HDD.out.2 i q).1;omega,.inl q⟩) ?_;rw[HNX.out,show trK k (out,f) x=(out,updS f x.1 none)from if_pos hg];exact(HI.out.ext hx).drop hm9 hb9
  by_cases hs:(f x.1).isSome=true
  ·rw[hs]at hlk;by_cases hk0:k=0
   ·have hk00:=hk0;subst hk0;obtain⟨o,ho,hxo⟩:∃o∈all,x=kvW 0 o:=by rw[show klF Ts 0=all.map (kvW 0)from hf.outs]at hxin;obtain⟨o,h1,h2⟩:=List.mem_map.1 hxin;exact⟨o,h1,h2.symm⟩
    have hoc:=hok o (hf.mem o ho);have hx1:x.1=wayK 0 o:=by rw[hxo];rfl
    have hx2:x.2=bts (opL o):=by rw[hxo];rfl
    have hid:(f x.1).getD 0=o.id:=by
     cases hfx:f x.1 with
     | none=>rw[hfx]at hs;cases hs
     | some id=>
       obtain⟨o',h1,h2,h3⟩:=V7e 0 all (hfid id hfx);have h4:=Z8c (OpIn.way (OpIn.of (hok o' (hf.mem o' h1))) 0) (OpIn.way (OpIn.of hoc) 0) (h2.trans hx1);show id=o.id;omega
    have HG:Hid (Z6b 0 f x):=⟨hs,.inl rfl⟩;have cD:Hid (∀W',cQ 88 #[.string (bts (opL o))] W' fun e w'=>e= .returned (.tuple #[.agg #[.int .i64 o.id,.int .i64 o.proc,.int .i64 o.object,.int .i64 o.kind,.int .i64 o.method,.int .i64 o.arg,.int .i64 o.second,.bool o.done,.int .i64 o.result,.int .i64 o.invoke,.int .i64 o.ret],.int .i64 0])/\Ext W' w'):=fun W'=>Z7k o W' hoc;rw[hid]at hlk;rw[hx2];obtain⟨ky,hky⟩:∃ky,x.1=ky:=⟨_,rfl⟩;rw[hky]at hlk HML HDEL ⊢;clear hxo hoc hx1 hx2 hid hxin hfid hxk hxv hky hk00;have HXC:Hid (∀W',Ext W W'->W'.cell? ⟨ib,0,none⟩=some (.int .i64 0)/\W'.cell? ⟨M,0,none⟩=some (.map (some (bs 0)))):=fun W' hx=>by have h:=HI.out.ext hx;exact⟨h.ri.cell 0,by rw[h.rM.cell 0,Z9b _ _ _ hk4,if_pos hk4]⟩
    gi_upto_region 19 with (refine ⟨trivial,?_⟩;gi_at_call 88;refine(callsIn_wide.2 (cD.out _)).mono ?_;clear cD;rintro e w5 ⟨rfl,hb5⟩;have HX6:Hid (Ext W (w5.alloc (.cells #[.int .i64 o.id,.int .i64 o.proc,.int .i64 o.object,.int .i64 o.kind,.int .i64 o.method,.int .i64 o.arg,.int .i64 o.second,.bool o.done,.int .i64 o.result,.int .i64 o.invoke,.int .i64 o.ret] 73))):=hb5.trans (Ext.alloc _ _);obtain⟨z5,z6⟩:=HXC.out _ HX6.out;obtain⟨o0,o1,o2,o3,o4,o5,o6,o7,o8,o9,o10⟩:=At11.row (Row1.made w5 73 o.cells);clear hb5)
    generalize hw6:World.alloc w5 _=w6 at *;clear o0 o1 o2 o3 o4 o5 o6 o7 o8 o9 o10 hw6;obtain⟨w9,hr9,hm9,ht9⟩:=(HI.out.ext HX6.out).map.drop (t:=169) Tryz.underlying9 Tryz.underlying169 HML.out 0;have HFIN:=hD (HDEL.out HG.out w6 w9 HX6.out hm9 (Z4m ht9));clear hm9 ht9;gi_wp2_with fail;exact HFIN.out
   ·have q3:((k:Int)==0)=false:=by simp[hk0]
    have q4:decide ((k:Int)=0)=false:=aM;have q5:((k:Int)!=0)=true:=by simp[hk0]
    have q6:¬(k:Int)=0:=by omega
    by_cases hx2:x.2=⟨#[]⟩
    ·obtain⟨w9,hr9,hm9,ht9⟩:=HI.out.map.drop (t:=169) Tryz.underlying9 Tryz.underlying169 HML.out 0;have HFIN:=hD (HDEL.out ⟨hs,.inr hx2⟩ W w9 (Ext.refl _) hm9 (Z4m ht9));rw[hx2];clear hm9 ht9 hx2 hk0;gi_wp2_with fail;exact HFIN.out
    ·have HTK:Hid (trK k (out,f) x=(out++ [((k:Int),0)],f)):=if_neg (fun q=>q.2.elim hk0 hx2);have hne:¬x.2.toList= []:=fun e=>hx2 (V4s e);have hne2:x.2.toList.isEmpty=false:=by
      cases e:x.2.toList with
      | nil=>exact absurd e hne
      | cons _ _=>rfl
     clear hx2 hk0;gi_wp2_with (
    with_reducible show wpListIn _ _ _ _ _ (({ dst:=_,op:=Op.call { callee:=Callee.builtin Builtin.append,args:=_,argTypes:=_},type:=_,pos:=_,after:=_,guard:=_}:Oper)::_) _ _
    go_loud (refine Z3v elTr Z7v Y0l rfl (.tmp 77) (.tmp 80) rfl (.slice A2 out.length c2) out rfl (HOW2.out.alloc _) (HB1.out _) W.heap.size 1 ((k:Int),0) rfl (Row1.made W _ (Z6v ((k:Int),0))) HB2.out (by decide) ?_;intro A6 c6 w6 hown6 hgr6 hwh6;rw[HL1.out]at hown6 hwh6 ⊢;obtain⟨v0,v1,hfin⟩:=HPUSH.out _ (Ext.alloc W (.cells #[.int .i64 (k:Nat),.int .i64 0] 90)) HTK.out A6 c6 w6 hown6 hgr6 hwh6;have HFIN:=hD hfin;clear hown6 hgr6 hwh6 hfin))
     exact HFIN.out
  ·have hsf:(f x.1).isSome=false:=by simpa using hs
   rw[hsf]at hlk;have HTK:Hid (trK k (out,f) x=(out++ [((k:Int),0)],f)):=if_neg (fun q=>hs q.1);by_cases hk0:k=0
   ·have q3:((k:Int)==0)=true:=by simp[hk0]
    have q4:decide ((k:Int)=0)=true:=aN;clear hk0;gi_wp2_with (
    with_reducible show wpListIn _ _ _ _ _ (({ dst:=_,op:=Op.call { callee:=Callee.builtin Builtin.append,args:=_,argTypes:=_},type:=_,pos:=_,after:=_,guard:=_}:Oper)::_) _ _
    go_loud (refine Z3v elTr Z7v Y0l rfl (.tmp 77) (.tmp 80) rfl (.slice A2 out.length c2) out rfl (HOW2.out.alloc _) (HB1.out _) W.heap.size 1 ((k:Int),0) rfl (Row1.made W _ (Z6v ((k:Int),0))) HB2.out (by decide) ?_;intro A6 c6 w6 hown6 hgr6 hwh6;rw[HL1.out]at hown6 hwh6 ⊢;obtain⟨v0,v1,hfin⟩:=HPUSH.out _ (Ext.alloc W (.cells #[.int .i64 (k:Nat),.int .i64 0] 90)) HTK.out A6 c6 w6 hown6 hgr6 hwh6;have HFIN:=hD hfin;clear hown6 hgr6 hwh6 hfin))
    exact HFIN.out
   ·have q3:((k:Int)==0)=false:=by simp[hk0]
    have q4:decide ((k:Int)=0)=false:=aM;clear hk0;gi_wp2_with (
    with_reducible show wpListIn _ _ _ _ _ (({ dst:=_,op:=Op.call { callee:=Callee.builtin Builtin.append,args:=_,argTypes:=_},type:=_,pos:=_,after:=_,guard:=_}:Oper)::_) _ _
    go_loud (refine Z3v elTr Z7v Y0l rfl (.tmp 77) (.tmp 80) rfl (.slice A2 out.length c2) out rfl (HOW2.out.alloc _) (HB1.out _) W.heap.size 1 ((k:Int),0) rfl (Row1.made W _ (Z6v ((k:Int),0))) HB2.out (by decide) ?_;intro A6 c6 w6 hown6 hgr6 hwh6;rw[HL1.out]at hown6 hwh6 ⊢;obtain⟨v0,v1,hfin⟩:=HPUSH.out _ (Ext.alloc W (.cells #[.int .i64 (k:Nat),.int .i64 0] 90)) HTK.out A6 c6 w6 hown6 hgr6 hwh6;have HFIN:=hD hfin;clear hown6 hgr6 hwh6 hfin))
    exact HFIN.out
 case done=>
  rintro D xs W F1 G1 jH rfl hI hit hd1 hn1 hn2 hk1 hK;subst hA0;obtain⟨st,hst⟩:∃st,(klF Ts k).foldl (trK k) (out0,Z1l k all)=st:=⟨_,rfl⟩;rw[show Z1e (Ts k).list ⟨#[]⟩=klF Ts k from rfl,hst]at hI;have hlen1:st.1.length<=out0.length+1000:=by have h:=Y7n k (klF Ts k) (out0,Z1l k all);rw[hst]at h;have:=hkl k hk4;dsimp only at h;omega
  have HTRW:Hid (trAll all (klF Ts) (k+1)=all.foldl (trO k st.2) st.1):=by show trW k all (klF Ts k) (trAll all (klF Ts) k)=_;unfold trW;rw[HOUT0.out,hst]
  obtain⟨out1,f1⟩:=st;dsimp only at hI hlen1 HTRW;have htbW:∀i,(i=tb\/∃j,j<5/\i=ts j)->i<w.heap.size/\¬Un F5 G0 i:=fun i q=>by
   have hlt:i<w.heap.size:=by
    rcases q with rfl | ⟨j,hj,rfl⟩
    ·exact HTW.out.row.lt
    ·exact(HTW.out.tree j hj).lt
   refine⟨hlt,fun r=> ?_⟩;rcases r with r | r
   ·rcases q with rfl | ⟨j,hj,rfl⟩
    ·exact HI5.out.at_.out r
    ·exact HI5.out.at_.outs j hj r
   ·have:=(HGA.out i r).1;omega
  have hw5:w.heap.size<=w5.heap.size:=HI5.out.keep.only.size;have HAT:Hid (TblAt W tb p ts F1):=⟨hk1.only.row HI5.out.at_.row (htbW tb (.inl rfl)).2,fun j hj=>hk1.only.row (HI5.out.at_.tree j hj) (htbW _ (.inr ⟨j,hj,rfl⟩)).2,fun q=>hk1.out HI5.out.at_.row.lt (htbW tb (.inl rfl)).2 (.inl q),fun j hj q=>hk1.out (HI5.out.at_.tree j hj).lt (htbW _ (.inr ⟨j,hj,rfl⟩)).2 (.inl q)⟩;have cA2:=Y6b (some ⟨tb,0,none⟩) W;gi_wp2_with (refine ⟨trivial,?_⟩;gi_at_call 73;refine(callsIn_wide.2 cA2).mono ?_;clear cA2;rintro e w7 ⟨bt,rfl,h71,h72,h73⟩);have hz7:=h71.size;have hbt7:=h73.lt;have htl:∀j,j<5->ts j<w.heap.size:=fun j hj=>(htbW _ (.inr ⟨j,hj,rfl⟩)).1;have htbl:=(htbW tb (.inl rfl)).1;have hzw:=hk1.only.size;have HIT7:Hid (ItF tb p ts bt S (fun i=>F1 i\/T1 tb ts bt i) w7):=⟨F1,rfl,HAT.out.ext h71,hit.1.ext h71,h73,fun q=>by have:=hd1.1 _ q;omega⟩;have HD7:Hid (Dis (fun i=>F1 i\/T1 tb ts bt i) G1 w7):=⟨fun i q=>by
   rcases q with q | rfl | ⟨j,hj,rfl⟩ | rfl
   ·have:=hd1.1 i q;omega
   ·omega
   ·have:=htl j hj;omega
   ·exact hbt7,fun i q=>⟨by have:=(hd1.2 i q).1;omega,fun r=>by
    have h1:=hI.nw i q;have h2:=(hd1.2 i q).1;rcases r with r | rfl | ⟨j,hj,rfl⟩ | rfl
    ·exact(hd1.2 i q).2 r
    ·omega
    ·have:=htl j hj;omega
    ·omega⟩⟩
  have HJ7:=hD (hI.ext h71);have HT7:Hid (TblAt w7 tb p ts F1/\Row1 w7 bt 66 [tp tb]):=⟨HAT.out.ext h71,h73⟩;have HK7:Hid (Keeps (Un F5 G0) (Un F1 G1) w5 w7):=hk1.ext h71;have HDF:Hid (w7.heap[D]? =some (.deferred (some []))/\w5.heap.size<=D/\D<w7.heap.size/\¬F1 D/\¬G1 D):=by have hdl:=(Array.getElem?_eq_some_iff.1 hK).1;exact⟨(h71.block D hdl).trans hK,jH,by omega,hn1,hn2⟩
  clear hI hit hd1 hn1 hn2 hk1 hK h71 hst;refine Y4q (motive:=fun a=>Code.wpIn Fence.wide 3 Tryz.prog _ _ a _) (fun b0 hB0=> ?_);refine Z4g rfl (by decide) (gf:=132) (lb:=#[tp bt]) (by rw[hB0];rfl) trivial (enters_of Tryz.func132 (by kernel_rfl) rfl)
   (Y7c (bt:=bt) (tb:=tb) (p:=p) (ts:=ts) w7 (htr 0 (by omega)) hok (hd 0 (by omega)) hf) (Ext.refl w7) (fun _=>rfl) (fun i=>F1 i\/T1 tb ts bt i) G1 (ItF.abides (by omega) (fun j hj=>by have:=htl j hj;omega) hbt7)
   HIT7.out HD7.out (fun pre G W=>TrJ ob M ib w.heap.size bs all.length k (pre.foldl (trO k f1) out1) f1 G W) (fun c pre G W=>False) (fun s G W W' h _ ho=>h.only ho) (fun c s G W W' q q2 q3=>q) HJ7.out
   (fun x W a1 W1=>W1=W.alloc (.cells x.cells.toArray 73)/\a1= { tmps:=(b0.tmps.setIfInBounds 88 x.val).setIfInBounds 13 (tp W.heap.size),defers:= []})
   (fun x W a1 W1 q=>q.1▸Ext.alloc _ _) ?assign2 ?body2 ?done2 ?stop2
  case assign2=>
   intro l x W K hK;subst hB0;simp only[V8n,X3n,List.setIfInBounds_toArray,List.set_cons_succ,List.set_cons_zero]at hK ⊢;gi_wp2
   first | exact hK _ _ ⟨rfl,rfl⟩ | exact⟨rfl,rfl⟩ | exact rfl
  case stop2=>intro D c pre W F1 G1 _ _ h;exact h.elim
  case body2=>
   rintro l pre x W0 a1 W1 W2 F2 G2 ⟨rfl,rfl⟩ hl0 hl1 hl2 ho1 hzz hd0 hI hit hdd hok1;subst hB0;simp only[List.setIfInBounds_toArray,List.set_cons_succ,List.set_cons_zero];have hxm:x∈all:=by
    obtain⟨r,hr⟩:=hok1;have h1:x∈(pre++ [x])++r:=by simp
    rw[hr,List.take_length]at h1;exact h1
   have hpl:pre.length<=1000:=by obtain⟨r,hr⟩:=hok1;have h1:=congrArg List.length hr;simp only[aA,List.length_cons,aD]at h1;omega
   have hxc:=hok x (hf.mem x hxm);have HXR:Hid (Row1 W2 W0.heap.size 73 x.cells):=ho1.row (Row1.made W0 _ x.cells) (by omega);obtain⟨out,hst⟩:∃out,pre.foldl (trO k f1) out1=out:=⟨_,rfl⟩;have hlen:out.length<=out1.length+1000:=by have h:=X9s k f1 pre out1;rw[hst]at h;omega
   have HNX:Hid ((pre++ [x]).foldl (trO k f1) out1=trO k f1 out x):=by unfold Hid;rw[List.foldl_append,hst];rfl
   rw[hst]at hI;have HI:=hD hI;have HIT:=hD hit;have HDD:=hD hdd;obtain⟨A2,c2,hl2',hown2,hog2⟩:=hI.list;have HL2:=hD hl2';have HOW2:=hD hown2;have HOG2:=hD hog2;have HB2:Hid (out.length+1<=1000000000):=by have:=HOL.out;unfold Hid;omega
   have HPOST:Hid (∀(W':World) (G3:Nat->Prop),Only G2 W2 W'->(∀i,G3 i->i<W'.heap.size/\(G2 i\/W2.heap.size<=i))->TrJ ob M ib w.heap.size bs all.length k ((pre++ [x]).foldl (trO k f1) out1) f1 G3 W'->
     ∃F3 G3,ItF tb p ts bt S F3 W'/\Dis F3 G3 W'/\Keeps (Un F2 G2) (Un F3 G3) W2 W'/\TrJ ob M ib w.heap.size bs all.length k ((pre++ [x]).foldl (trO k f1) out1) f1 G3 W'):=fun W' G3 ho hG3 hj=>by
    have hz:=ho.size;refine⟨F2,G3,HIT.out.only ho (fun i q=>(HDD.out.2 i q).2),⟨fun i q=>by have:=HDD.out.1 i q;omega,fun i q=>⟨(hG3 i q).1,fun r=> ?_⟩⟩,⟨ho.mono (fun i q=> .inl (.inr q)),fun i q=> ?_⟩,hj⟩
    ·rcases(hG3 i q).2 with s | s
     ·exact(HDD.out.2 i s).2 r
     ·have:=HDD.out.1 i r;omega
    ·rcases q with q | q
     ·exact .inl (.inl q)
     ·exact(hG3 i q).2.imp .inr id
   have HML:Hid ((wayK k x).size<=maxLen):=by have:=(Z6y k x).2;unfold Hid;simp[maxLen];omega
   have HC:Hid (∀W',Ext W2 W'->W'.cell? ⟨ib,0,none⟩=some (.int .i64 (k:Nat))/\W'.cell? ⟨M,k,none⟩=some (.map (some (bs k)))/\(Instr.lookup 169 (.map (some (bs k))) (.string (wayK k x)) true).run Tryz.prog W'= .ok (.tuple #[.int .i64 ((f1 (wayK k x)).getD 0),.bool (f1 (wayK k x)).isSome]) W'/\(W'.cell? ⟨W0.heap.size,0,none⟩=some (.int .i64 x.id)/\W'.cell? ⟨W0.heap.size,1,none⟩=some (.int .i64 x.proc)/\W'.cell? ⟨W0.heap.size,2,none⟩=some (.int .i64 x.object)/\W'.cell? ⟨W0.heap.size,3,none⟩=some (.int .i64 x.kind)/\W'.cell? ⟨W0.heap.size,4,none⟩=some (.int .i64 x.method)/\W'.cell? ⟨W0.heap.size,5,none⟩=some (.int .i64 x.arg)/\W'.cell? ⟨W0.heap.size,6,none⟩=some (.int .i64 x.second)/\W'.cell? ⟨W0.heap.size,7,none⟩=some (.bool x.done)/\W'.cell? ⟨W0.heap.size,8,none⟩=some (.int .i64 x.result)/\W'.cell? ⟨W0.heap.size,9,none⟩=some (.int .i64 x.invoke)/\W'.cell? ⟨W0.heap.size,10,none⟩=some (.int .i64 x.ret))):=fun W' hx=>by have h:=HI.out.ext hx;exact⟨h.ri.cell 0,by rw[h.rM.cell k,Z9b _ _ _ hk4,if_pos hk4],h.map.look Tryz.underlying9 Tryz.underlying169 (Tryz.zeroI W') HML.out,At11.row (HXR.out.ext hx HXR.out.lt)⟩
   have cW:Hid (∀W',cQ 89 #[.int .i64 (k:Nat),.agg #[.int .i64 x.id,.int .i64 x.proc,.int .i64 x.object,.int .i64 x.kind,.int .i64 x.method,.int .i64 x.arg,.int .i64 x.second,.bool x.done,.int .i64 x.result,.int .i64 x.invoke,.int .i64 x.ret]] W' fun e w'=>e= .returned (.string (wayK k x))/\Ext W' w'):=fun W'=>Z5q k x W' hk4 ((OpIn.of hxc).way k);have HL1:Hid ((out++ [((k:Int),x.id)]).length=out.length+1):=by unfold Hid;simp
   obtain⟨b,hb⟩:∃b,(f1 (wayK k x)).isSome=b:=⟨_,rfl⟩;have HTRO:Hid (trO k f1 out x=if b=true then out++ [((k:Int),x.id)]else out):=by unfold Hid trO;rw[hb]
   rw[hb]at HC;generalize (f1 (wayK k x)).getD 0=v9 at HC;generalize wayK k x=ky at *;clear hI hit hdd hl2' hown2 hog2 hst hok1 hl0 hl1 hl2 ho1 hzz hd0 hxc hb hxm hpl hlen
   gi_upto_region 22 with fail
   first | refine Y0s ?_ | refine Y5t ?_
   refine Y7y (S:=fun W=>W.cell? ⟨ib,0,none⟩=some (.int .i64 (k:Nat))/\W.cell? ⟨M,k,none⟩=some (.map (some (bs k)))/\(Instr.lookup 169 (.map (some (bs k))) (.string ky) true).run Tryz.prog W= .ok (.tuple #[.int .i64 v9,.bool b]) W/\(W.cell? ⟨W0.heap.size,0,none⟩=some (.int .i64 x.id)/\W.cell? ⟨W0.heap.size,1,none⟩=some (.int .i64 x.proc)/\W.cell? ⟨W0.heap.size,2,none⟩=some (.int .i64 x.object)/\W.cell? ⟨W0.heap.size,3,none⟩=some (.int .i64 x.kind)/\W.cell? ⟨W0.heap.size,4,none⟩=some (.int .i64 x.method)/\W.cell? ⟨W0.heap.size,5,none⟩=some (.int .i64 x.arg)/\W.cell? ⟨W0.heap.size,6,none⟩=some (.int .i64 x.second)/\W.cell? ⟨W0.heap.size,7,none⟩=some (.bool x.done)/\W.cell? ⟨W0.heap.size,8,none⟩=some (.int .i64 x.result)/\W.cell? ⟨W0.heap.size,9,none⟩=some (.int .i64 x.invoke)/\W.cell? ⟨W0.heap.size,10,none⟩=some (.int .i64 x.ret))) (by kernel_rfl) (by kernel_rfl) (HC.out _ (by exact Xt)) (fun hHeld=> ?_);refine' tkW 0 ?_;refine' tkW 1 ?_;refine' tkW 2 ?_;refine' tkW 3 ?_;refine' tkW 4 ?_;refine stpW 5 (fun K hK=> ?_);go_simp
   (with_reducible refine(cW.out _).mono ?_)
   rintro e w8 ⟨rfl,hb8⟩;have HX8:Hid (Ext W2 w8):=Ext.trans (by exact Xt) hb8;clear hb8
   (try dsimp only)
   (try go_simp)
   refine hK.out _ _ (HC.out _ HX8.out) (fun hHeld=> ?_);clear hK K;refine ptW ?_;refine' tkW 6 ?_;refine' tkW 7 ?_;refine' tkW 8 ?_;refine' tkW 9 ?_;refine' tkW 10 ?_;refine' tkW 11 ?_;refine Z8a (by kernel_rfl) ?_ _;dsimp only[X2n];cases b with
   | false=>
     have HFIN:=hD (HPOST.out w8 G2 (Only.of HX8.out) (fun i q=>⟨aE (HDD.out.2 i q).1 HX8.out.size,.inl q⟩) (by rw[HNX.out,HTRO.out,if_neg (by simp)];exact HI.out.ext HX8.out));gi_wp2_with fail;exact HFIN.out
   | true=>
     have HB1:Hid (∀o,w.heap.size<=(w8.alloc o).heap.size):=fun o=>by rw[World.size_alloc];have:=HI.out.ri.lt;have:=HIBW.out;have:=HX8.out.size;omega
     have HPUSH:Hid (∀o (A6:Option Addr) (c6:Nat) (w6:World),OwnL w6 w.heap.size 90 2 Z6v (.slice A6 (out.length+1) c6) (out++ [((k:Int),x.id)])->(w8.alloc o).grownBy w6 (Value.slice A2 out.length c2).ownBlock->(∀b,(Value.slice A6 (out.length+1) c6).ownBlock=some b->(Value.slice A2 out.length c2).ownBlock=some b\/(w8.alloc o).heap.size<=b)->
       w6.cell? ⟨ob,0,none⟩=some (.slice A2 out.length c2)/\w6.frozen? ⟨ob,0,none⟩=false/\∃F3 G3,ItF tb p ts bt S F3 (w6.setCell ⟨ob,0,none⟩ (.slice A6 (out.length+1) c6))/\Dis F3 G3 (w6.setCell ⟨ob,0,none⟩ (.slice A6 (out.length+1) c6))/\Keeps (Un F2 G2) (Un F3 G3) W2 (w6.setCell ⟨ob,0,none⟩ (.slice A6 (out.length+1) c6))/\TrJ ob M ib w.heap.size bs all.length k ((pre++ [x]).foldl (trO k f1) out1) f1 G3 (w6.setCell ⟨ob,0,none⟩ (.slice A6 (out.length+1) c6))):=fun o A6 c6 w6 hown hgr hwh=>by
      obtain⟨v0,v1,G3,hj2,ho2,hG3⟩:=HI.out.pushed (HX8.out.trans (Ext.alloc w8 o)) HL2.out HOW2.out HOG2.out (fun i q=>(HDD.out.2 i q).1) hown hgr hwh;exact⟨v0,v1,HPOST.out _ G3 ho2 hG3 (by rw[HNX.out,HTRO.out,if_pos rfl];exact hj2)⟩
     have y0:w8.cell? ⟨ob,0,none⟩=some (.slice A2 out.length c2):=(HL2.out.ext HX8.out HL2.out.lt).cell 0;obtain⟨z0,_,_,z1,_⟩:=HC.out _ HX8.out;gi_wp2_with (
      with_reducible show wpListIn _ _ _ _ _ (({ dst:=_,op:=Op.call { callee:=Callee.builtin Builtin.append,args:=_,argTypes:=_},type:=_,pos:=_,after:=_,guard:=_}:Oper)::_) _ _
      go_loud (refine Z3v elTr Z7v Y0l rfl (.tmp 100) (.tmp 105) rfl (.slice A2 out.length c2) out rfl ((HOW2.out.ext HX8.out).alloc _) (HB1.out _) w8.heap.size 1 ((k:Int),x.id) rfl (Row1.made w8 _ (Z6v ((k:Int),x.id))) HB2.out (by decide) ?_;intro A6 c6 w6 hown6 hgr6 hwh6;rw[HL1.out]at hown6 hwh6 ⊢;obtain⟨v0,v1,hfin⟩:=HPUSH.out _ A6 c6 w6 hown6 hgr6 hwh6;have HFIN:=hD hfin;clear hown6 hgr6 hwh6 hfin))
     exact HFIN.out
  case done2=>
   rintro D2 xs W' F2 G2 hD2 rfl hI hit hd2 hn3 hn4 hk2 hK2;subst hB0;rw[List.take_length,<-HTRW.out]at hI;obtain⟨F',rfl,q1,q2,q3⟩:=hit.after HT7.out.1 HT7.out.2 hd2 hk2;have KU:Keeps (Un F5 G0) (Un F' G2) w5 W':=HK7.out.trans q3;have hz5:=HK7.out.only.size;have hzU:=KU.only.size;have hz2:=q3.only.size;obtain⟨A2,c2,l1,l2,l3⟩:=hI.list;have HNEXT:Hid (TrbI w tb p ts S Ts all F ob M bs (k+1) (D2::D::Dl) (fun i=>F' i/\i<W'.heap.size) W'):=by
    have hnot:∀i,G2 i->¬F' i:=fun i q r=>(hd2.2 i q).2 (.inl r);refine⟨⟨q1.row,q1.tree,fun q=>q1.out q.1,fun j hj q=>q1.outs j hj q.1⟩,q2.shrink,⟨HI5.out.keep.only.trans KU.only (fun i q=> ?_),fun i q=> ?_⟩,fun i q=>q.2,hI.rM,fun i hi=> ?_,HI5.out.inj,⟨A2,c2,l1,l2,fun b q r=>hnot b (l3 b q) r.1⟩,⟨fun q=>hnot _ hI.go_ q.1,fun q=>hnot _ hI.gM q.1,fun i hi q=> ?_⟩,HI5.out.new,?_,fun E hE=> ?_⟩
    ·rcases q with q | q
     ·exact HI5.out.keep.new i q
     ·exact .inr (HGA.out i q).1
    ·rcases KU.new i (.inl q.1)with (r | r) | r
     ·exact HI5.out.keep.new i r
     ·exact .inr (HGA.out i r).1
     ·exact .inr (by have:=HI5.out.keep.only.size;omega)
    ·by_cases e:i=k
     ·subst e;exact⟨f1,hI.map,fun h=>by omega⟩
     ·obtain⟨f,m1,m2⟩:=HI5.out.maps i hi;exact⟨f,KU.only.mapS m1 (fun r=>r.elim (HI5.out.apart.2.2 i hi) (HGN.out.1 i hi e)),fun h=>m2 (by omega)⟩
    ·by_cases e:i=k
     ·subst e;exact hnot _ hI.gb q.1
     ·exact KU.out (HI5.out.blt i hi) (fun r=>r.elim (HI5.out.apart.2.2 i hi) (HGN.out.1 i hi e)) (.inl q.1)
    ·have hDl:∀E∈Dl,E<w5.heap.size:=fun E hE=>(Array.getElem?_eq_some_iff.1 (HI5.out.dl.2 E hE).1).1;have h1:=HDF.out.2.1;have h2:=HDF.out.2.2.1;refine List.nodup_cons.2 ⟨fun q=> ?_,List.nodup_cons.2 ⟨fun q=>by have:=hDl D q;omega,HI5.out.dl.1⟩⟩;rcases List.mem_cons.1 q with q | q
     ·omega
     ·have:=hDl _ q;omega
    ·have hw5:=HI5.out.keep.only.size;rcases List.mem_cons.1 hE with rfl | hE
     ·exact⟨hK2,by omega,fun q=>hn3 (.inl q.1)⟩
     ·rcases List.mem_cons.1 hE with rfl | hE
      ·obtain⟨e1,e2,e3,e4,e5⟩:=HDF.out;have hnu:¬Un F1 G1 E:=fun r=>r.elim e4 e5;exact⟨(q3.only.block E e3 hnu).trans e1,by omega,fun q=>q3.out e3 hnu (.inl q.1)⟩
      ·obtain⟨e1,e2,e3⟩:=HI5.out.dl.2 E hE;have hlt:=(Array.getElem?_eq_some_iff.1 e1).1;have hnu:¬Un F5 G0 E:=fun r=>r.elim e3 (HGN.out.2 E hE);exact⟨(KU.only.block E hlt hnu).trans e1,e2,fun q=>KU.out hlt hnu (.inl q.1)⟩
   clear hI hit hd2 hn3 hn4 hk2 hK2 q1 q2 q3 KU l1 l2 l3;gi_wp2_with fail;refine⟨?_,?measure⟩
   ·(repeat apply Exists.intro)
    refine⟨⟨k+1,D2::D::Dl,_,by omega,?num,rfl,HNEXT.out⟩,rfl⟩
    case num=>go_num
   case measure=>simp[intOf];omega
end
end Go.Proofs.YtohaldfnmgcofaaGreat
