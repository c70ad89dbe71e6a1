/- The statement of layer 13's soundness: nothing is ever out of order, and the pages are just those that are given out. The walk. Conditions: acts that can be read. -/
import Derived.Test.YtohaldfnmgcofaaGreatW44
import Derived.Test.YtohaldfnmgcofaaGreatW38
set_option maxRecDepth 100000
set_option maxHeartbeats 8000000
set_option linter.unusedSimpArgs false
set_option linter.unusedVariables false
namespace Go.Proofs.YtohaldfnmgcofaaGreat
open Go.RowKit
section
variable {S:StoreD} {Ts:Nat->TrD} {l:List OpD}
theorem Tab.finds_all(hT:Tab S Ts (fun _=>l))(hr:Ris l):Finds Ts 0 ⟨#[]⟩ l l l.length:=by obtain⟨all,hf,_⟩:=hT.all;have e:=Tab.all_eq hT hr hf;subst e;exact hf
theorem U1t{i:Nat}(h:Z6u (Ts i).list):(klF Ts i).Pairwise (fun a b=>a.1≠b.1):=by unfold klF;rw[Z8h];exact h.imp (fun h=>Z2m h)
theorem U0n{i n:Nat}{L:List KV}(h:Z6u (Ts i).list)(hs:∀x∈(Ts i).list,x∈L)(hn:L.length<=n):(klF Ts i).length<=n:=by unfold klF;rw[Z8h];have hnd:(Ts i).list.Nodup:=List.nodup_iff_pairwise_ne.2 (h.imp (fun {a b} h e=>Z2m h (congrArg Prod.fst e)));exact Nat.le_trans (hnd.length_le_of_subset hs) hn
theorem Tab.mem_kl(hT:Tab S Ts (fun _=>l))(i:Nat)(hi:i<5):∀x∈(Ts i).list,x∈l.map (fun o=>(wayK i o,recW i o)):=fun x hx=>by obtain⟨o,ho,rfl⟩:=(hT.mem i hi x).1 hx;exact List.mem_map.2 ⟨o,ho,rfl⟩
theorem Tab.way_ok(hT:Tab S Ts (fun _=>l))(i:Nat)(hi:i<5)(out:List (Int×Int)):trW i l (klF Ts i) out=out:=
 U1n i l _ out (U1t (hT.tr i hi).rise) (fun x=>by unfold klF;rw[Z8h];exact hT.mem i hi x)
end
theorem LawI.checks{w0 w:World}{tb p bl:Nat}{ts:Nat->Nat}{l:List OpD}{t:Nat}{F:Nat->Prop}(h:LawI w0 tb p bl ts l t F w)(ht:t<=40):
  ∃(P:(Nat->Prop)->World->Prop) (n r:Nat),n+r=936/\P F w/\
   (∀F' W,P F' W->Calls Tryz.prog 32 #[.pointer (some ⟨tb,0,none⟩)] W fun e w'=>∃A c F2,e= .returned (.slice A 0 c)/\P F2 w')/\
   (∀F' W,P F' W->Calls Tryz.prog 36 #[.pointer (some ⟨tb,0,none⟩)] W fun e w'=>∃A c F2,e= .returned (.slice A n c)/\P F2 w')/\
   (∀F' W,P F' W->Calls Tryz.prog 35 #[.pointer (some ⟨p,0,none⟩)] W fun e w'=>∃F2,e= .returned (.int .i64 r)/\P F2 w')/\
   ∀F' W,P F' W->∃F2,LawI w0 tb p bl ts l t F2 W:=by
 obtain⟨C,S,Ts,h1,h2,h3⟩:=h.doz.ex;have hlen:=h.len;have hf:=h1.tab.finds_all h1.ris;have hpg:S.head.pages=938:=by rw[h1.soil.same];exact h2.pages
 have hrm:=h1.tab.room_acc h1.acc (by omega);have hstep:∀(F1 F2:Nat->Prop) (W w':World),TblAt W tb p ts F1->Keeps F F1 w W->PagerAt w' p F2 S->Keeps F1 F2 W w'->TblAt w' tb p ts (fun i=>F2 i/\i<w'.heap.size)/\PagerAt w' p (fun i=>F2 i/\i<w'.heap.size) S/\Keeps F (fun i=>F2 i/\i<w'.heap.size) w w'/\∀i,F2 i/\i<w'.heap.size->i<w'.heap.size:=fun F1 F2 W w' a1 a2 a3 a4=>
  ⟨⟨a4.only.row a1.row a1.out,fun j hj=>a4.only.row (a1.tree j hj) (a1.outs j hj),fun q=>a4.out a1.row.lt a1.out q.1,fun j hj q=>a4.out (a1.tree j hj).lt (a1.outs j hj) q.1⟩,a3.shrink,(a2.trans a4).shrink,fun i q=>q.2⟩
 refine⟨fun F' W=>TblAt W tb p ts F'/\PagerAt W p F' S/\Keeps F F' w W/\∀i,F' i->i<W.heap.size,(pgL Ts 5).length,Z0x S,by omega,⟨h.doz.at_,h3,Keeps.refl,h.doz.lt⟩,fun F' W q=> ?_,fun F' W q=> ?_,fun F' W q=> ?_,fun F' W q=> ?_⟩
 ·obtain⟨a1,a2,a3,a4⟩:=q;refine(Y3e (S:=S) (Ts:=Ts) (ls:=l) (all:=l) W a1 a2 a4 h1.tab.fm h1.tab.tr (h1.tab.ok 0 (by omega)) (fun i hi=>h1.dep ht i hi) hf (by omega) (fun i hi=>U0n (h1.tab.tr i hi).rise (h1.tab.mem_kl i hi) (by rw[List.length_map];omega))).mono ?_;rintro e w' ⟨A,c,F2,rfl,_,b1,b2,b3⟩;rw[V4v (fun i hi out=>h1.tab.way_ok i hi out)];exact⟨A,c,_,rfl,hstep F' F2 W w' a1 a3 b2 b3⟩
 ·obtain⟨a1,a2,a3,a4⟩:=q;refine(Y9e W a1 a2 h1.tab.fm h1.tab.tr (fun i hi=>h1.dep ht i hi)).mono ?_;rintro e w' ⟨A,c,F2,rfl,b2,b3⟩;exact⟨A,c,_,rfl,hstep F' F2 W w' a1 a3 b2 b3⟩
 ·obtain⟨a1,a2,a3,a4⟩:=q;refine(Y3t W a2).mono ?_;rintro e w' ⟨rfl,F2,b2,b3⟩;exact⟨_,rfl,hstep F' F2 W w' a1 a3 b2 b3⟩
 ·obtain⟨a1,a2,a3,a4⟩:=q;obtain⟨F3,g1,g2⟩:=h.doz.after h1 h2 a1 a2 a3 h.len;have g3:=g2.fresh h.ext (fun i q=>q.elim (h.new i) (fun e=>e▸h.bl));exact⟨F3,g1,fun i q=>g3.2 i (.inl q),g3.1,h.bl⟩
theorem U1p{n r:Nat}(h:n+r=936):IntKind.i64.wrap ((936:Int)-(r:Int))=(n:Int):=by rw[IntKind.wrap_i64];omega
theorem Y5h(hAw:∀w,Calls Tryz.prog 27 #[] w fun e w'=>e= .returned (.bool true)/\Ext w w')(V:Value)(acts:List (Int×OpD))(w:World)(hs:Sl w 12 RAct V acts)(hin:∀a∈acts,In64 a.2.id/\In64 a.2.result):
  Calls Tryz.prog 9 #[V] w fun e w'=>e= .returned (.bool true)/\Ext w w':=by
 obtain⟨A,c,rfl⟩:=hs.form;obtain⟨_,hc1,hc2,hA⟩:=hs.at;have HA:=hD hA;have HIN:=hD hin;have HAW:=hD hAw;have cB:=Y5e w;clear hs hA hin hAw;go_enter Tryz.func9,Tryz.ntmps9
 go_upto_block 0 with (first
  | (go_at_call 23;(with_reducible refine cB.mono ?_);clear cB;rintro e w1 ⟨d,p,tb,ts,F,rfl,ht,hb,hz⟩;have cR0:=Y3t w1 hb.pag;rw[show Z0x (Z1j 1800 860)=936 from Z7z 1800 860]at cR0)
  | (go_at_call 35;(with_reducible refine cR0.mono ?_);clear cR0;rintro e w2 ⟨rfl,F2,hp2,hk2⟩;have HST:Hid (LawI w tb p w2.heap.size ts [] 0 _ (w2.alloc (.cells #[.slice none 0 0] 69))):=LawI.start (F:=F2) ⟨hk2.only.row ht.row ht.out,fun j hj=>hk2.only.row (ht.tree j hj) (ht.outs j hj),hk2.out ht.row.lt ht.out,fun j hj=>hk2.out (ht.tree j hj).lt (ht.outs j hj)⟩ ⟨hp2,(hk2.fresh hb.ext hb.new).1,(hk2.fresh hb.ext hb.new).2⟩;clear ht hb hz hp2 hk2))
 generalize hW2:World.alloc w2 _=W2 at *;obtain⟨bl,hbl⟩:∃bl,w2.heap.size=bl:=⟨_,rfl⟩;rw[hbl]at HST ⊢;have HBL:=hD hbl;clear hW2 hbl
 go_cut [8] (fun _ wx=>Ext w wx)
 case first=>
  go_wp2_with fail
  go_loopw [8] (fun i wr=>∃(k:Nat) (F:Nat->Prop),k<=acts.length/\k<=30/\i= .int .i64 k/\LawI w tb p bl ts (V4k (acts.take k)) k F wr) (fun i _=>acts.length-(intOf i).toNat)
  case atStart=>exact⟨0,_,by omega,by omega,rfl,HST.out⟩
  case round=>
   obtain⟨k,F3,hk,hk40,rfl,hr⟩:=hrel;have HR:=hD hr;clear hr;by_cases hlt:k<acts.length
   ·have hd:decide ((k:Int)<(acts.length:Int))=true:=by simp;omega
    by_cases h40:k<30
    ·have hd2:decide ((k:Int)<30)=true:=by simp;omega
     have HT:=hD (X8m acts k hlt);have HIK:=hD (HIN.out _ (List.getElem_mem hlt));obtain⟨b,off,rfl,hbl,hx⟩:=HA.out (by omega);obtain⟨cs,rfl,_,hcs⟩:=hx k hlt;have HE:Hid (∀W:World,Ext w W->(W.cell? ⟨b,off+k*12,none⟩=some (.int .i64 acts[k].1)/\W.cell? ⟨b,off+k*12+1,none⟩=some (.int .i64 acts[k].2.id)/\W.cell? ⟨b,off+k*12+2,none⟩=some (.int .i64 acts[k].2.proc)/\W.cell? ⟨b,off+k*12+3,none⟩=some (.int .i64 acts[k].2.object)/\W.cell? ⟨b,off+k*12+4,none⟩=some (.int .i64 acts[k].2.kind)/\W.cell? ⟨b,off+k*12+5,none⟩=some (.int .i64 acts[k].2.method)/\W.cell? ⟨b,off+k*12+6,none⟩=some (.int .i64 acts[k].2.arg)/\W.cell? ⟨b,off+k*12+7,none⟩=some (.int .i64 acts[k].2.second)/\W.cell? ⟨b,off+k*12+8,none⟩=some (.bool acts[k].2.done)/\W.cell? ⟨b,off+k*12+9,none⟩=some (.int .i64 acts[k].2.result)/\W.cell? ⟨b,off+k*12+10,none⟩=some (.int .i64 acts[k].2.invoke)/\W.cell? ⟨b,off+k*12+11,none⟩=some (.int .i64 acts[k].2.ret))):=by intro W h;have hw:=fun j u hu=>(h.cell (p:=⟨b,off+k*12+j,none⟩) hbl).trans (hcs j u hu);exact⟨hw 0 _ rfl,hw 1 _ rfl,hw 2 _ rfl,hw 3 _ rfl,hw 4 _ rfl,hw 5 _ rfl,hw 6 _ rfl,hw 7 _ rfl,hw 8 _ rfl,hw 9 _ rfl,hw 10 _ rfl,hw 11 _ rfl⟩
     clear hx hcs;generalize acts[k]=x at *;obtain⟨kd,o⟩:=x;dsimp only at HE HIK HT;generalize V4k (acts.take k)=l at *;have cD:=HR.out.any kd o HIK.out.1 HIK.out.2 (by omega);unfold actV at cD;obtain⟨e0,e1,e2,e3,e4,e5,e6,e7,e8,e9,e10,e11⟩:=HE.out wr HR.out.ext;have hbw:=aE hbl HR.out.ext.size;go_wp2_with (first
      | (go_at_call 24;(with_reducible refine cD.mono ?_);clear cD;rintro e w3 ⟨rfl,F4,hl3⟩;obtain⟨P,n,r,hnr,h0,cT,cP,cR,hE⟩:=hl3.checks (by omega);have HP3:=hD h0;have CT:=hD cT;have CP:=hD cP;have CR:=hD cR;have HEND:=hD hE;have hsub:=U1p hnr;clear hl3 h0 cT cP cR hE e0 e1 e2 e3 e4 e5 e6 e7 e8 e9 e10 e11)
      | (go_at_call 32;(with_reducible refine(CT.out _ _ HP3.out).mono ?_);rintro e w4 ⟨A4,c4,F5,rfl,h4⟩;have HP4:=hD h4;clear h4)
      | (go_at_call 36;(with_reducible refine(CP.out _ _ HP4.out).mono ?_);rintro e w5 ⟨A5,c5,F6,rfl,h5⟩;have HP5:=hD h5;clear h5)
      | (go_at_call 35;(with_reducible refine(CR.out _ _ HP5.out).mono ?_);rintro e w6 ⟨F7,rfl,h6⟩;have HP6:=hD h6;clear h6))
     obtain⟨F8,h8⟩:=HEND.out _ _ HP6.out;have H8:=hD h8;clear h8
     go_roundw
     case rel=>exact⟨k+1,F8,by omega,by omega,by go_num,by rw[HT.out];exact H8.out⟩
     case measure=>simp[intOf];omega
    ·obtain rfl:k=30:=by omega
     have hd2:decide (((30:Nat):Int)<30)=false:=by simp
     go_wp2_with fail
     go_meet
     exact HR.out.ext
   ·have hd:decide ((k:Int)<(acts.length:Int))=false:=by simp;omega
    go_wp2_with fail
    go_meet
    exact HR.out.ext
 case rest=>
 have HXC:=hD hcut;clear hcut;go_wp2_with (go_at_call 27;(with_reducible refine(HAW.out _).mono ?_);rintro e w4 ⟨rfl,hx4⟩;have HX4:=hD (HXC.out.trans hx4);clear hx4);go_ret;exact⟨rfl,HX4.out⟩
end Go.Proofs.YtohaldfnmgcofaaGreat
