/- pager.Commit. Conditions: a pager whose disk has power, nothing late, room in the journal for what is dirty. -/
import Derived.Test.YtohaldfnmgcofaaGreatT36
import Derived.Test.YtohaldfnmgcofaaGreatT10
set_option maxRecDepth 100000
set_option maxHeartbeats 4000000
set_option linter.unusedSimpArgs false
set_option linter.unusedVariables false
namespace Go.Proofs.YtohaldfnmgcofaaGreat
open Go.RowKit
theorem CGood.cmtd{S S':StoreD}{l:List (Int×ByteArray)}(h:CGood S l)(hc:Cmtd S S'):CGood S' l:=
 ⟨h.1,fun x hx=>by
   obtain⟨h1,h2,h3⟩:=h.2 x hx;exact⟨h1,by rw[hc.pages];exact h2,by rw[hc.view _ (by omega)];exact h3⟩⟩
theorem PagerAs.cmtd{w w':World}{p s c:Nat}{F Fs Fc Fs':Nat->Prop}{S S':StoreD}{l:List (Int×ByteArray)}(h:PagerAs w p F S s c Fs Fc l)(hc:Cmtd S S')(hs:StoreAt w' s Fs' S')(hk:Keeps Fs Fs' w w'):
  ∃F',PagerAt w' p F' S'/\Keeps F F' w w':=by
 have hb:=hk.only;have hd:∀i,Fs' i->Fs i\/w.heap.size<=i:=hk.new;refine⟨fun i=>F i\/(Fs' i/\i<w'.heap.size),⟨s,c,fun i=>Fs' i/\i<w'.heap.size,Fc,l,hb.row h.row h.ps,hs.shrink,h.cache.only hb (fun i q q'=>h.sep i q' q),h.good.cmtd hc,⟨hc.dead,hc.pow.live⟩,by rw[hc.pages];exact h.pages,fun i q q'=> ?_,fun q=> ?_,h.pc,.inl h.fp,fun i q=> .inr q,fun i q=> .inl (h.fc i q),fun i q=>q.2,fun i q=>aE (h.lc i q) hb.size⟩,⟨hb.mono (fun i q=> .inl (h.fs i q)),fun i q=> ?_⟩⟩
 ·rcases hd i q.1 with r | r
  ·exact h.sep i r q'
  ·have:=h.lc i q';omega
 ·rcases hd p q.1 with r | r
  ·exact h.ps r
  ·have:=h.row.lt;omega
 ·rcases q with q | q
  ·exact .inl q
  ·rcases hd i q.1 with r | r
   ·exact .inl (h.fs i r)
   ·exact .inr r
theorem Y4b{p:Nat}{F:Nat->Prop}{S:StoreD}(w:World)(h:PagerAt w p F S)(hP:Pow S.disk)(h0:S.disk.late= [])(hroom:hdsN (Z2h 1024 S.dirty).length+(Z2h 1024 S.dirty).length<=S.head.room)(hsq:S.head.seq+2<18446744073709551616):
  cQ 64 #[tp p] w fun e w'=>e= .returned (.int .i64 0)/\∃S' F',Cmtd S S'/\PagerAt w' p F' S'/\Keeps F F' w w':=by
 have cM:=Z9z w h;obtain⟨s,c,Fs,Fc,l,h⟩:=h;have cS:=Y3n w h.store h.live hP h0 hroom hsq;have c0:w.cell? ⟨p,0,none⟩=some (tp s):=h.row.cell 0;have HH:=hD h;clear h hP h0 hroom hsq;go_enter Tryz.func64,Tryz.ntmps64;go_wp2_with (first
  | (go_at_call 121;(with_reducible refine cM.mono ?_);clear cM;rintro e w1 ⟨rfl,rfl⟩)
  | (go_at_call 126;(with_reducible refine cS.mono ?_);clear cS;rintro e w2 ⟨rfl,S',Fs',hc,hs,hk⟩;have HE:=hD (HH.out.cmtd hc hs hk);have HC:=hD hc;clear hc hs hk))
 go_ret;obtain⟨F',h1,h2⟩:=HE.out;exact⟨rfl,S',F',HC.out,h1,h2⟩
end Go.Proofs.YtohaldfnmgcofaaGreat
