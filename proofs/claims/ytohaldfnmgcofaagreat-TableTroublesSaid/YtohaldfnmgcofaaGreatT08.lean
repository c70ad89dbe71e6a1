/- What a cache keeps: rows of items; copies within and between rows; a cache's place. Conditions: sizes. -/
import Derived.Test.YtohaldfnmgcofaaGreatT05
import Derived.Laws.CopyOwn
import Derived.Deep.RegionLaw
set_option maxRecDepth 100000
set_option maxHeartbeats 4000000
set_option linter.unusedSimpArgs false
set_option linter.unusedVariables false
namespace Go.Proofs.YtohaldfnmgcofaaGreat
section
open Go.RowKit
theorem OwnL.row{α:Type}{w:World}{base k:Nat}{e:TypeId}{enc:α->List Value}{v:Value}{l:List α}(h:OwnL w base e k enc v l)(hn:0<l.length):
  ∃g cap spare,v= .slice (some ⟨g,0,none⟩) l.length cap/\base<=g/\Row1 w g e (l.flatMap enc++spare)/\l.length<=cap/\cap<=9223372036854775807/\(l.flatMap enc++spare).length=cap*k/\(l.flatMap enc).length=l.length*k:=by
 have h':w.ownsRow base e k v l.length (l.flatMap enc):=h;obtain⟨h1,h2⟩:=h';rcases h2 with ⟨_,h0⟩ | ⟨g,cap,cur,rfl,hb,hg,hc,hm,hs,ht⟩
 ·omega
 ·have e1:l.flatMap enc++cur.toList.drop (l.length*k)=cur.toList:=by rw[<-ht,List.take_append_drop]
  refine⟨g,cap,cur.toList.drop (l.length*k),rfl,hb,?_,hc,by simpa [maxLen]using hm,?_,h1⟩
  ·unfold Row1;rw[e1];simpa using hg
  ·rw[e1];simpa using hs
theorem OwnL.ofRow{α:Type}{w:World}{base k g cap:Nat}{e:TypeId}{enc:α->List Value}{l:List α}{spare:List Value}(hr:Row1 w g e (l.flatMap enc++spare))(hb:base<=g)(hc:l.length<=cap)(hm:cap<=9223372036854775807)
 (hs:(l.flatMap enc++spare).length=cap*k)(hk:∀x,(enc x).length=k):OwnL w base e k enc (.slice (some ⟨g,0,none⟩) l.length cap) l:=by
 refine⟨Z3i enc k hk l,.inr ⟨g,cap,(l.flatMap enc++spare).toArray,rfl,hb,hr,hc,by simpa [maxLen]using hm,by simpa using hs,?_⟩⟩;rw[<-Z3i enc k hk l];simp
theorem Row1.setRow{w:World}{g:Nat}{t:TypeId}{cs cs':List Value}(h:Row1 w g t cs):Row1 (w.setRow g cs'.toArray) g t cs':=setRow_heap w g cs.toArray cs'.toArray t _ h
theorem Z6e(w:World)(g:Nat)(cs:Array Value):But g w (w.setRow g cs):=⟨rfl,rfl,rfl,by simp[World.setRow],fun k _ hne=>setRow_other w g k cs (fun e=>hne (by rw[e]))⟩
section
variable {P:Program} (w:World)
theorem V0p(dT sT ty elem:TypeId)(k g o dLen dCap:Nat)(a:Addr)(sLen sCap:Nat)(cur:List Value)(t:TypeId)(cs:List Value)(n:Nat)(hn:n=Nat.min sLen dLen)
 (hu:P.underlying dT=some (.slice elem))(hs:(P.info? elem).map (·.size)=some k)
 (hg:Row1 w g t cur)(hcs:cs.length=n*k)
 (hsrc:∀j v,cs[j]? =some v->w.cell? (a.add j)=some v)(hfit:o+cs.length<=cur.length)(h1:∀v∈cs,v.oneCell'=true):
  (Builtin.copy_ #[dT,sT] ty #[.slice (some ⟨g,o,none⟩) dLen dCap,.slice (some a) sLen sCap]).run P w=
    .ok (goInt n) (w.setRow g (cur.take o++cs++cur.drop (o+cs.length)).toArray):=by
 have hst:=run_storeCells_at P g o t cs 0 cur.toArray w hg (by simpa using hfit) h1;cases hq:P.info? elem with
 | none=>simp[hq]at hs
 | some i=>
   have hi:i.size=k:=by simpa [hq]using hs
   have hf:=run_firstCells_some (P:=P) w k n a sLen sCap cs hcs hsrc;simp only[Nat.add_zero]at hst;simp[Builtin.copy_,run_underlying hu,Builtin.lenOf,sizeOf,typeInfo,hq,hi,<-hn,hf,hst]
theorem V0q(dT sT ty elem:TypeId)(k:Nat)(d s:Option Addr)(dLen dCap sLen sCap:Nat)(hn:Nat.min sLen dLen=0)
 (hu:P.underlying dT=some (.slice elem))(hs:(P.info? elem).map (·.size)=some k):
  (Builtin.copy_ #[dT,sT] ty #[.slice d dLen dCap,.slice s sLen sCap]).run P w= .ok (goInt 0) w:=by
 cases hq:P.info? elem with
 | none=>simp[hq]at hs
 | some i=>
   have hi:i.size=k:=by simpa [hq]using hs
   have hf:(Builtin.firstCells k 0 (.slice s sLen sCap)).run P w= .ok #[] w:=by
    cases s with
    | none=>simp[Builtin.firstCells]
    | some a=>exact run_firstCells_some (P:=P) w k 0 a sLen sCap [] (by simp) (by simp)
   cases d<;>simp[Builtin.copy_,run_underlying hu,Builtin.lenOf,sizeOf,typeInfo,hq,hi,hn,hf,storeCells]
theorem Y1d(t ty elem:TypeId)(g o c:Nat)(z:Value)(cur:List Value)(e:TypeId)(hu:P.underlying t=some (.slice elem))(hz:(zeroValue elem).run P w= .ok z w)
 (hg:Row1 w g e cur)(hfit:o+z.cells.size<=cur.length)(h1:∀v∈z.cells.toList,v.oneCell'=true)(hzc:(Builtin.zeroCells z.cells 1).toList=z.cells.toList):
  (Builtin.clear_ #[t] ty #[.slice (some ⟨g,o,none⟩) 1 c]).run P w= .ok (.tuple #[]) (w.setRow g (cur.take o++z.cells.toList++cur.drop (o+z.cells.size)).toArray):=by
 have hst:=run_storeCells_at P g o e z.cells.toList 0 cur.toArray w hg (by simpa using hfit) h1;simp only[Nat.add_zero]at hst;simp[Builtin.clear_,run_underlying hu,hz,hzc,hst]
end
section
variable {P:Program}
theorem Z5e{o:Oper}{a:Act}{w:World}{K:Act->World->Prop}{Q:Exit->Act->World->Prop}(d s:Operand)(dT sT:TypeId)
 (ho:o.op= .call { callee:= .builtin .copy,args:=#[d,s],argTypes:=#[dT,sT]})(elem:TypeId)(k:Nat)(hu:P.underlying dT=some (.slice elem))(hsz:(P.info? elem).map (·.size)=some k)
 (g off dLen dCap:Nat)(ad:Addr)(sLen sCap:Nat)(hd:a.eval d= .slice (some ⟨g,off,none⟩) dLen dCap)(hs:a.eval s= .slice (some ad) sLen sCap)
 (cur:List Value)(t:TypeId)(hg:Row1 w g t cur)(cs:List Value)(n:Nat)(hn:n=Nat.min sLen dLen)(hcs:cs.length=n*k)
 (hsrc:∀j v,cs[j]? =some v->w.cell? (ad.add j)=some v)(hfit:off+cs.length<=cur.length)(h1:∀v∈cs,v.oneCell'=true)
 (h:∀w',Row1 w' g t (cur.take off++cs++cur.drop (off+cs.length))->But g w w'->K (a.put o.dst (goInt n)) w'):o.wp P a w K Q:=by
 have hrun:=V0p (P:=P) w dT sT o.type elem k g off dLen dCap ad sLen sCap cur t cs n hn hu hsz hg hcs hsrc hfit h1;unfold Oper.wp execOp;simp only[ho,resolve,invoke,builtin,Sem.run_bind,Sem.run_pure,Result.andThen_ok,List.map_toArray,List.map_cons,List.map_nil,hd,hs,hrun];exact h _ hg.setRow (Z6e _ _ _)
theorem V5e{o:Oper}{a:Act}{w:World}{K:Act->World->Prop}{Q:Exit->Act->World->Prop}(d s:Operand)(dT sT:TypeId)
 (ho:o.op= .call { callee:= .builtin .copy,args:=#[d,s],argTypes:=#[dT,sT]})(elem:TypeId)(k:Nat)(hu:P.underlying dT=some (.slice elem))(hsz:(P.info? elem).map (·.size)=some k)
 (dp sp:Option Addr)(dLen dCap sLen sCap:Nat)(hd:a.eval d= .slice dp dLen dCap)(hs:a.eval s= .slice sp sLen sCap)(hn:Nat.min sLen dLen=0)
 (h:K (a.put o.dst (goInt 0)) w):o.wp P a w K Q:=by
 have hrun:=V0q (P:=P) w dT sT o.type elem k dp sp dLen dCap sLen sCap hn hu hsz;unfold Oper.wp execOp;simp only[ho,resolve,invoke,builtin,Sem.run_bind,Sem.run_pure,Result.andThen_ok,List.map_toArray,List.map_cons,List.map_nil,hd,hs,hrun];exact h
theorem V5d{o:Oper}{a:Act}{w:World}{K:Act->World->Prop}{Q:Exit->Act->World->Prop}(d s:Operand)(dT sT:TypeId)
 (ho:o.op= .call { callee:= .builtin .copy,args:=#[d,s],argTypes:=#[dT,sT]})(elem:TypeId)(k:Nat)(hu:P.underlying dT=some (.slice elem))(hsz:(P.info? elem).map (·.size)=some k)
 (dp sp:Option Addr)(dLen dCap sLen sCap:Nat)(hd:a.eval d= .slice dp dLen dCap)(hs:a.eval s= .slice sp sLen sCap)
 (g off:Nat)(cur:List Value)(t:TypeId)(hg:Row1 w g t cur)(cs:List Value)(n:Nat)(hn:n=Nat.min sLen dLen)(hcs:cs.length=n*k)
 (hpos:0<n->dp=some ⟨g,off,none⟩/\∃ad,sp=some ad/\∀j v,cs[j]? =some v->w.cell? (ad.add j)=some v)(hfit:off+cs.length<=cur.length)(h1:∀v∈cs,v.oneCell'=true)
 (h:∀w',Row1 w' g t (cur.take off++cs++cur.drop (off+cs.length))->But g w w'->K (a.put o.dst (goInt n)) w'):o.wp P a w K Q:=by
 by_cases h0:n=0
 ·subst h0;have hc0:cs= []:=List.eq_nil_of_length_eq_zero (by omega);subst hc0;refine V5e d s dT sT ho elem k hu hsz dp sp dLen dCap sLen sCap hd hs hn.symm (h w ?_ But.refl);simpa using hg
 ·obtain⟨rfl,ad,rfl,hsrc⟩:=hpos (by omega);exact Z5e d s dT sT ho elem k hu hsz g off dLen dCap ad sLen sCap hd hs cur t hg cs n hn hcs hsrc hfit h1 h
theorem Z2x{ops:Array Oper}{rest:List Oper}{o:Oper}{a:Act}{w:World}{Q:Exit->Act->World->Prop}(hgd:o.guard=none)(d s:Operand)(dT sT:TypeId)
 (ho:o.op= .call { callee:= .builtin .copy,args:=#[d,s],argTypes:=#[dT,sT]})(elem:TypeId)(k:Nat)(hu:P.underlying dT=some (.slice elem))(hsz:(P.info? elem).map (·.size)=some k)
 (g off dLen dCap:Nat)(ad:Addr)(sLen sCap:Nat)(hd:a.eval d= .slice (some ⟨g,off,none⟩) dLen dCap)(hs:a.eval s= .slice (some ad) sLen sCap)
 (cur:List Value)(t:TypeId)(hg:Row1 w g t cur)(cs:List Value)(n:Nat)(hn:n=Nat.min sLen dLen)(hcs:cs.length=n*k)
 (hsrc:∀j v,cs[j]? =some v->w.cell? (ad.add j)=some v)(hfit:off+cs.length<=cur.length)(h1:∀v∈cs,v.oneCell'=true)
 (h:∀w',Row1 w' g t (cur.take off++cs++cur.drop (off+cs.length))->But g w w'->wpList P ops Q rest (a.put o.dst (goInt n)) w'):wpList P ops Q (o::rest) a w:=
 wpList_plain hgd fun _ hK=>Z5e d s dT sT ho elem k hu hsz g off dLen dCap ad sLen sCap hd hs cur t hg cs n hn hcs hsrc hfit h1 fun w' h2 h3=>hK _ _ (h w' h2 h3)
theorem Z6f{o:Oper}{a:Act}{w:World}{K:Act->World->Prop}{Q:Exit->Act->World->Prop}(d s:Operand)(t:TypeId)
 (ho:o.op= .call { callee:= .builtin .append,args:=#[d,s],argTypes:=#[t,t]})(e:TypeId)(size bytes:Nat)(el:Elem P t e size bytes)
 (g n cap:Nat)(ad:Addr)(m c:Nat)(hd:a.eval d= .slice (some ⟨g,0,none⟩) n cap)(hs:a.eval s= .slice (some ad) m c)
 (cur:List Value)(hg:Row1 w g e cur)(news:List Value)(hn:news.length=m*size)(hsrc:∀j v,news[j]? =some v->w.cell? (ad.add j)=some v)(h1:∀v∈news,v.oneCell'=true)
 (N:Nat)(hN:n+m=N)(hroom:N<=cap)(hfit:n*size+news.length<=cur.length)
 (h:∀w',Row1 w' g e (cur.take (n*size)++news++cur.drop (n*size+news.length))->But g w w'->K (a.put o.dst (.slice (some ⟨g,0,none⟩) N cap)) w'):o.wp P a w K Q:=by
 subst hN;obtain⟨i,z,hi,hz,hsize,hby,hzs⟩:=el.hi;subst hsize;have hrun:=run_append_room (P:=P) w t o.type e i el.ht hi g n cap cur.toArray hg ad m c news hn hsrc h1 hroom (by simpa using hfit);unfold Oper.wp execOp;simp only[ho,resolve,invoke,builtin,Sem.run_bind,Sem.run_pure,Result.andThen_ok,List.map_toArray,List.map_cons,List.map_nil,hd,hs,hrun];exact h _ hg.setRow (Z6e _ _ _)
theorem Z5o{ops:Array Oper}{o:Oper}{a:Act}{w:World}{K:Act->World->Prop}{Q:Exit->Act->World->Prop}{E:Prop}(hgd:o.guard=none)(h:Oper.wp P o a w K Q):
  if Region.wanted o (yielded ops a.tmps)=true then Oper.wp P o a w K Q else E:=by
 have hw:Region.wanted o (yielded ops a.tmps)=true:=by simp[Region.wanted,hgd]
 rw[if_pos hw];exact h
end
def encI(x:Int×ByteArray):List Value:= [.int .i64 x.1,.string x.2,.int .i64 0]
theorem Z1v(x:Int×ByteArray):(encI x).length=3:=rfl
theorem Y2z(x:Int×ByteArray):∀u∈encI x,u.oneCell'=true:=by intro u hu;simp only[encI,List.mem_cons,List.not_mem_nil,or_false]at hu;rcases hu with rfl | rfl | rfl<;>rfl
theorem Tryz.infoItem:(Tryz.prog.info? 293).map (fun i=>(i.zero,i.size,i.bytes))=some (some (.agg #[.int .i64 0,.string ⟨#[]⟩,.int .i64 0]),3,32):=by kernel_rfl
theorem elItem:Elem Tryz.prog 260 293 3 32:=Elem.of Tryz.underlying260 Tryz.infoItem rfl (by decide)
theorem Z9v:(Tryz.prog.info? 293).map (·.size)=some 3:=by kernel_rfl
theorem Y2a(l:List (Int×ByteArray))(j:Nat)(hj:j<l.length):(l.flatMap encI)[j*3]? =some (.int .i64 l[j].1)/\(l.flatMap encI)[j*3+1]? =some (.string l[j].2)/\(l.flatMap encI)[j*3+2]? =some (.int .i64 0):=
 ⟨Z3j encI 3 Z1v l j _ (aB hj) 0 _ rfl,Z3j encI 3 Z1v l j _ (aB hj) 1 _ rfl,Z3j encI 3 Z1v l j _ (aB hj) 2 _ rfl⟩
theorem Y4f{w:World}{base:Nat}{e:TypeId}{v:Value}{l:List (Int×ByteArray)}(h:OwnL w base e 3 encI v l):∃A c,v= .slice A l.length c/\l.length<=c/\c<=9223372036854775807/\
  (0<l.length->∃b,A=some ⟨b,0,none⟩/\base<=b/\b<w.heap.size/\(∀i,w.frozen? ⟨b,i,none⟩=false)/\∀i (hi:i<l.length),w.cell? ⟨b,i*3,none⟩=some (.int .i64 l[i].1)/\w.cell? ⟨b,i*3+1,none⟩=some (.string l[i].2)/\w.cell? ⟨b,i*3+2,none⟩=some (.int .i64 0)):=by
 have h':w.ownsRow base e 3 v l.length (l.flatMap encI):=h;obtain⟨A,c,rfl,h1,h2,h3⟩:=Z3c h';exact⟨A,c,rfl,h1,h2,fun h0=>by
  obtain⟨b,q1,q2,q3,q4,q5⟩:=h3 h0;exact⟨b,q1,q2,q3,q4,fun i hi=>⟨q5 _ _ (Y2a l i hi).1,q5 _ _ (Y2a l i hi).2.1,q5 _ _ (Y2a l i hi).2.2⟩⟩⟩
def idxI(l:List (Int×ByteArray))(k:Int):Int:=match l.findIdx? (fun x=>x.1==k)with
 | none=> -1
 | some i=>i
theorem V7x{l:List (Int×ByteArray)}{k:Int}{j:Nat}(hj:j<l.length)(h:l[j].1=k)(h2:∀t (ht:t<l.length),t<j->l[t].1≠k):idxI l k=j:=by
 unfold idxI;have:l.findIdx? (fun x=>x.1==k)=some j:=by rw[List.findIdx?_eq_some_iff_getElem];exact⟨hj,by simpa using h,fun t ht=>by simpa using h2 t (by omega) ht⟩
 rw[this]
theorem V3c{l:List (Int×ByteArray)}{k:Int}(h2:∀t (ht:t<l.length),l[t].1≠k):idxI l k= -1:=by
 unfold idxI;have:l.findIdx? (fun x=>x.1==k)=none:=by rw[List.findIdx?_eq_none_iff];intro x hx;obtain⟨i,hi,rfl⟩:=List.mem_iff_getElem.1 hx;simpa using h2 i hi
 rw[this]
theorem X7h(a:Int)(s:ByteArray)(k:Int)(B:Nat)(w:World)(h:w.cell? ⟨B,0,none⟩=some (.int .i64 k)):
  cQ 222 #[.agg #[.int .i64 a,.string s,.int .i64 0],tp B] w fun e w'=>e= .returned (.bool (a==k))/\Ext w w':=by
 have hB:=World.block_lt_of_cell? _ _ h;go_enter Tryz.func222,Tryz.ntmps222;go_wp2_with fail;go_ret;exact⟨rfl,by exact Xt⟩
theorem X8b{base:Nat}{v:Value}{l:List (Int×ByteArray)}(k:Int)(B:Nat)(w:World)(h:OwnL w base 293 3 encI v l)(hl:l.length<=1000000000)(hB:w.cell? ⟨B,0,none⟩=some (.int .i64 k)):
  cQ 221 #[v,.func (.func 222) #[] #[tp B]] w fun e w'=>e= .returned (.int .i64 (idxI l k))/\Ext w w':=by
 obtain⟨A,c,rfl,h1,h2,hx⟩:=Y4f h;have HX:=hD hx;have hBw:=World.block_lt_of_cell? _ _ hB;have HB:=hD hB;clear hx hB h;go_enter Tryz.func221,Tryz.ntmps221;go_wp2_with fail
 go_loopw [8] (fun i wr=>∃j:Nat,j<=l.length/\i= .int .i64 j/\Hid (∀t (ht:t<l.length),t<j->l[t].1≠k)/\Ext w wr) (fun i _=>l.length-(intOf i).toNat)
 case atStart=>exact⟨0,by omega,rfl,fun t _ ht=>by omega,Ext.refl _⟩
 case round=>
  obtain⟨j,hj,rfl,hn,hxr⟩:=hrel;have HXR:=hD hxr;have hz:=hxr.size;clear hxr;by_cases hq:j<l.length
  ·obtain⟨b,rfl,_,hb,_,hc⟩:=HX.out (by omega);obtain⟨q0,q1,q2⟩:=hc j hq;have d0:wr.cell? ⟨b,j*3,none⟩=_:=(HXR.out.cell (p:=⟨b,j*3,none⟩) hb).trans q0;have d1:wr.cell? ⟨b,j*3+1,none⟩=_:=(HXR.out.cell (p:=⟨b,j*3+1,none⟩) hb).trans q1;have d2:wr.cell? ⟨b,j*3+2,none⟩=_:=(HXR.out.cell (p:=⟨b,j*3+2,none⟩) hb).trans q2;obtain⟨a,ha⟩:∃a,l[j].1=a:=⟨_,rfl⟩;obtain⟨s,hs⟩:∃s,l[j].2=s:=⟨_,rfl⟩;rw[ha]at d0;rw[hs]at d1;have HA:=hD ha;have hBr:wr.cell? ⟨B,0,none⟩=_:=(HXR.out.cell (p:=⟨B,0,none⟩) hBw).trans HB.out;have cF:=X7h a s k B wr hBr;clear hc q0 q1 q2 ha hs;by_cases hak:a=k
   ·have e1:(a==k)=true:=by simp[hak]
    rw[e1]at cF;have HI:=hD (V7x hq (HA.out.trans hak) hn.out);clear hak;go_wp2_with fail;refine cF.mono ?_;rintro e w2 ⟨rfl,hb2⟩;go_wp2_with fail;go_ret;rw[HI.out];exact⟨rfl,Ext.trans HXR.out hb2⟩
   ·have e1:(a==k)=false:=by simp[hak]
    rw[e1]at cF;have HAK:=hD hak;clear hak;go_wp2_with fail;refine cF.mono ?_;rintro e w2 ⟨rfl,hb2⟩;go_wp2_with fail
    go_roundw
    case rel=>exact⟨j+1,by omega,by go_num,(fun t ht h2=>by
     by_cases hh:t<j
     ·exact hn.out t ht hh
     ·obtain rfl:t=j:=by omega
      rw[HA.out];exact HAK.out),Ext.trans HXR.out hb2⟩
    case measure=>simp[intOf];omega
  ·obtain rfl:j=l.length:=by omega
   have HI:=hD (V3c (l:=l) (k:=k) (fun t ht=>hn.out t ht ht));go_wp2_with fail;go_ret;rw[HI.out];exact⟨rfl,HXR.out⟩
structure CacheAs (w:World) (c:Nat) (l:List (Int×ByteArray)) (lv:Value):Prop where
 row:Row1 w c 262 [.int .i64 64,lv]
 own:OwnL w 0 293 3 encI lv l
 len:l.length<=64
theorem CacheAs.ext{w w':World}{c:Nat}{l:List (Int×ByteArray)}{lv:Value}(h:CacheAs w c l lv)(hb:Ext w w'):CacheAs w' c l lv:=⟨h.row.ext hb h.row.lt,h.own.ext hb,h.len⟩
theorem Z5t{c:Nat}{l:List (Int×ByteArray)}{lv:Value}(k:Int)(w:World)(h:CacheAs w c l lv):
  cQ 202 #[tp c,.int .i64 k] w fun e w'=>e= .returned (.int .i64 (idxI l k))/\Ext w w':=by
 have c1:w.cell? ⟨c,1,none⟩=_:=h.row.cell 1;have hcl:=h.row.lt;have hl:=h.len;have HO:=hD h.own;obtain⟨A,cc,rfl⟩:=h.own.form;clear h;go_enter Tryz.func202,Tryz.ntmps202;go_wp2_with fail;refine(X8b k w.heap.size _ (HO.out.ext (by exact Xt)) (by omega) ((Row1.made w 3 [.int .i64 k]).cell 0)).mono ?_;rintro e w1 ⟨rfl,hb1⟩;go_wp2_with fail;go_ret;exact⟨rfl,Ext.trans (by exact Xt) hb1⟩
def Z7r(l:List (Int×ByteArray))(i:Nat)(x:Int×ByteArray):List (Int×ByteArray):=x::l.eraseIdx i
theorem Z6c{l:List (Int×ByteArray)}{i:Nat}(h:i<l.length)(x:Int×ByteArray):(Z7r l i x).length=l.length:=by unfold Z7r;rw[List.length_cons,List.length_eraseIdx,if_pos h];omega
theorem Z1x(l:List (Int×ByteArray)):(l.flatMap encI).length=l.length*3:=Z3i encI 3 Z1v l
theorem Y6u(l:List (Int×ByteArray))(i:Nat)(h:i<=l.length)(spare:List Value):(l.flatMap encI++spare).take (i*3)=(l.take i).flatMap encI:=by
 have e:l.flatMap encI=(l.take i).flatMap encI++(l.drop i).flatMap encI:=by rw[<-aH,List.take_append_drop]
 have h2:((l.take i).flatMap encI).length=i*3:=by rw[Z1x,aD,Nat.min_eq_left h]
 rw[e,aG,<-h2,List.take_left]
theorem Y1w(l:List (Int×ByteArray))(i:Nat)(h:i<=l.length)(spare:List Value):(l.flatMap encI++spare).drop (i*3)=(l.drop i).flatMap encI++spare:=by
 have e:l.flatMap encI=(l.take i).flatMap encI++(l.drop i).flatMap encI:=by rw[<-aH,List.take_append_drop]
 have h2:((l.take i).flatMap encI).length=i*3:=by rw[Z1x,aD,Nat.min_eq_left h]
 rw[e,aG,<-h2,List.drop_left]
theorem V3o(l:List (Int×ByteArray))(i:Nat)(h:i<l.length)(x:Int×ByteArray)(spare:List Value):
  (((((l.flatMap encI++spare).take 3++(l.take i).flatMap encI++(l.flatMap encI++spare).drop (3+((l.take i).flatMap encI).length)).set 0 (.int .i64 x.1)).set 1 (.string x.2)).set 2 (.int .i64 0))=(Z7r l i x).flatMap encI++spare:=by
 have e1:=Y6u l 1 (by omega) spare;have e2:=Y1w l (i+1) h spare;have h2:((l.take i).flatMap encI).length=i*3:=by rw[Z1x,aD,Nat.min_eq_left (by omega)]
 rw[h2,show 3+i*3=(i+1)*3 by omega,e2,show(3:Nat)=1*3 by omega,e1,List.take_one];cases l with
 | nil=>simp at h
 | cons y r=>
   unfold Z7r;rw[List.eraseIdx_eq_take_drop_succ];simp[encI]
theorem Y0k(l:List (Int×ByteArray)):∀v∈l.flatMap encI,v.oneCell'=true:=fun v hv=>by obtain⟨x,_,hx⟩:=List.mem_flatMap.1 hv;exact Y2z x v hx
theorem V5s{W:World}{b:Nat}{t:TypeId}{l:List (Int×ByteArray)}{spare:List Value}(h:Row1 W b t (l.flatMap encI++spare))(i:Nat):∀j v,((l.take i).flatMap encI)[j]? =some v->W.cell? ((⟨b,0,none⟩:Addr).add j)=some v:=fun j v hj=>by have h1:=V3r encI l i j v hj;rw[Addr.add_lit,Nat.zero_add,h.cell j,aL (aC.1 h1).1,h1]
theorem V3p{c:Nat}{l:List (Int×ByteArray)}{lv:Value}(i:Nat)(x:Int×ByteArray)(w:World)(h:CacheAs w c l lv)(hi:i<l.length)(hx:l[i]=x):
  cQ 211 #[tp c,.int .i64 i] w fun e w'=>e= .returned (.tuple #[])/\CacheAs w' c (Z7r l i x) lv/\Only (fun j=>lv.ownBlock=some j) w w':=by
 obtain⟨b,cap,spare,rfl,_,hr,hc1,hc2,hs,hfl⟩:=h.own.row (by omega);have hcb:c≠b:=fun e=>h.own.apartRow h.row (by decide) (by rw[e];rfl);have hl64:=h.len;have c1:w.cell? ⟨c,1,none⟩=_:=h.row.cell 1;have d0:w.cell? ⟨b,i*3,none⟩=some (.int .i64 x.1):=by rw[hr.cell,aL (by rw[hfl];omega),(Y2a l i hi).1,hx]
 have d1:w.cell? ⟨b,i*3+1,none⟩=some (.string x.2):=by rw[hr.cell,aL (by rw[hfl];omega),(Y2a l i hi).2.1,hx]
 have d2:w.cell? ⟨b,i*3+2,none⟩=some (.int .i64 0):=by rw[hr.cell,aL (by rw[hfl];omega),(Y2a l i hi).2.2]
 have hbw:=hr.lt;have hcw:=h.row.lt;have HR:=hD hr;have HC:=hD h.row;have HFR:=hD (V3o l i hi x spare);have hfl2:((l.take i).flatMap encI).length=i*3:=by rw[Z1x,aD,Nat.min_eq_left (by omega)]
 have HF2:=hD hfl2;have HS:=hD hs;have HFL:=hD hfl;have HFIN:Hid (∀w',Row1 w' b 293 ((Z7r l i x).flatMap encI++spare)->Only (fun j=>(Value.slice (some ⟨b,0,none⟩) l.length cap).ownBlock=some j) w w'->CacheAs w' c (Z7r l i x) (.slice (some ⟨b,0,none⟩) l.length cap)/\Only (fun j=>(Value.slice (some ⟨b,0,none⟩) l.length cap).ownBlock=some j) w w'):=fun w' h1 h2=>by refine⟨⟨h2.row HC.out (fun q=>hcb (by injection q with q;exact q.symm)),?_,by rw[Z6c hi];exact hl64⟩,h2⟩;have h3:=OwnL.ofRow (k:=3) (base:=0) h1 (Nat.zero_le _) (cap:=cap) (by rw[Z6c hi];exact hc1) hc2 (by rw[aA,Z1x,Z6c hi,<-HFL.out,<-aA];exact HS.out) Z1v;rw[Z6c hi]at h3;exact h3
 have hil:(i:Int)<l.length:=by omega
 obtain⟨x1,x2⟩:=x;obtain⟨n,hn⟩:∃n,l.length=n:=⟨_,rfl⟩;rw[hn]at c1 HFIN hc1 hl64 hil hi ⊢;have HN:=hD hn;clear hr h hx hs hfl hfl2 hn;obtain⟨DP,hDP,hDP2⟩:∃DP:Option Addr,(if cap=1 then some (⟨b,0,none⟩:Addr)else some ⟨b,3,none⟩)=DP/\Hid (0<i->DP=some ⟨b,3,none⟩):=⟨_,rfl,fun h=>by rw[if_neg (by omega)]⟩;have hw1:IntKind.i64.wrap ((i:Int)+1)=(i:Int)+1:=by rw[IntKind.wrap_i64];omega
 have hw2:(0:Int)<=(i:Int)+1:=by omega
 have hw3:(i:Int)+1<=cap:=by omega
 have hw4:((i:Int)+1).toNat=i+1:=by omega
 have hw5:(1:Int)<=max ((i:Int)+1) 0:=by omega
 have hw6:(i:Int)<=cap:=by omega
 have hw7:(1:Int)<=(i:Int)+1:=by omega
 have hn0:(0:Int)<n:=by omega
 have HRX:Hid (∀W,Ext w W->Row1 W b 293 (l.flatMap encI++spare)):=fun W hW=>HR.out.ext hW hbw;have HMI:Hid (i=Nat.min i i):=by unfold Hid;simp
 have HFIT:Hid (3+((l.take i).flatMap encI).length<=(l.flatMap encI++spare).length):=by unfold Hid;rw[HF2.out,HS.out];omega
 go_enter Tryz.func211,Tryz.ntmps211;go_upto_region 1 with fail;go_region_law (refine Z5o rfl (V5d (.tmp 18) (.tmp 24) 260 260 rfl 293 3 Tryz.underlying260 Z9v DP (some ⟨b,0,none⟩) i (cap-1) i cap rfl rfl b 3 (l.flatMap encI++spare) 293 (HRX.out _ (by exact Xt)) ((l.take i).flatMap encI) i HMI.out HF2.out (fun h=>⟨hDP2.out h,_,rfl,V5s (HRX.out _ (by exact Xt)) i⟩) HFIT.out (Y0k _) ?_);intro w2 hr2 hb2)
 all_goals
  have hRc:Row1 w2 c 262 [.int .i64 64,.slice (some ⟨b,0,none⟩) n cap]:=Row1.grown (Row1.ext (HN.out▸HC.out) (w':=_) (by exact Xt) hcw) hb2 (fun e=>hcb (by injection e));have hRx:Row1 w2 w.heap.size 293 [.int .i64 x1,.string x2,.int .i64 0]:=(Row1.made w 293 [.int .i64 x1,.string x2,.int .i64 0]).same (hb2.block w.heap.size (by simp) (fun e=>by injection e with e;omega));have hO:Only (fun j=>(Value.slice (some ⟨b,0,none⟩) n cap).ownBlock=some j) w w2:=Only.turn (Only.of (by exact Xt)) hb2 (.inl rfl);have k1:w2.cell? ⟨c,1,none⟩=_:=hRc.cell 1;have k2:w2.cell? ⟨w.heap.size,0,none⟩=_:=hRx.cell 0;have k3:w2.cell? ⟨w.heap.size,1,none⟩=_:=hRx.cell 1;have k4:w2.cell? ⟨w.heap.size,2,none⟩=_:=hRx.cell 2;have k5:=hr2.soft 0;have k6:=hr2.soft 1;have k7:=hr2.soft 2;have k8:∀j,j<3->∃v,w2.cell? ⟨b,j,none⟩=some v:=fun j hj=>by
   rw[hr2.cell];exact⟨_,aB (by
    have h1:=HFIT.out;simp only[aA,aD,aJ]at h1 ⊢;omega)⟩
  obtain⟨v0,k80⟩:=k8 0 (by omega);obtain⟨v1,k81⟩:=k8 1 (by omega);obtain⟨v2,k82⟩:=k8 2 (by omega);have HR2:=hD hr2;have HO:=hD hO;have hbc':¬b=c:=fun e=>hcb e.symm;have hbx:¬b=w.heap.size:=by omega
  clear k8 hRc hRx hb2 hr2 hO hDP c1 d0 d1 d2;go_upto_region 2 with fail
  go_big_region
  go_end0
  have hq:=((HR2.out.set 0 (.int .i64 x1)).set 1 (.string x2)).set 2 (.int .i64 0);have hf:=HFR.out;dsimp only at hf;rw[hf]at hq;exact⟨rfl,HFIN.out _ hq (by (repeat' (with_reducible first | exact HO.out | exact Only.refl | refine Only.drewN ?_ _ | refine Only.drew ?_ | refine Only.setCell ?_ ?_ _ | refine Only.alloc ?_ _))<;>(first | exact .inl rfl | (left;assumption) | (right;simp;done) | (right;simp;omega)))⟩
end
end Go.Proofs.YtohaldfnmgcofaaGreat
