/- Operations that may be, as numbers and as records (plain law). No program. -/
import Derived.Test.YtohaldfnmgcofaaGreatT03
set_option maxRecDepth 100000
set_option maxHeartbeats 2000000
set_option linter.unusedSimpArgs false
set_option linter.unusedVariables false
namespace Go.Proofs.YtohaldfnmgcofaaGreat
section
def opV(o:OpD):List Int:= [o.id,o.proc,o.object,o.kind,o.method,o.arg,o.second,o.invoke]
def opL(o:OpD):List UInt8:=(opV o).flatMap (fun n=>varL n.toNat)++if o.done=true then varL (o.ret-o.invoke).toNat++varL (Z4i o.result)else []
structure OpIn (o:OpD):Prop where
 nums:∀n∈opV o,0<=n/\n<=1099511627776
 id:1<=o.id/\o.id<=1073741824
 invoke:0<=o.invoke
 result: -1073741824<=o.result/\o.result<=1073741824
 yes:o.done=true->o.invoke<o.ret/\o.ret<=1099511627776
 no:o.done=false->o.result=0/\o.ret=0
theorem OpIn.of{o:OpD}(h:Z1p o=0):OpIn o:=by
 unfold Z1p at h;split at h
 ·omega
 rename_i h1
 split at h
 ·omega
 rename_i h2
 split at h
 ·omega
 rename_i h3
 have hf:Y1x o.kind o.method=true:=by
  cases q:Y1x o.kind o.method
  ·rw[q]at h2;simp at h2
  ·rfl
 have hkm:1<=o.kind/\o.kind<=6/\1<=o.method/\o.method<=14:=by rcases Y6v _ _ hf with q | q | q | q | q | q | q | q | q | q | q | q | q | q | q<;>(obtain ⟨q1,q2⟩:=q;omega)
 have ha:Y0p o.method o.arg o.second=true:=by
  cases q:Y0p o.method o.arg o.second
  ·rw[q]at h2;simp at h2
  ·rfl
 have has:(0<=o.arg/\o.arg<=1073741824)/\0<=o.second/\o.second<=1073741824:=by
  unfold Y0p at ha;split at ha
  ·simp[valB,betw]at ha;omega
  ·split at ha
   ·simp[valB,betw]at ha;omega
   ·simp at ha;omega
 simp only[Bool.or_eq_true,decide_eq_true_eq,not_or]at h1;refine⟨?_,by omega,?_,?_,fun hd=> ?_,fun hd=> ?_⟩
 ·intro n hn;simp only[opV,List.mem_cons,List.not_mem_nil,or_false]at hn;simp only[Bool.or_eq_true,decide_eq_true_eq,not_or]at h3;rcases hn with rfl | rfl | rfl | rfl | rfl | rfl | rfl | rfl<;>omega
 ·simp only[Bool.or_eq_true,decide_eq_true_eq,not_or]at h3;omega
 ·cases hd:o.done
  ·rw[hd]at h2;have:o.result=0:=by rw[hf,ha]at h2;simpa using h2
   omega
  ·have hr:resB o.kind o.method o.result=true:=by rw[hd,hf,ha]at h2;simpa using h2
   unfold resB at hr;split at hr
   ·simp[valB,betw]at hr;omega
   ·split at hr
    ·simp at hr;omega
    ·split at hr
     ·simp[valB,betw]at hr;omega
     ·simp at hr;omega
 ·rw[hd]at h3;simp at h3;omega
 ·rw[hd,hf,ha]at h2;rw[hd]at h3;simp at h2 h3;exact⟨by omega,by omega⟩
theorem U0y(o:OpD):opL o≠ []:=by intro q;have h:=congrArg List.length q;have h1:opV o=o.id::(opV o).tail:=rfl;unfold opL at h;rw[h1,aI,aA,aA,List.length_nil]at h;have:=(Z8d o.id.toNat).1;omega
theorem Y5w:∀(j k n:Nat),n<128 ^ (j+1)->(varF k n).length<=j+1
 | j,0,n,h=>by simp[varF]
 | 0,k+1,n,h=>by
   unfold varF;rw[if_neg (by omega)];simp
 | j+1,k+1,n,h=>by
   unfold varF;split
   ·rw[List.length_cons];have:=Y5w j k (n/128) (by rw[Nat.div_lt_iff_lt_mul (by omega)];rw[Nat.pow_succ]at h;exact h);omega
   ·simp
theorem Y0u{n:Nat}(h:n<=2199023255552):(varL n).length<=6:=Y5w 5 9 n (by omega)
theorem Y2g(l:List Int)(h:∀n∈l,0<=n/\n<=1099511627776):(l.flatMap (fun n=>varL n.toNat)).length<=6*l.length:=by
 induction l with
 | nil=>simp
 | cons a r ih=>
   rw[aI,aA,List.length_cons];have h1:=ih (fun n hn=>h n (List.mem_cons_of_mem _ hn));have h2:=h a List.mem_cons_self;have:=Y0u (n:=a.toNat) (by omega);omega
theorem V1s{o:OpD}(h:OpIn o):(opL o).length<=60:=by
 unfold opL;rw[aA];have h1:=Y2g (opV o) h.nums;have h2:(opV o).length=8:=rfl;split
 ·rename_i hd
  have h3:=h.yes hd;have h5:=h.invoke;have h4:=h.result;have h6:=Y0u (n:=(o.ret-o.invoke).toNat) (by omega);have h7:=Y0u (n:=Z4i o.result) (by unfold Z4i;split<;>omega);rw[aA];omega
 ·rw[List.length_nil];omega
end
section
open Go.RowKit
def Y2k:List Nat->List (List Nat)
 | []=> [[]]
 | x::r=>Y2k r++(Y2k r).map (x:: ·)
theorem Z9g(f:Nat->Bool):∀l:List Nat,l.filter f∈Y2k l
 | []=>by simp[Y2k]
 | x::r=>by
   have h:=Z9g f r;rw[List.filter_cons,Y2k,List.mem_append,List.mem_map];cases f x with
   | true=>exact .inr ⟨_,h,rfl⟩
   | false=>exact .inl h
theorem Z3o:∀ {l s:List Nat},l.Nodup->s∈Y2k l->l.filter (fun i=>s.contains i)=s
 | [],s,_,h=>by simp[Y2k]at h;subst h;rfl
 | x::r,s,hn,h=>by
   obtain⟨hx,hr⟩:=List.nodup_cons.1 hn;have hsub:∀ {s},s∈Y2k r->∀y∈s,y∈r:=fun {s} hs y hy=>by rw[<-Z3o hr hs,List.mem_filter]at hy;exact hy.1
   rw[Y2k,List.mem_append,List.mem_map]at h;rcases h with h | ⟨s',h,rfl⟩
   ·rw[List.filter_cons,show s.contains x=false by
     cases e:s.contains x with
     | false=>rfl
     | true=>exact absurd (hsub h x (by simpa using e)) hx]
    exact Z3o hr h
   ·rw[List.filter_cons,show(x::s').contains x=true by simp];simp only[if_true]
    congr 1
    rw[<-Z3o hr h];refine List.filter_congr (fun y hy=> ?_);have hne:y≠x:=fun e=>hx (e▸hy);rw[Z3o hr h];simp[hne]
def mkL(N:Nat)(pend:List Nat)(last:Nat)(s:List Nat):Array Bool:=((List.range N).map (fun i=>if pend.contains i then s.contains i else i !=last)).toArray
theorem U1c{N:Nat}{pend:List Nat}{last:Nat}{s:List Nat}{i:Nat}(hi:pend.contains i=true):(mkL N pend last s).setIfInBounds i true=mkL N pend last (pend.filter (fun j=>s.contains j || j==i)):=by
 unfold mkL;rw[List.setIfInBounds_toArray]
 congr 1
 apply List.ext_getElem?;intro k;by_cases hk:k<N
 ·rw[List.getElem?_set,List.getElem?_map,List.getElem?_map,List.getElem?_range hk];simp only[List.length_map,List.length_range,Option.map_some];by_cases e:i=k
  ·subst e;rw[if_pos rfl,if_pos hk,hi];have hm:i∈pend:=by simpa using hi
   simp[hm]
  ·rw[if_neg e]
   congr 1
   cases hp:pend.contains k with
   | false=>rfl
   | true=>
     have hm:k∈pend:=by simpa using hp
     have:(k==i)=false:=by simpa using fun q=>e q.symm
     simp[hm,this]
 ·rw[List.getElem?_eq_none (by simp;omega),List.getElem?_eq_none (by simp;omega)]
section
variable {P:Program} {ops:Array Oper} {Q:Exit->Act->World->Prop} {md:Region.Mode} {S:World->Prop}
def X2e(md:Region.Mode)(ops:Array Oper)(N:Nat)(pend:List Nat)(last:Nat)(deps:Nat->List Nat)(s:List Nat):Bool:=
 !(Region.ready md ops (mkL N pend last s)).isEmpty&&(Region.ready md ops (mkL N pend last s)).all (fun i=>if i==last then pend.all (fun j=>s.contains j)else pend.contains i&& !s.contains i&&(deps i).all (fun j=>s.contains j))
theorem V4y(N:Nat)(pend:List Nat)(last:Nat)(deps:Nat->List Nat)(Base:Act->World->Prop)(Good:Nat->Act->World->Prop)
 (hnd:pend.Nodup)(hlast:pend.contains last=false)
 (hchk:(Y2k pend).all (fun s=>(!(pend.all fun i=> !s.contains i || (deps i).all fun j=>s.contains j)) || X2e md ops N pend last deps s)=true)
 (hstep:∀i∈pend,∀a w,Base a w->(∀j∈deps i,Good j a w)->∃o,ops[i]? =some o/\∀K':Act->World->Prop,
    Shut (∀v w',Base (a.put o.dst v) w'->Good i (a.put o.dst v) w'->(∀j∈pend,j≠i->i∉deps j->Good j a w->Good j (a.put o.dst v) w')->S w'->K' (a.put o.dst v) w')->
    if Region.wanted o (yielded ops a.tmps)=true then Oper.wp P o a w K' Q else K' (a.put o.dst undef) w)
 (hend:∀a w,Base a w->(∀i∈pend,Good i a w)->wpAnyH P md ops Q S 1 (mkL N pend last pend) a w):
  ∀(n:Nat) (s:List Nat) (a:Act) (w:World),s∈Y2k pend->(pend.filter (fun i=> !s.contains i)).length=n->(∀i∈s,∀j∈deps i,j∈s)->Base a w->(∀i∈s,Good i a w)->wpAnyH P md ops Q S (n+1) (mkL N pend last s) a w:=by
 intro n
 induction n with
 | zero=>
   intro s a w hs hn hcl hb hg;have hall:∀i∈pend,i∈s:=fun i hi=>by
    have h0:=List.length_eq_zero_iff.1 hn;cases e:s.contains i with
    | true=>simpa using e
    | false=>
      have:i∈pend.filter (fun i=> !s.contains i):=List.mem_filter.2 ⟨hi,by rw[e];rfl⟩;rw[h0]at this;cases this
   have es:s=pend:=by rw[<-Z3o hnd hs];exact List.filter_eq_self.2 (fun i hi=>by simpa using hall i hi)
   rw[es];exact hend a w hb (fun i hi=>hg i (hall i hi))
 | succ n ih=>
   intro s a w hs hn hcl hb hg;have h1:=List.all_eq_true.1 hchk s hs;have hc:(pend.all fun i=> !s.contains i || (deps i).all fun j=>s.contains j)=true:=by
    rw[List.all_eq_true];intro i _;cases e:s.contains i with
    | false=>rfl
    | true=>
      simp only[Bool.not_true,Bool.false_or,List.all_eq_true];intro j hj;simpa using hcl i (by simpa using e) j hj
   rw[hc,Bool.not_true,Bool.false_or]at h1;unfold X2e at h1;rw[Bool.and_eq_true,List.all_eq_true]at h1;refine wpAnyH_ready (rs:=Region.ready md ops (mkL N pend last s)) rfl (fun e=>by rw[e]at h1;simp at h1) (fun i hi=> ?_);have h2:=h1.2 i hi;have hnl:(i==last)=false:=by
    cases e:i==last with
    | false=>rfl
    | true=>
      rw[e]at h2;simp only[if_true,List.all_eq_true]at h2;have h0:pend.filter (fun i=> !s.contains i)= []:=List.filter_eq_nil_iff.2 (fun j hj=>by rw[h2 j hj];simp);rw[h0]at hn;cases hn
   rw[hnl]at h2;simp only[Bool.false_eq_true,if_false,Bool.and_eq_true,List.all_eq_true,Bool.not_eq_true']at h2;obtain⟨⟨hip,his⟩,hid⟩:=h2;have hipm:i∈pend:=by simpa using hip
   obtain⟨o,ho,hw⟩:=hstep i hipm a w hb (fun j hj=>hg j (by simpa using hid j hj));refine wpOp_step ho (fun K' hK=>hw K' (fun v w' hb' hg' hst hS=>hK _ _ ⟨hS,?_⟩));rw[U1c hip];have hmem:∀j,j∈pend.filter (fun j=>s.contains j || j==i)↔j∈pend/\(j∈s\/j=i):=fun j=>by rw[List.mem_filter,Bool.or_eq_true];simp
   have hsp:∀j∈s,j∈pend:=fun j hj=>by rw[<-Z3o hnd hs,List.mem_filter]at hj;exact hj.1
   refine ih _ _ _ (Z9g _ _) ?_ (fun j hj k hk=> ?_) hb' (fun j hj=> ?_)
   ·have e1:pend.filter (fun j=> !s.contains j)=(pend.filter (fun j=> !s.contains j)):=rfl;have e2:(pend.filter (fun j=> !(pend.filter (fun j=>s.contains j || j==i)).contains j))=(pend.filter (fun j=> !s.contains j)).filter (fun j=>j !=i):=by
     rw[List.filter_filter];refine List.filter_congr (fun j hj=> ?_);have:(pend.filter (fun j=>s.contains j || j==i)).contains j=(s.contains j || j==i):=by rw[Bool.eq_iff_iff];simp only[List.contains_iff_mem,hmem];simp[hj]
     rw[this];cases s.contains j<;>cases h:j==i<;>simp_all[bne]
    rw[e2];have hin:i∈pend.filter (fun j=> !s.contains j):=List.mem_filter.2 ⟨hipm,by rw[his];rfl⟩;have hnd2:(pend.filter (fun j=> !s.contains j)).Nodup:=hnd.filter _;have:=List.Nodup.erase_eq_filter hnd2 i;rw[<-this,List.length_erase_of_mem hin,hn];rfl
   ·obtain⟨q1,q2⟩:=(hmem j).1 hj;rcases q2 with q2 | rfl
    ·exact(hmem k).2 ⟨hsp k (hcl j q2 k hk),.inl (hcl j q2 k hk)⟩
    ·have hks:k∈s:=by simpa using hid k hk
     exact(hmem k).2 ⟨hsp k hks,.inl hks⟩
   ·obtain⟨q1,q2⟩:=(hmem j).1 hj;by_cases e:j=i
    ·subst e;exact hg'
    ·have hjs:=q2.resolve_right e;exact hst j q1 e (fun r=>by have:=hcl j hjs i r;rw[<-List.contains_iff_mem,his]at this;cases this) (hg j hjs)
theorem U1v(N:Nat)(pend:List Nat)(last:Nat)(deps:Nat->List Nat){fuel:Nat}{listed:Array Bool}{a0:Act}{w0:World}(B:Act->Act->World->Prop)(Good:Nat->Act->World->Prop)
 (hf:fuel=pend.length+1)(hl:listed=mkL N pend last [])(hnd:pend.Nodup)(hlast:pend.contains last=false)
 (hchk:(Y2k pend).all (fun s=>(!(pend.all fun i=> !s.contains i || (deps i).all fun j=>s.contains j)) || X2e md ops N pend last deps s)=true)
 (hb:B a0 a0 w0)
 (hstep:∀i∈pend,∀a w,B a0 a w->(∀j∈deps i,Good j a w)->∃o,ops[i]? =some o/\∀K':Act->World->Prop,
    Shut (∀a' v w',a'=a.put o.dst v->B a0 a' w'->Good i a' w'->(∀j∈pend,j≠i->i∉deps j->Good j a w->Good j (a.put o.dst v) w')->S w'->K' a' w')->
    if Region.wanted o (yielded ops a.tmps)=true then Oper.wp P o a w K' Q else K' (a.put o.dst undef) w)
 (hend:∀a w,B a0 a w->(∀i∈pend,Good i a w)->wpAnyH P md ops Q S 1 (mkL N pend last pend) a w):wpAnyH P md ops Q S fuel listed a0 w0:=by
 rw[hf,hl];exact V4y N pend last deps (B a0) Good hnd hlast hchk (fun i hi a w q1 q2=>let ⟨o,ho,h⟩:=hstep i hi a w q1 q2;⟨o,ho,fun K' hK=>h K' (fun a' v w' e r1 r2 r3 r4=>by subst e;exact hK.out v w' r1 r2 r3 r4)⟩) hend _ [] a0 w0 (by have:=Z9g (fun _=>false) pend;rwa [List.filter_eq_nil_iff.2 (fun _ _=>by simp)]at this) (by congr 1;exact List.filter_eq_self.2 (fun _ _=>rfl)) (fun i hi=>by cases hi) hb (fun i hi=>by cases hi)
end
def Z1o(o:OpD)(s:List OpD×Bool)(x:OpD):List OpD×Bool:=if s.2=false/\o.id<=x.id then(s.1++ [o],true)else s
def Z0w(o:OpD)(s:List OpD×Bool)(x:OpD):List OpD×Bool:=((Z1o o s x).1++(if x.id=o.id then []else [x]),(Z1o o s x).2)
def wiO(l:List OpD)(o:OpD):List OpD:=if(l.foldl (Z0w o) ([],false)).2 then(l.foldl (Z0w o) ([],false)).1 else(l.foldl (Z0w o) ([],false)).1++ [o]
theorem Y9g(l:List OpD)(o:OpD)(k:Nat)(h:k<l.length):(l.take (k+1)).foldl (Z0w o) ([],false)=Z0w o ((l.take k).foldl (Z0w o) ([],false)) l[k]:=by rw[List.take_succ_eq_append_getElem h,List.foldl_append];rfl
theorem Y2e(o:OpD)(s:List OpD×Bool)(x:OpD):(Z1o o s x).1.length<=s.1.length+1:=by unfold Z1o;split<;>simp
theorem V5f(l:List OpD)(o:OpD)(k:Nat)(h:k<=l.length):((l.take k).foldl (Z0w o) ([],false)).1.length<=2*k:=by
 induction k with
 | zero=>simp
 | succ k ih=>
   rw[Y9g l o k (by omega)];have:=ih (by omega);generalize (l.take k).foldl (Z0w o) ([],false)=s at *;have:=Y2e o s l[k];unfold Z0w;split<;>simp<;>omega
theorem X2c(V:Value)(l:List OpD)(o:OpD)(w:World)(hs:Sl w 11 ROp V l)(hn:l.length<=100000000):
  cQ 68 #[V,o.val] w fun e w'=>(∃v,e= .returned v/\OwnL w' w.heap.size 73 11 OpD.cells v (wiO l o))/\Ext w w':=by
 obtain⟨A,c,rfl⟩:=hs.form;obtain⟨_,hc1,hc2,hA⟩:=hs.at;have HA:=hD hA;clear hs hA;go_enter Tryz.func68,Tryz.ntmps68;go_wp2_with fail
 go_loopw [5,6,7] (fun v dn i wr=>∃k:Nat,k<=l.length/\i= .int .i64 k/\dn= .bool ((l.take k).foldl (Z0w o) ([],false)).2/\Ext (w.alloc (.cells #[.int .i64 o.id,.int .i64 o.proc,.int .i64 o.object,.int .i64 o.kind,.int .i64 o.method,.int .i64 o.arg,.int .i64 o.second,.bool o.done,.int .i64 o.result,.int .i64 o.invoke,.int .i64 o.ret] 73)) wr/\OwnL wr (w.heap.size+1) 73 11 OpD.cells v ((l.take k).foldl (Z0w o) ([],false)).1)
  (fun _ _ i _=>l.length-(intOf i).toNat)
 case atStart=>exact⟨0,by omega,rfl,rfl,Ext.refl _,OwnL.nil _ _ _ _ _⟩
 case round=>
  obtain⟨k,hk,rfl,rfl,hb,hown⟩:=hrel;have HB:=hD hb;have HO:=hD hown;have HX:Hid (Ext w wr):=Ext.trans (Ext.alloc _ _) hb;have hzr:=hb.size;simp at hzr;have HBOX:Hid (∀W:World,Ext (w.alloc (.cells #[.int .i64 o.id,.int .i64 o.proc,.int .i64 o.object,.int .i64 o.kind,.int .i64 o.method,.int .i64 o.arg,.int .i64 o.second,.bool o.done,.int .i64 o.result,.int .i64 o.invoke,.int .i64 o.ret] 73)) W->At11 W w.heap.size o):=fun W h=>(At11.row (Row1.made w 73 o.cells)).ext h (by simp);have HLEN:=hD (V5f l o k hk);clear hb hown;by_cases hlt:k<l.length
  ·have hd:decide ((k:Int)<(l.length:Int))=true:=by simp;omega
   have HT:=hD (Y9g l o k hlt);obtain⟨b,off,rfl,hbl,hx⟩:=HA.out (by omega);obtain⟨cs,rfl,_,hcs⟩:=hx k hlt;have HE:Hid (∀W:World,Ext w W->(W.cell? ⟨b,off+k*11,none⟩=some (.int .i64 l[k].id)/\W.cell? ⟨b,off+k*11+1,none⟩=some (.int .i64 l[k].proc)/\W.cell? ⟨b,off+k*11+2,none⟩=some (.int .i64 l[k].object)/\W.cell? ⟨b,off+k*11+3,none⟩=some (.int .i64 l[k].kind)/\W.cell? ⟨b,off+k*11+4,none⟩=some (.int .i64 l[k].method)/\W.cell? ⟨b,off+k*11+5,none⟩=some (.int .i64 l[k].arg)/\W.cell? ⟨b,off+k*11+6,none⟩=some (.int .i64 l[k].second)/\W.cell? ⟨b,off+k*11+7,none⟩=some (.bool l[k].done)/\W.cell? ⟨b,off+k*11+8,none⟩=some (.int .i64 l[k].result)/\W.cell? ⟨b,off+k*11+9,none⟩=some (.int .i64 l[k].invoke)/\W.cell? ⟨b,off+k*11+10,none⟩=some (.int .i64 l[k].ret))):=by intro W h;have hw:=fun j u hu=>(h.cell (p:=⟨b,off+k*11+j,none⟩) hbl).trans (hcs j u hu);exact⟨hw 0 _ rfl,hw 1 _ rfl,hw 2 _ rfl,hw 3 _ rfl,hw 4 _ rfl,hw 5 _ rfl,hw 6 _ rfl,hw 7 _ rfl,hw 8 _ rfl,hw 9 _ rfl,hw 10 _ rfl⟩
   clear hx hcs;generalize l[k]=x at *;generalize (l.take k).foldl (Z0w o) ([],false)=s at *;obtain⟨s1,dn⟩:=s;dsimp only at HO HLEN ⊢;obtain⟨vA,vc,rfl⟩:=HO.out.form;have hbw:=aE hbl HX.out.size;obtain⟨e0,e1,e2,e3,e4,e5,e6,e7,e8,e9,e10⟩:=HE.out wr HX.out;obtain⟨a0,a1,a2,a3,a4,a5,a6,a7,a8,a9,a10⟩:=HBOX.out wr HB.out;go_upto_region 6 with fail;obtain⟨q,hq⟩:∃q,decide (dn=false/\o.id<=x.id)=q:=⟨_,rfl⟩;have HQ:=hD hq;clear hq
   go_cut [25] (fun s wx=>s= .bool q/\Ext wr wx)
   case first=>
    cases dn with
    | true=>
      obtain rfl:q=false:=by rw[<-HQ.out];simp
      go_quiet (fail)
      go_wp2_with fail
      go_meet
      exact⟨rfl,by exact Xt⟩
    | false=>
      obtain rfl:q=decide (o.id<=x.id):=by rw[<-HQ.out];simp
      go_quiet (fail)
      go_wp2_with fail
      go_meet
      exact⟨rfl,by exact Xt⟩
   case rest=>
   obtain⟨rfl,hbq⟩:=hcut;have HB:=hD (Ext.trans HB.out hbq);have HO:=hD (HO.out.ext hbq);have hzr:=Nat.le_trans hzr hbq.size;have hbw:=aE hbw hbq.size;clear hbq e0 e1 e2 e3 e4 e5 e6 e7 e8 e9 e10 a0 a1 a2 a3 a4 a5 a6 a7 a8 a9 a10;obtain⟨a0,a1,a2,a3,a4,a5,a6,a7,a8,a9,a10⟩:=HBOX.out wc HB.out;generalize wc=wr at *
   go_upto_if 25 with fail
   go_cut [5,6] (fun v d wx=>d= .bool (Z1o o (s1,dn) x).2/\Ext (w.alloc (.cells #[.int .i64 o.id,.int .i64 o.proc,.int .i64 o.object,.int .i64 o.kind,.int .i64 o.method,.int .i64 o.arg,.int .i64 o.second,.bool o.done,.int .i64 o.result,.int .i64 o.invoke,.int .i64 o.ret] 73)) wx/\OwnL wx (w.heap.size+1) 73 11 OpD.cells v (Z1o o (s1,dn) x).1)
   case first=>
    cases q with
    | false=>
      have HG:Hid (Z1o o (s1,dn) x=(s1,dn)):=by unfold Hid Z1o;exact if_neg (of_decide_eq_false HQ.out)
      go_wp2_with fail
      go_meet
      rw[HG.out];exact⟨rfl,HB.out,HO.out⟩
    | true=>
      have HG:Hid (Z1o o (s1,dn) x=(s1++ [o],true)):=by unfold Hid Z1o;exact if_pos (of_decide_eq_true HQ.out)
      go_wp2_with (at_builtin;refine Z2u elOp Y0a X0j rfl (.tmp 26) (.tmp 28) rfl _ s1 rfl (HO.out.ext (by exact Xt)) (by simp;omega) _ 1 o rfl (Row1.made _ _ o.cells) (by have:=HLEN.out;omega) (by decide) ?_);intro pA pc wp hp hgp;have HXP:=hD ((HO.out.ext (by exact Xt)).grown (a:=w.alloc (.cells #[.int .i64 o.id,.int .i64 o.proc,.int .i64 o.object,.int .i64 o.kind,.int .i64 o.method,.int .i64 o.arg,.int .i64 o.second,.bool o.done,.int .i64 o.result,.int .i64 o.invoke,.int .i64 o.ret] 73)) (by exact Xx (HB.out)) hgp (by simp));have HP:=hD hp;clear hp hgp;go_wp2_with fail
      go_meet
      rw[HG.out];exact⟨rfl,HXP.out,HP.out⟩
   case rest=>
    have HLEN2:Hid ((Z1o o (s1,dn) x).1.length<=2*k+1):=Nat.le_trans (Y2e o (s1,dn) x) (by have:=HLEN.out;simp only;omega);have HT2:Hid ((l.take (k+1)).foldl (Z0w o) ([],false)=((Z1o o (s1,dn) x).1++(if x.id=o.id then []else [x]),(Z1o o (s1,dn) x).2)):=HT.out;generalize Z1o o (s1,dn) x=s at *;clear HT HO HB HLEN a0 a1 a2 a3 a4 a5 a6 a7 a8 a9 a10;obtain⟨s2,dn2⟩:=s;obtain⟨rfl,hb,hown⟩:=hcut;have HB:=hD hb;have HO:=hD hown;obtain⟨vA,vc,rfl⟩:=hown.form;have hzr:=hb.size;simp at hzr;obtain⟨e0,e1,e2,e3,e4,e5,e6,e7,e8,e9,e10⟩:=HE.out wc (Ext.trans (Ext.alloc _ _) hb);obtain⟨a0,a1,a2,a3,a4,a5,a6,a7,a8,a9,a10⟩:=HBOX.out wc hb;have hbw:=aE hbl (Ext.trans (Ext.alloc _ _) hb:Ext w wc).size;clear hb hown;go_wp2_with fail;by_cases heq:x.id=o.id
    ·have hq:(x.id !=o.id)=false:=by simpa using heq
     have HT3:Hid ((l.take (k+1)).foldl (Z0w o) ([],false)=(s2,dn2)):=by unfold Hid;rw[HT2.out,if_pos heq];simp
     clear heq HT2
     go_quiet (fail)
     go_wp2_with fail
     go_roundw
     case measure=>simp[intOf];omega
     case rel=>
      exact⟨k+1,by omega,by go_num,by rw[HT3.out],by exact Xx (HB.out),by rw[HT3.out];exact(HO.out.ext (by exact Xt))⟩
    ·have hq:(x.id !=o.id)=true:=by simpa using heq
     have HT3:Hid ((l.take (k+1)).foldl (Z0w o) ([],false)=(s2++ [x],dn2)):=by unfold Hid;rw[HT2.out,if_neg heq]
     clear heq HT2
     go_quiet (fail)
     go_wp2_with (at_builtin;refine Z2u elOp Y0a X0j rfl (.tmp 38) (.tmp 43) rfl _ s2 rfl (HO.out.ext (by exact Xt)) (by simp;omega) _ 1 x rfl (Row1.made _ _ x.cells) (by have:=HLEN2.out;omega) (by decide) ?_);intro pA pc wp hp hgp;have HXP:=hD ((HO.out.ext (by exact Xt)).grown (a:=w.alloc (.cells #[.int .i64 o.id,.int .i64 o.proc,.int .i64 o.object,.int .i64 o.kind,.int .i64 o.method,.int .i64 o.arg,.int .i64 o.second,.bool o.done,.int .i64 o.result,.int .i64 o.invoke,.int .i64 o.ret] 73)) (by exact Xx (HB.out)) hgp (by simp));have HP:=hD hp;clear hp hgp;go_wp2_with fail
     go_roundw
     case measure=>simp[intOf];omega
     case rel=>
      exact⟨k+1,by omega,by go_num,by rw[HT3.out],HXP.out,by rw[HT3.out];exact HP.out⟩
  ·obtain rfl:k=l.length:=by omega
   have hd:decide ((l.length:Int)<(l.length:Int))=false:=by simp
   have HT:Hid (wiO l o=if(l.foldl (Z0w o) ([],false)).2 then(l.foldl (Z0w o) ([],false)).1 else(l.foldl (Z0w o) ([],false)).1++ [o]):=rfl;rw[List.take_length]at HO HLEN ⊢;generalize l.foldl (Z0w o) ([],false)=s at *;obtain⟨s1,dn⟩:=s;dsimp only at HO HLEN HT ⊢;obtain⟨vA,vc,rfl⟩:=HO.out.form;obtain⟨a0,a1,a2,a3,a4,a5,a6,a7,a8,a9,a10⟩:=HBOX.out wr HB.out;cases dn with
   | true=>
     go_wp2_with fail;go_ret;refine⟨⟨_,rfl,?_⟩,HX.out⟩;rw[HT.out];exact HO.out.lower (by omega)
   | false=>
     go_wp2_with (at_builtin;refine Z2u elOp Y0a X0j rfl (.tmp 47) (.tmp 49) rfl _ s1 rfl (HO.out.ext (by exact Xt)) (by simp;omega) _ 1 o rfl (Row1.made _ _ o.cells) (by have:=HLEN.out;omega) (by decide) ?_);intro pA pc wp hp hgp;have HXP:=hD ((HO.out.ext (by exact Xt)).grown (a:=w.alloc (.cells #[.int .i64 o.id,.int .i64 o.proc,.int .i64 o.object,.int .i64 o.kind,.int .i64 o.method,.int .i64 o.arg,.int .i64 o.second,.bool o.done,.int .i64 o.result,.int .i64 o.invoke,.int .i64 o.ret] 73)) (by exact Xx (HB.out)) hgp (by simp));have HP:=hD hp;clear hp hgp;go_wp2_with fail;go_ret;refine⟨⟨_,rfl,?_⟩,Ext.trans (Ext.alloc _ _) HXP.out⟩;rw[HT.out];exact HP.out.lower (by omega)
theorem Y9f(o:OpD):∀(l acc:List OpD),l.foldl (Z0w o) (acc,true)=(acc++l.filter (fun x=>x.id !=o.id),true)
 | [],acc=>by simp
 | x::r,acc=>by
   have h:Z0w o (acc,true) x=(acc++(if x.id=o.id then []else [x]),true):=by simp[Z0w,Z1o]
   rw[List.foldl_cons,h,Y9f o r];by_cases e:x.id=o.id
   ·simp[e]
   ·simp[e]
theorem Y5u(o:OpD):∀(l acc:List OpD),(let s:=l.foldl (Z0w o) (acc,false);if s.2 then s.1 else s.1++ [o])=acc++l.takeWhile (fun x=>decide (x.id<o.id))++ [o]++(l.dropWhile (fun x=>decide (x.id<o.id))).filter (fun x=>x.id !=o.id)
 | [],acc=>by simp
 | x::r,acc=>by
   by_cases h:x.id<o.id
   ·have h1:Z0w o (acc,false) x=(acc++ [x],false):=by
     have h2:¬o.id<=x.id:=by omega
     have h3:¬x.id=o.id:=by omega
     simp[Z0w,Z1o,h2,h3]
    rw[List.foldl_cons,h1,Y5u o r (acc++ [x])];simp[h]
   ·have h2:o.id<=x.id:=by omega
    have h1:Z0w o (acc,false) x=((acc++ [o])++(if x.id=o.id then []else [x]),true):=by simp[Z0w,Z1o,h2]
    rw[List.foldl_cons,h1,Y9f];by_cases e:x.id=o.id
    ·simp[e]
    ·simp[e,h]
theorem X9d(l:List OpD)(o:OpD):wiO l o=l.takeWhile (fun x=>decide (x.id<o.id))++ [o]++(l.dropWhile (fun x=>decide (x.id<o.id))).filter (fun x=>x.id !=o.id):=by have:=Y5u o l [];simpa [wiO]using this
theorem U0b(l:List OpD)(o:OpD):(wiO l o).length<=l.length+1:=by rw[X9d];have h1:=List.takeWhile_append_dropWhile (p:=fun x:OpD=>decide (x.id<o.id)) (l:=l);have h2:=congrArg List.length h1;have h3:=List.length_filter_le (fun x:OpD=>x.id !=o.id) (l.dropWhile (fun x=>decide (x.id<o.id)));rw[aA]at h2;simp only[aA,List.length_cons,List.length_nil];omega
def Ris(l:List OpD):Prop:=l.Pairwise (fun a b=>a.id<b.id)
theorem V4f(o:OpD):∀l:List OpD,Ris l->∀x∈l.dropWhile (fun x=>decide (x.id<o.id)),o.id<=x.id
 | [],_,x,hx=>by simp at hx
 | y::r,h,x,hx=>by
   obtain⟨hy,hr⟩:=List.pairwise_cons.1 h;by_cases e:y.id<o.id
   ·rw[List.dropWhile_cons_of_pos (by simpa using e)]at hx;exact V4f o r hr x hx
   ·rw[List.dropWhile_cons_of_neg (by simpa using e)]at hx;rcases List.mem_cons.1 hx with rfl | hx
    ·omega
    ·have:=hy x hx;omega
theorem X9c(l:List OpD)(o:OpD)(h:Ris l):Ris (wiO l o):=by
 rw[X9d];unfold Ris at *;have ht:∀x∈l.takeWhile (fun x=>decide (x.id<o.id)),x.id<o.id:=fun x hx=>by have:=List.all_takeWhile (p:=fun x:OpD=>decide (x.id<o.id)) (l:=l);simpa using (List.all_eq_true.1 this) x hx
 have hd:∀x∈(l.dropWhile (fun x=>decide (x.id<o.id))).filter (fun x=>x.id !=o.id),o.id<x.id:=fun x hx=>by
  obtain⟨h1,h2⟩:=List.mem_filter.1 hx;have:=V4f o l h x h1;have h3:x.id≠o.id:=by simpa using h2
  omega
 refine List.pairwise_append.2 ⟨List.pairwise_append.2 ⟨h.sublist (List.takeWhile_sublist _),by simp,fun a ha b hb=> ?_⟩,(h.sublist (List.dropWhile_sublist _)).filter _,fun a ha b hb=> ?_⟩
 ·simp at hb;subst hb;exact ht a ha
 ·have h2:=hd b hb;rcases List.mem_append.1 ha with ha | ha
  ·have:=ht a ha;omega
  ·simp at ha;subst ha;exact h2
theorem Z8u{α:Type}{R:α->α->Prop}:∀(l1 l2:List α),l1.Perm l2->l1.Pairwise R->l2.Pairwise R->(∀a∈l1,∀b∈l1,R a b->R b a->a=b)->l1=l2
 | [],l2,hp,_,_,_=>(List.nil_perm.1 hp).symm
 | a::r,[],hp,_,_,_=>absurd hp.length_eq (by simp)
 | a::r,b::s,hp,h1,h2,ha=>by
   have hab:a=b:=by
    have ma:a∈b::s:=hp.subset (by simp);have mb:b∈a::r:=hp.symm.subset (by simp);rcases List.mem_cons.1 ma with e | e
    ·exact e
    rcases List.mem_cons.1 mb with e' | e'
    ·exact e'.symm
    exact ha a (by simp) b mb ((List.pairwise_cons.1 h1).1 b e') ((List.pairwise_cons.1 h2).1 a e)
   subst hab;rw[Z8u r s (List.Perm.cons_inv hp) (List.pairwise_cons.1 h1).2 (List.pairwise_cons.1 h2).2 (fun x hx y hy=>ha x (by simp[hx]) y (by simp[hy]))]
end
end Go.Proofs.YtohaldfnmgcofaaGreat
