/- scan.Bounds, and its reference: the bounds that a condition sets. No conditions but that the node and its kids can be read. -/
import Derived.Test.YtmiolpfanlpfnaaGreatP45
set_option maxRecDepth 100000
set_option maxHeartbeats 1600000
set_option linter.unusedSimpArgs false
set_option linter.unusedVariables false
namespace Go.Proofs.YtmiolpfanlpfnaaGreat
open Go.RowKit
def fieldsL:List ByteArray:= [sId,sProc,sObject,sMethod,sInvoke,sReturn]
theorem X7p(w:World):Calls Tryz.prog 79 #[] w fun e w'=>∃g,e= .returned (.slice (some ⟨g,0,none⟩) 6 6)∧Row1 w' g 9 (fieldsL.map Value.string)∧Ext w w':=by
 go_enter Tryz.func79,Tryz.ntmps79
 go_wp2_with fail
 go_ret
 exact⟨w.heap.size,rfl,Row1.made _ _ _,by exact Xt⟩
abbrev Nar:=Int×Int×Bool
def U1f(r:Nar):Option (Int×Int)→Nar
 | some (a,b)=>(max r.1 a,min r.2.1 b,true)
 | none=>r
def Z8r(f:ByteArray)(r:Nar)(k:NCell):Nar:=if k.kind=4∧k.field.toList=f.toList then U1f r (Z5v k.sign.toList k.value)else r
def narL(f:ByteArray)(parts:List NCell):Nar:=parts.foldl (Z8r f) (-9223372036854775808,9223372036854775807,false)
def Z3v(parts:List NCell)(f:ByteArray):List Bnd:=if(narL f parts).2.2 then [⟨f,(narL f parts).1,(narL f parts).2.1⟩]else []
def Z1e(parts:List NCell):List Bnd:=fieldsL.flatMap (Z3v parts)
def Z8x(n:NCell)(ks:List NCell):List NCell:=if n.kind=2 then ks else [n]
theorem V0z(f:ByteArray)(parts:List NCell)(j:Nat)(h:j<parts.length):narL f (parts.take (j+1))=Z8r f (narL f (parts.take j)) parts[j]:=by
 unfold narL
 rw[List.take_succ_eq_append_getElem h,List.foldl_append]
 rfl
theorem Z8j(parts:List NCell)(i:Nat)(h:i<fieldsL.length):(fieldsL.take (i+1)).flatMap (Z3v parts)=(fieldsL.take i).flatMap (Z3v parts)++Z3v parts fieldsL[i]:=by
 rw[List.take_succ_eq_append_getElem h,List.flatMap_append]
 simp
theorem X2s(parts:List NCell)(f:ByteArray):(Z3v parts f).length≤1:=by unfold Z3v;split<;>simp
theorem X7u(parts:List NCell)(i:Nat)(h:i≤fieldsL.length):((fieldsL.take i).flatMap (Z3v parts)).length≤i:=by
 induction i with
 | zero=>simp
 | succ i ih=>rw[Z8j parts i (by omega),List.length_append];have:=X2s parts fieldsL[i];have:=ih (by omega);omega
theorem Tryz.infoBound:(Tryz.prog.info? 131).map (fun i=>(i.zero,i.size,i.bytes))=some (some (.agg #[.string ByteArray.empty,.int .i64 0,.int .i64 0]),3,32):=by kernel_rfl
def U1u(f:ByteArray)(parts:List NCell)(wo:World)(s j:Value)(wy:World):Prop:=
 ∃(i:Nat) (r:Nar),i≤parts.length∧j= .int .i64 i∧s= .bool r.2.2∧r=narL f (parts.take i)∧
  Row1 wy wo.heap.size 131 [.string f,.int .i64 r.1,.int .i64 r.2.1]∧Ext wo wy
def U1n(parts:List NCell)(t:TypeId)(w1:World)(v i:Value)(wr:World):Prop:=
 ∃(k:Nat) (bs:List Bnd),k≤6∧i= .int .i64 k∧Ext w1 wr∧wr.ownsRow w1.heap.size t 3 v bs.length (bs.flatMap Bnd.cells)∧bs=(fieldsL.take k).flatMap (Z3v parts)
theorem Z7w(n:NCell)(ks:List NCell)(w:World)(hn:RN n n.cells)(hks:Sl w 5 RN n.kids ks):
  Calls Tryz.prog 29 #[.agg #[.int .i64 n.kind,n.kids,.string n.field,.string n.sign,.int .i64 n.value]] w
   fun e w'=>(∃v,e= .returned v∧Sl w' 3 RBnd v (Z1e (Z8x n ks)))∧Ext w w':=by
 obtain⟨kind,kids,field,sign,value⟩:=n
 dsimp only at hks
 obtain⟨A,c,rfl⟩:=hks.form
 have HKS:=hD hks
 have HN:=hD hn
 clear hks hn
 obtain⟨i0,hi0,hz0,hz1,hz2⟩:=info_parts Tryz.infoBound
 obtain⟨parts,hparts⟩:∃l,Z8x ⟨kind,.slice A ks.length c,field,sign,value⟩ ks=l:=⟨_,rfl⟩
 have HPT:=hD hparts
 clear hparts
 go_enter Tryz.func29,Tryz.ntmps29
 go_upto_if 18 with fail
 go_cut [3] (fun s3 wx=>∃A' c',s3= .slice A' parts.length c'∧Sl wx 5 RN s3 parts∧Ext w wx)
 case first=>
  by_cases hk:kind=2
  ·have hq:(kind==2)=true:=by simpa using hk
   have HK:=hD hk
   clear hk
   go_wp2_with fail
   go_meet
   have e:parts=ks:=by rw[←HPT.out];simp[Z8x,HK.out]
   exact⟨A,c,by rw[e],by rw[e];exact HKS.out.ext (by exact Xt),by exact Xt⟩
  ·have hq:(kind==2)=false:=by simpa using hk
   go_wp2_with fail
   go_meet
   have e:parts= [⟨kind,.slice A ks.length c,field,sign,value⟩]:=by rw[←HPT.out];simp[Z8x,hk]
   rw[e]
   refine⟨_,_,rfl,Sl.laid (Row1.made' (by simp) 50 [.int .i64 kind,.slice A ks.length c,.string field,.string sign,.int .i64 value]) rfl (by omega) (by simp[maxLen]) (fun i x hi=> ?_),by exact Xt⟩
   match i,hi with
   | 0,hi=>
     injection hi with hi
     subst hi
     exact⟨_,HN.out,rfl,fun j u hu=>by simpa [NCell.cells]using hu⟩
 case rest=>
  obtain⟨A',c',rfl,hsl,hext⟩:=hcut
  have HSL:=hD hsl
  have HX:=hD hext
  clear hsl hext
  go_wp2_with fail
  refine(X7p _).mono ?_
  rintro e w1 ⟨g,rfl,hrow,hb1⟩
  have HSL:=hD (HSL.out.ext hb1)
  have HX:=hD (Ext.trans HX.out hb1)
  have HG:=hD hrow
  clear hb1 hrow
  go_wp2_with fail
  go_loopw [4,23] (U1n parts 131 w1) (fun _ i _=>6-(intOf i).toNat)
  case atStart=>exact⟨0,[],by omega,rfl,Ext.refl _,World.ownsRow_nil _ _ _ _,rfl⟩
  case round=>
   obtain⟨k,bs,hk,rfl,hb,hown,hbs⟩:=hrel
   have HBS:=hD hbs
   have hbl:bs.length≤k:=by rw[hbs];exact X7u parts k hk
   clear hbs
   have HB:=hD hb
   have HO:=hD hown
   clear hb hown
   by_cases hlt:k<6
   ·have hkl:k<fieldsL.length:=hlt
    have hd6:decide ((k:Int)<6)=true:=by simp;omega
    obtain⟨f,hf⟩:∃f,fieldsL[k]=f:=⟨_,rfl⟩
    have HF:=hD hf
    have hgl:=HG.out.lt
    have hcf:wr.cell? ⟨g,k,none⟩=some (.string f):=by
     rw[HB.out.cell (p:=⟨g,k,none⟩) hgl,HG.out.cell,List.getElem?_map,List.getElem?_eq_getElem hkl,hf];rfl
    clear hf
    have hgr:g<wr.heap.size:=Nat.lt_of_lt_of_le hgl HB.out.size
    go_wp2_with fail
    obtain⟨wo,rfl⟩:∃wo:World,wo=wr:=⟨_,rfl⟩
    go_loopw [8,31] (U1u f parts wo) (fun _ j _=>parts.length-(intOf j).toNat)
    case atStart=>exact⟨0,(-9223372036854775808,9223372036854775807,false),by omega,rfl,rfl,rfl,Row1.made _ _ _,Ext.alloc _ _⟩
    case round=>
     obtain⟨i,r,hi,rfl,rfl,hr,hrow,hby⟩:=hrel
     have HR:=hD hr
     have HRow:=hD hrow
     have HBY:=hD hby
     have hgb:=hrow.lt
     have hc1:wr.cell? ⟨wo.heap.size,1,none⟩=some (.int .i64 r.1):=hrow.cell 1
     have hc2:wr.cell? ⟨wo.heap.size,2,none⟩=some (.int .i64 r.2.1):=hrow.cell 2
     have hc0:wr.cell? ⟨wo.heap.size,0,none⟩=some (.string f):=hrow.cell 0
     have hs1:=hrow.soft 1
     have hs2:=hrow.soft 2
     clear hr hrow hby
     by_cases hil:i<parts.length
     ·obtain⟨_,_,_,hA⟩:=HSL.out.at
      obtain⟨b,off,rfl,hbl,hx⟩:=hA (by omega)
      obtain⟨cs,⟨rfl,hv1,hv2,Ak,mk,ck,hkk⟩,_,hcs⟩:=hx i hil
      have hw:=fun j u hu=>((HB.out.trans HBY.out).cell (p:=⟨b,off+i*5+j,none⟩) hbl).trans (hcs j u hu)
      have h0:=hw 0 _ rfl
      have h1:wr.cell? ⟨b,off+i*5+1,none⟩=some (.slice Ak mk ck):=by rw[←hkk];exact hw 1 _ rfl
      have h2:=hw 2 _ rfl
      have h3:=hw 3 _ rfl
      have h4:=hw 4 _ rfl
      simp only[Nat.add_zero]at h0
      clear hx hcs hw hA hkk
      have HT:=hD (V0z f parts i hil)
      generalize parts[i]=p at *
      by_cases hk4:p.kind=4
      ·by_cases hff:p.field.toList=f.toList
       ·have q1:(p.kind==4)=true:=by simpa using hk4
        have q1':(p.kind !=4)=false:=by simpa using hk4
        have q2:(p.field.toList==f.toList)=true:=by simpa using hff
        have q2':(p.field.toList !=f.toList)=false:=by simpa using hff
        have HS1:Hid (Z8r f r p=U1f r (Z5v p.sign.toList p.value)):=by unfold Hid Z8r;rw[if_pos ⟨hk4,hff⟩]
        clear hk4 hff
        go_wp2_with fail
        refine(X6u _ _ _ _ _ _ hv1 hv2).mono ?_
        rintro e w2 ⟨⟨na,nb,ok,rfl,hnar⟩,hb2⟩
        have HNAR:=hD hnar
        have HB2:=hD (Ext.trans (by exact Xx (Ext.refl _):Ext wr _) hb2)
        clear hnar hb2
        have d1:w2.cell? ⟨wo.heap.size,1,none⟩=some (.int .i64 r.1):=(HB2.out.cell hgb).trans hc1
        have d2:w2.cell? ⟨wo.heap.size,2,none⟩=some (.int .i64 r.2.1):=(HB2.out.cell hgb).trans hc2
        have ds1:w2.frozen? ⟨wo.heap.size,1,none⟩=false:=(HRow.out.ext HB2.out hgb).soft 1
        have ds2:w2.frozen? ⟨wo.heap.size,2,none⟩=false:=(HRow.out.ext HB2.out hgb).soft 2
        cases ok with
        | true=>
          go_wp2_with fail
          all_goals
           go_roundw
           case measure=>simp[intOf];omega
           case rel=>
           refine⟨i+1,(max r.1 na,min r.2.1 nb,true),by omega,by go_num,rfl,by rw[HT.out,←HR.out,HS1.out,HNAR.out];rfl,?_,?_⟩
           ·have e1:max r.1 na=if r.1<na then na else r.1:=by split<;>omega
            have e2:min r.2.1 nb=if nb<r.2.1 then nb else r.2.1:=by split<;>omega
            dsimp only
            rw[e1,e2]
            exact((HRow.out.ext HB2.out hgb).set 1 _).set 2 _
           ·exact Xx (HBY.out.trans HB2.out)
        | false=>
          go_wp2_with fail
          go_roundw
          case rel=>
           refine⟨i+1,r,by omega,by go_num,rfl,?_,HRow.out.ext HB2.out hgb,HBY.out.trans HB2.out⟩
           rw[HT.out,←HR.out,HS1.out,HNAR.out];rfl
          case measure=>simp[intOf];omega
       ·have q1:(p.kind==4)=true:=by simpa using hk4
        have q1':(p.kind !=4)=false:=by simpa using hk4
        have q2:(p.field.toList==f.toList)=false:=by simpa using hff
        have q2':(p.field.toList !=f.toList)=true:=by simpa using hff
        have HS1:Hid (Z8r f r p=r):=by unfold Hid Z8r;rw[if_neg (fun h=>hff h.2)]
        clear hk4 hff
        go_wp2_with fail
        go_roundw
        case rel=>exact⟨i+1,r,by omega,by go_num,rfl,by rw[HT.out,←HR.out,HS1.out],HRow.out.alloc _,HBY.out.trans (Ext.alloc _ _)⟩
        case measure=>simp[intOf];omega
      ·have q1:(p.kind==4)=false:=by simpa using hk4
       have q1':(p.kind !=4)=true:=by simpa using hk4
       have HS1:Hid (Z8r f r p=r):=by unfold Hid Z8r;rw[if_neg (fun h=>hk4 h.1)]
       clear hk4
       go_wp2_with fail
       go_roundw
       case rel=>exact⟨i+1,r,by omega,by go_num,rfl,by rw[HT.out,←HR.out,HS1.out],HRow.out.alloc _,HBY.out.trans (Ext.alloc _ _)⟩
       case measure=>simp[intOf];omega
     ·obtain rfl:i=parts.length:=by omega
      have HRE:Hid (Z3v parts f=if r.2.2 then [⟨f,r.1,r.2.1⟩]else []):=by unfold Hid Z3v;rw[HR.out,List.take_length]
      cases hset:r.2.2 with
      | true=>
        have HSET:=hD hset
        clear hset
        have hbo:=HBY.out.size
        go_wp2_with (at_builtin;refine wpList_append_own _ rfl (.tmp 63) (.tmp 65) _ rfl w1.heap.size 131 i0 _ 3 32 Tryz.underlying57 hi0 hz0 hz1 hz2 rfl (by decide) _ _ _ rfl ((Y7l HO.out HBY.out).alloc _) ⟨wr.heap.size,0,none⟩ 1 1 [.string f,.int .i64 r.1,.int .i64 r.2.1] rfl rfl ?c1 ?c2 ?c3 ?c4 ?c5 ?_)
        case c1=>exact V0x _ _ _
        case c2=>simp[Value.oneCell']
        case c3=>simp[maxLen];omega
        case c4=>omega
        case c5=>have:=HB.out.size;simp;omega
        intro v' w' hown' hg' _
        go_wp2_with fail
        go_roundw
        case rel=>
         refine⟨k+1,bs++ [⟨f,r.1,r.2.1⟩],by omega,by go_num,?_,?_,?_⟩
         ·exact Below.grown ((Ext.trans HB.out HBY.out).trans (Ext.alloc _ _)) hg' (by have:=HB.out.size;simp;omega) (U1e HO.out)
         ·simpa [List.flatMap_append,Bnd.cells]using hown'
         ·rw[Z8j parts k hkl,HF.out,HRE.out,HSET.out,HBS.out];rfl
        case measure=>simp[intOf];omega
      | false=>
        have HSET:=hD hset
        clear hset
        go_wp2_with fail
        go_roundw
        case rel=>
         refine⟨k+1,bs,by omega,by go_num,HB.out.trans HBY.out,Y7l HO.out HBY.out,?_⟩
         rw[Z8j parts k hkl,HF.out,HRE.out,HSET.out,HBS.out];simp
        case measure=>simp[intOf];omega
   ·go_wp2_with fail
    go_ret
    obtain rfl:k=6:=by omega
    refine⟨⟨_,rfl,?_⟩,HX.out.trans HB.out⟩
    rw[HPT.out,show Z1e parts=bs by rw[HBS.out];rfl]
    exact V8g HO.out rfl (fun i x hi=>⟨x.cells,rfl,rfl,Z2l Bnd.cells 3 (fun _=>rfl) _ i x hi⟩)
def exParts:List NCell:= [⟨4,.slice none 0 0,sObject,⟨#[61]⟩,3⟩,⟨4,.slice none 0 0,sInvoke,⟨#[62,61]⟩,10⟩,⟨4,.slice none 0 0,sInvoke,⟨#[60]⟩,20⟩]
theorem V7d:Z1e exParts= [⟨sObject,3,3⟩,⟨sInvoke,10,19⟩]:=by
 decide +kernel
theorem V7c:Z1q [⟨sObject,3,3⟩,⟨sInvoke,10,19⟩] 9 [⟨3,2⟩] [] []=⟨1,[3],10,19,2⟩:=by
 decide +kernel
theorem V3s(w:World):Calls Tryz.prog 27 #[] w fun e w'=>e= .returned (.bool true)∧Ext w w':=by
 go_enter Tryz.func27,Tryz.ntmps27
 go_wp2_with fail
 refine(Z8i _ _ _ _).mono ?_
 rintro e w1 ⟨rfl,hb1⟩
 have K1:=hD hb1
 clear hb1
 go_wp2_with fail
 refine(Z8i _ _ _ _).mono ?_
 rintro e w2 ⟨rfl,hb2⟩
 have K2:=hD (Ext.trans K1.out hb2)
 clear hb2
 go_wp2_with fail
 refine(Z8i _ _ _ _).mono ?_
 rintro e w3 ⟨rfl,hb3⟩
 have K3:=hD (Ext.trans K2.out hb3)
 clear hb3
 have hz3:=K3.out.size
 go_wp2_with fail
 refine(Z7w ⟨2,.slice (some ⟨w3.heap.size,0,none⟩) 3 3,⟨#[]⟩,⟨#[]⟩,0⟩ exParts _ ⟨rfl,by simp,by simp,_,_,_,rfl⟩ ?_).mono ?_
 ·refine Sl.laid (t:=50) (cs:=exParts.flatMap NCell.cells) ((Row1.made w3 _ _).alloc _) rfl (by omega) (by simp[maxLen]) (fun i x hi=> ?_)
  refine⟨x.cells,?_,rfl,Z2l NCell.cells 5 (fun _=>rfl) exParts i x hi⟩
  match i,hi with
  | 0,hi=>injection hi with hi;subst hi;exact⟨rfl,by simp,by simp,_,_,_,rfl⟩
  | 1,hi=>injection hi with hi;subst hi;exact⟨rfl,by simp,by simp,_,_,_,rfl⟩
  | 2,hi=>injection hi with hi;subst hi;exact⟨rfl,by simp,by simp,_,_,_,rfl⟩
 rintro e w4 ⟨⟨v4,rfl,hs4⟩,hb4⟩
 have K4:=hD (Ext.trans (by exact Xx (K3.out):Ext w _) hb4)
 rw[show Z8x ⟨2,.slice (some ⟨w3.heap.size,0,none⟩) 3 3,⟨#[]⟩,⟨#[]⟩,0⟩ exParts=exParts from rfl,V7d]at hs4
 obtain⟨A4,c4,rfl⟩:=hs4.form
 have HS4:=hD hs4
 have hz4:=K4.out.size
 clear hs4 hb4
 go_wp2_with fail
 refine(Z7v _ _ _ _ _ 9 [⟨3,2⟩] [] [] _ (HS4.out.ext (Ext.alloc _ _)) ?_ (Sl.nil _ _ _) (Sl.nil _ _ _) ?_ ?_ ?_ ?_ ?_ ?_).mono ?_
 ·refine Sl.laid (Row1.made w4 125 [.int .i64 3,.int .i64 2]) rfl (by omega) (by simp[maxLen]) (fun i x hi=> ?_)
  match i,hi with
  | 0,hi=>
    injection hi with hi
    subst hi
    exact⟨_,rfl,rfl,fun j u hu=>by simpa [Grp.cells]using hu⟩
 ·intro i j hi hj hij;simp at hi hj;omega
 ·intro i j hi;simp at hi
 ·intro i j hi;simp at hi
 ·simp
 ·simp
 ·simp
 rintro e w5 ⟨⟨fv,rfl,hs5,_⟩,hb5⟩
 rw[V7c]at *
 dsimp only at *
 have K5:=hD (Ext.trans (by exact Xx (K4.out):Ext w _) hb5)
 have HS4:=hD ((HS4.out.ext (Ext.alloc _ _)).ext hb5)
 obtain⟨A5,c5,rfl⟩:=hs5.form
 have HS5:=hD hs5
 have hz5:=K5.out.size
 clear hs5 hb5
 go_wp2_with fail
 refine(X2r _ _ [⟨sObject,3,3⟩,⟨sInvoke,10,19⟩] _ (HS4.out.ext (by exact Xt)) ?_).mono ?_
 ·refine Sl.laid (cs:=([⟨sObject,3,3⟩,⟨sInvoke,10,19⟩]:List Bnd).flatMap Bnd.cells) (Row1.made' (by simp) 128 _) rfl (by omega) (by simp[maxLen]) (fun i x hi=>⟨x.cells,rfl,rfl,Z2l Bnd.cells 3 (fun _=>rfl) _ i x hi⟩)
 rintro e w6 ⟨rfl,hb6⟩
 have p0:w6.cell? ⟨w5.heap.size,0,none⟩=some (.int .i64 1):=by rw[hb6.cell (by simp;omega)];simp
 have p1:w6.cell? ⟨w5.heap.size,1,none⟩=some (.slice A5 1 c5):=by rw[hb6.cell (by simp;omega)];simp
 have p2:w6.cell? ⟨w5.heap.size,2,none⟩=some (.int .i64 10):=by rw[hb6.cell (by simp;omega)];simp
 have p3:w6.cell? ⟨w5.heap.size,3,none⟩=some (.int .i64 19):=by rw[hb6.cell (by simp;omega)];simp
 have p4:w6.cell? ⟨w5.heap.size,4,none⟩=some (.int .i64 2):=by rw[hb6.cell (by simp;omega)];simp
 have hz6:=hb6.size
 simp at hz6
 have hlt6:w5.heap.size<w6.heap.size:=by omega
 have K6:=hD (Ext.trans (by exact Xx (K5.out):Ext w _) hb6)
 have HS5:=hD ((HS5.out.ext (by exact Xt)).ext hb6)
 clear hb6
 go_wp2_with fail
 refine(V1u _ _ [3] _ (HS5.out.ext (Ext.alloc _ _)) ?_).mono ?_
 ·refine Sl.laid (Row1.made w6 3 [.int .i64 3]) rfl (by omega) (by simp[maxLen]) (fun i x hi=> ?_)
  match i,hi with
  | 0,hi=>
    injection hi with hi
    subst hi
    exact⟨_,rfl,rfl,fun j u hu=>by simpa using hu⟩
 rintro e w7 ⟨rfl,hb7⟩
 have q2:w7.cell? ⟨w5.heap.size,2,none⟩=some (.int .i64 10):=by rw[hb7.cell (by simp;omega),World.cell?_alloc_lt _ _ _ hlt6];exact p2
 have q3:w7.cell? ⟨w5.heap.size,3,none⟩=some (.int .i64 19):=by rw[hb7.cell (by simp;omega),World.cell?_alloc_lt _ _ _ hlt6];exact p3
 have q4:w7.cell? ⟨w5.heap.size,4,none⟩=some (.int .i64 2):=by rw[hb7.cell (by simp;omega),World.cell?_alloc_lt _ _ _ hlt6];exact p4
 have hz7:=K6.out.size
 have K7:=hD (Ext.trans (by exact Xx (K6.out):Ext w _) hb7)
 clear hb7
 go_wp2_with fail
 go_ret
 exact⟨rfl,K7.out⟩
end Go.Proofs.YtmiolpfanlpfnaaGreat
