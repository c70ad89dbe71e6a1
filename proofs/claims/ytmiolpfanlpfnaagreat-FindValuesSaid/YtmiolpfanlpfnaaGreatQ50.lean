/- scan.count, scan.Choose: the path with the least cost. Conditions: the groups rise, and are fewer than 10^9. -/
import Derived.Test.YtmiolpfanlpfnaaGreatQ46
namespace Go.Proofs.YtmiolpfanlpfnaaGreat
set_option linter.unusedSimpArgs false
set_option linter.unusedVariables false
open Go.RowKit
def RI(x:Int)(cs:List Value):Prop:=cs= [.int .i64 x]
theorem V1h(V U:Value)(xs:List Int)(w:World)(hs:Sl w 1 RI V xs)(hu:Sl w 1 RI U xs):
  Calls Tryz.prog 44 #[V,U] w fun e w'=>e= .returned (.bool true)∧Ext w w':=by
 obtain⟨A,c,rfl⟩:=hs.form
 obtain⟨_,hc1,hc2,hA⟩:=hs.at
 obtain⟨A',c',rfl⟩:=hu.form
 obtain⟨_,hc1',hc2',hA'⟩:=hu.at
 go_enter Tryz.func44,Tryz.ntmps44
 go_wp2_with fail
 go_loopw [5] (fun i wr=>∃k:Nat,k≤xs.length∧i= .int .i64 k∧∃q,wr=w.drewN q) (fun i _=>xs.length-(intOf i).toNat)
 case atStart=>exact⟨0,Nat.zero_le _,rfl,0,rfl⟩
 case round=>
  obtain⟨k,hk,rfl,q,rfl⟩:=hrel
  by_cases hlt:k<xs.length
  ·obtain⟨b,off,rfl,hbl,hx⟩:=hA (by omega)
   obtain⟨cs,rfl,_,hcs⟩:=hx k hlt
   have h0:=hcs 0 _ rfl
   obtain⟨b',off',rfl,hbl',hx'⟩:=hA' (by omega)
   obtain⟨cs',rfl,_,hcs'⟩:=hx' k hlt
   have h0':=hcs' 0 _ rfl
   simp only[Nat.add_zero,Nat.mul_one]at h0 h0'
   clear hx hcs hx' hcs' hA hA' hs hu
   go_wp2_with fail
   go_quiet (fail)
   go_wp2_with fail
   go_roundw
   case rel=>exact⟨k+1,by omega,by go_num,_,rfl⟩
   case measure=>simp[intOf];omega
  ·go_wp2_with fail
   go_ret
   exact⟨rfl,by exact Xt⟩
end Go.Proofs.YtmiolpfanlpfnaaGreat
