/- Which operations may be: the document's answer and the program's are the same. No program. -/
import Derived.Test.YtmiolpfanlpfnaaGreatP01
set_option linter.unusedSimpArgs false
set_option linter.unusedVariables false
namespace Go.Proofs.YtmiolpfanlpfnaaGreat
section
def betw(n a b:Int):Bool:=decide (a≤n)&&decide (n≤b)
def valB(n:Int):Bool:=betw n 0 1073741824
def Y5d(k m:Int):Bool:=
 if k=1 then betw m 1 3 else if k=2 then m==1 || m==4 || m==5 else if k=3 then m==6 || m==7 else if k=4 then m==8 || m==9 else if k=5 then betw m 10 12 else if k=6 then m==13 || m==14 else false
def Y1c(m a s:Int):Bool:=if m=3 then valB a&&valB s else if m=2∨m=6∨m=8∨m=10∨m=11∨m=12 then valB a&&s==0 else a==0&&s==0
def resB(k m n:Int):Bool:=if m=1 then valB n || k==2&&valB (-n)else if m=3∨m=10∨m=11∨m=12 then n==0 || n==1 else if m=7∨m=9 then n== -1 || valB n else n==0
def Z2u(o:OpD):Int:=
 if(decide (o.id<1) || decide (1073741824<o.id) || decide (o.proc<0) || decide (1023<o.proc) || decide (o.object<0) || decide (1023<o.object))=true then 30
 else if(!Y5d o.kind o.method || !Y1c o.method o.arg o.second || o.done&& !resB o.kind o.method o.result || !o.done&&o.result !=0)=true then 33
 else if(decide (o.invoke<0) || decide (1099511627776<o.invoke) || o.done&&(decide (o.ret≤o.invoke) || decide (1099511627776<o.ret)) || !o.done&&o.ret !=0)=true then 31 else 0
theorem X7o(k m:Int)(h:Y5d k m=true):(k=1∧m=1)∨(k=1∧m=2)∨(k=1∧m=3)∨(k=2∧m=1)∨(k=2∧m=4)∨(k=2∧m=5)∨(k=3∧m=6)∨(k=3∧m=7)∨(k=4∧m=8)∨(k=4∧m=9)∨
  (k=5∧m=10)∨(k=5∧m=11)∨(k=5∧m=12)∨(k=6∧m=13)∨(k=6∧m=14):=by
 unfold Y5d betw at h
 split at h
 ·rename_i hk;subst hk;simp only[Bool.and_eq_true,Bool.or_eq_true,decide_eq_true_eq,beq_iff_eq]at h
  have hm:m=1∨m=2∨m=3:=by omega
  rcases hm with rfl | rfl | rfl<;>simp
 split at h
 ·rename_i hk;subst hk;simp only[Bool.and_eq_true,Bool.or_eq_true,decide_eq_true_eq,beq_iff_eq]at h
  have hm:m=1∨m=4∨m=5:=by omega
  rcases hm with rfl | rfl | rfl<;>simp
 split at h
 ·rename_i hk;subst hk;simp only[Bool.and_eq_true,Bool.or_eq_true,decide_eq_true_eq,beq_iff_eq]at h
  have hm:m=6∨m=7:=by omega
  rcases hm with rfl | rfl<;>simp
 split at h
 ·rename_i hk;subst hk;simp only[Bool.and_eq_true,Bool.or_eq_true,decide_eq_true_eq,beq_iff_eq]at h
  have hm:m=8∨m=9:=by omega
  rcases hm with rfl | rfl<;>simp
 split at h
 ·rename_i hk;subst hk;simp only[Bool.and_eq_true,Bool.or_eq_true,decide_eq_true_eq,beq_iff_eq]at h
  have hm:m=10∨m=11∨m=12:=by omega
  rcases hm with rfl | rfl | rfl<;>simp
 split at h
 ·rename_i hk;subst hk;simp only[Bool.and_eq_true,Bool.or_eq_true,decide_eq_true_eq,beq_iff_eq]at h
  have hm:m=13∨m=14:=by omega
  rcases hm with rfl | rfl<;>simp
 cases h
end
section
open Go.RowKit
end
end Go.Proofs.YtmiolpfanlpfnaaGreat
