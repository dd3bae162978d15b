/-
  Parts of it.
-/
import Derived.KernelRfl
import Derived.Test.YtbinfhpngacfgaaGreatDe6
import Derived.Test.YtbinfhpngacfgaaGreatDe7
import Derived.Test.YtbinfhpngacfgaaGreatDe8
set_option linter.all false
namespace Go.Proofs
open Go Go.Abs
noncomputable def okB(f:FuncId):Bool:=match Tryz.prog.funcs[f]? with
 |some fn=>match fn.body with
  |some c=>match Dk cfg f fn.ntmps c with
   |true=> !(fn.name== "runtime.NumGoroutine")
   |false=>false
  |none=>false
 |none=>false
theorem vJ{f:FuncId}(h:okB f=true):qK Tryz.prog cfg f:=by
 unfold okB at h;split at h
 .rename_i fn hf;split at h
  .rename_i c hc;split at h
   .rename_i hk;exact⟨fn,c,hf,hc,hk,by simpa using h⟩
   .cases h
  .cases h
 .cases h
def Vm(p:Nat→Bool):Nat→Nat→Bool
 |_,0=>true
 |a,n+1=>match p a with
  |true=>Vm p (a+1) n
  |false=>false
theorem Ib{p:Nat→Bool}{n:Nat}: ∀{a f:Nat},Vm p a n=true→a≤f→f<a+n→p f=true:=by
 induction n with
 |zero=>intro a f _ h1 h2;omega
 |succ n ih=>
  intro a f h h1 h2;unfold Vm at h;split at h
  .rename_i hk;by_cases e:f=a
   .rw[e];exact hk
   .exact ih h (by omega) (by omega)
  .cases h
theorem AF6:Vm okB 2 40=true:=by kernel_rfl
theorem AER:Vm okB 42 40=true:=by kernel_rfl
theorem AES:Vm okB 82 40=true:=by kernel_rfl
theorem ACB:Vm okB 122 40=true:=by kernel_rfl
theorem ACD:Vm okB 162 59=true:=by kernel_rfl
theorem ACE:Vm okB 236 5=true:=by kernel_rfl
theorem zG(f:FuncId)(h:cfg.i5 f=true):qK Tryz.prog cfg f:=by
 apply vJ;simp only[cfg]at h;split at h
 .rename_i h1;split at h
  .rename_i h2;have:=F6 h1;have:=F6 h2;rcases Nat.lt_or_ge f 42 with c2|c2
   .exact Ib AF6 (by omega) (by omega)
   rcases Nat.lt_or_ge f 82 with c42|c42
   .exact Ib AER (by omega) (by omega)
   rcases Nat.lt_or_ge f 122 with c82|c82
   .exact Ib AES (by omega) (by omega)
   rcases Nat.lt_or_ge f 162 with c122|c122
   .exact Ib ACB (by omega) (by omega)
   exact Ib ACD (by omega) (by omega)
  .simp only[AP]at h;have:=F6 h.1;have:=F6 h.2;exact Ib ACE (by omega) (by omega)
 .cases h
theorem zi(t:TypeId)(m:String)(f:FuncId)(h:cfg.wp t m=some f)(v:Value)(w:World):(method (Tryz.prog.types.size+Made.depth) t v m).run Tryz.prog w=.ok (f,v) w:=by
 simp only[cfg]at h;split at h
 .rename_i hm;subst hm;simp only[Uz]at h;split at h
  .rename_i ht;cases h;obtain rfl:=(Dl ht).symm
   kernel_rfl
  split at h
  .rename_i ht;cases h;obtain rfl:=(Dl ht).symm
   kernel_rfl
  split at h
  .rename_i ht;cases h;obtain rfl:=(Dl ht).symm
   kernel_rfl
  split at h
  .rename_i ht;cases h;obtain rfl:=(Dl ht).symm
   kernel_rfl
  split at h
  .rename_i ht;cases h;obtain rfl:=(Dl ht).symm
   kernel_rfl
  cases h
 .cases h
theorem ACO:XL Tryz.prog [69] cfg where
 cfg:=⟨by simp only[cfg],zi⟩
 mixed:=by kernel_rfl
 ol f t h:=by
  simp only[cfg,Uz]at h;split at h
  .rename_i hf;cases h;obtain rfl:=(Dl hf).symm;exact bL
  .split at h
   .rename_i hf;cases h;obtain rfl:=(Dl hf).symm;exact Xm
   .cases h
theorem pg:C9 Tryz.prog (Fj Tryz.prog cfg) (KL Tryz.prog cfg):=qO ACO zG
end Go.Proofs
