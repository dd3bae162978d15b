/-
  Parts of it.
-/
import Derived.KernelRfl
import Derived.Test.YtbinfhpngacfgaaGreatSp6
import Derived.Test.YtbinfhpngacfgaaGreatSp7
import Derived.Test.YtbinfhpngacfgaaGreatSp8
set_option linter.all false
namespace Go.Proofs
open Go Go.Abs
noncomputable def zV(f:FuncId):Bool:=match Tryz.prog.funcs[f]? with
 |some fn=>match fn.body with
  |some c=>match DH cfg f fn.ntmps c with
   |true=> !(fn.name== "runtime.NumGoroutine")
   |false=>false
  |none=>false
 |none=>false
theorem sN{f:FuncId}(h:zV f=true):nh Tryz.prog cfg f:=by
 unfold zV at h;split at h
 .rename_i fn hf;split at h
  .rename_i c hc;split at h
   .rename_i hk;exact⟨fn,c,hf,hc,hk,by simpa using h⟩
   .cases h
  .cases h
 .cases h
def Uo(p:Nat→Bool):Nat→Nat→Bool
 |_,0=>true
 |a,n+1=>match p a with
  |true=>Uo p (a+1) n
  |false=>false
theorem Hs{p:Nat→Bool}{n:Nat}: ∀{a f:Nat},Uo p a n=true→a≤f→f<a+n→p f=true:=by
 induction n with
 |zero=>intro a f _ h1 h2;omega
 |succ n ih=>
  intro a f h h1 h2;unfold Uo at h;split at h
  .rename_i hk;by_cases e:f=a
   .rw[e];exact hk
   .exact ih h (by omega) (by omega)
  .cases h
theorem ADg:Uo zV 2 40=true:=by kernel_rfl
theorem ABm:Uo zV 42 40=true:=by kernel_rfl
theorem ABn:Uo zV 82 40=true:=by kernel_rfl
theorem zn:Uo zV 122 40=true:=by kernel_rfl
theorem zo:Uo zV 162 59=true:=by kernel_rfl
theorem zp:Uo zV 236 5=true:=by kernel_rfl
theorem wh(f:FuncId)(h:cfg.i6 f=true):nh Tryz.prog cfg f:=by
 apply sN;simp only[cfg]at h;split at h
 .rename_i h1;split at h
  .rename_i h2;have:=F2 h1;have:=F2 h2;rcases Nat.lt_or_ge f 42 with c2|c2
   .exact Hs ADg (by omega) (by omega)
   rcases Nat.lt_or_ge f 82 with c42|c42
   .exact Hs ABm (by omega) (by omega)
   rcases Nat.lt_or_ge f 122 with c82|c82
   .exact Hs ABn (by omega) (by omega)
   rcases Nat.lt_or_ge f 162 with c122|c122
   .exact Hs zn (by omega) (by omega)
   exact Hs zo (by omega) (by omega)
  .simp only[AP]at h;have:=F2 h.1;have:=F2 h.2;exact Hs zp (by omega) (by omega)
 .cases h
theorem xJ(t:TypeId)(m:String)(f:FuncId)(h:cfg.wp t m=some f)(v:Value)(w:World):(method (Tryz.prog.types.size+Made.depth) t v m).run Tryz.prog w=.ok (f,v) w:=by
 simp only[cfg]at h;split at h
 .rename_i hm;subst hm;simp only[Tm]at h;split at h
  .rename_i ht;cases h;obtain rfl:=(Co ht).symm
   kernel_rfl
  split at h
  .rename_i ht;cases h;obtain rfl:=(Co ht).symm
   kernel_rfl
  split at h
  .rename_i ht;cases h;obtain rfl:=(Co ht).symm
   kernel_rfl
  split at h
  .rename_i ht;cases h;obtain rfl:=(Co ht).symm
   kernel_rfl
  split at h
  .rename_i ht;cases h;obtain rfl:=(Co ht).symm
   kernel_rfl
  cases h
 .cases h
theorem zy:WA Tryz.prog [69] cfg where
 cfg:=⟨by simp only[cfg],xJ⟩
 mixed:=by kernel_rfl
 of f t h:=by
  simp only[cfg,Tm]at h;split at h
  .rename_i hf;cases h;obtain rfl:=(Co hf).symm;exact Zn
  .split at h
   .rename_i hf;cases h;obtain rfl:=(Co hf).symm;exact Wk
   .cases h
theorem mr:Cn Tryz.prog (FC Tryz.prog cfg) (KL Tryz.prog cfg):=nm zy wh
end Go.Proofs
