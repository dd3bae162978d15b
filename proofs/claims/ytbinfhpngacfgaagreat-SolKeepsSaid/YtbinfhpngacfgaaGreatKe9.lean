/-
  Parts of it.
-/
import Derived.KernelRfl
import Derived.Test.YtbinfhpngacfgaaGreatKe6
import Derived.Test.YtbinfhpngacfgaaGreatKe7
import Derived.Test.YtbinfhpngacfgaaGreatKe8
set_option linter.all false
namespace Go.Proofs
open Go Go.Abs
noncomputable def okB(f:FuncId):Bool:=match Tryz.prog.funcs[f]? with
 |some fn=>match fn.body with
  |some c=>match Dt cfg f fn.ntmps c with
   |true=> !(fn.name== "runtime.NumGoroutine")
   |false=>false
  |none=>false
 |none=>false
theorem xv{f:FuncId}(h:okB f=true):sV Tryz.prog cfg f:=by
 unfold okB at h;split at h
 .rename_i fn hf;split at h
  .rename_i c hc;split at h
   .rename_i hk;exact⟨fn,c,hf,hc,hk,by simpa using h⟩
   .cases h
  .cases h
 .cases h
def We(p:Nat→Bool):Nat→Nat→Bool
 |_,0=>true
 |a,n+1=>match p a with
  |true=>We p (a+1) n
  |false=>false
theorem JB{p:Nat→Bool}{n:Nat}: ∀{a f:Nat},We p a n=true→a≤f→f<a+n→p f=true:=by
 induction n with
 |zero=>intro a f _ h1 h2;omega
 |succ n ih=>
  intro a f h h1 h2;unfold We at h;split at h
  .rename_i hk;by_cases e:f=a
   .rw[e];exact hk
   .exact ih h (by omega) (by omega)
  .cases h
theorem AHy:We okB 2 40=true:=by kernel_rfl
theorem AGI:We okB 42 40=true:=by kernel_rfl
theorem AGJ:We okB 82 40=true:=by kernel_rfl
theorem AD1:We okB 122 40=true:=by kernel_rfl
theorem AD2:We okB 162 59=true:=by kernel_rfl
theorem AD3:We okB 236 5=true:=by kernel_rfl
theorem AA5(f:FuncId)(h:cfg.i6 f=true):sV Tryz.prog cfg f:=by
 apply xv;simp only[cfg]at h;split at h
 .rename_i h1;split at h
  .rename_i h2;have:=F7 h1;have:=F7 h2;rcases Nat.lt_or_ge f 42 with c2|c2
   .exact JB AHy (by omega) (by omega)
   rcases Nat.lt_or_ge f 82 with c42|c42
   .exact JB AGI (by omega) (by omega)
   rcases Nat.lt_or_ge f 122 with c82|c82
   .exact JB AGJ (by omega) (by omega)
   rcases Nat.lt_or_ge f 162 with c122|c122
   .exact JB AD1 (by omega) (by omega)
   exact JB AD2 (by omega) (by omega)
  .simp only[AP]at h;have:=F7 h.1;have:=F7 h.2;exact JB AD3 (by omega) (by omega)
 .cases h
theorem ABQ(t:TypeId)(m:String)(f:FuncId)(h:cfg.meth t m=some f)(v:Value)(w:World):(method (Tryz.prog.types.size+Made.depth) t v m).run Tryz.prog w=.ok (f,v) w:=by
 simp only[cfg]at h;split at h
 .rename_i hm;subst hm;simp only[VX]at h;split at h
  .rename_i ht;cases h;obtain rfl:=(D3 ht).symm
   kernel_rfl
  split at h
  .rename_i ht;cases h;obtain rfl:=(D3 ht).symm
   kernel_rfl
  split at h
  .rename_i ht;cases h;obtain rfl:=(D3 ht).symm
   kernel_rfl
  split at h
  .rename_i ht;cases h;obtain rfl:=(D3 ht).symm
   kernel_rfl
  split at h
  .rename_i ht;cases h;obtain rfl:=(D3 ht).symm
   kernel_rfl
  cases h
 .cases h
theorem AEB:X5 Tryz.prog [69] cfg where
 cfg:=⟨by simp only[cfg],ABQ⟩
 mixed:=by kernel_rfl
 pp f t h:=by
  simp only[cfg,VX]at h;split at h
  .rename_i hf;cases h;obtain rfl:=(D3 hf).symm;exact cb
  .split at h
   .rename_i hf;cases h;obtain rfl:=(D3 hf).symm;exact YX
   .cases h
theorem rp:DI Tryz.prog (GA Tryz.prog cfg) (KL Tryz.prog cfg):=sX AEB AA5
end Go.Proofs
