/-
  Parts of it.
-/
import Derived.KernelRfl
import Derived.Test.YtbinfhpngacfgaaGreatFi6
import Derived.Test.YtbinfhpngacfgaaGreatFi7
import Derived.Test.YtbinfhpngacfgaaGreatFi8
set_option linter.all false
namespace Go.Proofs
open Go Go.Abs
noncomputable def wK(f:FuncId):Bool:=match Tryz.prog.funcs[f]? with
 |some fn=>match fn.body with
  |some c=>match DF cfg f fn.ntmps c with
   |true=> !(fn.name== "runtime.NumGoroutine")
   |false=>false
  |none=>false
 |none=>false
theorem pQ{f:FuncId}(h:wK f=true):kh Tryz.prog cfg f:=by
 unfold wK at h;split at h
 .rename_i fn hf;split at h
  .rename_i c hc;split at h
   .rename_i hk;exact⟨fn,c,hf,hc,hk,by simpa using h⟩
   .cases h
  .cases h
 .cases h
def TF(p:Nat→Bool):Nat→Nat→Bool
 |_,0=>true
 |a,n+1=>match p a with
  |true=>TF p (a+1) n
  |false=>false
theorem Ha{p:Nat→Bool}{n:Nat}: ∀{a f:Nat},TF p a n=true→a≤f→f<a+n→p f=true:=by
 induction n with
 |zero=>intro a f _ h1 h2;omega
 |succ n ih=>
  intro a f h h1 h2;unfold TF at h;split at h
  .rename_i hk;by_cases e:f=a
   .rw[e];exact hk
   .exact ih h (by omega) (by omega)
  .cases h
theorem ABD:TF wK 2 40=true:=by kernel_rfl
theorem zL:TF wK 42 40=true:=by kernel_rfl
theorem zM:TF wK 82 40=true:=by kernel_rfl
theorem we:TF wK 122 40=true:=by kernel_rfl
theorem wg:TF wK 162 59=true:=by kernel_rfl
theorem wh:TF wK 236 5=true:=by kernel_rfl
theorem se(f:FuncId)(h:cfg.ii f=true):kh Tryz.prog cfg f:=by
 apply pQ;simp only[cfg]at h;split at h
 .rename_i h1;split at h
  .rename_i h2;have:=F4 h1;have:=F4 h2;rcases Nat.lt_or_ge f 42 with c2|c2
   .exact Ha ABD (by omega) (by omega)
   rcases Nat.lt_or_ge f 82 with c42|c42
   .exact Ha zL (by omega) (by omega)
   rcases Nat.lt_or_ge f 122 with c82|c82
   .exact Ha zM (by omega) (by omega)
   rcases Nat.lt_or_ge f 162 with c122|c122
   .exact Ha we (by omega) (by omega)
   exact Ha wg (by omega) (by omega)
  .simp only[AS]at h;have:=F4 h.1;have:=F4 h.2;exact Ha wh (by omega) (by omega)
 .cases h
theorem tE(t:TypeId)(m:String)(f:FuncId)(h:cfg.rx t m=some f)(v:Value)(w:World):(method (Tryz.prog.types.size+Made.depth) t v m).run Tryz.prog w=.ok (f,v) w:=by
 simp only[cfg]at h;split at h
 .rename_i hm;subst hm;simp only[SZ]at h;split at h
  .rename_i ht;cases h;obtain rfl:=(Co ht).symm
   kernel_rfl
  split at h
  .rename_i ht;cases h;obtain rfl:=(Co ht).symm
   kernel_rfl
  split at h
  .rename_i ht;cases h;obtain rfl:=(Co ht).symm
   kernel_rfl
  split at h
  .rename_i ht;cases h;obtain rfl:=(Co ht).symm
   kernel_rfl
  split at h
  .rename_i ht;cases h;obtain rfl:=(Co ht).symm
   kernel_rfl
  cases h
 .cases h
theorem wv:Uo Tryz.prog [69] cfg where
 cfg:=⟨by simp only[cfg],tE⟩
 mixed:=by kernel_rfl
 lc f t h:=by
  simp only[cfg,SZ]at h;split at h
  .rename_i hf;cases h;obtain rfl:=(Co hf).symm;exact Ym
  .split at h
   .rename_i hf;cases h;obtain rfl:=(Co hf).symm;exact VF
   .cases h
theorem kE:Ct Tryz.prog (E2 Tryz.prog cfg) (KL Tryz.prog cfg):=kq wv se
end Go.Proofs
