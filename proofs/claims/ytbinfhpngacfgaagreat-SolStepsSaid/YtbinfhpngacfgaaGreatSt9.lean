/-
  Parts: SolOk.
-/
import Derived.KernelRfl
import Derived.Test.YtbinfhpngacfgaaGreatSt6
import Derived.Test.YtbinfhpngacfgaaGreatSt7
import Derived.Test.YtbinfhpngacfgaaGreatSt8
set_option linter.all false
set_option linter.unusedSimpArgs false
set_option linter.unusedVariables false
namespace Go.Proofs
open Go Go.Abs
noncomputable def zi(f:FuncId):Bool:=match Tryz.prog.funcs[f]? with
 |some fn=>match fn.body with
  |some c=>match DM cfg f fn.ntmps c with
   |true=> !(fn.name== "runtime.NumGoroutine")
   |false=>false
  |none=>false
 |none=>false
theorem si{f:FuncId}(h:zi f=true):oE Tryz.prog cfg f:=by
 unfold zi at h;split at h
 .rename_i fn hf;split at h
  .rename_i c hc;split at h
   .rename_i hk;exact⟨fn,c,hf,hc,hk,by simpa using h⟩
   .cases h
  .cases h
 .cases h
def Uh(p:Nat→Bool):Nat→Nat→Bool
 |_,0=>true
 |a,n+1=>match p a with
  |true=>Uh p (a+1) n
  |false=>false
theorem Ht{p:Nat→Bool}{n:Nat}: ∀{a f:Nat},Uh p a n=true→a≤f→f<a+n→p f=true:=by
 induction n with
 |zero=>intro a f _ h1 h2;omega
 |succ n ih=>
  intro a f h h1 h2;unfold Uh at h;split at h
  .rename_i hk;by_cases e:f=a
   .rw[e];exact hk
   .exact ih h (by omega) (by omega)
  .cases h
theorem ADy:Uh zi 2 40=true:=by kernel_rfl
theorem AB6:Uh zi 42 40=true:=by kernel_rfl
theorem AB7:Uh zi 82 40=true:=by kernel_rfl
theorem z7:Uh zi 122 40=true:=by kernel_rfl
theorem z8:Uh zi 162 59=true:=by kernel_rfl
theorem z9:Uh zi 236 5=true:=by kernel_rfl
theorem wv(f:FuncId)(h:cfg.good f=true):oE Tryz.prog cfg f:=by
 apply si;simp only[cfg]at h;split at h
 .rename_i h1;split at h
  .rename_i h2;have:=Nat.le_of_ble_eq_true h1;have:=Nat.le_of_ble_eq_true h2;rcases Nat.lt_or_ge f 42 with c2|c2
   .exact Ht ADy (by omega) (by omega)
   rcases Nat.lt_or_ge f 82 with c42|c42
   .exact Ht AB6 (by omega) (by omega)
   rcases Nat.lt_or_ge f 122 with c82|c82
   .exact Ht AB7 (by omega) (by omega)
   rcases Nat.lt_or_ge f 162 with c122|c122
   .exact Ht z7 (by omega) (by omega)
   exact Ht z8 (by omega) (by omega)
  .simp only[Bool.and_eq_true]at h;have:=Nat.le_of_ble_eq_true h.1;have:=Nat.le_of_ble_eq_true h.2;exact Ht z9 (by omega) (by omega)
 .cases h
theorem xR(t:TypeId)(m:String)(f:FuncId)(h:cfg.meth t m=some f)(v:Value)(w:World):(method (Tryz.prog.types.size+Made.depth) t v m).run Tryz.prog w=.ok (f,v) w:=by
 simp only[cfg]at h;split at h
 .rename_i hm;subst hm;simp only[Ti]at h;split at h
  .rename_i ht;cases h;obtain rfl:=(Nat.eq_of_beq_eq_true ht).symm
   kernel_rfl
  split at h
  .rename_i ht;cases h;obtain rfl:=(Nat.eq_of_beq_eq_true ht).symm
   kernel_rfl
  split at h
  .rename_i ht;cases h;obtain rfl:=(Nat.eq_of_beq_eq_true ht).symm
   kernel_rfl
  split at h
  .rename_i ht;cases h;obtain rfl:=(Nat.eq_of_beq_eq_true ht).symm
   kernel_rfl
  split at h
  .rename_i ht;cases h;obtain rfl:=(Nat.eq_of_beq_eq_true ht).symm
   kernel_rfl
  cases h
 .cases h
theorem AAH:V5 Tryz.prog [69] cfg where
 cfg:=⟨by simp only[cfg],xR⟩
 mixed:=by kernel_rfl
 caught f t h:=by
  simp only[cfg,Ti]at h;split at h
  .rename_i hf;cases h;obtain rfl:=(Nat.eq_of_beq_eq_true hf).symm;exact Zo
  .split at h
   .rename_i hf;cases h;obtain rfl:=(Nat.eq_of_beq_eq_true hf).symm;exact Wh
   .cases h
theorem nK:Cu Tryz.prog (E8 Tryz.prog cfg) (KL Tryz.prog cfg):=oI AAH wv
end Go.Proofs
