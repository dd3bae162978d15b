/-
  Parts: SolOk.
-/
import Derived.KernelRfl
import Derived.Test.YtbinfhpngacfgaaGreatCo6
import Derived.Test.YtbinfhpngacfgaaGreatCo7
import Derived.Test.YtbinfhpngacfgaaGreatCo8
set_option linter.all false
set_option linter.unusedSimpArgs false
set_option linter.unusedVariables false
namespace Go.Proofs
open Go Go.Abs
noncomputable def mX(f:FuncId):Bool:=match Tryz.prog.funcs[f]? with
 |some fn=>match fn.body with
  |some c=>match Cg cfg f fn.ntmps c with
   |true=> !(fn.name== "runtime.NumGoroutine")
   |false=>false
  |none=>false
 |none=>false
theorem eP{f:FuncId}(h:mX f=true):eD Tryz.prog cfg f:=by
 unfold mX at h;split at h
 .rename_i fn hf;split at h
  .rename_i c hc;split at h
   .rename_i hk;exact⟨fn,c,hf,hc,hk,by simpa using h⟩
   .cases h
  .cases h
 .cases h
def PV(p:Nat→Bool):Nat→Nat→Bool
 |_,0=>true
 |a,n+1=>match p a with
  |true=>PV p (a+1) n
  |false=>false
theorem Fv{p:Nat→Bool}{n:Nat}: ∀{a f:Nat},PV p a n=true→a≤f→f<a+n→p f=true:=by
 induction n with
 |zero=>intro a f _ h1 h2;omega
 |succ n ih=>
  intro a f h h1 h2;unfold PV at h;split at h
  .rename_i hk;by_cases e:f=a
   .rw[e];exact hk
   .exact ih h (by omega) (by omega)
  .cases h
theorem r6:PV mX 2 40=true:=by kernel_rfl
theorem qX:PV mX 42 40=true:=by kernel_rfl
theorem qn:PV mX 82 40=true:=by kernel_rfl
theorem nJ:PV mX 122 40=true:=by kernel_rfl
theorem pH:PV mX 162 59=true:=by kernel_rfl
theorem oh:PV mX 236 5=true:=by kernel_rfl
theorem kZ(f:FuncId)(h:cfg.good f=true):eD Tryz.prog cfg f:=by
 apply eP;simp only[cfg]at h;split at h
 .rename_i h1;split at h
  .rename_i h2;have:=Nat.le_of_ble_eq_true h1;have:=Nat.le_of_ble_eq_true h2;rcases Nat.lt_or_ge f 42 with c2|c2
   .exact Fv r6 (by omega) (by omega)
   rcases Nat.lt_or_ge f 82 with c42|c42
   .exact Fv qX (by omega) (by omega)
   rcases Nat.lt_or_ge f 122 with c82|c82
   .exact Fv qn (by omega) (by omega)
   rcases Nat.lt_or_ge f 162 with c122|c122
   .exact Fv nJ (by omega) (by omega)
   exact Fv pH (by omega) (by omega)
  .simp only[Bool.and_eq_true]at h;have:=Nat.le_of_ble_eq_true h.1;have:=Nat.le_of_ble_eq_true h.2;exact Fv oh (by omega) (by omega)
 .cases h
theorem lu(t:TypeId)(m:String)(f:FuncId)(h:cfg.meth t m=some f)(v:Value)(w:World):(method (Tryz.prog.types.size+Made.depth) t v m).run Tryz.prog w=.ok (f,v) w:=by
 simp only[cfg]at h;split at h
 .rename_i hm;subst hm;simp only[PO]at h;split at h
  .rename_i ht;cases h;obtain rfl:=(Nat.eq_of_beq_eq_true ht).symm
   kernel_rfl
  split at h
  .rename_i ht;cases h;obtain rfl:=(Nat.eq_of_beq_eq_true ht).symm
   kernel_rfl
  split at h
  .rename_i ht;cases h;obtain rfl:=(Nat.eq_of_beq_eq_true ht).symm
   kernel_rfl
  split at h
  .rename_i ht;cases h;obtain rfl:=(Nat.eq_of_beq_eq_true ht).symm
   kernel_rfl
  split at h
  .rename_i ht;cases h;obtain rfl:=(Nat.eq_of_beq_eq_true ht).symm
   kernel_rfl
  cases h
 .cases h
theorem ov:TG Tryz.prog [69] cfg where
 cfg:=⟨by simp only[cfg],lu⟩
 mixed:=by kernel_rfl
 caught f t h:=by
  simp only[cfg,PO]at h;split at h
  .rename_i hf;cases h;obtain rfl:=(Nat.eq_of_beq_eq_true hf).symm;exact Vw
  .split at h
   .rename_i hf;cases h;obtain rfl:=(Nat.eq_of_beq_eq_true hf).symm;exact Ss
   .cases h
theorem ZM:CJ Tryz.prog (D1 Tryz.prog cfg) (KL Tryz.prog cfg):=br ov kZ
end Go.Proofs
