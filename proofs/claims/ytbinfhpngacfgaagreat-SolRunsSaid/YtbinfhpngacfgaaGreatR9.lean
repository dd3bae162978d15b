/- P -/
import Derived.KernelRfl
import Derived.Test.YtbinfhpngacfgaaGreatR8
set_option linter.all false
namespace Go
def zEw{p:Prop}(h:p:=by omega):p:=h
end Go
namespace Go
def zBq{p:Prop}(h:p:=by
 cases h;obtain rfl:=(D8 a).symm
 kernel_rfl):p:=h
end Go
namespace Go.Proofs
open Abs
noncomputable def AW(f:FuncId):Bool:=match Tryz.prog.funcs[f]? with
 |some fn=>match fn.body with
  |some c=>match Ey cfg f fn.ntmps c with
   |true=> !(fn.name== "runtime.NumGoroutine")
   |false=>false
  |none=>false
 |none=>false
def v7{f:FuncId}(h:AW f=true):rb Tryz.prog cfg f:=by
 unfold AW at h;split at h
 .rename_i fn b;split at h
  .rename_i c a;split at h
   .rename_i e;exact⟨fn,c,b,a,e,by simpa using h⟩
   .cases h
  .cases h
 .cases h
def YL(p:Nat->Bool):Nat->Nat->Bool
 |_,0=>true
 |a,n+1=>match p a with
  |true=>YL p (a+1) n
  |false=>false
def KM{p:Nat->Bool}{n:Nat}: ∀{a f:Nat},YL p a n=true->a<=f->f<a+n->p f=true:=by
 induction n with
 |zero=>intro a f _ b h2;omega
 |succ n g=>
  intro a f h b h2;unfold YL at h;split at h
  .rename_i c;by_cases e:f=a
   .rw[e];exact c
   .exact g h zEw zEw
  .cases h
def z0:YL AW 2 40=true:=zEW
def ADO:YL AW 42 40=true:=zEW
def u0:YL AW 82 40=true:=zEW
def k6:YL AW 122 40=true:=zEW
def uA:YL AW 162 59=true:=zEW
def iA:YL AW 236 5=true:=zEW
def zl(f:FuncId)(h:cfg.i9 f=true):rb Tryz.prog cfg f:=by
 apply v7;simp only[cfg]at h;split at h
 .rename_i g;split at h
  .rename_i h2;have:=Ge g;have:=Ge h2;rcases Nat.lt_or_ge f 42 with b|b
   .exact KM z0 zEw zEw
   rcases Nat.lt_or_ge f 82 with c|c
   .exact KM ADO zEw zEw
   rcases Nat.lt_or_ge f 122 with e|e
   .exact KM u0 zEw zEw
   rcases Nat.lt_or_ge f 162 with a|a
   .exact KM k6 zEw zEw
   exact KM uA zEw zEw
  .simp only[AP]at h;have:=Ge h.1;have:=Ge h.2;exact KM iA zEw zEw
 .cases h
def AAG(t:TypeId)(m:String)(f:FuncId)(h:cfg.meth t m=some f)(v:Value)(w:World):(method (Tryz.prog.types.size+Made.depth) t v m).run Tryz.prog w=.ok (f,v) w:=by
 simp only[cfg]at h;split at h
 .rename_i b;subst b;simp only[XW]at h;split at h
  .rename_i a;exact zBq
  split at h
  .rename_i a;exact zBq
  split at h
  .rename_i a;exact zBq
  split at h
  .rename_i a;exact zBq
  split at h
  .rename_i a;exact zBq
  cases h
 .cases h
def p3:Zb Tryz.prog [69] cfg where
 cfg:=⟨by simp only[cfg],AAG⟩
 mixed:=zEW
 rx f t h:=by
  simp only[cfg,XW]at h;split at h
  .rename_i a;cases h;obtain rfl:=(D8 a).symm;exact ep
  .split at h
   .rename_i a;cases h;obtain rfl:=(D8 a).symm;exact Z3
   .cases h
def qm:EC Tryz.prog (HO Tryz.prog cfg) (KL Tryz.prog cfg):=rh p3 zl
