/- P -/
import Derived.KernelRfl
import Derived.Test.YtbinfhpngacfgaaGreatOn9
set_option linter.all false
open Go renaming FuncId->IY
namespace Go
def zCf{p:Prop}(h:p:=by omega):p:=h
end Go
namespace Go.Proofs
open Abs Tryz
noncomputable def YI(f:IY):Bool:=match prog.funcs[f]? with
 |some fn=>match fn.body with
  |some c=>match Dt cfg f fn.ntmps c with|true=> !(fn.name== "runtime.NumGoroutine")|false=>false
  |none=>false
 |none=>false
def AGp{b:IY}(a:YI b=true):ku prog cfg b:=by
 unfold YI at a;split at a
 .rename_i fn f;split at a
  .rename_i c e;split at a
   .rename_i g;exact⟨fn,c,f,e,g,by simpa using a⟩
   .cases a
  .cases a
 .cases a
def eV(p:Nat->Bool):Nat->Nat->Bool
 |_,0=>true|a,n+1=>match p a with|true=>eV p (a+1) n|false=>false
def LO{f:Nat->Bool}{e:Nat}:∀{a b:Nat},eV f a e=true->a<=b->b<a+e->f b=true:=by
 induction e with
 |zero=>intro a b _ h i;omega
 |succ e k=>
  intro a b c h i;unfold eV at c;split at c
  .rename_i j;by_cases g:b=a
   .rw[g];exact j
   .exact k c zCf zCf
  .cases c
def AQj:eV YI 2 40=true:=zCG
def AOO:eV YI 42 40=true:=zCG
def AOP:eV YI 82 40=true:=zCG
def AMM:eV YI 122 40=true:=zCG
def AMN:eV YI 162 59=true:=zCG
def AMO:eV YI 236 5=true:=zCG
def AJ0(b:IY)(a:cfg.rg b=true):ku prog cfg b:=by
 apply AGp;simp only[cfg]at a;split at a
 .rename_i h;split at a
  .rename_i i;have:=GS h;have:=GS i;rcases Nat.lt_or_ge b 42 with e|e
   .exact LO AQj zCf zCf
   rcases Nat.lt_or_ge b 82 with f|f
   .exact LO AOO zCf zCf
   rcases Nat.lt_or_ge b 122 with g|g
   .exact LO AOP zCf zCf
   rcases Nat.lt_or_ge b 162 with c|c
   .exact LO AMM zCf zCf
   exact LO AMN zCf zCf
  .simp only[As]at a;have:=GS a.1;have:=GS a.2;exact LO AMO zCf zCf
 .cases a
def AMX:iv prog [69,112,283,36,258] cfg where
 cfg:=⟨by simp only[cfg],xr⟩
 mixed:=zCG
 caught f t h:=by
  simp only[cfg,cM]at h;split at h
  .rename_i hf;cases h;obtain rfl:=(D5 hf).symm;exact rn
  .split at h
   .rename_i hf;cases h;obtain rfl:=(D5 hf).symm;exact jq
   .cases h
 spec f id s h:=by
  simp only[cfg]at h;split at h
  .rename_i hc;cases h;obtain⟨rfl,rfl⟩:=hc;exact AEP
  .split at h
   .rename_i hc;cases h;obtain⟨rfl,rfl⟩:=hc;exact AJm
   .cases h
def ACf:EI prog (Gp prog cfg) (KL prog cfg):=ADF AMX AJ0
