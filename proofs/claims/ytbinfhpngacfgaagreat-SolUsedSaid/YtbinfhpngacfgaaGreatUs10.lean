/- P -/
import Derived.KernelRfl
import Derived.Test.YtbinfhpngacfgaaGreatUs9
set_option linter.all false
open Go renaming FuncId->KH
namespace Go
def zCm{p:Prop}(h:p:=by omega):p:=h
end Go
namespace Go.Proofs
open Abs Tryz
noncomputable def aA(f:KH):Bool:=match prog.funcs[f]? with
 |some fn=>match fn.body with
  |some c=>match Dm cfg f fn.ntmps c with|true=> !(fn.name== "runtime.NumGoroutine")|false=>false
  |none=>false
 |none=>false
def AGM{b:KH}(a:aA b=true):k7 prog cfg b:=by
 unfold aA at a;split at a
 .rename_i fn f;split at a
  .rename_i c e;split at a
   .rename_i g;exact⟨fn,c,f,e,g,by simpa using a⟩
   .cases a
  .cases a
 .cases a
def dt(p:Nat->Bool):Nat->Nat->Bool
 |_,0=>true|a,n+1=>match p a with|true=>dt p (a+1) n|false=>false
def LH{f:Nat->Bool}{e:Nat}:∀{a b:Nat},dt f a e=true->a<=b->b<a+e->f b=true:=by
 induction e with
 |zero=>intro a b _ h i;omega
 |succ e k=>
  intro a b c h i;unfold dt at c;split at c
  .rename_i j;by_cases g:b=a
   .rw[g];exact j
   .exact k c zCm zCm
  .cases c
def AQI:dt aA 2 40=true:=zCM
def ANu:dt aA 42 40=true:=zCM
def ANv:dt aA 82 40=true:=zCM
def ALu:dt aA 122 40=true:=zCM
def ALv:dt aA 162 59=true:=zCM
def ALw:dt aA 236 5=true:=zCM
def AJa(b:KH)(a:cfg.qr b=true):k7 prog cfg b:=by
 apply AGM;simp only[cfg]at a;split at a
 .rename_i h;split at a
  .rename_i i;have:=Gc h;have:=Gc i;rcases Nat.lt_or_ge b 42 with e|e
   .exact LH AQI zCm zCm
   rcases Nat.lt_or_ge b 82 with f|f
   .exact LH ANu zCm zCm
   rcases Nat.lt_or_ge b 122 with g|g
   .exact LH ANv zCm zCm
   rcases Nat.lt_or_ge b 162 with c|c
   .exact LH ALu zCm zCm
   exact LH ALv zCm zCm
  .simp only[As]at a;have:=Gc a.1;have:=Gc a.2;exact LH ALw zCm zCm
 .cases a
def AL5:gx prog [69,112,283,36,258] cfg where
 cfg:=⟨by simp only[cfg],xB⟩
 mixed:=zCM
 caught f t h:=by
  simp only[cfg,bm]at h;split at h
  .rename_i hf;cases h;obtain rfl:=(D5 hf).symm;exact qu
  .split at h
   .rename_i hf;cases h;obtain rfl:=(D5 hf).symm;exact jH
   .cases h
 spec f id s h:=by
  simp only[cfg]at h;split at h
  .rename_i hc;cases h;obtain⟨rfl,rfl⟩:=hc;exact ADx
  .split at h
   .rename_i hc;cases h;obtain⟨rfl,rfl⟩:=hc;exact AJM
   .cases h
def AB6:Dz prog (Gh prog cfg) (KL prog cfg):=ACj AL5 AJa
