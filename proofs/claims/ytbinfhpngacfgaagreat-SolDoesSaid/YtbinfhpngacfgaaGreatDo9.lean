/- Parts of it. -/
import Derived.KernelRfl
import Derived.Test.YtbinfhpngacfgaaGreatDo8
set_option linter.all false
namespace Go
theorem zEv{p:Prop}(h:p:=by omega):p:=h
end Go
namespace Go
theorem zBp{p:Prop}(h:p:=by
 cases h;obtain rfl:=(D8 a).symm
 kernel_rfl):p:=h
end Go
namespace Go.Proofs
open Go Go.Abs
noncomputable def AW(f:FuncId):Bool:=match Tryz.prog.funcs[f]? with
 |some fn=>match fn.body with
  |some c=>match Ee cfg f fn.ntmps c with
   |true=> !(fn.name== "runtime.NumGoroutine")
   |false=>false
  |none=>false
 |none=>false
theorem vD{f:FuncId}(h:AW f=true):qf Tryz.prog cfg f:=by
 unfold AW at h;split at h
 .rename_i fn b;split at h
  .rename_i c a;split at h
   .rename_i e;exact⟨fn,c,b,a,e,by simpa using h⟩
   .cases h
  .cases h
 .cases h
def Xv(p:Nat→Bool):Nat→Nat→Bool
 |_,0=>true
 |a,n+1=>match p a with
  |true=>Xv p (a+1) n
  |false=>false
theorem J0{p:Nat→Bool}{n:Nat}: ∀{a f:Nat},Xv p a n=true→a≤f→f<a+n→p f=true:=by
 induction n with
 |zero=>intro a f _ b h2;omega
 |succ n g=>
  intro a f h b h2;unfold Xv at h;split at h
  .rename_i c;by_cases e:f=a
   .rw[e];exact c
   .exact g h zEv zEv
  .cases h
theorem AEa:Xv AW 2 40=true:=zET
theorem m5:Xv AW 42 40=true:=zET
theorem uA:Xv AW 82 40=true:=zET
theorem m8:Xv AW 122 40=true:=zET
theorem AA3:Xv AW 162 59=true:=zET
theorem AA4:Xv AW 236 5=true:=zET
theorem yz(f:FuncId)(h:cfg.i9 f=true):qf Tryz.prog cfg f:=by
 apply vD;simp only[cfg]at h;split at h
 .rename_i g;split at h
  .rename_i h2;have:=Ge g;have:=Ge h2;rcases Nat.lt_or_ge f 42 with b|b
   .exact J0 AEa zEv zEv
   rcases Nat.lt_or_ge f 82 with c|c
   .exact J0 m5 zEv zEv
   rcases Nat.lt_or_ge f 122 with e|e
   .exact J0 uA zEv zEv
   rcases Nat.lt_or_ge f 162 with a|a
   .exact J0 m8 zEv zEv
   exact J0 AA3 zEv zEv
  .simp only[AP]at h;have:=Ge h.1;have:=Ge h.2;exact J0 AA4 zEv zEv
 .cases h
theorem zS(t:TypeId)(m:String)(f:FuncId)(h:cfg.meth t m=some f)(v:Value)(w:World):(method (Tryz.prog.types.size+Made.depth) t v m).run Tryz.prog w=.ok (f,v) w:=by
 simp only[cfg]at h;split at h
 .rename_i b;subst b;simp only[W1]at h;split at h
  .rename_i a;exact zBp
  split at h
  .rename_i a;exact zBp
  split at h
  .rename_i a;exact zBp
  split at h
  .rename_i a;exact zBp
  split at h
  .rename_i a;exact zBp
  cases h
 .cases h
theorem w7:ZB Tryz.prog [69] cfg where
 cfg:=⟨by simp only[cfg],zS⟩
 mixed:=zET
 un f t h:=by
  simp only[cfg,W1]at h;split at h
  .rename_i a;cases h;obtain rfl:=(D8 a).symm;exact eB
  .split at h
   .rename_i a;cases h;obtain rfl:=(D8 a).symm;exact Zf
   .cases h
theorem qB:Dv Tryz.prog (G2 Tryz.prog cfg) (KL Tryz.prog cfg):=qi w7 yz
end Go.Proofs
