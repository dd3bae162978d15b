/- P -/
import Derived.Test.YtbinfhpngacfgaaGreatProg
import Derived.WalkKit
import Derived.Laws.Pointers
import Derived.TacticsInMore
import Derived.RecoverIn
import Derived.KernelRfl
import Derived.Test.YtbinfhpngacfgaaGreatR7
set_option linter.all false
namespace Go
def zEW{p:Prop}(h:p:=by kernel_rfl):p:=h
def zEe{p:Prop}(h:p:=by simp[Act.eval,Array.replicate]):p:=h
end Go
namespace Go
def zAO{p:Prop}(h:p:=by
 rw[N4 f];refine⟨⟨_,rfl⟩,rfl,by simp[World.ip,World.add],fun b' g=>?_,rfl,rfl⟩;have e:c.setIfInBounds off (.int k n)=HN c off [.int k n]:=by
  apply PL;intro i;rw[GL (by simp only[I0];omega)];simp only[KW,I0];by_cases a:off=i
  .subst a;simp[ho]
  .rw[Ci a];by_cases h2:i<off
   .simp[h2]
   .rw[Ci AA,Ci AA]
 rw[e];by_cases h:b=b'
 .subst h;simp[World.ip,World.add,AK hb,Nat.lt_succ_of_lt (AK hb)]
 .show((w.heap.push _).setIfInBounds b _)[b']? =(w.heap.setIfInBounds b _)[b']?;rw[I1 h,I1 h,Of,Ci (Nat.ne_of_lt g)]):p:=h
def zDV{p:Prop}(h:p:=by subst a h2 h3;exact⟨⟨_,rfl⟩,rfl,Es _,fun _ _=>rfl,rfl,rfl⟩):p:=h
def zDp{p:Prop}(h:p:=by show(w.heap.push _)[b]? =_;rw[Of,Ci (Nat.ne_of_lt (AK hb)),hb]):p:=h
end Go
namespace Go.Proofs
open Abs
def ta(k:IntKind)(n:Int)(w:World):(Instr.typeAssert (.iface 177 (.agg #[.int k n])) 20 177 true).run Tryz.prog w=.ok (.tuple #[.agg #[.int k n],.bool true]) w:=zEW
def al(w:World):(Instr.alloc 177 true (.tuple #[])).run Tryz.prog w=.ok (.pointer (some ⟨w.heap.size,0,none⟩)) (World.add w (.cells #[.int .i64 0] 177)):=zEW
def fa(w:World)(b:Nat):(Instr.fieldAt 177 (.pointer (some ⟨b,0,none⟩)) 0).run Tryz.prog w=.ok (.pointer (some ⟨b,0,none⟩)) w:=zEW
set_option maxRecDepth 10000 in
set_option maxHeartbeats 400000 in
theorem Z2(w:World)(b off:Nat)(k:IntKind)(n:Int)(x:Value)(hc:w.cell? ⟨b,off,none⟩=some x)(hz:w.frozen? ⟨b,off,none⟩=false)(hlt:b<w.heap.size):
 CallsDIn Fence.wide 0 Tryz.prog 50 #[.pointer (some ⟨b,off,none⟩)] (.panicking [{v:=.iface 177 (.agg #[.int k n]),recovered:=false}]) w fun e u' w'=>
  e=.returned (.tuple #[])/\u'=.panicking [{v:=.iface 177 (.agg #[.int k n]),recovered:=true}]/\w'=(w.alloc (.cells #[.int k n] 177)).setCell ⟨b,off,none⟩ (.int k n):=by
 refine callsDIn_of_wpSIn Tryz.func50 rfl trivial fun c₀ cs hu=>?_;apply wpSIn_seq;apply wpSIn_region;simp[wpOpsSIn,go_sem,recoverD,hu,Tryz.ntmps50,Exit.thenS];clear hu;refine wpSIn_of_wpIn rfl ?_;refine wpIn_seq (wpIn_region ?_);simp[wpOpsIn,go_sem,Oper.wpIn,Exit.then];refine wpIn_cond (t:=true) zEe ?_;simp only[F6];refine wpIn_seq (wpIn_region ?_);simp[wpOpsIn,Oper.wpIn,go_sem,Exit.then,ta];refine wpIn_seq (wpIn_seq (wpIn_region ?_));simp[wpOpsIn,Oper.wpIn,go_sem,Exit.then];refine wpIn_cond (t:=false) zEe ?_;simp only[AM,FN];refine wpIn_skip (wpIn_region ?_);have hne:w.heap.size≠b:=AA;simp[wpOpsIn,Oper.wpIn,go_sem,hc,hz,hlt];simp[bodyPostS,results,Tryz.results50]
def YS(w:World)(a:Addr):CallsDIn Fence.wide 0 Tryz.prog 50 #[.pointer (some a)] .returning w fun e f w'=>
 e=.returned (.tuple #[])/\f=.returning/\w'=w:=by
 refine callsDIn_of_wpSIn Tryz.func50 rfl trivial fun b cs c=>?_;apply wpSIn_seq;apply wpSIn_region;simp[wpOpsSIn,go_sem,recoverD,c,Tryz.ntmps50,Exit.thenS];apply wpSIn_seq;apply wpSIn_region;simp[wpOpsSIn,go_sem,Exit.thenS];refine wpSIn_cond (t:=false) zEe ?_;simp only[AM,FN];refine wpSIn_of_wpIn rfl (wpIn_skip ?_);cases b;simp_all [bodyPostS,results,Tryz.results50]
def ep:OT Tryz.prog 50 177 where
 enters:=⟨_,_,Tryz.func50,rfl,by kernel_rfl⟩
 quiet w ad:=(YS w ad).mono fun e j w' ⟨a,h2,h3⟩=>by
  exact zDV
 loud w b off k n c elem hb ho:=(Z2 w b off k n c[off] (by rw[OX hb];exact Ex ho) zFT (AK hb)).mono fun e j w' ⟨a,h2,h3⟩=>by
  subst a h2 h3;have al:w.alloc (.cells #[.int k n] 177)=World.add w (.cells #[.int k n] 177):=rfl;rw[al];have f:(World.add w (.cells #[.int k n] 177)).heap[b]? =some (.cells c elem (0,0)):=by
   exact zDp
  exact zAO
def ta2(k:IntKind)(n:Int)(w:World):(Instr.typeAssert (.iface 289 (.agg #[.int k n])) 20 289 true).run Tryz.prog w=.ok (.tuple #[.agg #[.int k n],.bool true]) w:=zEW
set_option maxRecDepth 10000 in
set_option maxHeartbeats 400000 in
theorem YR(w:World)(b off:Nat)(k:IntKind)(n:Int)(x:Value)(hc:w.cell? ⟨b,off,none⟩=some x)(hz:w.frozen? ⟨b,off,none⟩=false)(hlt:b<w.heap.size):
 CallsDIn Fence.wide 0 Tryz.prog 189 #[.pointer (some ⟨b,off,none⟩)] (.panicking [{v:=.iface 289 (.agg #[.int k n]),recovered:=false}]) w fun e u' w'=>
  e=.returned (.tuple #[])/\u'=.panicking [{v:=.iface 289 (.agg #[.int k n]),recovered:=true}]/\w'=(w.alloc (.cells #[.int k n] 289)).setCell ⟨b,off,none⟩ (.int k n):=by
 refine callsDIn_of_wpSIn Tryz.func189 rfl trivial fun c₀ cs hu=>?_;apply wpSIn_seq;apply wpSIn_region;simp[wpOpsSIn,go_sem,recoverD,hu,Tryz.ntmps189,Exit.thenS];clear hu;refine wpSIn_of_wpIn rfl ?_;refine wpIn_seq (wpIn_region ?_);simp[wpOpsIn,go_sem,Oper.wpIn,Exit.then];refine wpIn_cond (t:=true) zEe ?_;simp only[F6];refine wpIn_seq (wpIn_region ?_);simp[wpOpsIn,Oper.wpIn,go_sem,Exit.then,ta2];refine wpIn_seq (wpIn_seq (wpIn_region ?_));simp[wpOpsIn,Oper.wpIn,go_sem,Exit.then];refine wpIn_cond (t:=false) zEe ?_;simp only[AM,FN];refine wpIn_skip (wpIn_region ?_);have hne:w.heap.size≠b:=AA;simp[wpOpsIn,Oper.wpIn,go_sem,hc,hz,hlt];simp[bodyPostS,results,Tryz.results189]
def Vz(w:World)(a:Addr):CallsDIn Fence.wide 0 Tryz.prog 189 #[.pointer (some a)] .returning w fun e f w'=>
 e=.returned (.tuple #[])/\f=.returning/\w'=w:=by
 refine callsDIn_of_wpSIn Tryz.func189 rfl trivial fun b cs c=>?_;apply wpSIn_seq;apply wpSIn_region;simp[wpOpsSIn,go_sem,recoverD,c,Tryz.ntmps189,Exit.thenS];apply wpSIn_seq;apply wpSIn_region;simp[wpOpsSIn,go_sem,Exit.thenS];refine wpSIn_cond (t:=false) zEe ?_;simp only[AM,FN];refine wpSIn_of_wpIn rfl (wpIn_skip ?_);cases b;simp_all [bodyPostS,results,Tryz.results189]
def Z3:OT Tryz.prog 189 289 where
 enters:=⟨_,_,Tryz.func189,rfl,by kernel_rfl⟩
 quiet w ad:=(Vz w ad).mono fun e j w' ⟨a,h2,h3⟩=>by
  exact zDV
 loud w b off k n c elem hb ho:=(YR w b off k n c[off] (by rw[OX hb];exact Ex ho) zFT (AK hb)).mono fun e j w' ⟨a,h2,h3⟩=>by
  subst a h2 h3;have al:w.alloc (.cells #[.int k n] 289)=World.add w (.cells #[.int k n] 289):=rfl;rw[al];have f:(World.add w (.cells #[.int k n] 289)).heap[b]? =some (.cells c elem (0,0)):=by
   exact zDp
  exact zAO
