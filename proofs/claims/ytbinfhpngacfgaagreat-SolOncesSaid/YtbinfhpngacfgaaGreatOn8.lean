/- P -/
import Derived.Test.YtbinfhpngacfgaaGreatProg
import Derived.WalkKit
import Derived.Laws.Pointers
import Derived.TacticsInMore
import Derived.RecoverIn
import Derived.KernelRfl
import Derived.Test.YtbinfhpngacfgaaGreatOn7
set_option linter.all false
open Go renaming World->G2
open Option renaming some->J,none->I
open Bool renaming true->X,false->Z
namespace Go
def zCG{p:Prop}(h:p:=by kernel_rfl):p:=h
def zCR{p:Prop}(h:p:=by simp[Act.eval,Array.replicate]):p:=h
end Go
namespace Go
def zAK{p:Prop}(h:p:=by
 rw[QP hb'];refine⟨⟨_,rfl⟩,rfl,by simp[World.nl,World.add],λb' hb1=>?_,rfl,rfl⟩;have e:c.setIfInBounds off (.int k n)=G6 c off [.int k n]:=by
  apply OK;intro i;rw[GP (by simp only[I3];omega)];simp only[I4,I3];by_cases h1:off=i
  .subst h1;simp[ho]
  .rw[Co h1];by_cases h2:i<off
   .simp[h2]
   .rw[Co z,Co z]
 rw[e];by_cases h:b=b'
 .subst h;simp[World.nl,World.add,BZ hb,Nat.lt_succ_of_lt (BZ hb)]
 .show((w.heap.push _).setIfInBounds b _)[b']?=(w.heap.setIfInBounds b _)[b']?;rw[Ii h,Ii h,Rs,Co (Nat.ne_of_lt hb1)]):p:=h
end Go
namespace Go.Proofs
open Abs Tryz
def ta(k:IntKind)(n:Int)(w:G2):(Instr.typeAssert (.iface 177 (.agg #[.int k n])) 20 177 X).run prog w=.ok (.tuple #[.agg #[.int k n],.bool X]) w:=zCG
def al(w:G2):(Instr.alloc 177 X (.tuple #[])).run prog w=.ok (.pointer (J ⟨w.heap.size,0,I⟩)) (World.add w (.cells #[.int .i64 0] 177)):=zCG
def fa(w:G2)(b:Nat):(Instr.fieldAt 177 (.pointer (J ⟨b,0,I⟩)) 0).run prog w=.ok (.pointer (J ⟨b,0,I⟩)) w:=zCG
set_option maxRecDepth 10000 in
set_option maxHeartbeats 400000 in
theorem jo(w:G2)(b off:Nat)(k:IntKind)(n:Int)(x:Value)(hc:w.cell? ⟨b,off,I⟩=J x)(hz:w.frozen? ⟨b,off,I⟩=Z)(hlt:b<w.heap.size):
 CallsDIn Fence.wide 0 prog 50 #[.pointer (J ⟨b,off,I⟩)] (.panicking [{v:=.iface 177 (.agg #[.int k n]),recovered:=Z}]) w λe u' w'=>e=.returned (.tuple #[])/\u'=.panicking [{v:=.iface 177 (.agg #[.int k n]),recovered:=X}]/\w'=(w.alloc (.cells #[.int k n] 177)).setCell ⟨b,off,I⟩ (.int k n):=by
 refine callsDIn_of_wpSIn func50 rfl trivial λc₀ cs hu=>?_;apply wpSIn_seq;apply wpSIn_region;simp[wpOpsSIn,go_sem,recoverD,hu,Tryz.ntmps50,Exit.thenS];clear hu;refine wpSIn_of_wpIn rfl (wpIn_seq (wpIn_region ?_));simp[wpOpsIn,go_sem,Oper.wpIn,Exit.then];refine wpIn_cond (t:=X) zCR ?_;simp only[IS];refine wpIn_seq (wpIn_region ?_);simp[wpOpsIn,Oper.wpIn,go_sem,Exit.then,ta];refine wpIn_seq (wpIn_seq (wpIn_region ?_));simp[wpOpsIn,Oper.wpIn,go_sem,Exit.then];refine wpIn_cond (t:=Z) zCR ?_;simp only[AM,Ge];refine wpIn_skip (wpIn_region ?_);have hne:w.heap.size≠b:=z;simp[wpOpsIn,Oper.wpIn,go_sem,hc,hz,hlt];simp[bodyPostS,results,Tryz.results50]
theorem eo(a:G2)(b:Addr):CallsDIn Fence.wide 0 prog 50 #[.pointer (J b)] .returning a λe g h=>
 e=.returned (.tuple #[])/\g=.returning/\h=a:=by
 refine callsDIn_of_wpSIn func50 rfl trivial λc i f=>?_;apply wpSIn_seq;apply wpSIn_region;simp[wpOpsSIn,go_sem,recoverD,f,Tryz.ntmps50,Exit.thenS];apply wpSIn_seq;apply wpSIn_region;simp[wpOpsSIn,go_sem,Exit.thenS];refine wpSIn_cond (t:=Z) zCR ?_;simp only[AM,Ge];refine wpSIn_of_wpIn rfl (wpIn_skip ?_);cases c;simp_all [bodyPostS,results,Tryz.results50]
def rn:Qh prog 50 177 where
 enters:=⟨_,_,func50,rfl,by kernel_rfl⟩
 quiet w ad:=(eo w ad).mono λe u' w' ⟨h1,h2,h3⟩=>by subst h1 h2 h3;exact⟨⟨_,rfl⟩,rfl,D2 _,λ_ _=>rfl,rfl,rfl⟩
 loud w b off k n c elem hb ho:=(jo w b off k n c[off] (by rw[Qn hb];exact D9 ho) zC7 (BZ hb)).mono λe u' w' ⟨h1,h2,h3⟩=>by
  subst h1 h2 h3;have al:w.alloc (.cells #[.int k n] 177)=World.add w (.cells #[.int k n] 177):=rfl;rw[al];have hb':(World.add w (.cells #[.int k n] 177)).heap[b]?=J (.cells c elem (0,0)):=by show(w.heap.push _)[b]?=_;rw[Rs,Co (Nat.ne_of_lt (BZ hb)),hb]
  exact zAK
def ta2(k:IntKind)(n:Int)(w:G2):(Instr.typeAssert (.iface 289 (.agg #[.int k n])) 20 289 X).run prog w=.ok (.tuple #[.agg #[.int k n],.bool X]) w:=zCG
set_option maxRecDepth 10000 in
set_option maxHeartbeats 400000 in
theorem ei(w:G2)(b off:Nat)(k:IntKind)(n:Int)(x:Value)(hc:w.cell? ⟨b,off,I⟩=J x)(hz:w.frozen? ⟨b,off,I⟩=Z)(hlt:b<w.heap.size):
 CallsDIn Fence.wide 0 prog 189 #[.pointer (J ⟨b,off,I⟩)] (.panicking [{v:=.iface 289 (.agg #[.int k n]),recovered:=Z}]) w λe u' w'=>e=.returned (.tuple #[])/\u'=.panicking [{v:=.iface 289 (.agg #[.int k n]),recovered:=X}]/\w'=(w.alloc (.cells #[.int k n] 289)).setCell ⟨b,off,I⟩ (.int k n):=by
 refine callsDIn_of_wpSIn func189 rfl trivial λc₀ cs hu=>?_;apply wpSIn_seq;apply wpSIn_region;simp[wpOpsSIn,go_sem,recoverD,hu,Tryz.ntmps189,Exit.thenS];clear hu;refine wpSIn_of_wpIn rfl (wpIn_seq (wpIn_region ?_));simp[wpOpsIn,go_sem,Oper.wpIn,Exit.then];refine wpIn_cond (t:=X) zCR ?_;simp only[IS];refine wpIn_seq (wpIn_region ?_);simp[wpOpsIn,Oper.wpIn,go_sem,Exit.then,ta2];refine wpIn_seq (wpIn_seq (wpIn_region ?_));simp[wpOpsIn,Oper.wpIn,go_sem,Exit.then];refine wpIn_cond (t:=Z) zCR ?_;simp only[AM,Ge];refine wpIn_skip (wpIn_region ?_);have hne:w.heap.size≠b:=z;simp[wpOpsIn,Oper.wpIn,go_sem,hc,hz,hlt];simp[bodyPostS,results,Tryz.results189]
theorem Z4(a:G2)(b:Addr):CallsDIn Fence.wide 0 prog 189 #[.pointer (J b)] .returning a λe g h=>
 e=.returned (.tuple #[])/\g=.returning/\h=a:=by
 refine callsDIn_of_wpSIn func189 rfl trivial λc i f=>?_;apply wpSIn_seq;apply wpSIn_region;simp[wpOpsSIn,go_sem,recoverD,f,Tryz.ntmps189,Exit.thenS];apply wpSIn_seq;apply wpSIn_region;simp[wpOpsSIn,go_sem,Exit.thenS];refine wpSIn_cond (t:=Z) zCR ?_;simp only[AM,Ge];refine wpSIn_of_wpIn rfl (wpIn_skip ?_);cases c;simp_all [bodyPostS,results,Tryz.results189]
def jq:Qh prog 189 289 where
 enters:=⟨_,_,func189,rfl,by kernel_rfl⟩
 quiet w ad:=(Z4 w ad).mono λe u' w' ⟨h1,h2,h3⟩=>by subst h1 h2 h3;exact⟨⟨_,rfl⟩,rfl,D2 _,λ_ _=>rfl,rfl,rfl⟩
 loud w b off k n c elem hb ho:=(ei w b off k n c[off] (by rw[Qn hb];exact D9 ho) zC7 (BZ hb)).mono λe u' w' ⟨h1,h2,h3⟩=>by
  subst h1 h2 h3;have al:w.alloc (.cells #[.int k n] 289)=World.add w (.cells #[.int k n] 289):=rfl;rw[al];have hb':(World.add w (.cells #[.int k n] 289)).heap[b]?=J (.cells c elem (0,0)):=by show(w.heap.push _)[b]?=_;rw[Rs,Co (Nat.ne_of_lt (BZ hb)),hb]
  exact zAK
