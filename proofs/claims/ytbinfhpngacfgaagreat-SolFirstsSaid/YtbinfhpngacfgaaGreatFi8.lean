/-
  Parts of it.
-/
import Derived.Test.YtbinfhpngacfgaaGreatProg
import Derived.WalkKit
import Derived.Laws.Pointers
import Derived.TacticsInMore
import Derived.RecoverIn
import Derived.KernelRfl
import Derived.Test.YtbinfhpngacfgaaGreatFi6
import Derived.Test.YtbinfhpngacfgaaGreatFi7
set_option linter.all false
namespace Go.Proofs
open Go Go.Abs
theorem ta(k:IntKind)(n:Int)(w:World):(Instr.typeAssert (.iface 177 (.agg #[.int k n])) 20 177 true).run Tryz.prog w=.ok (.tuple #[.agg #[.int k n],.bool true]) w:=by kernel_rfl
theorem al(w:World):(Instr.alloc 177 true (.tuple #[])).run Tryz.prog w=.ok (.pointer (some ⟨w.heap.size,0,none⟩)) (World.add w (.cells #[.int .i64 0] 177)):=by kernel_rfl
theorem fa(w:World)(b:Nat):(Instr.fieldAt 177 (.pointer (some ⟨b,0,none⟩)) 0).run Tryz.prog w=.ok (.pointer (some ⟨b,0,none⟩)) w:=by kernel_rfl
set_option maxRecDepth 10000 in
set_option maxHeartbeats 400000 in
theorem VE(w:World)(b off:Nat)(k:IntKind)(n:Int)(x:Value)(hc:w.cell? ⟨b,off,none⟩=some x)(hz:w.frozen? ⟨b,off,none⟩=false)(hlt:b<w.heap.size):
 CallsDIn Fence.wide 0 Tryz.prog 50 #[.pointer (some ⟨b,off,none⟩)] (.panicking [{v:=.iface 177 (.agg #[.int k n]),recovered:=false}]) w fun e u' w'=>
  e=.returned (.tuple #[])∧u'=.panicking [{v:=.iface 177 (.agg #[.int k n]),recovered:=true}]∧w'=(w.alloc (.cells #[.int k n] 177)).setCell ⟨b,off,none⟩ (.int k n):=by
 refine callsDIn_of_wpSIn Tryz.func50 rfl trivial fun c₀ cs hu=>?_;apply wpSIn_seq;apply wpSIn_region;simp[wpOpsSIn,go_sem,recoverD,hu,Tryz.ntmps50,Exit.thenS];clear hu;refine wpSIn_of_wpIn rfl ?_;refine wpIn_seq (wpIn_region ?_);simp[wpOpsIn,go_sem,Oper.wpIn,Exit.then];refine wpIn_cond (t:=true) (by simp[Act.eval,Array.replicate]) ?_;simp only[F3];refine wpIn_seq (wpIn_region ?_);simp[wpOpsIn,Oper.wpIn,go_sem,Exit.then,ta];refine wpIn_seq (wpIn_seq (wpIn_region ?_));simp[wpOpsIn,Oper.wpIn,go_sem,Exit.then];refine wpIn_cond (t:=false) (by simp[Act.eval,Array.replicate]) ?_;simp only[AM,D8];refine wpIn_skip (wpIn_region ?_);have hne:w.heap.size≠b:=by omega
 simp[wpOpsIn,Oper.wpIn,go_sem,hc,hz,hlt];simp[bodyPostS,results,Tryz.results50]
theorem TP(w:World)(ad:Addr):CallsDIn Fence.wide 0 Tryz.prog 50 #[.pointer (some ad)] .returning w fun e u' w'=>
 e=.returned (.tuple #[])∧u'=.returning∧w'=w:=by
 refine callsDIn_of_wpSIn Tryz.func50 rfl trivial fun c₀ cs hu=>?_;apply wpSIn_seq;apply wpSIn_region;simp[wpOpsSIn,go_sem,recoverD,hu,Tryz.ntmps50,Exit.thenS];apply wpSIn_seq;apply wpSIn_region;simp[wpOpsSIn,go_sem,Exit.thenS];refine wpSIn_cond (t:=false) (by simp[Act.eval,Array.replicate]) ?_;simp only[AM,D8];refine wpSIn_of_wpIn rfl (wpIn_skip ?_);cases c₀;simp_all [bodyPostS,results,Tryz.results50]
theorem Ym:LD Tryz.prog 50 177 where
 enters:=⟨_,_,Tryz.func50,rfl,by kernel_rfl⟩
 quiet w ad:=(TP w ad).mono fun e u' w' ⟨h1,h2,h3⟩=>by
  subst h1 h2 h3;exact⟨⟨_,rfl⟩,rfl,El _,fun _ _=>rfl,rfl,rfl⟩
 loud w b off k n c elem hb ho:=(VE w b off k n c[off] (by rw[LJ hb];exact Dl ho) (by simp[World.frozen?,hb]) (AL hb)).mono fun e u' w' ⟨h1,h2,h3⟩=>by
  subst h1 h2 h3;have al:w.alloc (.cells #[.int k n] 177)=World.add w (.cells #[.int k n] 177):=rfl;rw[al];have hb':(World.add w (.cells #[.int k n] 177)).heap[b]? =some (.cells c elem (0,0)):=by
   show(w.heap.push _)[b]? =_;rw[Mk,D3 (Nat.ne_of_lt (AL hb)),hb]
  rw[K4 hb'];refine⟨⟨_,rfl⟩,rfl,by simp[World.f9,World.add],fun b' hb1=>?_,rfl,rfl⟩;have e:c.setIfInBounds off (.int k n)=E1 c off [.int k n]:=by
   apply OF;intro i;rw[EF (by simp only[IF];omega)];simp only[Is,IF];by_cases h1:off=i
   .subst h1;simp[ho]
   .rw[D3 h1];by_cases h2:i<off
    .simp[h2]
    .rw[D3 (by omega),D3 (by omega)]
  rw[e];by_cases h:b=b'
  .subst h;simp[World.f9,World.add,AL hb,Nat.lt_succ_of_lt (AL hb)]
  .show((w.heap.push _).setIfInBounds b _)[b']? =(w.heap.setIfInBounds b _)[b']?;rw[II h,II h,Mk,D3 (Nat.ne_of_lt hb1)]
theorem ta2(k:IntKind)(n:Int)(w:World):(Instr.typeAssert (.iface 289 (.agg #[.int k n])) 20 289 true).run Tryz.prog w=.ok (.tuple #[.agg #[.int k n],.bool true]) w:=by kernel_rfl
set_option maxRecDepth 10000 in
set_option maxHeartbeats 400000 in
theorem TN(w:World)(b off:Nat)(k:IntKind)(n:Int)(x:Value)(hc:w.cell? ⟨b,off,none⟩=some x)(hz:w.frozen? ⟨b,off,none⟩=false)(hlt:b<w.heap.size):
 CallsDIn Fence.wide 0 Tryz.prog 189 #[.pointer (some ⟨b,off,none⟩)] (.panicking [{v:=.iface 289 (.agg #[.int k n]),recovered:=false}]) w fun e u' w'=>
  e=.returned (.tuple #[])∧u'=.panicking [{v:=.iface 289 (.agg #[.int k n]),recovered:=true}]∧w'=(w.alloc (.cells #[.int k n] 289)).setCell ⟨b,off,none⟩ (.int k n):=by
 refine callsDIn_of_wpSIn Tryz.func189 rfl trivial fun c₀ cs hu=>?_;apply wpSIn_seq;apply wpSIn_region;simp[wpOpsSIn,go_sem,recoverD,hu,Tryz.ntmps189,Exit.thenS];clear hu;refine wpSIn_of_wpIn rfl ?_;refine wpIn_seq (wpIn_region ?_);simp[wpOpsIn,go_sem,Oper.wpIn,Exit.then];refine wpIn_cond (t:=true) (by simp[Act.eval,Array.replicate]) ?_;simp only[F3];refine wpIn_seq (wpIn_region ?_);simp[wpOpsIn,Oper.wpIn,go_sem,Exit.then,ta2];refine wpIn_seq (wpIn_seq (wpIn_region ?_));simp[wpOpsIn,Oper.wpIn,go_sem,Exit.then];refine wpIn_cond (t:=false) (by simp[Act.eval,Array.replicate]) ?_;simp only[AM,D8];refine wpIn_skip (wpIn_region ?_);have hne:w.heap.size≠b:=by omega
 simp[wpOpsIn,Oper.wpIn,go_sem,hc,hz,hlt];simp[bodyPostS,results,Tryz.results189]
theorem RZ(w:World)(ad:Addr):CallsDIn Fence.wide 0 Tryz.prog 189 #[.pointer (some ad)] .returning w fun e u' w'=>
 e=.returned (.tuple #[])∧u'=.returning∧w'=w:=by
 refine callsDIn_of_wpSIn Tryz.func189 rfl trivial fun c₀ cs hu=>?_;apply wpSIn_seq;apply wpSIn_region;simp[wpOpsSIn,go_sem,recoverD,hu,Tryz.ntmps189,Exit.thenS];apply wpSIn_seq;apply wpSIn_region;simp[wpOpsSIn,go_sem,Exit.thenS];refine wpSIn_cond (t:=false) (by simp[Act.eval,Array.replicate]) ?_;simp only[AM,D8];refine wpSIn_of_wpIn rfl (wpIn_skip ?_);cases c₀;simp_all [bodyPostS,results,Tryz.results189]
theorem VF:LD Tryz.prog 189 289 where
 enters:=⟨_,_,Tryz.func189,rfl,by kernel_rfl⟩
 quiet w ad:=(RZ w ad).mono fun e u' w' ⟨h1,h2,h3⟩=>by
  subst h1 h2 h3;exact⟨⟨_,rfl⟩,rfl,El _,fun _ _=>rfl,rfl,rfl⟩
 loud w b off k n c elem hb ho:=(TN w b off k n c[off] (by rw[LJ hb];exact Dl ho) (by simp[World.frozen?,hb]) (AL hb)).mono fun e u' w' ⟨h1,h2,h3⟩=>by
  subst h1 h2 h3;have al:w.alloc (.cells #[.int k n] 289)=World.add w (.cells #[.int k n] 289):=rfl;rw[al];have hb':(World.add w (.cells #[.int k n] 289)).heap[b]? =some (.cells c elem (0,0)):=by
   show(w.heap.push _)[b]? =_;rw[Mk,D3 (Nat.ne_of_lt (AL hb)),hb]
  rw[K4 hb'];refine⟨⟨_,rfl⟩,rfl,by simp[World.f9,World.add],fun b' hb1=>?_,rfl,rfl⟩;have e:c.setIfInBounds off (.int k n)=E1 c off [.int k n]:=by
   apply OF;intro i;rw[EF (by simp only[IF];omega)];simp only[Is,IF];by_cases h1:off=i
   .subst h1;simp[ho]
   .rw[D3 h1];by_cases h2:i<off
    .simp[h2]
    .rw[D3 (by omega),D3 (by omega)]
  rw[e];by_cases h:b=b'
  .subst h;simp[World.f9,World.add,AL hb,Nat.lt_succ_of_lt (AL hb)]
  .show((w.heap.push _).setIfInBounds b _)[b']? =(w.heap.setIfInBounds b _)[b']?;rw[II h,II h,Mk,D3 (Nat.ne_of_lt hb1)]
end Go.Proofs
