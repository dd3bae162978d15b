/-
  Parts: SolArgs SolArgs2 SolLaw1.
-/
import Derived.Test.YtbinfhpngacfgaaGreatCo10
import Derived.Test.YtbinfhpngacfgaaGreatCo12
import Derived.Test.YtbinfhpngacfgaaGreatCo14
import Derived.Test.YtbinfhpngacfgaaGreatCo15
set_option linter.all false
set_option linter.unusedSimpArgs false
set_option linter.unusedVariables false
namespace Go.Proofs
open Go Go.Abs
set_option maxRecDepth 100000
def FY{α:Type}(ss:List Sh)(enc:α→List AN)(ok:α→Prop):Prop:= ∀xs,Hb Tryz.prog 8 ss xs→ ∃a,xs=enc a∧ok a
theorem B0{k:IntKind}{d:AN}(h:TU Tryz.prog 8 (.int k) d): ∃m,d=.int k m:=by cases h;exact⟨_,rfl⟩
theorem cA{d:AN}(h:TU Tryz.prog 8 .bool d): ∃m,d=.bool m:=by cases h;exact⟨_,rfl⟩
theorem CG{α:Type}{enc:α→List AN}{ok:α→Prop}{t:TypeId}{ss:List Sh}{d:AN}(h:TU Tryz.prog 8 (.lst t) d)(hs:BS Tryz.prog 8 t=some ss)(hr:FY ss enc ok): ∃l:List α,d=.lst (l.map enc)∧l.length≤maxLen∧ ∀a∈l,ok a:=by
 cases h with
 |lst _ ss' es h1 h2 h3 h4=>
  rw[hs]at h1;cases h1;have key: ∀es:List (List AN),(∀e∈es,Hb Tryz.prog 8 ss e)→ ∃l:List α,es=l.map enc∧ ∀a∈l,ok a:=by
   intro es;induction es with
   |nil=>intro _;exact⟨[],rfl,by simp⟩
   |cons e es ih=>
    intro hk;obtain⟨a,rfl,ha⟩:=hr e (hk e (by simp));obtain⟨l,rfl,hl⟩:=ih fun e he=>hk e (by simp[he]);exact⟨a::l,rfl,fun b hb=>by rcases List.mem_cons.1 hb with rfl|hb;exact ha;exact hl b hb⟩
  obtain⟨l,rfl,hl⟩:=key es fun e he=>⟨h3 e he,h4 e he⟩;exact⟨l,rfl,by simpa using h2,hl⟩
theorem JQ{s:Sh}{xs:List AN}(h:Hb Tryz.prog 8 [s] xs): ∃a,xs=[a]∧TU Tryz.prog 8 s a:=by
 obtain⟨h1,h2⟩:=h;rcases xs with _|⟨a,_|⟨b,l⟩⟩<;>simp at h1;exact⟨a,rfl,h2 0 _ _ rfl rfl⟩
theorem all_cons{s:Sh}{ss:List Sh}{xs:List AN}(h:Hb Tryz.prog 8 (s::ss) xs): ∃a l,xs=a::l∧TU Tryz.prog 8 s a∧Hb Tryz.prog 8 ss l:=by
 obtain⟨h1,h2⟩:=h;rcases xs with _|⟨a,l⟩
 .simp at h1
 .exact⟨a,l,rfl,h2 0 _ _ rfl rfl,by simpa using h1,fun i s x e1 e2=>h2 (i+1) s x (by simpa using e1) (by simpa using e2)⟩
theorem all_nil{xs:List AN}(h:Hb Tryz.prog 8 [] xs):xs=[]:=List.eq_nil_of_length_eq_zero (by simpa using h.1)
theorem o8:BS Tryz.prog 8 88=some [.int .i64,.int .i64]:=by kernel_rfl
theorem sf:BS Tryz.prog 8 85=some [.int .i64,.int .i64,.lst 85]:=by kernel_rfl
theorem LD:FY [.int .i64,.int .i64] Ac fun _=>True:=fun xs h=>by
 obtain⟨a,l,rfl,ha,h⟩:=all_cons h;obtain⟨b,rfl,hb⟩:=JQ h;obtain⟨k,rfl⟩:=B0 ha;obtain⟨n,rfl⟩:=B0 hb;exact⟨⟨k,n⟩,rfl,trivial⟩
theorem db{s:Sh}{d:AN}(h:TU Tryz.prog 8 s d):s=.lst 85→ ∃l:List BH,d=.lst (l.map B9):=by
 induction h with
 |lst t ss es h1 h2 h3 h4 ih=>
  intro e;cases e;rw[sf]at h1;cases h1;have key: ∀es:List (List AN),(∀e∈es,e.length=3)→(∀e∈es,∀(i:Nat) s x,[Sh.int .i64,.int .i64,.lst 85][i]? =some s→e[i]? =some x→TU Tryz.prog 8 s x)→(∀e∈es,∀(i:Nat) s x,[Sh.int .i64,.int .i64,.lst 85][i]? =some s→e[i]? =some x→s=.lst 85→ ∃l:List BH,x=.lst (l.map B9))→ ∃l:List BH,es=l.map B9:=by
   intro es;induction es with
   |nil=>intro _ _ _;exact⟨[],rfl⟩
   |cons e es ih2=>
    intro k1 k2 k3;obtain⟨l,rfl⟩:=ih2 (fun e he=>k1 e (by simp[he])) (fun e he=>k2 e (by simp[he])) fun e he=>k3 e (by simp[he]);have l3:=k1 e (by simp);rcases e with _|⟨a,_|⟨b,_|⟨c,_|⟨d,m⟩⟩⟩⟩<;>simp at l3;have q0:=k2 [a,b,c] (List.mem_cons_self ..) 0 _ _ rfl rfl;have q1:=k2 [a,b,c] (List.mem_cons_self ..) 1 _ _ rfl rfl;have q2:=k3 [a,b,c] (List.mem_cons_self ..) 2 _ _ rfl rfl rfl;obtain⟨o,rfl⟩:=B0 q0;obtain⟨n,rfl⟩:=B0 q1;obtain⟨q,rfl⟩:=q2;exact⟨.mk o n q::l,by simp[Oj,BH.op,BH.n,BH.kids]⟩
  obtain⟨l,rfl⟩:=key es h3 h4 ih;exact⟨l,rfl⟩
 |_=>intro e;cases e
theorem LL{t:TypeId}{ts:List TypeId}{xs:List AV}{ss:List Sh}(h:Ms Tryz.prog 8 (t::ts) xs)(hs:BS Tryz.prog 8 t=some ss): ∃ds l,xs=Lr Tryz.prog t ds::l∧Hb Tryz.prog 8 ss ds∧Ms Tryz.prog 8 ts l:=by
 cases h with
 |cons h1 h2 h3=>
  rw[hs]at h1;cases h1;exact⟨_,_,rfl,h2,h3⟩
theorem bj{xs:List AV}(h:Ms Tryz.prog 8 [] xs):xs=[]:=by cases h;rfl
noncomputable def Jr(t:TypeId):Bool:=match Tryz.prog.underlying t with
 |some (.struct _)=>true
 |some (.array _ _)=>true
 |_=>false
theorem Wo{t:TypeId}{ds:List AN}(h:Jr t=true):Lr Tryz.prog t ds=.agg (ds.map .d):=by
 unfold Lr;unfold Jr at h;split<;>simp_all
theorem kN{t:TypeId}{d:AN}(h:Jr t=false):Lr Tryz.prog t [d]=.d d:=by
 unfold Lr;unfold Jr at h;split
 .simp_all
 .simp_all
 .rfl
@[go_sem] theorem py:Au (KL Tryz.prog cfg) 20 [] []=.ok (.ret (.d (.bool true)),[]):=by
  unfold Au;rw[fJ];rfl
end Go.Proofs
namespace Go.Proofs
open Go Go.Abs
set_option maxRecDepth 100000
theorem sU:BS Tryz.prog 8 3=some [.int .i64]:=by kernel_rfl
theorem tL:BS Tryz.prog 8 9=some [.str]:=by kernel_rfl
theorem qy:BS Tryz.prog 8 140=some [.int .i64,.int .i64,.lst 85,.lst 3]:=by kernel_rfl
theorem qo:BS Tryz.prog 8 147=some [.lst 187,.lst 189,.lst 151]:=by kernel_rfl
theorem qV:BS Tryz.prog 8 187=some [.int .i64,.int .i64]:=by kernel_rfl
theorem rE:BS Tryz.prog 8 189=some [.int .i64,.int .i64]:=by kernel_rfl
theorem rD:BS Tryz.prog 8 151=some [.int .i64,.lst 3,.int .i64]:=by kernel_rfl
theorem sL:BS Tryz.prog 8 66=some [.int .i64,.bool]:=by kernel_rfl
theorem qp:BS Tryz.prog 8 114=some [.int .i64,.int .i64,.lst 88]:=by kernel_rfl
theorem rn:BS Tryz.prog 8 69=some [.int .i64,.int .i64,.int .i64,.lst 73]:=by kernel_rfl
theorem sJ:BS Tryz.prog 8 73=some [.lst 88]:=by kernel_rfl
theorem qg:BS Tryz.prog 8 127=some [.int .i64,.int .i64,.lst 88]:=by kernel_rfl
theorem rx:BS Tryz.prog 8 26=some [.lst 9,.lst 140,.lst 147,.int .i64]:=by kernel_rfl
theorem sC:BS Tryz.prog 8 32=some [.lst 66,.lst 114,.lst 69,.lst 127]:=by kernel_rfl
theorem qK:Jr 26=true:=by kernel_rfl
theorem ql:Jr 32=true:=by kernel_rfl
theorem LH:FY [.int .i64] AG fun _=>True:=fun xs h=>by
 obtain⟨a,rfl,ha⟩:=JQ h;obtain⟨k,rfl⟩:=B0 ha;exact⟨k,rfl,trivial⟩
theorem eL{d:AN}(h:TU Tryz.prog 8 .str d): ∃m,d=.str m∧m.size≤maxLen:=by cases h;exact⟨_,rfl,by assumption⟩
theorem XV:FY [.str] AY fun s=>s.size≤maxLen:=fun xs h=>by
 obtain⟨a,rfl,ha⟩:=JQ h;obtain⟨k,rfl,hk⟩:=eL ha;exact⟨k,rfl,hk⟩
theorem UR:FY [.int .i64,.int .i64,.lst 85,.lst 3] AP fun _=>True:=fun xs h=>by
 obtain⟨a,l,rfl,ha,h⟩:=all_cons h;obtain⟨b,l,rfl,hb,h⟩:=all_cons h;obtain⟨c,l,rfl,hc,h⟩:=all_cons h;obtain⟨d,rfl,hd⟩:=JQ h;obtain⟨a,rfl⟩:=B0 ha;obtain⟨b,rfl⟩:=B0 hb;obtain⟨c,rfl⟩:=db hc rfl;obtain⟨d,rfl,_,_⟩:=CG hd sU LH;exact⟨⟨a,b,c,d⟩,rfl,trivial⟩
theorem Uo:FY [.int .i64,.int .i64] Av fun _=>True:=fun xs h=>by
 obtain⟨a,l,rfl,ha,h⟩:=all_cons h;obtain⟨b,rfl,hb⟩:=JQ h;obtain⟨a,rfl⟩:=B0 ha;obtain⟨b,rfl⟩:=B0 hb;exact⟨⟨a,b⟩,rfl,trivial⟩
theorem Rm:FY [.int .i64,.int .i64] Af fun _=>True:=fun xs h=>by
 obtain⟨a,l,rfl,ha,h⟩:=all_cons h;obtain⟨b,rfl,hb⟩:=JQ h;obtain⟨a,rfl⟩:=B0 ha;obtain⟨b,rfl⟩:=B0 hb;exact⟨⟨a,b⟩,rfl,trivial⟩
theorem Th:FY [.int .i64,.lst 3,.int .i64] Am fun _=>True:=fun xs h=>by
 obtain⟨a,l,rfl,ha,h⟩:=all_cons h;obtain⟨b,l,rfl,hb,h⟩:=all_cons h;obtain⟨c,rfl,hc⟩:=JQ h;obtain⟨a,rfl⟩:=B0 ha;obtain⟨b,rfl,_,_⟩:=CG hb sU LH;obtain⟨c,rfl⟩:=B0 hc;exact⟨⟨a,b,c⟩,rfl,trivial⟩
theorem ZW:FY [.lst 187,.lst 189,.lst 151] Ab fun _=>True:=fun xs h=>by
 obtain⟨a,l,rfl,ha,h⟩:=all_cons h;obtain⟨b,l,rfl,hb,h⟩:=all_cons h;obtain⟨c,rfl,hc⟩:=JQ h;obtain⟨a,rfl,_,_⟩:=CG ha qV Uo;obtain⟨b,rfl,_,_⟩:=CG hb rE Rm;obtain⟨c,rfl,_,_⟩:=CG hc rD Th;exact⟨⟨a,b,c⟩,rfl,trivial⟩
theorem Vm:FY [.int .i64,.bool] AX fun _=>True:=fun xs h=>by
 obtain⟨a,l,rfl,ha,h⟩:=all_cons h;obtain⟨b,rfl,hb⟩:=JQ h;obtain⟨a,rfl⟩:=B0 ha;obtain⟨b,rfl⟩:=cA hb;exact⟨⟨a,b⟩,rfl,trivial⟩
theorem TF:FY [.int .i64,.int .i64,.lst 88] Aa fun _=>True:=fun xs h=>by
 obtain⟨a,l,rfl,ha,h⟩:=all_cons h;obtain⟨b,l,rfl,hb,h⟩:=all_cons h;obtain⟨c,rfl,hc⟩:=JQ h;obtain⟨a,rfl⟩:=B0 ha;obtain⟨b,rfl⟩:=B0 hb;obtain⟨c,rfl,_,_⟩:=CG hc o8 LD;exact⟨⟨a,b,c⟩,rfl,trivial⟩
theorem Zx:FY [.lst 88] CW fun _=>True:=fun xs h=>by
 obtain⟨a,rfl,ha⟩:=JQ h;obtain⟨a,rfl,_,_⟩:=CG ha o8 LD;exact⟨a,rfl,trivial⟩
theorem ZR:FY [.int .i64,.int .i64,.int .i64,.lst 73] Bp fun _=>True:=fun xs h=>by
 obtain⟨a,l,rfl,ha,h⟩:=all_cons h;obtain⟨b,l,rfl,hb,h⟩:=all_cons h;obtain⟨c,l,rfl,hc,h⟩:=all_cons h;obtain⟨d,rfl,hd⟩:=JQ h;obtain⟨a,rfl⟩:=B0 ha;obtain⟨b,rfl⟩:=B0 hb;obtain⟨c,rfl⟩:=B0 hc;obtain⟨d,rfl,_,_⟩:=CG hd sJ Zx;exact⟨⟨a,b,c,d⟩,rfl,trivial⟩
theorem UY:FY [.int .i64,.int .i64,.lst 88] A3 fun _=>True:=fun xs h=>by
 obtain⟨a,l,rfl,ha,h⟩:=all_cons h;obtain⟨b,l,rfl,hb,h⟩:=all_cons h;obtain⟨c,rfl,hc⟩:=JQ h;obtain⟨a,rfl⟩:=B0 ha;obtain⟨b,rfl⟩:=B0 hb;obtain⟨c,rfl,_,_⟩:=CG hc o8 LD;exact⟨⟨a,b,c⟩,rfl,trivial⟩
theorem Tl:FY [.lst 9,.lst 140,.lst 147,.int .i64] jY fun p=> ∀s∈p.free,s.size≤maxLen:=fun xs h=>by
 obtain⟨a,l,rfl,ha,h⟩:=all_cons h;obtain⟨b,l,rfl,hb,h⟩:=all_cons h;obtain⟨c,l,rfl,hc,h⟩:=all_cons h;obtain⟨d,rfl,hd⟩:=JQ h;obtain⟨a,rfl,_,hs⟩:=CG ha tL XV;obtain⟨b,rfl,_,_⟩:=CG hb qy UR;obtain⟨c,rfl,_,_⟩:=CG hc qo ZW;obtain⟨d,rfl⟩:=B0 hd;exact⟨⟨a,b,c,d⟩,rfl,hs⟩
theorem ZO:FY [.lst 66,.lst 114,.lst 69,.lst 127] oS fun _=>True:=fun xs h=>by
 obtain⟨a,l,rfl,ha,h⟩:=all_cons h;obtain⟨b,l,rfl,hb,h⟩:=all_cons h;obtain⟨c,l,rfl,hc,h⟩:=all_cons h;obtain⟨d,rfl,hd⟩:=JQ h;obtain⟨a,rfl,_,_⟩:=CG ha sL Vm;obtain⟨b,rfl,_,_⟩:=CG hb qp TF;obtain⟨c,rfl,_,_⟩:=CG hc rn ZR;obtain⟨d,rfl,_,_⟩:=CG hd qg UY;exact⟨⟨a,b,c,d⟩,rfl,trivial⟩
end Go.Proofs
namespace Go.Proofs
open Go Go.Abs
set_option maxRecDepth 100000
set_option maxHeartbeats 2000000
theorem TY(p:AL)(s:Bz)(n:Int)(hp: ∀s∈p.free,s.size≤maxLen):Au (KL Tryz.prog cfg) 3 [pA p,sA s,.d (.int .i64 (n))] []=.ok (.ret (.d (.bool true)),[]):=by
 have h1:=bX p s hp;have h2:=aL p s;have h3:=kL p s n hp;have h4:=iJ p s n;have h5:=ST (G6 p s n).1 (G6 p s n).1 lR;rw[decide_eq_true rfl]at h5;replace hp:=AA.mk hp
 (refine AU rfl Tryz.func3 rfl rfl rfl ?_;show Wp _ _ _ _ (Tryz.f3.body.get rfl) _ _;simp only[Tryz.f3,Option.get_some])
 exact au
end Go.Proofs
