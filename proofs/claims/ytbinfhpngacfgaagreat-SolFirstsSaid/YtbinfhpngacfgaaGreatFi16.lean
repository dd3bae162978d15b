/-
  Parts of it.
-/
import Derived.Test.YtbinfhpngacfgaaGreatFi10
import Derived.Test.YtbinfhpngacfgaaGreatFi12
import Derived.Test.YtbinfhpngacfgaaGreatFi14
import Derived.Test.YtbinfhpngacfgaaGreatFi15
set_option linter.all false
namespace Go.Proofs
open Go Go.Abs
set_option maxRecDepth 100000
def Mj{α:Type}(ss:List Sh)(enc:α→List AU)(ok:α→Prop):Prop:= ∀xs,Jg Tryz.prog 8 ss xs→ ∃a,xs=enc a∧ok a
variable{d:AU}
theorem FE{k:IntKind}(h:YV Tryz.prog 8 (.int k) d): ∃m,d=.int k m:=by cases h;exact⟨_,rfl⟩
variable{t:TypeId}{ss:List Sh}
theorem Gr{α:Type}{enc:α→List AU}{ok:α→Prop}(h:YV Tryz.prog 8 (.be t) d)(hs:Cm Tryz.prog 8 t=some ss)(hr:Mj ss enc ok): ∃l:List α,d=.be (l.map enc)∧l.length≤maxLen∧ ∀a∈l,ok a:=by
 cases h with
 |be _ ss' es h1 h2 h3 h4=>
  rw[hs]at h1;cases h1;have key: ∀es:List (List AU),(∀e∈es,Jg Tryz.prog 8 ss e)→ ∃l:List α,es=l.map enc∧ ∀a∈l,ok a:=by
   intro es;induction es with
   |nil=>intro _;exact⟨[],rfl,by simp⟩
   |cons e es ih=>
    intro hk;obtain⟨a,rfl,ha⟩:=hr e (hk e (by simp));obtain⟨l,rfl,hl⟩:=ih fun e he=>hk e (by simp[he]);exact⟨a::l,rfl,fun b hb=>by rcases DL.1 hb with rfl|hb;exact ha;exact hl b hb⟩
  obtain⟨l,rfl,hl⟩:=key es fun e he=>⟨h3 e he,h4 e he⟩;exact⟨l,rfl,by simpa using h2,hl⟩
variable{s:Sh}{xs:List AU}
theorem Uy(h:Jg Tryz.prog 8 [s] xs): ∃a,xs=[a]∧YV Tryz.prog 8 s a:=by
 obtain⟨h1,h2⟩:=h;rcases xs with _|⟨a,_|⟨b,l⟩⟩<;>simp at h1;exact⟨a,rfl,h2 0 _ _ rfl rfl⟩
theorem all_cons(h:Jg Tryz.prog 8 (s::ss) xs): ∃a l,xs=a::l∧YV Tryz.prog 8 s a∧Jg Tryz.prog 8 ss l:=by
 obtain⟨h1,h2⟩:=h;rcases xs with _|⟨a,l⟩
 .simp at h1
 .exact⟨a,l,rfl,h2 0 _ _ rfl rfl,by simpa using h1,fun i s x e1 e2=>h2 (i+1) s x (by simpa using e1) (by simpa using e2)⟩
theorem all_nil(h:Jg Tryz.prog 8 [] xs):xs=[]:=CE (by simpa using h.1)
theorem ABN:Cm Tryz.prog 8 85=some [.int .i64,.int .i64,.be 85]:=by kernel_rfl
theorem nY(h:YV Tryz.prog 8 s d):s=.be 85→ ∃l:List BM,d=.be (l.map Av):=by
 induction h with
 |be t ss es h1 h2 h3 h4 ih=>
  intro e;cases e;rw[ABN]at h1;cases h1;have key: ∀es:List (List AU),(∀e∈es,e.length=3)→(∀e∈es,∀(i:Nat) s x,[Sh.int .i64,.int .i64,.be 85][i]? =some s→e[i]? =some x→YV Tryz.prog 8 s x)→(∀e∈es,∀(i:Nat) s x,[Sh.int .i64,.int .i64,.be 85][i]? =some s→e[i]? =some x→s=.be 85→ ∃l:List BM,x=.be (l.map Av))→ ∃l:List BM,es=l.map Av:=by
   intro es;induction es with
   |nil=>intro _ _ _;exact⟨[],rfl⟩
   |cons e es ih2=>
    intro k1 k2 k3;obtain⟨l,rfl⟩:=ih2 (fun e he=>k1 e (by simp[he])) (fun e he=>k2 e (by simp[he])) fun e he=>k3 e (by simp[he]);have l3:=k1 e (by simp);rcases e with _|⟨a,_|⟨b,_|⟨c,_|⟨d,m⟩⟩⟩⟩<;>simp at l3;have q0:=k2 [a,b,c] (FD ..) 0 _ _ rfl rfl;have q1:=k2 [a,b,c] (FD ..) 1 _ _ rfl rfl;have q2:=k3 [a,b,c] (FD ..) 2 _ _ rfl rfl rfl;obtain⟨o,rfl⟩:=FE q0;obtain⟨n,rfl⟩:=FE q1;obtain⟨q,rfl⟩:=q2;exact⟨.mk o n q::l,by simp[SH,BM.op,BM.n,BM.kids]⟩
  obtain⟨l,rfl⟩:=key es h3 h4 ih;exact⟨l,rfl⟩
 |_=>intro e;cases e
theorem dT{ts:List TypeId}{xs:List AV}(h:Pb Tryz.prog 8 (t::ts) xs)(hs:Cm Tryz.prog 8 t=some ss): ∃ds l,xs=R4 Tryz.prog t ds::l∧Jg Tryz.prog 8 ss ds∧Pb Tryz.prog 8 ts l:=by
 cases h with
 |cons h1 h2 h3=>
  rw[hs]at h1;cases h1;exact⟨_,_,rfl,h2,h3⟩
theorem lg{xs:List AV}(h:Pb Tryz.prog 8 [] xs):xs=[]:=by cases h;rfl
noncomputable def Zg(t:TypeId):Bool:=match Tryz.prog.underlying t with
 |some (.struct _)=>true
 |some (.array _ _)=>true
 |_=>false
theorem qx{ds:List AU}(h:Zg t=true):R4 Tryz.prog t ds=.agg (ds.map .d):=by
 unfold R4;unfold Zg at h;split<;>simp_all
@[go_sem] theorem y7:BJ (KL Tryz.prog cfg) 20 [] []=.ok (.ret (.d (.bool true)),[]):=by
  unfold BJ;rw[nz];rfl
theorem sh3:Cm Tryz.prog 8 3=some [.int .i64]:=by kernel_rfl
theorem sh9:Cm Tryz.prog 8 9=some [.str]:=by kernel_rfl
theorem AAB:Cm Tryz.prog 8 140=some [.int .i64,.int .i64,.be 85,.be 3]:=by kernel_rfl
theorem AAC:Cm Tryz.prog 8 147=some [.be 187,.be 189,.be 151]:=by kernel_rfl
theorem AAE:Cm Tryz.prog 8 187=some [.int .i64,.int .i64]:=by kernel_rfl
theorem AAF:Cm Tryz.prog 8 189=some [.int .i64,.int .i64]:=by kernel_rfl
theorem AAD:Cm Tryz.prog 8 151=some [.int .i64,.be 3,.int .i64]:=by kernel_rfl
theorem ABM:Cm Tryz.prog 8 26=some [.be 9,.be 140,.be 147,.int .i64]:=by kernel_rfl
theorem zK:Zg 26=true:=by kernel_rfl
theorem Sx:Mj [.int .i64] AO fun _=>True:=fun xs h=>by
 obtain⟨a,rfl,ha⟩:=Uy h;obtain⟨k,rfl⟩:=FE ha;exact⟨k,rfl,trivial⟩
theorem nZ(h:YV Tryz.prog 8 .str d): ∃m,d=.str m∧m.size≤maxLen:=by cases h;exact⟨_,rfl,by assumption⟩
theorem ju:Mj [.str] A0 fun s=>s.size≤maxLen:=fun xs h=>by
 obtain⟨a,rfl,ha⟩:=Uy h;obtain⟨k,rfl,hk⟩:=nZ ha;exact⟨k,rfl,hk⟩
theorem bf:Mj [.int .i64,.int .i64,.be 85,.be 3] Al fun _=>True:=fun xs h=>by
 obtain⟨a,l,rfl,ha,h⟩:=all_cons h;obtain⟨b,l,rfl,hb,h⟩:=all_cons h;obtain⟨c,l,rfl,hc,h⟩:=all_cons h;obtain⟨d,rfl,hd⟩:=Uy h;obtain⟨a,rfl⟩:=FE ha;obtain⟨b,rfl⟩:=FE hb;obtain⟨c,rfl⟩:=nY hc rfl;obtain⟨d,rfl,_,_⟩:=Gr hd sh3 Sx;exact⟨⟨a,b,c,d⟩,rfl,trivial⟩
theorem bd:Mj [.int .i64,.int .i64] Ab fun _=>True:=fun xs h=>by
 obtain⟨a,l,rfl,ha,h⟩:=all_cons h;obtain⟨b,rfl,hb⟩:=Uy h;obtain⟨a,rfl⟩:=FE ha;obtain⟨b,rfl⟩:=FE hb;exact⟨⟨a,b⟩,rfl,trivial⟩
theorem X1:Mj [.int .i64,.int .i64] AR fun _=>True:=fun xs h=>by
 obtain⟨a,l,rfl,ha,h⟩:=all_cons h;obtain⟨b,rfl,hb⟩:=Uy h;obtain⟨a,rfl⟩:=FE ha;obtain⟨b,rfl⟩:=FE hb;exact⟨⟨a,b⟩,rfl,trivial⟩
theorem bh:Mj [.int .i64,.be 3,.int .i64] Af fun _=>True:=fun xs h=>by
 obtain⟨a,l,rfl,ha,h⟩:=all_cons h;obtain⟨b,l,rfl,hb,h⟩:=all_cons h;obtain⟨c,rfl,hc⟩:=Uy h;obtain⟨a,rfl⟩:=FE ha;obtain⟨b,rfl,_,_⟩:=Gr hb sh3 Sx;obtain⟨c,rfl⟩:=FE hc;exact⟨⟨a,b,c⟩,rfl,trivial⟩
theorem jt:Mj [.be 187,.be 189,.be 151] A8 fun _=>True:=fun xs h=>by
 obtain⟨a,l,rfl,ha,h⟩:=all_cons h;obtain⟨b,l,rfl,hb,h⟩:=all_cons h;obtain⟨c,rfl,hc⟩:=Uy h;obtain⟨a,rfl,_,_⟩:=Gr ha AAE bd;obtain⟨b,rfl,_,_⟩:=Gr hb AAF X1;obtain⟨c,rfl,_,_⟩:=Gr hc AAD bh;exact⟨⟨a,b,c⟩,rfl,trivial⟩
theorem bg:Mj [.be 9,.be 140,.be 147,.int .i64] rY fun p=> ∀s∈p.free,s.size≤maxLen:=fun xs h=>by
 obtain⟨a,l,rfl,ha,h⟩:=all_cons h;obtain⟨b,l,rfl,hb,h⟩:=all_cons h;obtain⟨c,l,rfl,hc,h⟩:=all_cons h;obtain⟨d,rfl,hd⟩:=Uy h;obtain⟨a,rfl,_,hs⟩:=Gr ha sh9 ju;obtain⟨b,rfl,_,_⟩:=Gr hb AAB bf;obtain⟨c,rfl,_,_⟩:=Gr hc AAC jt;obtain⟨d,rfl⟩:=FE hd;exact⟨⟨a,b,c,d⟩,rfl,hs⟩
set_option maxHeartbeats 4000000
theorem dA(p:AK):BJ (KL Tryz.prog cfg) 40 [pA p] []=.ok (.ret (KI (E4 p)),[]):=by
 have h1:=c9 p;cases hlk:looks p with
 |none=>
  rw[E4,hlk,D3 (by simp)];rw[Y7,hlk]at h1;simp only[KI,sA,Gi,Be]at h1⊢
  (refine Ao rfl Tryz.func40 rfl rfl rfl ?_;show Wp _ _ _ _ (Tryz.f40.body.get rfl) _ _;simp only[Tryz.f40,AP])
  exact au
 |some lt=>
  have h2:=Ur (C0 hlk);rw[E4,hlk,D7 (show(some lt).isSome=true from rfl)];rw[Y7,hlk]at h1;simp only[KI,sA]at h1 h2⊢
  (refine Ao rfl Tryz.func40 rfl rfl rfl ?_;show Wp _ _ _ _ (Tryz.f40.body.get rfl) _ _;simp only[Tryz.f40,AP])
  exact au
theorem ZC(p:AK)(hp: ∀s∈p.free,s.size≤maxLen):BJ (KL Tryz.prog cfg) 10 [pA p] []=.ok (.ret (.d (.bool true)),[]):=by
 have h1:=kg p hp;have h2:=dA p;have h3:=fun s=>c8 p s hp;have hn:BJ (KL Tryz.prog cfg) 24 [.d (.be []),.d (.be [])] []=.ok (.ret (.d (.bool (true))),[]):=L1 [] (by decide) (fun e he=>by cases he);have hz:=cv Gi ⟨by decide,by decide,by decide,by decide,fun g hg=>(by cases hg),fun g hg=>(by cases hg),fun g hg=>(by cases hg)⟩;replace hp:=AA.mk hp;replace h3:=AA.mk h3;cases hlk:looks p with
 |none=>
  rw[E4,hlk,D3 (by simp)]at h1 h2;simp only[KI,sA,Gi,Be]at h1 h2 hz
  (refine Ao rfl Tryz.func10 rfl rfl rfl ?_;show Wp _ _ _ _ (Tryz.f10.body.get rfl) _ _;simp only[Tryz.f10,AP])
  exact au
 |some lt=>
  rw[E4,hlk,D7 (show(some lt).isSome=true from rfl)]at h1 h2;have hF:=C0 hlk;cases hfo:ET p with
  |none=>
   rw[hfo]at h1 h2;simp only[Wy,KI,sA,Gi,Be]at h1 h2 hz
   (refine Ao rfl Tryz.func10 rfl rfl rfl ?_;show Wp _ _ _ _ (Tryz.f10.body.get rfl) _ _;simp only[Tryz.f10,AP])
   exact au
  |some st=>
   rw[hfo]at h1 h2;simp only[Wy,KI,sA]at h1 h2;obtain⟨f1,f2,f3⟩:=ZB hF hfo;have hse:GV p st.d7=0:=by rw[GV,hlk];simp[qH f1]
   have h4:=h3.out st.d7;rw[hse]at h4;have hFi:=Q4 hlk (qH f1);have hs:=cv st.d7 ⟨hFi.am,hFi.ce,by have:=hFi.ac;omega,hFi.waits,hFi.group,hFi.chan,hFi.wait⟩;have hb:=cT hF 401 _ _ _ hfo (fun e he=>by cases he);have he:=L1 st.ev (by omega) (fun e h=>by have:=hb e h;unfold kf at this;omega);clear hb hFi hse f1 f2 f3 hn hz
   (refine Ao rfl Tryz.func10 rfl rfl rfl ?_;show Wp _ _ _ _ (Tryz.f10.body.get rfl) _ _;simp only[Tryz.f10,AP])
   exact au
end Go.Proofs
