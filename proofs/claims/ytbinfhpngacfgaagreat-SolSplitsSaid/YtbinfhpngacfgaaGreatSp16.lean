/-
  Parts of it.
-/
import Derived.Test.YtbinfhpngacfgaaGreatSp10
import Derived.Test.YtbinfhpngacfgaaGreatSp12
import Derived.Test.YtbinfhpngacfgaaGreatSp14
import Derived.Test.YtbinfhpngacfgaaGreatSp15
set_option linter.all false
namespace Go.Proofs
open Go Go.Abs
set_option maxRecDepth 100000
def G6{α:Type}(ss:List Sh)(enc:α→List AR)(ok:α→Prop):Prop:= ∀xs,J3 Tryz.prog 8 ss xs→ ∃a,xs=enc a∧ok a
variable{d:AR}
theorem CP{k:IntKind}(h:ZY Tryz.prog 8 (.int k) d): ∃m,d=.int k m:=by cases h;exact⟨_,rfl⟩
theorem qZ(h:ZY Tryz.prog 8 .bool d): ∃m,d=.bool m:=by cases h;exact⟨_,rfl⟩
variable{α:Type}{t:TypeId}{ss:List Sh}
theorem CV{enc:α→List AR}{ok:α→Prop}(h:ZY Tryz.prog 8 (.ce t) d)(hs:Bh Tryz.prog 8 t=some ss)(hr:G6 ss enc ok): ∃l:List α,d=.ce (l.map enc)∧l.length≤maxLen∧ ∀a∈l,ok a:=by
 cases h with
 |ce _ ss' es h1 h2 h3 h4=>
  rw[hs]at h1;cases h1;have key: ∀es:List (List AR),(∀e∈es,J3 Tryz.prog 8 ss e)→ ∃l:List α,es=l.map enc∧ ∀a∈l,ok a:=by
   intro es;induction es with
   |nil=>intro _;exact⟨[],rfl,by simp⟩
   |cons e es ih=>
    intro hk;obtain⟨a,rfl,ha⟩:=hr e (hk e (by simp));obtain⟨l,rfl,hl⟩:=ih fun e he=>hk e (by simp[he]);exact⟨a::l,rfl,fun b hb=>by rcases DO.1 hb with rfl|hb;exact ha;exact hl b hb⟩
  obtain⟨l,rfl,hl⟩:=key es fun e he=>⟨h3 e he,h4 e he⟩;exact⟨l,rfl,by simpa using h2,hl⟩
variable{s:Sh}{xs:List AR}
theorem ME(h:J3 Tryz.prog 8 [s] xs): ∃a,xs=[a]∧ZY Tryz.prog 8 s a:=by
 obtain⟨h1,h2⟩:=h;rcases xs with _|⟨a,_|⟨b,l⟩⟩<;>simp at h1;exact⟨a,rfl,h2 0 _ _ rfl rfl⟩
theorem all_cons(h:J3 Tryz.prog 8 (s::ss) xs): ∃a l,xs=a::l∧ZY Tryz.prog 8 s a∧J3 Tryz.prog 8 ss l:=by
 obtain⟨h1,h2⟩:=h;rcases xs with _|⟨a,l⟩
 .simp at h1
 .exact⟨a,l,rfl,h2 0 _ _ rfl rfl,by simpa using h1,fun i s x e1 e2=>h2 (i+1) s x (by simpa using e1) (by simpa using e2)⟩
theorem all_nil(h:J3 Tryz.prog 8 [] xs):xs=[]:=Dl (by simpa using h.1)
theorem ABF:Bh Tryz.prog 8 88=some [.int .i64,.int .i64]:=by kernel_rfl
theorem ADs:Bh Tryz.prog 8 85=some [.int .i64,.int .i64,.ce 85]:=by kernel_rfl
theorem Ow:G6 [.int .i64,.int .i64] AJ fun _=>True:=fun xs h=>by
 obtain⟨a,l,rfl,ha,h⟩:=all_cons h;obtain⟨b,rfl,hb⟩:=ME h;obtain⟨k,rfl⟩:=CP ha;obtain⟨n,rfl⟩:=CP hb;exact⟨⟨k,n⟩,rfl,trivial⟩
theorem qa(h:ZY Tryz.prog 8 s d):s=.ce 85→ ∃l:List Bt,d=.ce (l.map Bp):=by
 induction h with
 |ce t ss es h1 h2 h3 h4 ih=>
  intro e;cases e;rw[ADs]at h1;cases h1;have key: ∀es:List (List AR),(∀e∈es,e.length=3)→(∀e∈es,∀(i:Nat) s x,[Sh.int .i64,.int .i64,.ce 85][i]? =some s→e[i]? =some x→ZY Tryz.prog 8 s x)→(∀e∈es,∀(i:Nat) s x,[Sh.int .i64,.int .i64,.ce 85][i]? =some s→e[i]? =some x→s=.ce 85→ ∃l:List Bt,x=.ce (l.map Bp))→ ∃l:List Bt,es=l.map Bp:=by
   intro es;induction es with
   |nil=>intro _ _ _;exact⟨[],rfl⟩
   |cons e es ih2=>
    intro k1 k2 k3;obtain⟨l,rfl⟩:=ih2 (fun e he=>k1 e (by simp[he])) (fun e he=>k2 e (by simp[he])) fun e he=>k3 e (by simp[he]);have l3:=k1 e (by simp);rcases e with _|⟨a,_|⟨b,_|⟨c,_|⟨d,m⟩⟩⟩⟩<;>simp at l3;have q0:=k2 [a,b,c] (II ..) 0 _ _ rfl rfl;have q1:=k2 [a,b,c] (II ..) 1 _ _ rfl rfl;have q2:=k3 [a,b,c] (II ..) 2 _ _ rfl rfl rfl;obtain⟨o,rfl⟩:=CP q0;obtain⟨n,rfl⟩:=CP q1;obtain⟨q,rfl⟩:=q2;exact⟨.mk o n q::l,by simp[TR,Bt.op,Bt.n,Bt.kids]⟩
  obtain⟨l,rfl⟩:=key es h3 h4 ih;exact⟨l,rfl⟩
 |_=>intro e;cases e
theorem OO{ts:List TypeId}{xs:List AV}(h:P7 Tryz.prog 8 (t::ts) xs)(hs:Bh Tryz.prog 8 t=some ss): ∃ds l,xs=S8 Tryz.prog t ds::l∧J3 Tryz.prog 8 ss ds∧P7 Tryz.prog 8 ts l:=by
 cases h with
 |cons h1 h2 h3=>
  rw[hs]at h1;cases h1;exact⟨_,_,rfl,h2,h3⟩
theorem oY{xs:List AV}(h:P7 Tryz.prog 8 [] xs):xs=[]:=by cases h;rfl
noncomputable def Q8(t:TypeId):Bool:=match Tryz.prog.underlying t with
 |some (.struct _)=>true
 |some (.array _ _)=>true
 |_=>false
theorem Uv{ds:List AR}(h:Q8 t=true):S8 Tryz.prog t ds=.agg (ds.map .d):=by
 unfold S8;unfold Q8 at h;split<;>simp_all
@[go_sem] theorem ABa:BU (KL Tryz.prog cfg) 20 [] []=.ok (.ret (.d (.bool true)),[]):=by
  unfold BU;rw[qz];rfl
theorem sh3:Bh Tryz.prog 8 3=some [.int .i64]:=by kernel_rfl
theorem sh9:Bh Tryz.prog 8 9=some [.str]:=by kernel_rfl
theorem ACV:Bh Tryz.prog 8 140=some [.int .i64,.int .i64,.ce 85,.ce 3]:=by kernel_rfl
theorem ACW:Bh Tryz.prog 8 147=some [.ce 187,.ce 189,.ce 151]:=by kernel_rfl
theorem ACY:Bh Tryz.prog 8 187=some [.int .i64,.int .i64]:=by kernel_rfl
theorem ACZ:Bh Tryz.prog 8 189=some [.int .i64,.int .i64]:=by kernel_rfl
theorem ACX:Bh Tryz.prog 8 151=some [.int .i64,.ce 3,.int .i64]:=by kernel_rfl
theorem ADp:Bh Tryz.prog 8 66=some [.int .i64,.bool]:=by kernel_rfl
theorem ACS:Bh Tryz.prog 8 114=some [.int .i64,.int .i64,.ce 88]:=by kernel_rfl
theorem ADq:Bh Tryz.prog 8 69=some [.int .i64,.int .i64,.int .i64,.ce 73]:=by kernel_rfl
theorem ADr:Bh Tryz.prog 8 73=some [.ce 88]:=by kernel_rfl
theorem ACU:Bh Tryz.prog 8 127=some [.int .i64,.int .i64,.ce 88]:=by kernel_rfl
theorem ADm:Bh Tryz.prog 8 26=some [.ce 9,.ce 140,.ce 147,.int .i64]:=by kernel_rfl
theorem ADn:Bh Tryz.prog 8 32=some [.ce 66,.ce 114,.ce 69,.ce 127]:=by kernel_rfl
theorem ABj:Q8 26=true:=by kernel_rfl
theorem ABk:Q8 32=true:=by kernel_rfl
theorem L5:G6 [.int .i64] AL fun _=>True:=fun xs h=>by
 obtain⟨a,rfl,ha⟩:=ME h;obtain⟨k,rfl⟩:=CP ha;exact⟨k,rfl,trivial⟩
theorem qb(h:ZY Tryz.prog 8 .str d): ∃m,d=.str m∧m.size≤maxLen:=by cases h;exact⟨_,rfl,by assumption⟩
theorem mV:G6 [.str] CM fun s=>s.size≤maxLen:=fun xs h=>by
 obtain⟨a,rfl,ha⟩:=ME h;obtain⟨k,rfl,hk⟩:=qb ha;exact⟨k,rfl,hk⟩
theorem dT:G6 [.int .i64,.int .i64,.ce 85,.ce 3] Bg fun _=>True:=fun xs h=>by
 obtain⟨a,l,rfl,ha,h⟩:=all_cons h;obtain⟨b,l,rfl,hb,h⟩:=all_cons h;obtain⟨c,l,rfl,hc,h⟩:=all_cons h;obtain⟨d,rfl,hd⟩:=ME h;obtain⟨a,rfl⟩:=CP ha;obtain⟨b,rfl⟩:=CP hb;obtain⟨c,rfl⟩:=qa hc rfl;obtain⟨d,rfl,_,_⟩:=CV hd sh3 L5;exact⟨⟨a,b,c,d⟩,rfl,trivial⟩
theorem dS:G6 [.int .i64,.int .i64] BJ fun _=>True:=fun xs h=>by
 obtain⟨a,l,rfl,ha,h⟩:=all_cons h;obtain⟨b,rfl,hb⟩:=ME h;obtain⟨a,rfl⟩:=CP ha;obtain⟨b,rfl⟩:=CP hb;exact⟨⟨a,b⟩,rfl,trivial⟩
theorem Yx:G6 [.int .i64,.int .i64] A6 fun _=>True:=fun xs h=>by
 obtain⟨a,l,rfl,ha,h⟩:=all_cons h;obtain⟨b,rfl,hb⟩:=ME h;obtain⟨a,rfl⟩:=CP ha;obtain⟨b,rfl⟩:=CP hb;exact⟨⟨a,b⟩,rfl,trivial⟩
theorem dV:G6 [.int .i64,.ce 3,.int .i64] BG fun _=>True:=fun xs h=>by
 obtain⟨a,l,rfl,ha,h⟩:=all_cons h;obtain⟨b,l,rfl,hb,h⟩:=all_cons h;obtain⟨c,rfl,hc⟩:=ME h;obtain⟨a,rfl⟩:=CP ha;obtain⟨b,rfl,_,_⟩:=CV hb sh3 L5;obtain⟨c,rfl⟩:=CP hc;exact⟨⟨a,b,c⟩,rfl,trivial⟩
theorem mO:G6 [.ce 187,.ce 189,.ce 151] CX fun _=>True:=fun xs h=>by
 obtain⟨a,l,rfl,ha,h⟩:=all_cons h;obtain⟨b,l,rfl,hb,h⟩:=all_cons h;obtain⟨c,rfl,hc⟩:=ME h;obtain⟨a,rfl,_,_⟩:=CV ha ACY dS;obtain⟨b,rfl,_,_⟩:=CV hb ACZ Yx;obtain⟨c,rfl,_,_⟩:=CV hc ACX dV;exact⟨⟨a,b,c⟩,rfl,trivial⟩
theorem dW:G6 [.int .i64,.bool] Aj fun _=>True:=fun xs h=>by
 obtain⟨a,l,rfl,ha,h⟩:=all_cons h;obtain⟨b,rfl,hb⟩:=ME h;obtain⟨a,rfl⟩:=CP ha;obtain⟨b,rfl⟩:=qZ hb;exact⟨⟨a,b⟩,rfl,trivial⟩
theorem Yy:G6 [.int .i64,.int .i64,.ce 88] A8 fun _=>True:=fun xs h=>by
 obtain⟨a,l,rfl,ha,h⟩:=all_cons h;obtain⟨b,l,rfl,hb,h⟩:=all_cons h;obtain⟨c,rfl,hc⟩:=ME h;obtain⟨a,rfl⟩:=CP ha;obtain⟨b,rfl⟩:=CP hb;obtain⟨c,rfl,_,_⟩:=CV hc ABF Ow;exact⟨⟨a,b,c⟩,rfl,trivial⟩
theorem mR:G6 [.ce 88] BF fun _=>True:=fun xs h=>by
 obtain⟨a,rfl,ha⟩:=ME h;obtain⟨a,rfl,_,_⟩:=CV ha ABF Ow;exact⟨a,rfl,trivial⟩
theorem mN:G6 [.int .i64,.int .i64,.int .i64,.ce 73] Cm fun _=>True:=fun xs h=>by
 obtain⟨a,l,rfl,ha,h⟩:=all_cons h;obtain⟨b,l,rfl,hb,h⟩:=all_cons h;obtain⟨c,l,rfl,hc,h⟩:=all_cons h;obtain⟨d,rfl,hd⟩:=ME h;obtain⟨a,rfl⟩:=CP ha;obtain⟨b,rfl⟩:=CP hb;obtain⟨c,rfl⟩:=CP hc;obtain⟨d,rfl,_,_⟩:=CV hd ADr mR;exact⟨⟨a,b,c,d⟩,rfl,trivial⟩
theorem dX:G6 [.int .i64,.int .i64,.ce 88] AO fun _=>True:=fun xs h=>by
 obtain⟨a,l,rfl,ha,h⟩:=all_cons h;obtain⟨b,l,rfl,hb,h⟩:=all_cons h;obtain⟨c,rfl,hc⟩:=ME h;obtain⟨a,rfl⟩:=CP ha;obtain⟨b,rfl⟩:=CP hb;obtain⟨c,rfl,_,_⟩:=CV hc ABF Ow;exact⟨⟨a,b,c⟩,rfl,trivial⟩
theorem dU:G6 [.ce 9,.ce 140,.ce 147,.int .i64] vS fun p=> ∀s∈p.free,s.size≤maxLen:=fun xs h=>by
 obtain⟨a,l,rfl,ha,h⟩:=all_cons h;obtain⟨b,l,rfl,hb,h⟩:=all_cons h;obtain⟨c,l,rfl,hc,h⟩:=all_cons h;obtain⟨d,rfl,hd⟩:=ME h;obtain⟨a,rfl,_,hs⟩:=CV ha sh9 mV;obtain⟨b,rfl,_,_⟩:=CV hb ACV dT;obtain⟨c,rfl,_,_⟩:=CV hc ACW mO;obtain⟨d,rfl⟩:=CP hd;exact⟨⟨a,b,c,d⟩,rfl,hs⟩
theorem mU:G6 [.ce 66,.ce 114,.ce 69,.ce 127] z7 fun _=>True:=fun xs h=>by
 obtain⟨a,l,rfl,ha,h⟩:=all_cons h;obtain⟨b,l,rfl,hb,h⟩:=all_cons h;obtain⟨c,l,rfl,hc,h⟩:=all_cons h;obtain⟨d,rfl,hd⟩:=ME h;obtain⟨a,rfl,_,_⟩:=CV ha ADp dW;obtain⟨b,rfl,_,_⟩:=CV hb ACS Yy;obtain⟨c,rfl,_,_⟩:=CV hc ADq mN;obtain⟨d,rfl,_,_⟩:=CV hd ACU dX;exact⟨⟨a,b,c,d⟩,rfl,trivial⟩
set_option maxHeartbeats 4000000
theorem fe(n:Int)(m:Nat)(j:TI)(id:Abs.Id)(off:Nat):eT n m j (.ptr id off)=if 0≤n∧n.toNat<m then some ⟨.ptr id (off+n.toNat*j.size),[]⟩else none:=rfl
attribute [go_sem] fe
variable{f:α→List AR}{sz:Nat}
theorem Kl(hf: ∀x,(f x).length=sz)(h0:0<sz)(a:List α)(ha:a≠ [])(hl:a.length≤1000000): ∀(g:G) (newId:Abs.Id) (j:TI),j.mix=false→j.size=sz→Pn g newId j .emp (some ((a.map f).map fun x=>x.map AV.d))=some ⟨.f8 (1::newId) 0 a.length,[(1::newId,.d7 sz (a.map f))]⟩:=by
 intro g newId j hm hs;have:=eO g newId j (a.map f) hm (by omega) (fun e he=>by
  obtain⟨x,_,rfl⟩:=Em.1 he;rw[hs];exact hf x) (fun e=>ha (F9.1 e)) (by simp[Az];omega)
 rw[this,BY,hs]
theorem WY(hf: ∀x,(f x).length=sz)(h0:0<sz)(a b:List α)(hb:b≠ [])(hl:a.length+b.length≤1000000): ∀(id:Abs.Id) (g:G) (newId:Abs.Id) (j:TI),j.size=sz→g id=some (.d7 sz (a.map f))→Pn g newId j (.f8 id 0 a.length) (some ((b.map f).map fun x=>x.map AV.d))=some ⟨.f8 (1::newId) 0 (a.length+b.length),[(id,.i5 0 []),(1::newId,.d7 sz (a.map f++b.map f))]⟩:=by
 intro id g newId j hs hg;have:=QP (sz:=sz) (id:=id) (a.map f) (b.map f) (fun e=>hb (F9.1 e)) (fun e he=>by
  obtain⟨x,_,rfl⟩:=Em.1 he;exact hf x) h0 (by simp;omega) a.length (by simp) g newId j hs hg
 rw[this,BY]
theorem tl{β:Type}(f:α→β)(a b:List α):List.take (a.length+b.length) (a.map f++b.map f)=a.map f++b.map f:=DL (by simp)
attribute [go_sem] tl
variable{p:AI}
theorem yl{s:A9}(ks:List Int)(h: ¬EE p s=0):LN p s ks=⟨Dk,[],2⟩:=by rw[LN,Ci h]
theorem R1{s:A9}{ks:List Int}(h:EE p s=0)(hk:ks.length≤200):LN p s ks=Rp (DU p ks s []):=by rw[LN,D1 h,D1 hk]
theorem ZH{s0 s:A9}{st:Bo}(hf:zG p s0 st)(h:FB p st.ci s):s.fits∧EE p s=0:=by
 have hF:=R7 hf.looks (tV h);refine⟨⟨hF.ac,hF.bv,by have:=hF.be;omega,hF.waits,hF.group,hF.chan,hF.wait⟩,?_⟩;rw[EE,hf.looks];simp[tV h]
theorem dt(p:AI)(s:A9)(a b:List Int)(hp: ∀s∈p.free,s.size≤maxLen)(ha:a.length≤maxLen)(hb:b.length≤maxLen):BU (KL Tryz.prog cfg) 6 [pA p,sA s,.agg [.d (.ce (a.map AL)),.d (.ce (b.map AL))]] []=.ok (.ret (.d (.bool true)),[]):=by
 have h1:=Uk p s a hp;have h2:=Uk p s (a++b) hp;have h3:=fun s1=>Uk p s1 b hp;replace hp:=AA.mk hp;replace h3:=AA.mk h3;by_cases hA:(90:Int)<a.length
 ·(refine Ao rfl Tryz.func6 rfl rfl rfl ?_;show Wp _ _ _ _ (Tryz.f6.body.get rfl) _ _;simp only[Tryz.f6,AS])
  exact au
 by_cases hB:(90:Int)<b.length
 ·(refine Ao rfl Tryz.func6 rfl rfl rfl ?_;show Wp _ _ _ _ (Tryz.f6.body.get rfl) _ _;simp only[Tryz.f6,AS])
  exact au
 have hn:=yY;by_cases h0:EE p s=0
 .obtain⟨st,hf⟩:=ei h0;rw[R1 h0 (by omega)]at h1;rw[R1 h0 (by rw[CE];omega),fM]at h2;cases hr1:DU p a s []with
  |none=>
   have a0:a≠ []:=fun e=>by rw[e]at hr1;cases hr1
   rw[hr1]at h1 h2;clear hr1 h0 hf;simp only[Option.bind_none,Rp,Tn,sA,Dk,CO]at h1 h2 hn;have aa:=Kl (f:=AL) (sz:=1) (fun _=>rfl) (by decide) a a0 (by omega);by_cases b0:b=[]
   .subst b0;simp only[By,CO,D8,CS]at*
    (refine Ao rfl Tryz.func6 rfl rfl rfl ?_;show Wp _ _ _ _ (Tryz.f6.body.get rfl) _ _;simp only[Tryz.f6,AS])
    (repeat' (first|simp only[go_sem, *]|(refine sx ?_ ?_<;>intro hc)|refine sy (by omega) fun x hx hm=>?_|simp(disch:=first|assumption|omega) only[AN]))
    done
   .have am:=WY (f:=AL) (sz:=1) (fun _=>rfl) (by decide) a b b0 (by omega);simp only[By,CO,D8,CS]at*
    (refine Ao rfl Tryz.func6 rfl rfl rfl ?_;show Wp _ _ _ _ (Tryz.f6.body.get rfl) _ _;simp only[Tryz.f6,AS])
    (repeat' (first|simp only[go_sem, *]|(refine sx ?_ ?_<;>intro hc)|refine sy (by omega) fun x hx hm=>?_|simp(disch:=first|assumption|omega) only[AN]))
    done
  |some r=>
   obtain⟨s1,e1⟩:=r;obtain⟨k1,k2,k3⟩:=dg hf.formed a s [] _ hf.qr (by simp) hr1;obtain⟨f1,f2⟩:=ZH hf k1;rw[hr1]at h1 h2;have h3:=h3.out s1;rw[R1 f2 (by omega)]at h3;have hev:=tG p b s1 e1 [];rw[CS]at hev;simp only[IT]at h2;rw[hev]at h2;cases hr2:DU p b s1 []with
   |none=>
    have b0:b≠ []:=fun e=>by rw[e]at hr2;cases hr2
    rw[hr2]at h3 h2;clear hr2 hev hf k1 k2 k3 f1 f2;simp only[Option.map_none,Rp,Tn,sA,Dk,CO]at h1 h2 h3 hn;by_cases a0:a=[]
    .subst a0;simp only[DU,Bi,EX]at hr1;obtain⟨rfl,rfl⟩:=hr1;have ab:=Kl (f:=AL) (sz:=1) (fun _=>rfl) (by decide) b b0 (by omega);simp only[By,CO,D8,CS]at*
     (refine Ao rfl Tryz.func6 rfl rfl rfl ?_;show Wp _ _ _ _ (Tryz.f6.body.get rfl) _ _;simp only[Tryz.f6,AS])
     (repeat' (first|simp only[go_sem, *]|(refine sx ?_ ?_<;>intro hc)|refine sy (by omega) fun x hx hm=>?_|simp(disch:=first|assumption|omega) only[AN]))
     done
    .clear hr1;have aa:=Kl (f:=AL) (sz:=1) (fun _=>rfl) (by decide) a a0 (by omega);have am:=WY (f:=AL) (sz:=1) (fun _=>rfl) (by decide) a b b0 (by omega);simp only[By,CO,D8,CS]at*
     (refine Ao rfl Tryz.func6 rfl rfl rfl ?_;show Wp _ _ _ _ (Tryz.f6.body.get rfl) _ _;simp only[Tryz.f6,AS])
     (repeat' (first|simp only[go_sem, *]|(refine sx ?_ ?_<;>intro hc)|refine sy (by omega) fun x hx hm=>?_|simp(disch:=first|assumption|omega) only[AN]))
     done
   |some r=>
    obtain⟨s2,e2⟩:=r;obtain⟨q1,q2,q3⟩:=dg hf.formed b s1 [] _ k1 (by simp) hr2;rw[hr2]at h3 h2;have h4:=fO s2 (ZH hf q1).1;have h5:=Sv (e1++e2) (by rw[CE];dsimp only[List.length_nil]at k3 q3;omega) (fun e he=>(D5.1 he).elim (fun h=>IP (k2 e h) (by omega)) fun h=>IP (q2 e h) (by omega));have n1:e1.length≤400000:=by dsimp only[List.length_nil]at k3;omega
    have n2:e2.length≤400000:=by dsimp only[List.length_nil]at q3;omega
    clear hev hf k1 k2 k3 f1 f2 q1 q2 q3 hn;simp only[D9,Rp,Tn,sA]at h1 h2 h3 h4;by_cases a0:a=[]
    .subst a0;simp only[DU,Bi,EX]at hr1;obtain⟨rfl,rfl⟩:=hr1;by_cases b0:b=[]
     .subst b0;simp only[DU,Bi,EX]at hr2;obtain⟨rfl,rfl⟩:=hr2;simp only[By,CO,D8,CS]at*
      (refine Ao rfl Tryz.func6 rfl rfl rfl ?_;show Wp _ _ _ _ (Tryz.f6.body.get rfl) _ _;simp only[Tryz.f6,AS])
      (repeat' (first|simp only[go_sem, *]|(refine sx ?_ ?_<;>intro hc)|refine sy (by omega) fun x hx hm=>?_|simp(disch:=first|assumption|omega) only[AN]))
      done
     .clear hr2;have ab:=Kl (f:=AL) (sz:=1) (fun _=>rfl) (by decide) b b0 (by omega);by_cases c2:e2=[]
      .subst c2;simp only[By,CO,D8,CS]at*
       (refine Ao rfl Tryz.func6 rfl rfl rfl ?_;show Wp _ _ _ _ (Tryz.f6.body.get rfl) _ _;simp only[Tryz.f6,AS])
       (repeat' (first|simp only[go_sem, *]|(refine sx ?_ ?_<;>intro hc)|refine sy (by omega) fun x hx hm=>?_|simp(disch:=first|assumption|omega) only[AN]))
       done
      .have eb:=Kl (f:=EG) (sz:=5) (fun _=>rfl) (by decide) e2 c2 (by omega);simp only[By,CO,D8,CS]at*
       (refine Ao rfl Tryz.func6 rfl rfl rfl ?_;show Wp _ _ _ _ (Tryz.f6.body.get rfl) _ _;simp only[Tryz.f6,AS])
       (repeat' (first|simp only[go_sem, *]|(refine sx ?_ ?_<;>intro hc)|refine sy (by omega) fun x hx hm=>?_|simp(disch:=first|assumption|omega) only[AN]))
       done
    .clear hr1;have aa:=Kl (f:=AL) (sz:=1) (fun _=>rfl) (by decide) a a0 (by omega);by_cases b0:b=[]
     .subst b0;simp only[DU,Bi,EX]at hr2;obtain⟨rfl,rfl⟩:=hr2;by_cases c1:e1=[]
      .subst c1;simp only[By,CO,D8,CS]at*
       (refine Ao rfl Tryz.func6 rfl rfl rfl ?_;show Wp _ _ _ _ (Tryz.f6.body.get rfl) _ _;simp only[Tryz.f6,AS])
       (repeat' (first|simp only[go_sem, *]|(refine sx ?_ ?_<;>intro hc)|refine sy (by omega) fun x hx hm=>?_|simp(disch:=first|assumption|omega) only[AN]))
       done
      .have ea:=Kl (f:=EG) (sz:=5) (fun _=>rfl) (by decide) e1 c1 (by omega);simp only[By,CO,D8,CS]at*
       (refine Ao rfl Tryz.func6 rfl rfl rfl ?_;show Wp _ _ _ _ (Tryz.f6.body.get rfl) _ _;simp only[Tryz.f6,AS])
       (repeat' (first|simp only[go_sem, *]|(refine sx ?_ ?_<;>intro hc)|refine sy (by omega) fun x hx hm=>?_|simp(disch:=first|assumption|omega) only[AN]))
       done
     .clear hr2;have am:=WY (f:=AL) (sz:=1) (fun _=>rfl) (by decide) a b b0 (by omega);by_cases c1:e1=[]
      .subst c1;by_cases c2:e2=[]
       .subst c2;simp only[By,CO,D8,CS]at*
        (refine Ao rfl Tryz.func6 rfl rfl rfl ?_;show Wp _ _ _ _ (Tryz.f6.body.get rfl) _ _;simp only[Tryz.f6,AS])
        (repeat' (first|simp only[go_sem, *]|(refine sx ?_ ?_<;>intro hc)|refine sy (by omega) fun x hx hm=>?_|simp(disch:=first|assumption|omega) only[AN]))
        done
       .have eb:=Kl (f:=EG) (sz:=5) (fun _=>rfl) (by decide) e2 c2 (by omega);simp only[By,CO,D8,CS]at*
        (refine Ao rfl Tryz.func6 rfl rfl rfl ?_;show Wp _ _ _ _ (Tryz.f6.body.get rfl) _ _;simp only[Tryz.f6,AS])
        (repeat' (first|simp only[go_sem, *]|(refine sx ?_ ?_<;>intro hc)|refine sy (by omega) fun x hx hm=>?_|simp(disch:=first|assumption|omega) only[AN]))
        done
      .have ea:=Kl (f:=EG) (sz:=5) (fun _=>rfl) (by decide) e1 c1 (by omega);by_cases c2:e2=[]
       .subst c2;simp only[By,CO,D8,CS]at*
        (refine Ao rfl Tryz.func6 rfl rfl rfl ?_;show Wp _ _ _ _ (Tryz.f6.body.get rfl) _ _;simp only[Tryz.f6,AS])
        (repeat' (first|simp only[go_sem, *]|(refine sx ?_ ?_<;>intro hc)|refine sy (by omega) fun x hx hm=>?_|simp(disch:=first|assumption|omega) only[AN]))
        done
       .have em:=WY (f:=EG) (sz:=5) (fun _=>rfl) (by decide) e1 e2 c2 (by omega);simp only[By,CO,D8,CS]at*
        (refine Ao rfl Tryz.func6 rfl rfl rfl ?_;show Wp _ _ _ _ (Tryz.f6.body.get rfl) _ _;simp only[Tryz.f6,AS])
        (repeat' (first|simp only[go_sem, *]|(refine sx ?_ ?_<;>intro hc)|refine sy (by omega) fun x hx hm=>?_|simp(disch:=first|assumption|omega) only[AN]))
        done
 .rw[yl _ h0]at h1 h2;simp only[Tn,sA,Dk,CO]at h1 h2 hn;clear h0;by_cases a0:a=[]
  .subst a0;by_cases b0:b=[]
   .subst b0;simp only[By,CO,D8,CS]at*
    (refine Ao rfl Tryz.func6 rfl rfl rfl ?_;show Wp _ _ _ _ (Tryz.f6.body.get rfl) _ _;simp only[Tryz.f6,AS])
    (repeat' (first|simp only[go_sem, *]|(refine sx ?_ ?_<;>intro hc)|refine sy (by omega) fun x hx hm=>?_|simp(disch:=first|assumption|omega) only[AN]))
    done
   .have ab:=Kl (f:=AL) (sz:=1) (fun _=>rfl) (by decide) b b0 (by omega);simp only[By,CO,D8,CS]at*
    (refine Ao rfl Tryz.func6 rfl rfl rfl ?_;show Wp _ _ _ _ (Tryz.f6.body.get rfl) _ _;simp only[Tryz.f6,AS])
    (repeat' (first|simp only[go_sem, *]|(refine sx ?_ ?_<;>intro hc)|refine sy (by omega) fun x hx hm=>?_|simp(disch:=first|assumption|omega) only[AN]))
    done
  .have aa:=Kl (f:=AL) (sz:=1) (fun _=>rfl) (by decide) a a0 (by omega);by_cases b0:b=[]
   .subst b0;simp only[By,CO,D8,CS]at*
    (refine Ao rfl Tryz.func6 rfl rfl rfl ?_;show Wp _ _ _ _ (Tryz.f6.body.get rfl) _ _;simp only[Tryz.f6,AS])
    (repeat' (first|simp only[go_sem, *]|(refine sx ?_ ?_<;>intro hc)|refine sy (by omega) fun x hx hm=>?_|simp(disch:=first|assumption|omega) only[AN]))
    done
   .have am:=WY (f:=AL) (sz:=1) (fun _=>rfl) (by decide) a b b0 (by omega);simp only[By,CO,D8,CS]at*
    (refine Ao rfl Tryz.func6 rfl rfl rfl ?_;show Wp _ _ _ _ (Tryz.f6.body.get rfl) _ _;simp only[Tryz.f6,AS])
    (repeat' (first|simp only[go_sem, *]|(refine sx ?_ ?_<;>intro hc)|refine sy (by omega) fun x hx hm=>?_|simp(disch:=first|assumption|omega) only[AN]))
    done
theorem ADo:Bh Tryz.prog 8 57=some [.ce 3,.ce 3]:=by kernel_rfl
theorem ABl:Q8 57=true:=by kernel_rfl
def z8(l:List Int×List Int):List AR:=[.ce (l.1.map AL),.ce (l.2.map AL)]
theorem mX:G6 [.ce 3,.ce 3] z8 fun l=>l.1.length≤maxLen∧l.2.length≤maxLen:=fun xs h=>by
 obtain⟨a,l,rfl,ha,h⟩:=all_cons h;obtain⟨b,rfl,hb⟩:=ME h;obtain⟨a,rfl,h1,_⟩:=CV ha sh3 L5;obtain⟨b,rfl,h2,_⟩:=CV hb sh3 L5;exact⟨(a,b),rfl,h1,h2⟩
end Go.Proofs
