/-
  Parts: SolArgs SolArgs2 SolK2.
-/
import Derived.Test.YtbinfhpngacfgaaGreatSt10
import Derived.Test.YtbinfhpngacfgaaGreatSt12
import Derived.Test.YtbinfhpngacfgaaGreatSt13
import Derived.Test.YtbinfhpngacfgaaGreatSt15
import Derived.Test.YtbinfhpngacfgaaGreatSt16
set_option linter.all false
set_option linter.unusedSimpArgs false
set_option linter.unusedVariables false
namespace Go.Proofs
open Go Go.Abs
set_option maxRecDepth 100000
def HY{α:Type}(ss:List Sh)(enc:α→List AW)(ok:α→Prop):Prop:= ∀xs,J1 Tryz.prog 8 ss xs→ ∃a,xs=enc a∧ok a
theorem CY{k:IntKind}{d:AW}(h:ZZ Tryz.prog 8 (.int k) d): ∃m,d=.int k m:=by cases h;exact⟨_,rfl⟩
theorem qq{d:AW}(h:ZZ Tryz.prog 8 .bool d): ∃m,d=.bool m:=by cases h;exact⟨_,rfl⟩
theorem Cv{α:Type}{enc:α→List AW}{ok:α→Prop}{t:TypeId}{ss:List Sh}{d:AW}(h:ZZ Tryz.prog 8 (.lst t) d)(hs:Bp Tryz.prog 8 t=some ss)(hr:HY ss enc ok): ∃l:List α,d=.lst (l.map enc)∧l.length≤maxLen∧ ∀a∈l,ok a:=by
 cases h with
 |lst _ ss' es h1 h2 h3 h4=>
  rw[hs]at h1;cases h1;have key: ∀es:List (List AW),(∀e∈es,J1 Tryz.prog 8 ss e)→ ∃l:List α,es=l.map enc∧ ∀a∈l,ok a:=by
   intro es;induction es with
   |nil=>intro _;exact⟨[],rfl,by simp⟩
   |cons e es ih=>
    intro hk;obtain⟨a,rfl,ha⟩:=hr e (hk e (by simp));obtain⟨l,rfl,hl⟩:=ih fun e he=>hk e (by simp[he]);exact⟨a::l,rfl,fun b hb=>by rcases List.mem_cons.1 hb with rfl|hb;exact ha;exact hl b hb⟩
  obtain⟨l,rfl,hl⟩:=key es fun e he=>⟨h3 e he,h4 e he⟩;exact⟨l,rfl,by simpa using h2,hl⟩
theorem MX{s:Sh}{xs:List AW}(h:J1 Tryz.prog 8 [s] xs): ∃a,xs=[a]∧ZZ Tryz.prog 8 s a:=by
 obtain⟨h1,h2⟩:=h;rcases xs with _|⟨a,_|⟨b,l⟩⟩<;>simp at h1;exact⟨a,rfl,h2 0 _ _ rfl rfl⟩
theorem all_cons{s:Sh}{ss:List Sh}{xs:List AW}(h:J1 Tryz.prog 8 (s::ss) xs): ∃a l,xs=a::l∧ZZ Tryz.prog 8 s a∧J1 Tryz.prog 8 ss l:=by
 obtain⟨h1,h2⟩:=h;rcases xs with _|⟨a,l⟩
 .simp at h1
 .exact⟨a,l,rfl,h2 0 _ _ rfl rfl,by simpa using h1,fun i s x e1 e2=>h2 (i+1) s x (by simpa using e1) (by simpa using e2)⟩
theorem all_nil{xs:List AW}(h:J1 Tryz.prog 8 [] xs):xs=[]:=List.eq_nil_of_length_eq_zero (by simpa using h.1)
theorem ABY:Bp Tryz.prog 8 88=some [.int .i64,.int .i64]:=by kernel_rfl
theorem AD9:Bp Tryz.prog 8 85=some [.int .i64,.int .i64,.lst 85]:=by kernel_rfl
theorem Ow:HY [.int .i64,.int .i64] AN fun _=>True:=fun xs h=>by
 obtain⟨a,l,rfl,ha,h⟩:=all_cons h;obtain⟨b,rfl,hb⟩:=MX h;obtain⟨k,rfl⟩:=CY ha;obtain⟨n,rfl⟩:=CY hb;exact⟨⟨k,n⟩,rfl,trivial⟩
theorem qt{s:Sh}{d:AW}(h:ZZ Tryz.prog 8 s d):s=.lst 85→ ∃l:List B4,d=.lst (l.map Bs):=by
 induction h with
 |lst t ss es h1 h2 h3 h4 ih=>
  intro e;cases e;rw[AD9]at h1;cases h1;have key: ∀es:List (List AW),(∀e∈es,e.length=3)→(∀e∈es,∀(i:Nat) s x,[Sh.int .i64,.int .i64,.lst 85][i]? =some s→e[i]? =some x→ZZ Tryz.prog 8 s x)→(∀e∈es,∀(i:Nat) s x,[Sh.int .i64,.int .i64,.lst 85][i]? =some s→e[i]? =some x→s=.lst 85→ ∃l:List B4,x=.lst (l.map Bs))→ ∃l:List B4,es=l.map Bs:=by
   intro es;induction es with
   |nil=>intro _ _ _;exact⟨[],rfl⟩
   |cons e es ih2=>
    intro k1 k2 k3;obtain⟨l,rfl⟩:=ih2 (fun e he=>k1 e (by simp[he])) (fun e he=>k2 e (by simp[he])) fun e he=>k3 e (by simp[he]);have l3:=k1 e (by simp);rcases e with _|⟨a,_|⟨b,_|⟨c,_|⟨d,m⟩⟩⟩⟩<;>simp at l3;have q0:=k2 [a,b,c] (List.mem_cons_self ..) 0 _ _ rfl rfl;have q1:=k2 [a,b,c] (List.mem_cons_self ..) 1 _ _ rfl rfl;have q2:=k3 [a,b,c] (List.mem_cons_self ..) 2 _ _ rfl rfl rfl;obtain⟨o,rfl⟩:=CY q0;obtain⟨n,rfl⟩:=CY q1;obtain⟨q,rfl⟩:=q2;exact⟨.mk o n q::l,by simp[TN,B4.op,B4.n,B4.kids]⟩
  obtain⟨l,rfl⟩:=key es h3 h4 ih;exact⟨l,rfl⟩
 |_=>intro e;cases e
theorem S6{t:TypeId}{ts:List TypeId}{xs:List AV}{ss:List Sh}(h:P9 Tryz.prog 8 (t::ts) xs)(hs:Bp Tryz.prog 8 t=some ss): ∃ds l,xs=S5 Tryz.prog t ds::l∧J1 Tryz.prog 8 ss ds∧P9 Tryz.prog 8 ts l:=by
 cases h with
 |cons h1 h2 h3=>
  rw[hs]at h1;cases h1;exact⟨_,_,rfl,h2,h3⟩
theorem o6{xs:List AV}(h:P9 Tryz.prog 8 [] xs):xs=[]:=by cases h;rfl
noncomputable def VL(t:TypeId):Bool:=match Tryz.prog.underlying t with
 |some (.struct _)=>true
 |some (.array _ _)=>true
 |_=>false
theorem eV{t:TypeId}{ds:List AW}(h:VL t=true):S5 Tryz.prog t ds=.agg (ds.map .d):=by
 unfold S5;unfold VL at h;split<;>simp_all
@[go_sem] theorem ABu:BM (KL Tryz.prog cfg) 20 [] []=.ok (.ret (.d (.bool true)),[]):=by
  unfold BM;rw[rU];rfl
end Go.Proofs
namespace Go.Proofs
open Go Go.Abs
set_option maxRecDepth 100000
theorem sh3:Bp Tryz.prog 8 3=some [.int .i64]:=by kernel_rfl
theorem sh9:Bp Tryz.prog 8 9=some [.str]:=by kernel_rfl
theorem ACr:Bp Tryz.prog 8 140=some [.int .i64,.int .i64,.lst 85,.lst 3]:=by kernel_rfl
theorem ACs:Bp Tryz.prog 8 147=some [.lst 187,.lst 189,.lst 151]:=by kernel_rfl
theorem ACv:Bp Tryz.prog 8 187=some [.int .i64,.int .i64]:=by kernel_rfl
theorem ACw:Bp Tryz.prog 8 189=some [.int .i64,.int .i64]:=by kernel_rfl
theorem ACu:Bp Tryz.prog 8 151=some [.int .i64,.lst 3,.int .i64]:=by kernel_rfl
theorem AD6:Bp Tryz.prog 8 66=some [.int .i64,.bool]:=by kernel_rfl
theorem ACp:Bp Tryz.prog 8 114=some [.int .i64,.int .i64,.lst 88]:=by kernel_rfl
theorem AD7:Bp Tryz.prog 8 69=some [.int .i64,.int .i64,.int .i64,.lst 73]:=by kernel_rfl
theorem AD8:Bp Tryz.prog 8 73=some [.lst 88]:=by kernel_rfl
theorem ACq:Bp Tryz.prog 8 127=some [.int .i64,.int .i64,.lst 88]:=by kernel_rfl
theorem AD4:Bp Tryz.prog 8 26=some [.lst 9,.lst 140,.lst 147,.int .i64]:=by kernel_rfl
theorem AD5:Bp Tryz.prog 8 32=some [.lst 66,.lst 114,.lst 69,.lst 127]:=by kernel_rfl
theorem AB4:VL 26=true:=by kernel_rfl
theorem AB5:VL 32=true:=by kernel_rfl
theorem UG:HY [.int .i64] AO fun _=>True:=fun xs h=>by
 obtain⟨a,rfl,ha⟩:=MX h;obtain⟨k,rfl⟩:=CY ha;exact⟨k,rfl,trivial⟩
theorem qu{d:AW}(h:ZZ Tryz.prog 8 .str d): ∃m,d=.str m∧m.size≤maxLen:=by cases h;exact⟨_,rfl,by assumption⟩
theorem mm:HY [.str] Bt fun s=>s.size≤maxLen:=fun xs h=>by
 obtain⟨a,rfl,ha⟩:=MX h;obtain⟨k,rfl,hk⟩:=qu ha;exact⟨k,rfl,hk⟩
theorem dW:HY [.int .i64,.int .i64,.lst 85,.lst 3] BQ fun _=>True:=fun xs h=>by
 obtain⟨a,l,rfl,ha,h⟩:=all_cons h;obtain⟨b,l,rfl,hb,h⟩:=all_cons h;obtain⟨c,l,rfl,hc,h⟩:=all_cons h;obtain⟨d,rfl,hd⟩:=MX h;obtain⟨a,rfl⟩:=CY ha;obtain⟨b,rfl⟩:=CY hb;obtain⟨c,rfl⟩:=qt hc rfl;obtain⟨d,rfl,_,_⟩:=Cv hd sh3 UG;exact⟨⟨a,b,c,d⟩,rfl,trivial⟩
theorem dV:HY [.int .i64,.int .i64] BK fun _=>True:=fun xs h=>by
 obtain⟨a,l,rfl,ha,h⟩:=all_cons h;obtain⟨b,rfl,hb⟩:=MX h;obtain⟨a,rfl⟩:=CY ha;obtain⟨b,rfl⟩:=CY hb;exact⟨⟨a,b⟩,rfl,trivial⟩
theorem Yx:HY [.int .i64,.int .i64] BB fun _=>True:=fun xs h=>by
 obtain⟨a,l,rfl,ha,h⟩:=all_cons h;obtain⟨b,rfl,hb⟩:=MX h;obtain⟨a,rfl⟩:=CY ha;obtain⟨b,rfl⟩:=CY hb;exact⟨⟨a,b⟩,rfl,trivial⟩
theorem dY:HY [.int .i64,.lst 3,.int .i64] BJ fun _=>True:=fun xs h=>by
 obtain⟨a,l,rfl,ha,h⟩:=all_cons h;obtain⟨b,l,rfl,hb,h⟩:=all_cons h;obtain⟨c,rfl,hc⟩:=MX h;obtain⟨a,rfl⟩:=CY ha;obtain⟨b,rfl,_,_⟩:=Cv hb sh3 UG;obtain⟨c,rfl⟩:=CY hc;exact⟨⟨a,b,c⟩,rfl,trivial⟩
theorem mg:HY [.lst 187,.lst 189,.lst 151] B6 fun _=>True:=fun xs h=>by
 obtain⟨a,l,rfl,ha,h⟩:=all_cons h;obtain⟨b,l,rfl,hb,h⟩:=all_cons h;obtain⟨c,rfl,hc⟩:=MX h;obtain⟨a,rfl,_,_⟩:=Cv ha ACv dV;obtain⟨b,rfl,_,_⟩:=Cv hb ACw Yx;obtain⟨c,rfl,_,_⟩:=Cv hc ACu dY;exact⟨⟨a,b,c⟩,rfl,trivial⟩
theorem dZ:HY [.int .i64,.bool] Af fun _=>True:=fun xs h=>by
 obtain⟨a,l,rfl,ha,h⟩:=all_cons h;obtain⟨b,rfl,hb⟩:=MX h;obtain⟨a,rfl⟩:=CY ha;obtain⟨b,rfl⟩:=qq hb;exact⟨⟨a,b⟩,rfl,trivial⟩
theorem Yy:HY [.int .i64,.int .i64,.lst 88] A3 fun _=>True:=fun xs h=>by
 obtain⟨a,l,rfl,ha,h⟩:=all_cons h;obtain⟨b,l,rfl,hb,h⟩:=all_cons h;obtain⟨c,rfl,hc⟩:=MX h;obtain⟨a,rfl⟩:=CY ha;obtain⟨b,rfl⟩:=CY hb;obtain⟨c,rfl,_,_⟩:=Cv hc ABY Ow;exact⟨⟨a,b,c⟩,rfl,trivial⟩
theorem mh:HY [.lst 88] BG fun _=>True:=fun xs h=>by
 obtain⟨a,rfl,ha⟩:=MX h;obtain⟨a,rfl,_,_⟩:=Cv ha ABY Ow;exact⟨a,rfl,trivial⟩
theorem mf:HY [.int .i64,.int .i64,.int .i64,.lst 73] CK fun _=>True:=fun xs h=>by
 obtain⟨a,l,rfl,ha,h⟩:=all_cons h;obtain⟨b,l,rfl,hb,h⟩:=all_cons h;obtain⟨c,l,rfl,hc,h⟩:=all_cons h;obtain⟨d,rfl,hd⟩:=MX h;obtain⟨a,rfl⟩:=CY ha;obtain⟨b,rfl⟩:=CY hb;obtain⟨c,rfl⟩:=CY hc;obtain⟨d,rfl,_,_⟩:=Cv hd AD8 mh;exact⟨⟨a,b,c,d⟩,rfl,trivial⟩
theorem da:HY [.int .i64,.int .i64,.lst 88] AR fun _=>True:=fun xs h=>by
 obtain⟨a,l,rfl,ha,h⟩:=all_cons h;obtain⟨b,l,rfl,hb,h⟩:=all_cons h;obtain⟨c,rfl,hc⟩:=MX h;obtain⟨a,rfl⟩:=CY ha;obtain⟨b,rfl⟩:=CY hb;obtain⟨c,rfl,_,_⟩:=Cv hc ABY Ow;exact⟨⟨a,b,c⟩,rfl,trivial⟩
theorem dX:HY [.lst 9,.lst 140,.lst 147,.int .i64] ve fun p=> ∀s∈p.free,s.size≤maxLen:=fun xs h=>by
 obtain⟨a,l,rfl,ha,h⟩:=all_cons h;obtain⟨b,l,rfl,hb,h⟩:=all_cons h;obtain⟨c,l,rfl,hc,h⟩:=all_cons h;obtain⟨d,rfl,hd⟩:=MX h;obtain⟨a,rfl,_,hs⟩:=Cv ha sh9 mm;obtain⟨b,rfl,_,_⟩:=Cv hb ACr dW;obtain⟨c,rfl,_,_⟩:=Cv hc ACs mg;obtain⟨d,rfl⟩:=CY hd;exact⟨⟨a,b,c,d⟩,rfl,hs⟩
theorem mj:HY [.lst 66,.lst 114,.lst 69,.lst 127] AAL fun _=>True:=fun xs h=>by
 obtain⟨a,l,rfl,ha,h⟩:=all_cons h;obtain⟨b,l,rfl,hb,h⟩:=all_cons h;obtain⟨c,l,rfl,hc,h⟩:=all_cons h;obtain⟨d,rfl,hd⟩:=MX h;obtain⟨a,rfl,_,_⟩:=Cv ha AD6 dZ;obtain⟨b,rfl,_,_⟩:=Cv hb ACp Yy;obtain⟨c,rfl,_,_⟩:=Cv hc AD7 mf;obtain⟨d,rfl,_,_⟩:=Cv hd ACq da;exact⟨⟨a,b,c,d⟩,rfl,trivial⟩
end Go.Proofs
namespace Go.Proofs
open Go Go.Abs
set_option maxRecDepth 100000
set_option maxHeartbeats 4000000
theorem pJ(b:Nat)(e:BS)(h:AB)(bs:Nat)(π:List Nat)(prot:Option (List Nat))(rnd:Bool)(nt:Nat):EP cfg ⟨11,π,false,prot,rnd,nt⟩ b ⟨e,h,bs,[]⟩=OO cfg 11 π b e h:=by
 rw[Fb];exact OQ _ _ _ _ _
attribute [go_sem 2000] pJ
theorem Jg{K:AL}{fr:Fr}{bl:Nat}{x:Code}{Q:DX→St→Prop}{E:BS}{H:AB}{p:AJ}{s:A8}{A B:Abs.Id}{v:AV}{L:List CJ}(d5:AW)(rest:BS)
 (hE:K5 E (cfg.live 11 bl)=(2,.ptr A 0)::(3,.ptr B 0)::(5,.d d5)::(7,v)::rest) (h1:H.get A=some (.box [.d (.lst (p.free.map Bt)),.d (.lst (p.nodes.map BQ)),.d (.lst (p.defs.map B6)),.d (.int .i64 (p.main))])) (h2:H.get B=some (.box [.d (.lst (s.spots.map Af)),.d (.lst (s.groups.map A3)),.d (.lst (s.chans.map CK)),.d (.lst (s.waits.map AR))])) (h3:Kc H 4 v (L.map KC)) (hl:(Gf rest).length≤10) (hr: ∀y∈Gf rest,∃cs:List AW,H.get y=some (.box (cs.map .d)))
 (hn: ∀A' B' v' g b ν,zw p s A' B' v' g b L→(∀y∈Gf rest,∃z,ν y=some z∧H9 [] b z∧ ∀cs:List AW,H.get y=some (.box (cs.map .d))→g.get z=some (.box (cs.map .d)))→fY cfg K fr bl x ⟨(2,.ptr A' 0)::(3,.ptr B' 0)::(5,.d d5)::(7,v')::rest.map fun y=>(y.1,Ih ν y.2),g,b,[]⟩ Q):fY cfg K fr bl x (OO cfg 11 [] bl E H) Q:=by
 rw[Fb,hE];have hvl:(AE v).length≤1:=by rcases h3 with⟨rfl,_⟩|⟨id,x,rfl,_⟩<;>simp[AE]
 have hids:Gf ((2,.ptr A 0)::(3,.ptr B 0)::(5,.d d5)::(7,v)::rest)=A::B::(AE v++Gf rest):=by simp[Gf,Al,AE]
 have hdat: ∀cs:List AW,Al (cs.map .d)=[]:=fun cs=>by
  induction cs with
  |nil=>rfl
  |cons c cs ih=>simp[Al,AE,ih]
 have hrd: ∀(ν:Abs.Id→Option Abs.Id) (cs:List AW),HG ν (cs.map .d)=cs.map .d:=fun ν cs=>by
  induction cs with
  |nil=>rfl
  |cons c cs ih=>simp[HG,Ih,ih]
 obtain⟨ν,h',n,hc,hnM,hR⟩:=PE [] H ((2,.ptr A 0)::(3,.ptr B 0)::(5,.d d5)::(7,v)::rest) (A::B::(AE v++Gf rest)) (by simp only[List.length_cons,List.length_append];omega) (fun y hy=>by rw[hids]at hy;exact hy) (by
  intro y hy z hz;rcases List.mem_cons.1 hy with rfl|hy
  .rw[h1]at hz;simp[FV,Al,AE]at hz
  rcases List.mem_cons.1 hy with rfl|hy
  .rw[h2]at hz;simp[FV,Al,AE]at hz
  rcases List.mem_append.1 hy with hy|hy
  .obtain⟨x,hx⟩:=Dk h3 hy;rw[hx]at hz;simp[FV]at hz
  .obtain⟨cs,hx⟩:=hr y hy;rw[hx]at hz;simp[FV,hdat]at hz)
 obtain⟨z,hz⟩:=hR.env A (by rw[hids];simp);obtain⟨z2,hz2⟩:=hR.env B (by rw[hids];simp);have g1:=hR.get A z _ hz h1;have g2:=hR.get B z2 _ hz2 h2;simp[GL,HG,Ih]at g1 g2;have hnm: ∀x z,ν x=some z→H9 [] n z:=fun x z h=>by obtain⟨j,hj,rfl⟩:=hR.name x z h;exact⟨_,j,hj,rfl⟩
 rw[hc,List.map_cons,List.map_cons,List.map_cons,List.map_cons];have key:Kc h' 4 (Ih ν v) (L.map KC)∧ ∀id∈AE (Ih ν v),H9 [] n id:=by
  rcases h3 with⟨rfl,hz⟩|⟨id,x,rfl,hg⟩
  .exact⟨.inl ⟨by simp[Ih],hz⟩,by simp[Ih,AE]⟩
  .obtain⟨y,hy⟩:=hR.env id (by rw[hids];simp[AE]);have hg:=hR.get id y _ hy hg;have e:Ih ν (.osl id 0 (L.map KC).length)=.osl y 0 (L.map KC).length:=by simp[Ih,hy]
   rw[e];exact⟨.inr ⟨y,x,rfl,by simpa[GL]using hg⟩,fun id hid=>by
    simp only[AE,List.mem_singleton]at hid;subst hid;exact hnm _ _ hy⟩
 have:=hn z z2 (Ih ν v) h' n ν ⟨g1,g2,key.1,hnm _ _ hz,hnm _ _ hz2,key.2⟩ fun y hy=>by
  obtain⟨z3,hz3⟩:=hR.env y (by rw[hids];simp[hy]);refine⟨z3,hz3,hnm _ _ hz3,fun cs hcs=>?_⟩;have:=hR.get y z3 _ hz3 hcs;rw[this,GL,hrd]
 simpa[Ih,hz,hz2]using this
theorem nW(p:AJ)(s:A8)(hp: ∀s∈p.free,s.size≤maxLen):BM (KL Tryz.prog cfg) 11 [pA p,sA s] []=.ok (.ret (.d (.bool true)),[]):=by
 have h1:=fW p s hp;have h2:=fun n=>uz p s n hp;have h3:=fun x=>zn p s x hp;replace hp:=AA.mk hp;replace h2:=AA.mk h2;replace h3:=AA.mk h3;by_cases h0:Bh p s=0
 .have hc:=W8 h0;obtain⟨stz,hff⟩:=NV h0;rw[h0,hc]at h1;by_cases hn:(300:Int)<(Au p s).length
  ·(refine Ay rfl Tryz.func11 rfl rfl rfl ?_;show Wp _ _ _ _ (Tryz.f11.body.get rfl) _ _;simp only[Tryz.f11,Option.get_some])
   exact au
   skip
  .have hnl:(Au p s).length≤300:=by omega
   obtain⟨N,hN⟩: ∃N,N=(Au p s).length:=⟨_,rfl⟩;rw[←hN]at h1 hn hnl;clear hc;replace hN:=AA.mk hN
   (refine Ay rfl Tryz.func11 rfl rfl rfl ?_;show Wp _ _ _ _ (Tryz.f11.body.get rfl) _ _;simp only[Tryz.f11,Option.get_some])
   refine aw ?_;refine Jg (A:=[0,0]) (B:=[0,1]) (v:=.nils) (p:=p) (s:=s) (.int .i64 N) [(8,.d (.int .i64 (0)))] rfl (by simp only[go_sem]) (by simp only[go_sem]) (L:=[]) (.inl ⟨rfl,rfl⟩) (by simp[Gf,AE,Al]) (by simp[Gf,AE,Al]) fun A B v g b ν hI hx=>?_;clear hx;refine rounds (S:=fun(a:Nat×Abs.Id×Abs.Id×AV×AB×Nat)=>⟨[(2,.ptr a.2.1 0),(3,.ptr a.2.2.1 0),(5,.d (.int .i64 (N))),(7,a.2.2.2.1),(8,.d (.int .i64 (a.1)))],a.2.2.2.2.1,a.2.2.2.2.2,[]⟩)
    (Inv:=fun a=>a.1≤N∧AA (zw p s a.2.1 a.2.2.1 a.2.2.2.1 a.2.2.2.2.1 a.2.2.2.2.2 ((Au p s).take a.1))) (m:=fun a=>N-a.1) (a:=(0,A,B,v,g,b)) ⟨Nat.zero_le _,⟨hI⟩⟩ ?_
   clear hI A B v g b ν;rintro⟨i,A,B,v,g,b⟩ ⟨hiN,hI⟩ IH;dsimp only at*;replace hI:=hI.out;have pa:=hI.pa;have sb:=hI.sb;have na:=Nw hI.na;have na':=Mu hI.na;have nb:=Nw hI.nb;have nb':=Mu hI.nb;by_cases hi:i<N
   .have hii:(i:Int)<N:=by omega
    obtain⟨x,hx⟩:=get_some (l:=Au p s) (i:=i) (by rw[←hN.out];exact hi);have hN1:=h2.out (i:Int);rw[Ra h0 (by omega) (by simpa using hx)]at hN1;replace hI:=AA.mk hI;refine aw ?_;refine Jg (A:=A) (B:=B) (v:=v) (p:=p) (s:=s) (.int .i64 N) [(8,.d (.int .i64 (i))),(9,.ptr [0,b+10] 0),(11,.d (.int .i64 (0)))] rfl (by simp only[go_sem,na,pa,Bool.false_eq_true]) (by simp only[go_sem,nb,sb,Bool.false_eq_true]) (L:=(Au p s).take i) (Dt hI.out.slv fun id hid=>by
     have ni:=Nw (hI.out.nv id hid);simp only[go_sem,ni,Bool.false_eq_true]) (by simp[Gf,AE,Al]) (fun y hy=>?_) fun A' B' v' g' b' ν hI' hx9=>?_
    .simp only[Gf,AE,Al,List.append_nil,List.nil_append,List.mem_singleton]at hy;subst hy;exact⟨[.int .i64 x.wait,.int .i64 x.group,.int .i64 x.rule,.lst (x.picks.map AO)],by simp only[go_sem]⟩
    obtain⟨X,hX,nX,gX0⟩:=hx9 [0,b+10] (by simp[Gf,AE,Al]);have gX:=gX0 [.int .i64 x.wait,.int .i64 x.group,.int .i64 x.rule,.lst (x.picks.map AO)] (by simp only[go_sem]);simp only[List.map_cons,List.map_nil,Ih,hX];clear hx9 hX na na' nb nb' pa sb;refine rounds (S:=fun(a:Nat×(Abs.Id×Abs.Id×AV×Abs.Id)×AB×Nat)=>⟨[(2,.ptr a.2.1.1 0),(3,.ptr a.2.1.2.1 0),(5,.d (.int .i64 (N))),(7,a.2.1.2.2.1),(8,.d (.int .i64 (i))),(9,.ptr a.2.1.2.2.2 0),(11,.d (.int .i64 (a.1)))],a.2.2.1,a.2.2.2,[]⟩)
     (Inv:=fun a=>a.1≤i∧AA (zw p s a.2.1.1 a.2.1.2.1 a.2.1.2.2.1 a.2.2.1 a.2.2.2 ((Au p s).take i))∧AA (a.2.2.1.get a.2.1.2.2.2=some (.box [.d (.int .i64 (x.wait)),.d (.int .i64 (x.group)),.d (.int .i64 (x.rule)),.d (.lst (x.picks.map AO))])∧H9 [] a.2.2.2 a.2.1.2.2.2)) (m:=fun a=>i-a.1) (a:=(0,(A',B',v',X),g',b')) ⟨Nat.zero_le _,⟨hI'⟩,⟨gX,nX⟩⟩ ?_
    clear gX gX0 nX hI';clear hI;clear X ν b' g' v' B' A';clear b g v B A;rintro⟨k,⟨A,B,v,X⟩,g,b⟩ ⟨hki,hI,hX⟩ IHk;dsimp only at*;obtain⟨gX,nX⟩:=hX.out;replace hI:=hI.out;have pa:=hI.pa;have sb:=hI.sb;have na:=Nw hI.na;have na':=Mu hI.na;have nb:=Nw hI.nb;have nb':=Mu hI.nb;have nx:=Nw nX;have nx':=Mu nX;have hLl:((Au p s).take i).length=i:=by rw[List.length_take,←hN.out];omega
    have hTn:AA ((Au p s).take (i+1)=(Au p s).take i++[x]):=⟨by rw[List.take_add_one,hx];rfl⟩;by_cases hk:k<i
    .have hki:(k:Int)<i:=by omega
     obtain⟨y,hy⟩:=get_some (l:=Au p s) (i:=k) (by rw[←hN.out];omega);have hyL:((Au p s).take i)[k]? =some y:=by rw[List.getElem?_take,if_pos hk];exact hy
     have hss:=WB y x (by have:=ZM hff.formed hff.sok (List.mem_of_getElem? hy);omega);rw[decide_eq_false (eA hx hy hk)]at hss;have hsl:=AA.mk hI.slv;obtain⟨id,xs,rfl,gv,xv,lv,lv2⟩:=HX hI.slv hyL;rw[hLl]at lv lv2 hsl⊢;replace hI:=AA.mk hI;replace hx:=AA.mk hx;replace hy:=AA.mk hy;replace hyL:=AA.mk hyL;have id1:=Nw (hI.out.nv id (by simp[AE]));have w1:IntKind.i64.wrap ((k:Int)+1)=(k:Int)+1:=wrap_id (by omega) (by omega);refine aw ?_;refine Jg (A:=A) (B:=B) (v:=.osl id 0 i) (p:=p) (s:=s) (.int .i64 N) [(8,.d (.int .i64 (i))),(9,.ptr X 0),(11,.d (.int .i64 ((k:Int)+1)))] rfl pa sb (L:=(Au p s).take i) hsl.out (by simp[Gf,AE,Al]) (fun y hy=>?_) fun A' B' v' g' b' ν hI' hx9=>?_
     .simp only[Gf,AE,Al,List.append_nil,List.nil_append,List.mem_singleton]at hy;subst hy;exact⟨[.int .i64 x.wait,.int .i64 x.group,.int .i64 x.rule,.lst (x.picks.map AO)],gX⟩
     obtain⟨X',hX',nX',gX0⟩:=hx9 X (by simp[Gf,AE,Al]);have gX':=gX0 [.int .i64 x.wait,.int .i64 x.group,.int .i64 x.rule,.lst (x.picks.map AO)] gX;simp only[List.map_cons,List.map_nil,Ih,hX'];exact IHk.out (k+1,(A',B',v',X'),g',b') (by dsimp only;omega) ⟨by dsimp only;omega,⟨hI'⟩,⟨gX',nX'⟩⟩
    .have hki2: ¬(k:Int)<i:=by omega
     have hD1:=h3.out x;rw[U3 h0 (List.mem_of_getElem? hx)]at hD1;have hno:=yi;have w1:IntKind.i64.wrap ((i:Int)+1)=(i:Int)+1:=wrap_id (by omega) (by omega);obtain⟨T,hT⟩: ∃T,T=(Au p s).take i:=⟨_,rfl⟩;rw[←hT]at hLl hTn hI;have hsl:=AA.mk hI.slv;have hnv:=AA.mk hI.nv;have hslv:=hI.slv;replace hI:=AA.mk hI;replace hT:=AA.mk hT;have hxd:=AA.mk hx;clear hx;have hfin:=AA.mk fun(E:BS) (H:AB) (v':AV) (z1:K5 E (cfg.live 11 0)=[(2,.ptr A 0),(3,.ptr B 0),(5,.d (.int .i64 (N))),(7,v'),(8,.d (.int .i64 ((i:Int)+1)))]) (z2:H.get A=some (.box [.d (.lst (p.free.map Bt)),.d (.lst (p.nodes.map BQ)),.d (.lst (p.defs.map B6)),.d (.int .i64 (p.main))])) (z3:H.get B=some (.box [.d (.lst (s.spots.map Af)),.d (.lst (s.groups.map A3)),.d (.lst (s.chans.map CK)),.d (.lst (s.waits.map AR))])) (z4:Kc H 4 v' ((T++[x]).map KC))=>Jg (A:=A) (B:=B) (v:=v') (p:=p) (s:=s) (.int .i64 N) [(8,.d (.int .i64 ((i:Int)+1)))] z1 z2 z3 (L:=(Au p s).take (i+1)) (by rw[hTn.out];exact z4) (by simp[Gf,AE,Al]) (by simp[Gf,AE,Al]) fun A' B' v' g' b' ν hI' hx9=>IH.out (i+1,A',B',v',g',b') (by dsimp only;omega) ⟨by dsimp only;omega,⟨hI'⟩⟩;cases hds:Dn p s x with
     |none=>
      rw[hds]at hD1;simp only[xK,sG,sA,Eu,List.map_nil]at hD1 hno;rcases hslv with⟨rfl,hz⟩|⟨id,xs,rfl,gv⟩
      .have hz2:=List.map_eq_nil_iff.1 hz;subst hz2;have hk0: ¬(k:Int)<0:=by omega
       refine aw ?_;exact hfin.out _ _ _ rfl (by simp only[go_sem,na,pa,Bool.false_eq_true]) (by simp only[go_sem,nb,sb,Bool.false_eq_true]) (BU [] rfl (by simp only[go_sem]))
      .rw[List.length_map];subst hLl;have ni:=Nw (hnv.out id (by simp[AE]));have ni':=Mu (hnv.out id (by simp[AE]));have ai:Id.is A id=false:=AD fun e=>by rw[←e,pa]at gv;cases gv
       have ia:Id.is id A=false:=AD fun e=>by rw[e,pa]at gv;cases gv
       have bi:Id.is B id=false:=AD fun e=>by rw[←e,sb]at gv;cases gv
       have ib:Id.is id B=false:=AD fun e=>by rw[e,sb]at gv;cases gv
       have xi:Id.is X id=false:=AD fun e=>by rw[←e,gX]at gv;cases gv
       have ix:Id.is id X=false:=AD fun e=>by rw[e,gX]at gv;cases gv
       rcases xs with _|⟨y,xs⟩
       .refine ax ?_;exact hfin.out _ _ _ rfl (by simp only[go_sem,na,ia,pa,Bool.false_eq_true]) (by simp only[go_sem,nb,ib,sb,Bool.false_eq_true]) (BU [] (by simp) (by simp only[go_sem,ni,List.map_append,Bool.false_eq_true];done))
       .refine ax ?_;exact hfin.out _ _ _ rfl (by simp only[go_sem,na,ia,pa,Bool.false_eq_true]) (by simp only[go_sem,nb,ib,sb,Bool.false_eq_true]) (BU xs (by simp) (by simp only[go_sem,ni,List.map_append,Bool.false_eq_true];done))
     |some st'=>
      rw[hds]at hD1;obtain⟨he1,he2,he3⟩:=tn h0 (List.mem_of_getElem? hxd.out) hds;have hcm:=fV p st'.sol hp.out;rw[he1]at hcm;have hev: ¬(st'.ev.length:Int)=0:=by
       cases h:st'.ev with
       |nil=>exact absurd h he2
       |cons a l=>
        rw[List.length_cons];omega
      clear hno he2;simp only[xK,sG,sA]at hD1;rcases hslv with⟨rfl,hz⟩|⟨id,xs,rfl,gv⟩
      .have hz2:=List.map_eq_nil_iff.1 hz;subst hz2;have hk0: ¬(k:Int)<0:=by omega
       refine aw ?_;exact hfin.out _ _ _ rfl (by simp only[go_sem,na,pa,Bool.false_eq_true]) (by simp only[go_sem,nb,sb,Bool.false_eq_true]) (BU [] rfl (by simp only[go_sem]))
      .rw[List.length_map];subst hLl;have ni:=Nw (hnv.out id (by simp[AE]));have ni':=Mu (hnv.out id (by simp[AE]));have ai:Id.is A id=false:=AD fun e=>by rw[←e,pa]at gv;cases gv
       have ia:Id.is id A=false:=AD fun e=>by rw[e,pa]at gv;cases gv
       have bi:Id.is B id=false:=AD fun e=>by rw[←e,sb]at gv;cases gv
       have ib:Id.is id B=false:=AD fun e=>by rw[e,sb]at gv;cases gv
       have xi:Id.is X id=false:=AD fun e=>by rw[←e,gX]at gv;cases gv
       have ix:Id.is id X=false:=AD fun e=>by rw[e,gX]at gv;cases gv
       rcases xs with _|⟨y,xs⟩
       .refine ax ?_;exact hfin.out _ _ _ rfl (by simp only[go_sem,na,ia,pa,Bool.false_eq_true]) (by simp only[go_sem,nb,ib,sb,Bool.false_eq_true]) (BU [] (by simp) (by simp only[go_sem,ni,List.map_append,Bool.false_eq_true];done))
       .refine ax ?_;exact hfin.out _ _ _ rfl (by simp only[go_sem,na,ia,pa,Bool.false_eq_true]) (by simp only[go_sem,nb,ib,sb,Bool.false_eq_true]) (BU xs (by simp) (by simp only[go_sem,ni,List.map_append,Bool.false_eq_true];done))
   .have hii: ¬(i:Int)<N:=by omega
    obtain rfl:i=N:=by omega
    have hN1:=h2.out (i:Int);rw[YL h0 (.inr (by rw[←hN.out];exact Int.le_refl _))]at hN1;have hD1:=h3.out ⟨(s.waits.length:Int),0,0,[]⟩;rw[ei h0 yh]at hD1;simp only[O7,List.map_nil]at hD1;replace hI:=AA.mk hI;exact au
 .have hc:=gY h0;rw[Py h0,hc]at h1;clear h0
  (refine Ay rfl Tryz.func11 rfl rfl rfl ?_;show Wp _ _ _ _ (Tryz.f11.body.get rfl) _ _;simp only[Tryz.f11,Option.get_some])
  exact au
  skip
end Go.Proofs
