/-
  Parts of it.
-/
import Derived.Test.YtbinfhpngacfgaaGreatDe10
import Derived.Test.YtbinfhpngacfgaaGreatDe12
import Derived.Test.YtbinfhpngacfgaaGreatDe13
import Derived.Test.YtbinfhpngacfgaaGreatDe15
import Derived.Test.YtbinfhpngacfgaaGreatDe16
set_option linter.all false
namespace Go.Proofs
open Go Go.Abs
set_option maxRecDepth 100000
def M8{α:Type}(ss:List Sh)(enc:α→List AZ)(ok:α→Prop):Prop:= ∀xs,Ka Tryz.prog 8 ss xs→ ∃a,xs=enc a∧ok a
variable{d:AZ}
theorem Fx{k:IntKind}(h:ao Tryz.prog 8 (.int k) d): ∃m,d=.int k m:=by cases h;exact⟨_,rfl⟩
variable{t:TypeId}{ss:List Sh}
theorem Gw{α:Type}{enc:α→List AZ}{ok:α→Prop}(h:ao Tryz.prog 8 (.be t) d)(hs:Cw Tryz.prog 8 t=some ss)(hr:M8 ss enc ok): ∃l:List α,d=.be (l.map enc)∧l.length≤maxLen∧ ∀a∈l,ok a:=by
 cases h with
 |be _ ss' es h1 h2 h3 h4=>
  rw[hs]at h1;cases h1;have key: ∀es:List (List AZ),(∀e∈es,Ka Tryz.prog 8 ss e)→ ∃l:List α,es=l.map enc∧ ∀a∈l,ok a:=by
   intro es;induction es with
   |nil=>intro _;exact⟨[],rfl,by simp⟩
   |cons e es ih=>
    intro hk;obtain⟨a,rfl,ha⟩:=hr e (hk e (by simp));obtain⟨l,rfl,hl⟩:=ih fun e he=>hk e (by simp[he]);exact⟨a::l,rfl,fun b hb=>by rcases Ce.1 hb with rfl|hb;exact ha;exact hl b hb⟩
  obtain⟨l,rfl,hl⟩:=key es fun e he=>⟨h3 e he,h4 e he⟩;exact⟨l,rfl,by simpa using h2,hl⟩
variable{s:Sh}{xs:List AZ}
theorem Vl(h:Ka Tryz.prog 8 [s] xs): ∃a,xs=[a]∧ao Tryz.prog 8 s a:=by
 obtain⟨h1,h2⟩:=h;rcases xs with _|⟨a,_|⟨b,l⟩⟩<;>simp at h1;exact⟨a,rfl,h2 0 _ _ rfl rfl⟩
theorem all_cons(h:Ka Tryz.prog 8 (s::ss) xs): ∃a l,xs=a::l∧ao Tryz.prog 8 s a∧Ka Tryz.prog 8 ss l:=by
 obtain⟨h1,h2⟩:=h;rcases xs with _|⟨a,l⟩
 .simp at h1
 .exact⟨a,l,rfl,h2 0 _ _ rfl rfl,by simpa using h1,fun i s x e1 e2=>h2 (i+1) s x (by simpa using e1) (by simpa using e2)⟩
theorem all_nil(h:Ka Tryz.prog 8 [] xs):xs=[]:=Cs (by simpa using h.1)
theorem AGH:Cw Tryz.prog 8 85=some [.int .i64,.int .i64,.be 85]:=by kernel_rfl
theorem s7(h:ao Tryz.prog 8 s d):s=.be 85→ ∃l:List BS,d=.be (l.map BU):=by
 induction h with
 |be t ss es h1 h2 h3 h4 ih=>
  intro e;cases e;rw[AGH]at h1;cases h1;have key: ∀es:List (List AZ),(∀e∈es,e.length=3)→(∀e∈es,∀(i:Nat) s x,[Sh.int .i64,.int .i64,.be 85][i]? =some s→e[i]? =some x→ao Tryz.prog 8 s x)→(∀e∈es,∀(i:Nat) s x,[Sh.int .i64,.int .i64,.be 85][i]? =some s→e[i]? =some x→s=.be 85→ ∃l:List BS,x=.be (l.map BU))→ ∃l:List BS,es=l.map BU:=by
   intro es;induction es with
   |nil=>intro _ _ _;exact⟨[],rfl⟩
   |cons e es ih2=>
    intro k1 k2 k3;obtain⟨l,rfl⟩:=ih2 (fun e he=>k1 e (by simp[he])) (fun e he=>k2 e (by simp[he])) fun e he=>k3 e (by simp[he]);have l3:=k1 e (by simp);rcases e with _|⟨a,_|⟨b,_|⟨c,_|⟨d,m⟩⟩⟩⟩<;>simp at l3;have q0:=k2 [a,b,c] (F1 ..) 0 _ _ rfl rfl;have q1:=k2 [a,b,c] (F1 ..) 1 _ _ rfl rfl;have q2:=k3 [a,b,c] (F1 ..) 2 _ _ rfl rfl rfl;obtain⟨o,rfl⟩:=Fx q0;obtain⟨n,rfl⟩:=Fx q1;obtain⟨q,rfl⟩:=q2;exact⟨.mk o n q::l,by simp[Ua,BS.op,BS.n,BS.kids]⟩
  obtain⟨l,rfl⟩:=key es h3 h4 ih;exact⟨l,rfl⟩
 |_=>intro e;cases e
theorem UE{ts:List TypeId}{xs:List AV}(h:Q9 Tryz.prog 8 (t::ts) xs)(hs:Cw Tryz.prog 8 t=some ss): ∃ds l,xs=QG Tryz.prog t ds::l∧Ka Tryz.prog 8 ss ds∧Q9 Tryz.prog 8 ts l:=by
 cases h with
 |cons h1 h2 h3=>
  rw[hs]at h1;cases h1;exact⟨_,_,rfl,h2,h3⟩
theorem qp{xs:List AV}(h:Q9 Tryz.prog 8 [] xs):xs=[]:=by cases h;rfl
noncomputable def Ph(t:TypeId):Bool:=match Tryz.prog.underlying t with
 |some (.struct _)=>true
 |some (.array _ _)=>true
 |_=>false
theorem xf{ds:List AZ}(h:Ph t=true):QG Tryz.prog t ds=.agg (ds.map .d):=by
 unfold QG;unfold Ph at h;split<;>simp_all
theorem xg(h:Ph t=false):QG Tryz.prog t [d]=.d d:=by
 unfold QG;unfold Ph at h;split
 .simp_all
 .simp_all
 .rfl
@[go_sem] theorem AED:BJ (KL Tryz.prog cfg) 20 [] []=.ok (.ret (.d (.bool true)),[]):=by
  unfold BJ;rw[tS];rfl
theorem sh3:Cw Tryz.prog 8 3=some [.int .i64]:=by kernel_rfl
theorem sh9:Cw Tryz.prog 8 9=some [.str]:=by kernel_rfl
theorem AE2:Cw Tryz.prog 8 140=some [.int .i64,.int .i64,.be 85,.be 3]:=by kernel_rfl
theorem AE3:Cw Tryz.prog 8 147=some [.be 187,.be 189,.be 151]:=by kernel_rfl
theorem AE5:Cw Tryz.prog 8 187=some [.int .i64,.int .i64]:=by kernel_rfl
theorem AE6:Cw Tryz.prog 8 189=some [.int .i64,.int .i64]:=by kernel_rfl
theorem AE4:Cw Tryz.prog 8 151=some [.int .i64,.be 3,.int .i64]:=by kernel_rfl
theorem AGD:Cw Tryz.prog 8 26=some [.be 9,.be 140,.be 147,.int .i64]:=by kernel_rfl
theorem AEP:Ph 26=true:=by kernel_rfl
theorem P0:M8 [.int .i64] AK fun _=>True:=fun xs h=>by
 obtain⟨a,rfl,ha⟩:=Vl h;obtain⟨k,rfl⟩:=Fx ha;exact⟨k,rfl,trivial⟩
theorem s8(h:ao Tryz.prog 8 .str d): ∃m,d=.str m∧m.size≤maxLen:=by cases h;exact⟨_,rfl,by assumption⟩
theorem pN:M8 [.str] Av fun s=>s.size≤maxLen:=fun xs h=>by
 obtain⟨a,rfl,ha⟩:=Vl h;obtain⟨k,rfl,hk⟩:=s8 ha;exact⟨k,rfl,hk⟩
theorem fS:M8 [.int .i64,.int .i64,.be 85,.be 3] Ad fun _=>True:=fun xs h=>by
 obtain⟨a,l,rfl,ha,h⟩:=all_cons h;obtain⟨b,l,rfl,hb,h⟩:=all_cons h;obtain⟨c,l,rfl,hc,h⟩:=all_cons h;obtain⟨d,rfl,hd⟩:=Vl h;obtain⟨a,rfl⟩:=Fx ha;obtain⟨b,rfl⟩:=Fx hb;obtain⟨c,rfl⟩:=s7 hc rfl;obtain⟨d,rfl,_,_⟩:=Gw hd sh3 P0;exact⟨⟨a,b,c,d⟩,rfl,trivial⟩
theorem fQ:M8 [.int .i64,.int .i64] Az fun _=>True:=fun xs h=>by
 obtain⟨a,l,rfl,ha,h⟩:=all_cons h;obtain⟨b,rfl,hb⟩:=Vl h;obtain⟨a,rfl⟩:=Fx ha;obtain⟨b,rfl⟩:=Fx hb;exact⟨⟨a,b⟩,rfl,trivial⟩
theorem Z3:M8 [.int .i64,.int .i64] Aj fun _=>True:=fun xs h=>by
 obtain⟨a,l,rfl,ha,h⟩:=all_cons h;obtain⟨b,rfl,hb⟩:=Vl h;obtain⟨a,rfl⟩:=Fx ha;obtain⟨b,rfl⟩:=Fx hb;exact⟨⟨a,b⟩,rfl,trivial⟩
theorem fU:M8 [.int .i64,.be 3,.int .i64] Ay fun _=>True:=fun xs h=>by
 obtain⟨a,l,rfl,ha,h⟩:=all_cons h;obtain⟨b,l,rfl,hb,h⟩:=all_cons h;obtain⟨c,rfl,hc⟩:=Vl h;obtain⟨a,rfl⟩:=Fx ha;obtain⟨b,rfl,_,_⟩:=Gw hb sh3 P0;obtain⟨c,rfl⟩:=Fx hc;exact⟨⟨a,b,c⟩,rfl,trivial⟩
theorem pK:M8 [.be 187,.be 189,.be 151] Ax fun _=>True:=fun xs h=>by
 obtain⟨a,l,rfl,ha,h⟩:=all_cons h;obtain⟨b,l,rfl,hb,h⟩:=all_cons h;obtain⟨c,rfl,hc⟩:=Vl h;obtain⟨a,rfl,_,_⟩:=Gw ha AE5 fQ;obtain⟨b,rfl,_,_⟩:=Gw hb AE6 Z3;obtain⟨c,rfl,_,_⟩:=Gw hc AE4 fU;exact⟨⟨a,b,c⟩,rfl,trivial⟩
theorem fT:M8 [.be 9,.be 140,.be 147,.int .i64] yJ fun p=> ∀s∈p.free,s.size≤maxLen:=fun xs h=>by
 obtain⟨a,l,rfl,ha,h⟩:=all_cons h;obtain⟨b,l,rfl,hb,h⟩:=all_cons h;obtain⟨c,l,rfl,hc,h⟩:=all_cons h;obtain⟨d,rfl,hd⟩:=Vl h;obtain⟨a,rfl,_,hs⟩:=Gw ha sh9 pN;obtain⟨b,rfl,_,_⟩:=Gw hb AE2 fS;obtain⟨c,rfl,_,_⟩:=Gw hc AE3 pK;obtain⟨d,rfl⟩:=Fx hd;exact⟨⟨a,b,c,d⟩,rfl,hs⟩
theorem AGF:Cw Tryz.prog 8 36=some [.be 3]:=by kernel_rfl
theorem AEQ:Ph 36=false:=by kernel_rfl
def gn(l:List Int):List AZ:=[.be (l.map AK)]
theorem fR:M8 [.be 3] gn fun l=>l.length≤maxLen:=fun xs h=>by
 obtain⟨a,rfl,ha⟩:=Vl h;obtain⟨l,rfl,hl,hn⟩:=Gw ha sh3 P0;exact⟨l,rfl,hl⟩
set_option maxHeartbeats 4000000
theorem pe{g:G}{ks:List Int}{i:Nat}{k:Int}(h:ks[i]? =some k):EU g .slice 1 (.d (.be (ks.map AK))) (some (.d (.int .i64 (i:Int)))) (some (.d (.int .i64 ((i:Int)+1)))) none=some (.d (.be [[.int .i64 k]])):=by
 have hl:=(BE.1 h).1;have hb:DI (some (.d (.int .i64 (i:Int)))) (some (.d (.int .i64 ((i:Int)+1)))) none (ks.map AK).length=some (i,i+1,none):=by
  simp only[DI,Gk,HC];rw[DO (by omega)];rfl
 show L9 1 (ks.map AK) (DI _ _ _ _)=_;rw[hb];have e1:Nat.ble (i+1) (ks.map AK).length=true:=OL (by rw[BI];omega);have e2:Kl 1 (ks.map AK)=true:=by cases ks<;>rfl
 simp only[L9,e1,e2,Lw];rw[show i+1-i=1 by omega,←TO,←S1,show List.take 1 (List.drop i ks)=[k] by rw[RS hl];simp[(BE.1 h).2]];rfl
theorem bd(p:AI)(ks:List Int)(hp: ∀s∈p.free,s.size≤maxLen)(hk:ks.length≤maxLen):BJ (KL Tryz.prog cfg) 8 [pA p,.d (.be (ks.map AK))] []=.ok (.ret (.d (.bool true)),[]):=by
 have h1:=qJ p hp;replace hp:=AA.mk hp;cases hlk:looks p with
 |none=>
  rw[JD,hlk,CS (by simp)]at h1;simp only[QS,sA,Dh,D4]at h1
  (refine Ar rfl Tryz.func8 rfl rfl rfl ?_;show Wp _ _ _ _ (Tryz.f8.body.get rfl) _ _;simp only[Tryz.f8,AS])
  exact au
 |some lt=>
  rw[JD,hlk,DO (show(some lt).isSome=true from rfl)]at h1;have hF:=B5 hlk;cases hfo:Je p with
  |none=>
   rw[hfo]at h1;simp only[zY,QS,sA,Dh,D4]at h1
   (refine Ar rfl Tryz.func8 rfl rfl rfl ?_;show Wp _ _ _ _ (Tryz.f8.body.get rfl) _ _;simp only[Tryz.f8,AS])
   exact au
  |some st=>
   rw[hfo]at h1;simp only[zY,QS,sA]at h1;obtain⟨f1,f2,f3⟩:=bu hF hfo;have hse:Bx p st.d9=0:=by rw[Bx,hlk];simp[fg f1]
   have h2:=Ts p st.d9;rw[hse]at h2;replace f1:=AA.mk f1;replace f3:=AA.mk f3;replace hF:=AA.mk hF;replace hse:=AA.mk hse;by_cases h60:(60:Int)<ks.length
   ·(refine Ar rfl Tryz.func8 rfl rfl rfl ?_;show Wp _ _ _ _ (Tryz.f8.body.get rfl) _ _;simp only[Tryz.f8,AS])
    exact au
   ·(refine Ar rfl Tryz.func8 rfl rfl rfl ?_;show Wp _ _ _ _ (Tryz.f8.body.get rfl) _ _;simp only[Tryz.f8,AS])
    refine aw ?_;refine rounds (S:=fun(a:Nat×BM)=>⟨[(1,.d (.be (ks.map AK))),(2,.ptr [0,0] 0),(5,.ptr [0,1] 0),(8,.d (.int .i64 (a.1)))],[([0,0],.box [.d (.be (p.free.map Av)),.d (.be (p.nodes.map Ad)),.d (.be (p.defs.map Ax)),.d (.int .i64 (p.main))]),([0,1],.box [.d (.be (a.2.ac.map Aa)),.d (.be (a.2.bi.map An)),.d (.be (a.2.am.map Bc)),.d (.be (a.2.waits.map AU))])],2,[]⟩)
     (Inv:=fun a=>a.1≤ks.length∧AA (E6 p lt.ce a.2)) (m:=fun a=>ks.length-a.1) (a:=(0,st.d9)) ⟨I4 _,⟨f1.out⟩⟩ ?_
    clear h1 h2 f1 f2 f3 hse hfo;clear st;rintro⟨i,s⟩ ⟨hil,hs⟩ IH;dsimp only at*;by_cases hi:i<ks.length
    .have hii:(i:Int)<ks.length:=by omega
     obtain⟨k,hkk⟩:=get_some hi;have hse:Bx p s=0:=by rw[Bx,hlk];simp[fg hs.out]
     have h3:=xZ p s [k] hp.out;rw[Qe,DO hse,DO (by simp)]at h3;have hcut: ∀g,EU g .slice 1 (.d (.be (ks.map AK))) (some (.d (.int .i64 (i:Int)))) (some (.d (.int .i64 ((i:Int)+1)))) none=some (.d (.be [[.int .i64 k]])):=fun g=>pe hkk;cases hr:Jr p [k] s []with
     |none=>
      rw[hr]at h3;have hn:=AA2;simp only[Z1,QS,sA,Dh,D4,D8,show AK k=[.int .i64 k]from rfl]at h3 hn;replace hse:=AA.mk hse
      (repeat' (first|simp only[go_sem, *,Option.toList_some,Option.toList_none,D9,FN,D2,GS]|(refine sx ?_ ?_<;>intro hc)|refine sy (by omega) fun x hx hm=>?_|simp(disch:=first|assumption|omega) only[AJ]))
      done
     |some r=>
      obtain⟨s',ev⟩:=r;rw[hr]at h3;simp only[Z1,QS,sA,D4,D8,show AK k=[.int .i64 k]from rfl]at h3;obtain⟨q1,q2,q3⟩:=wE hF.out [k] s [] _ hs.out (by simp) hr;have hev: ∀(j:Nat) (e:EK),ev[j]? =some e→AEK s s' j e:=by
       rw[Jr]at hr;cases hpk:Ht (Cz p s) k with
       |none=>
        rw[hpk]at hr;cases hr;intro j e he;simp at he
       |some x=>
        rw[hpk]at hr;simp only at hr;cases hd:EO p s x with
        |none=>rw[hd]at hr;cases hr
        |some m=>
         rw[hd]at hr;simp only[Jr,Gc]at hr;cases hr;exact we hF.out hs.out (Q7.1 (Zq hpk)) hd
      have hel:ev.length≤401:=by simpa using q3
      have hse2:Bx p s'=0:=by rw[Bx,hlk];simp[fg q1]
      have h4:=Ts p s';rw[hse2]at h4;replace hse:=AA.mk hse;replace hse2:=AA.mk hse2;replace hev:=AA.mk hev;replace q1:=AA.mk q1;replace q2:=AA.mk q2;replace q3:=AA.mk q3
      (repeat' (first|simp only[go_sem, *,Option.toList_some,Option.toList_none,D9,FN,D2,GS]|(refine sx ?_ ?_<;>intro hc)|refine sy (by omega) fun x hx hm=>?_|simp(disch:=first|assumption|omega) only[AJ]))
      refine Aw ev (S:=fun j (_:Unit)=>⟨[(1,.d (.be (ks.map AK))),(2,.ptr [0,0] 0),(5,.ptr [0,1] 0),(8,.d (.int .i64 (i))),(9,.ptr [0,2] 0),(10,.d (.be (ev.map OI))),(12,.d (.int .i64 (j)))],[([0,0],.box [.d (.be (p.free.map Av)),.d (.be (p.nodes.map Ad)),.d (.be (p.defs.map Ax)),.d (.int .i64 (p.main))]),([0,1],.box [.d (.be (s.ac.map Aa)),.d (.be (s.bi.map An)),.d (.be (s.am.map Bc)),.d (.be (s.waits.map AU))]),([0,2],.box [.d (.be (s'.ac.map Aa)),.d (.be (s'.bi.map An)),.d (.be (s'.am.map Bc)),.d (.be (s'.waits.map AU))])],3,[]⟩)
       (Inv:=fun _ _ _=>True) (b0:=()) trivial ?_ ?_
      .rintro j e _ hy hj hjm _ IHj;have hE:=hev.out j e hy;have w1:IntKind.i64.wrap ((j:Int)+1)=(j:Int)+1:=wrap_id (by omega) (by omega);have a0:=hE.a0;have a2:=hE.a2;obtain⟨y2,hy2⟩:=get_some (l:=s'.ac) (i:=e.at_.toNat) (by omega);by_cases hb:e.at_<s.ac.length
       .obtain⟨y1,hy1⟩:=get_some (l:=s.ac) (i:=e.at_.toNat) (by omega);have hl1:y1.dead=false:=by have:=hE.live hb;rwa [AW,hy1]at this
        by_cases h4d:e.wt=4
        .obtain⟨⟨n0,n1⟩,nd⟩:=hE.tell h4d;obtain⟨y3,hy3⟩:=get_some (l:=s.ac) (i:=e.n.toNat) (by omega);have hl3:y3.dead=true:=by rwa [AW,hy3]at nd
         replace hE:=AA.mk hE;replace nd:=AA.mk nd
         (repeat' (first|simp only[go_sem, *]|(refine sx ?_ ?_<;>intro hc)|refine sy (by omega) fun x hx hm=>?_|simp(disch:=first|assumption|omega) only[AJ]))
         all_goals first|(exact IHj.out () trivial)|(exfalso;omega)|skip
        by_cases h2d:e.wt=2
        .obtain⟨g1,⟨n0,n1⟩,g3,g4,y,g5,g6⟩:=hE.go h2d;obtain⟨y3,hy3⟩:=get_some (l:=s.ac) (i:=e.n.toNat) (by omega);have hl3:y3.dead=false:=by rwa [AW,hy3]at g3
         rw[hy2]at g5;cases g5;have hin:=lH s.ac (.be (s.bi.map An)) (.be (s.am.map Bc)) (.be (s.waits.map AU)) e.n e.at_ (by have:=hs.out.small;simp only[BM.small,AP,Ap]at this;omega) hs.out.tree ⟨n0,n1⟩ a0;rw[g4]at hin;replace hE:=AA.mk hE;replace g3:=AA.mk g3;replace g4:=AA.mk g4
         (repeat' (first|simp only[go_sem, *]|(refine sx ?_ ?_<;>intro hc)|refine sy (by omega) fun x hx hm=>?_|simp(disch:=first|assumption|omega) only[AJ]))
         all_goals first|(exact IHj.out () trivial)|(exfalso;omega)|skip
        by_cases h3d:e.wt=3
        .obtain⟨g1,y,g2,g3⟩:=hE.stop h3d;rw[hy2]at g2;cases g2;subst g1;replace hE:=AA.mk hE
         (repeat' (first|simp only[go_sem, *]|(refine sx ?_ ?_<;>intro hc)|refine sy (by omega) fun x hx hm=>?_|simp(disch:=first|assumption|omega) only[AJ]))
         all_goals first|(exact IHj.out () trivial)|(exfalso;omega)|skip
        .replace hE:=AA.mk hE
         (repeat' (first|simp only[go_sem, *]|(refine sx ?_ ?_<;>intro hc)|refine sy (by omega) fun x hx hm=>?_|simp(disch:=first|assumption|omega) only[AJ]))
         all_goals first|(exact IHj.out () trivial)|(exfalso;omega)|skip
       .have h5:e.wt=5:=by have:=hE.a1;omega
        replace hE:=AA.mk hE
        (repeat' (first|simp only[go_sem, *]|(refine sx ?_ ?_<;>intro hc)|refine sy (by omega) fun x hx hm=>?_|simp(disch:=first|assumption|omega) only[AJ]))
        all_goals first|(exact IHj.out () trivial)|(exfalso;omega)|skip
      .rintro j _ hj hjm _;refine aw ?_;exact IH.out (i+1,s') (by dsimp only;omega) ⟨by dsimp only;omega,q1⟩
    .have hii: ¬(i:Int)<ks.length:=by omega
     exact au
end Go.Proofs
