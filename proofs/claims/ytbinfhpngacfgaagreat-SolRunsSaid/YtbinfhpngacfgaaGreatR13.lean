/- P -/
import Derived.Test.YtbinfhpngacfgaaGreatR12
set_option linter.all false
set_option maxRecDepth 99999
set_option maxHeartbeats 0
namespace Go
def zEj{p:Prop}(h:p:=by rw[w.1];simp[AE]):p:=h
def zEl{p:Prop}(h:p:=by rw[ai];simp[AE]):p:=h
def zEq{p:Prop}(h:p:=by simp only[go_sem,Ba,t,AM]):p:=h
def zEv{p:Prop}(h:p:=by rw[<-e];exact V.m_mem m):p:=h
def zEx{p:Prop}(h:p:=by rw[j.1];simp[AE]):p:=h
def zE0{p:Prop}(h:p:=by rw[cn];simp[AE]):p:=h
def zFL{p:Prop}(h:p:=by rw[<-e];exact P.s_mem m (i:=0) AA (by rw[L];simp[AE])):p:=h
def zFS{p:Prop}(h:p:=by rw[BI (P.trans e)];rfl):p:=h
def zFg{p:Prop}(h:p:=by rw[As];omega):p:=h
def zFh{p:Prop}(h:p:=by first|assumption|omega|(rw[N.1];decide)):p:=h
def zFm{p:Prop}(h:p:=by rw[P.1];rfl):p:=h
def zFn{p:Prop}(h:p:=by simp[BN,ag]):p:=h
end Go
namespace Go
def zAA{p:Prop}(h:p:=by
 simp only[Dt,Ax]at bi;have a0:=S.1 W (V.s_mem m (i:=2) AA (by rw[w];simp[AE]));rw[w]at av;have I:=AI a0;have J:=Aj a0;have K:=fun n=>AI (AJ a0 n) 1 3;have L:=fun n=>Aj (AJ a0 n) 1 3;have D:Id.is W m=false:=Fi bi av;have M:Id.is m W=false:=Fi av bi;replace w:=AB w;by_cases es:(40:Int)<(st.d8.waits.length+1:Nat);all_goals rcases ai with _|⟨e1,ai⟩
 all_goals
  refine BR Tryz.func87 ?_;refine ax ?_;all_goals
   first
   |refine U.1 61 (st.d8.waits.length+1) _ AA rfl (by
    simp only[go_sem,t,z,A,B,K,L,I,J,D,M,AM];first|done|rfl) (by
    simp only[BE,By,BY];simp only[go_sem,t,z,A,B,K,L,I,J,D,M,AM,CE];first|done|rfl) (fun id b1 y a=>by
    have f:=AI a;have g:=fun n=>AI (AJ a n) 1 3;have C:=y W zEj;simp only[go_sem,f,g,b1,C,AM])
   |refine U.1 63 (st.d8.waits.length+1) _ AA rfl (by
    simp only[go_sem,t,z,A,B,K,L,I,J,D,M,AM];first|done|rfl) (by
    simp only[BE,By,BY];simp only[go_sem,t,z,A,B,K,L,I,J,D,M,AM,CE];first|done|rfl) (fun id b1 y a=>by
    have f:=AI a;have g:=fun n=>AI (AJ a n) 1 3;have C:=y W zEj;simp only[go_sem,f,g,b1,C,AM])
   |refine U.1 65 (st.d8.waits.length+1) _ AA rfl (by
    simp only[go_sem,t,z,A,B,K,L,I,J,D,M,AM];first|done|rfl) (by
    simp only[BE,By,BY];simp only[go_sem,t,z,A,B,K,L,I,J,D,M,AM,CE];first|done|rfl) (fun id b1 y a=>by
    have f:=AI a;have g:=fun n=>AI (AJ a n) 1 3;have C:=y W zEj;simp only[go_sem,f,g,b1,C,AM])
   |refine cx.1 ai _ AA w.1 (by
    simp only[go_sem,t,z,A,B,K,L,I,J,D,M,AM];first|done|rfl) (by
    simp only[BE,By,BY,DO,Cs,CE];simp only[go_sem,t,z,A,B,K,L,I,J,D,M,AM];first|done|rfl) (fun id b1 y a=>by
    have f:=AI a;have g:=fun n=>AI (AJ a n) 1 3;have C:=y W zEj;simp only[go_sem,f,g,b1,C,AM])
   |refine a1.1 (V.ip 2 (.f8 (1::61::π) 0 (st.d8.waits.length+1))) _ AA (by
    simp only[go_sem,t,z,A,B,K,L,I,J,D,M,AM];first|done|rfl) (fun id b1 y a=>by
    have f:=AI a;have g:=fun n=>AI (AJ a n) 1 3;have C:=y W zEj;simp only[go_sem,f,g,b1,C,AM])
   |refine a1.1 (V.ip 2 (.f8 (1::63::π) 0 (st.d8.waits.length+1))) _ AA (by
    simp only[go_sem,t,z,A,B,K,L,I,J,D,M,AM];first|done|rfl) (fun id b1 y a=>by
    have f:=AI a;have g:=fun n=>AI (AJ a n) 1 3;have C:=y W zEj;simp only[go_sem,f,g,b1,C,AM])
   |refine a1.1 (V.ip 2 (.f8 (1::65::π) 0 (st.d8.waits.length+1))) _ AA (by
    simp only[go_sem,t,z,A,B,K,L,I,J,D,M,AM];first|done|rfl) (fun id b1 y a=>by
    have f:=AI a;have g:=fun n=>AI (AJ a n) 1 3;have C:=y W zEj;simp only[go_sem,f,g,b1,C,AM])
   |refine a1.1 (V.ip 2 (.f8 W 0 (st.d8.waits.length+1))) _ AA (by
    simp only[go_sem,t,z,A,B,K,L,I,J,D,M,AM];first|done|rfl) (fun id b1 y a=>by
    have f:=AI a;have g:=fun n=>AI (AJ a n) 1 3;have C:=y W zEj;simp only[go_sem,f,g,b1,C,AM])):p:=h
def zAC{p:Prop}(h:p:=by
 by_cases e0:(12:Int)<=q.queue.length;all_goals rcases zs with _|⟨z,zs⟩
 all_goals
  (repeat' (first|simp only[go_sem, *,AM]|(refine sx ?_ ?_<;>intro a4)|refine sy AA fun x dd az=>?_|simp(disch:=first|assumption|omega) only[AR]))
  all_goals
   first
   |(rw[c0.1 Bw];exact Z.1 _ (fun id b=>by have f:=AI b;simp only[go_sem,f,AM]))
   |(rw[c1.1 zEf];exact Z.1 _ (fun id b=>by have f:=AI b;simp only[go_sem,f,AM]))
   |(rw[b2.1 Bw zEZ zFh];refine⟨rfl,?_⟩;refine go.1 (.f8 (1::(b+85)::π) 0 (q.queue.length+1)) _ ?_ ?_ (Pw (Ao [] ?_ ?_)) (.inr fun B w=>?_) fun B b1 y u C=>?_;all_goals (first|(simp only[AE,Ac]at w;subst w;exact⟨Ar [1,b+85],_,rfl⟩)|(have f:=AI C;have k:=t.1 B C;have Y:=u Q BH;simp only[go_sem,f,k,b1,y,Y,AM];done)|(simp;done)|(simp only[go_sem,D,F,ai,ar,ad,a2,K,Ba,U.1,T.1,I.1,A6,BE,BY,AM,a',bc,a6,a5,a7,b3];first|done|rfl));done)
   |(rw[b2.1 Bw zEZ zFR];refine⟨rfl,?_⟩;refine go.1 (.f8 Q 0 (q.queue.length+1)) _ ?_ ?_ (Pw (Ao zs ?_ ?_)) (.inl rfl) fun B b1 y u C=>?_;all_goals (first|(simp only[AE,Ac]at w;subst w;exact⟨Ar [1,b+85],_,rfl⟩)|(have f:=AI C;have k:=t.1 B C;have Y:=u Q BH;simp only[go_sem,f,k,b1,y,Y,AM];done)|(simp;done)|(simp only[go_sem,D,F,ai,ar,ad,a2,K,Ba,U.1,T.1,I.1,A6,BE,BY,AM,a',bc,a6,a5,a7,b3];first|done|rfl));done)
   |(rw[d'.1 Bw zEZ zFR];exact⟨rfl,⟨V,st.work,by simp only[go_sem,D,F,ai,ar,ad,a2,K,Ba,U.1,T.1,I.1,A6,BE,BY,AM,a',bc,a6,a5,a7,b3];first|done|rfl⟩,fun B b0 C=>by(have b1:Id.is m B=false:=AF fun e=>b0 zEv;have y:Id.is A B=false:=AF fun e=>b0 (by rw[<-e];exact V.v3_mem m (by rw[I.1];simp[AE]));have Y:Id.is Q B=false:=AF fun e=>b0 (by rw[<-e];exact cc.1);have f:=AI C;have k:=t.1 B C;simp only[go_sem,f,k,b1,y,Y,AM])⟩)):p:=h
def zAE{p:Prop}(h:p:=by
 replace P:=AH.mk (D5.1 P);rcases d2 with w|w;all_goals
  rw[w]at av;refine BR Tryz.func87 ?_;refine ax ?_;first
  |refine U.1 61 1 _ (by rw[P.1];decide) zFm (by
   simp only[go_sem,t,z,A,B,AM];first|done|rfl) (by
   simp only[BE,By,BY,P.1];simp only[go_sem,t,z,A,B,AM,CE];first|done|rfl) (fun id b1 y a=>by
   have f:=AI a;have g:=fun n=>AI (AJ a n) 1 3;simp only[go_sem,f,g,b1,AM])
  |refine U.1 63 1 _ (by rw[P.1];decide) zFm (by
   simp only[go_sem,t,z,A,B,AM];first|done|rfl) (by
   simp only[BE,By,BY,P.1];simp only[go_sem,t,z,A,B,AM,CE];first|done|rfl) (fun id b1 y a=>by
   have f:=AI a;have g:=fun n=>AI (AJ a n) 1 3;simp only[go_sem,f,g,b1,AM])
  |refine U.1 65 1 _ (by rw[P.1];decide) zFm (by
   simp only[go_sem,t,z,A,B,AM];first|done|rfl) (by
   simp only[BE,By,BY,P.1];simp only[go_sem,t,z,A,B,AM,CE];first|done|rfl) (fun id b1 y a=>by
   have f:=AI a;have g:=fun n=>AI (AJ a n) 1 3;simp only[go_sem,f,g,b1,AM])):p:=h
def zAF{p:Prop}(h:p:=by
 rcases ek with rfl|rfl;all_goals
  (repeat' (first|simp only[go_sem, *,AM]|(refine sx ?_ ?_<;>intro a4)|refine sy AA fun x dd az=>?_|simp(disch:=first|assumption|omega) only[AR]))
  all_goals
   first
   |(rw[c0.1 Bw];exact Z.1 _ (fun id b=>by have f:=AI b;simp only[go_sem,f,AM]))
   |(rw[c1.1 zEf];exact Z.1 _ (fun id b=>by have f:=AI b;simp only[go_sem,f,AM]))
   |(rw[b2.1 Bw zEZ zFh];refine⟨rfl,?_⟩;refine go.1 (.f8 (1::(b+85)::π) 0 1) _ ?_ ?_ (Pw (Ao [] ?_ ?_)) (.inr fun B w=>?_) fun B b1 y u C=>?_;all_goals (first|(simp only[AE,Ac]at w;subst w;exact⟨Ar [1,b+85],_,rfl⟩)|(have f:=AI C;have k:=t.1 B C;simp only[go_sem,f,k,b1,y,AM];done)|(simp[N.1];done)|(simp only[go_sem,D,F,ai,ar,ad,a2,K,Ba,U.1,T.1,I.1,A6,BE,BY,AM,N.1];first|done|rfl));done)):p:=h
def zAJ{p:Prop}(h:p:=by
 refine Cv (J2 ad F.1 B.1 ⟨a7.node,G.place d ((i:Int)+1),G.env⟩ W.1 _ (c+75) AA (fun id D=>?_) fun i o=>⟨fun a k z=>(y.1 i o).1 a k z,Hi q.1 AA rfl i o⟩) (fun a6 g1 K=>?_)
 .simp only[go_sem,D,AM]
 obtain⟨M,f⟩:=K;subst M;have b0:=(f.box 0 AA).trans C;have ar:=(f.box 10 AA).trans J;have av:=(f.box 18 AA).trans A;replace f:=AB f;refine ax ?_;refine a'.1 (_,_) ⟨⟨_,ZK f.1.run AA,fun cs h2=>?_,?_⟩,b0,ar,?_,⟨Yt (L3 q.1 f.1.pm) AA⟩⟩
 .obtain⟨st',rfl,a1⟩:=IN.1 h2;obtain⟨Z,ac⟩:=u.1 st' rfl;have U:=Jb az k _ _ _ Z.qr (ac _ zFl) a1;exact⟨Z.post U,fun I a3=>Mg (ac I (by rw[CK,Cs];exact F0 _ a3)) U.ext⟩
 .rw[t.1];cases r<;>rfl
 .exact av.trans (by rw[v])):p:=h
def zAK{p:Prop}(h:p:=by have z:=(Av p 1 (b+27) AA).1;have D:=(Av p 1 (b+28) AA).1;have F:=AF (fun e:O=x=>L e.symm);have w:=(BW p [1,3,b+25] AG).1;simp only[Cs,CE]at w;have ad:=AF (fun e:id=x=>h2 (by rw[<-e];simp[AE]));simp only[go_sem,z,D,F,w,ad,AM]):p:=h
def zAL{p:Prop}(h:p:=by
 simp only[Tryz.f144,I3,Vj,Ri]
 (repeat' (first|simp only[go_sem, *,↓z,↓w,↓y,AM]|(refine sx ?_ ?_<;>intro W)|refine sy AA fun x B Y=>?_|simp(disch:=first|assumption|omega) only[AR]))
 refine L.1 _ _ true ?_ C D F I J ?_ fun id b1=>?_
 .exact(D6 AA).symm
 .simp only[go_sem,Ba]
 .simp only[go_sem,b1,AM]):p:=h
def zAR{p:Prop}(h:p:=by have z:=(Av p 1 (b+27) AA).1;have D:=(Av p 1 (b+28) AA).1;have F:=AF (fun e:O=x=>L e.symm);have w:=(BW p [1,3,b+25] AG).1;simp only[Cs,CE]at w;simp only[go_sem,z,D,F,w,AM]):p:=h
def zAT{p:Prop}(h:p:=by have U:=Af T;have a0:=X S (by rw[L];simp[AE]);simp only[go_sem,U,b1,a0,AM]):p:=h
def zAX{p:Prop}(h:p:=by
 refine ax ?_;rw[O.1];refine⟨rfl,go.1 (.f8 (1::(b+29)::π) 0 (st.ev.length+1)) _ ?_ (Ao [] (by simp[Ax]) ?_) (.inr fun id w=>?_) fun id b1 y u=>?_⟩
 .simp only[go_sem,D,F,a0,a1,ag,a3,AM];first|done|rfl
 .simp only[Dt,Ax,CI,BE,By,BY];simp only[go_sem,D,F,a0,a1,ag,a3,AM,CE]
 .simp only[AE,Ac]at w;subst w;exact⟨Ar [1,b+29],_,rfl⟩
 .have f:=AI u;have k:=t.1 id u;simp only[go_sem,f,k,b1,y E (by rw[P.1];simp[AE]),AM]):p:=h
def zAb{p:Prop}(h:p:=by
 refine aw ?_;rw[O.1];refine⟨rfl,go.1 (.f8 (1::(b+29)::π) 0 1) _ ?_ (Ao [] (by simp[Ax,N.1]) ?_) (.inr fun id w=>?_) fun id b1 y u=>?_⟩
 .simp only[go_sem,D,F];first|done|rfl
 .simp only[Dt,Ax,CI,BE,By,BY,N.1];simp only[go_sem,D,F,CE]
 .simp only[AE,Ac]at w;subst w;exact⟨Ar [1,b+29],_,rfl⟩
 .have f:=AI u;have k:=t.1 id u;simp only[go_sem,f,k,b1,AM]):p:=h
def zAc{p:Prop}(h:p:=by
 refine ax ?_;rw[O.1];refine⟨rfl,go.1 (.f8 E 0 (st.ev.length+1)) _ ?_ (Ao cs (by simp[Ax]) ?_) (.inl zFm) fun id b1 y u=>?_⟩
 .simp only[go_sem,D,F,a0,a1,ag,a3,AM];first|done|rfl
 .simp only[Dt,Ax,BE,By,BY,DO,Cs,CE];simp only[go_sem,D,F,a0,a1,ag,a3,AM]
 .have f:=AI u;have k:=t.1 id u;simp only[go_sem,f,k,b1,y E (by rw[P.1];simp[AE]),AM]):p:=h
def zAp{p:Prop}(h:p:=by
 refine Ad (J2 ad F.1 T.1 ⟨Y,j.at_,G.env⟩ W.1 _ (c+66) AA (fun id D=>?_) fun i o=>⟨fun a k z=>(y.1 i o).1 a k z,Hi q.1 AA rfl i o⟩) (fun a6 g1 K=>?_)
 .first|rfl|simp only[go_sem,D,AM]
 obtain⟨M,f⟩:=K;subst M;replace f:=AB f;refine ax ?_;rw[ag.1];exact Gz f.1.run):p:=h
def zAq{p:Prop}(h:p:=by have ac:=l.out.n.nm x q;have z:=(Av ac 1 (b+23) AA).1;have D:=(Av ac 1 (b+24) AA).1;have F:=AF (fun e:Y=x=>l.out.yn (e▸q));have w:=(BW ac [1,3,b+21] AG).1;simp only[Cs,CE]at w;have ad:=AF (fun e:id=x=>(l.out.qv id BH).2 (e▸q));simp only[go_sem,z,D,F,w,ad,AM]):p:=h
def zAu{p:Prop}(h:p:=by
 refine BR Tryz.func87 ?_;refine aw ?_;refine Ad (c2.1 _ _ (bo.1 _ zEq (fun id b1 Q=>by
  have f:=AI Q;simp only[go_sem,f,b1,AM]))) (fun b6 g1 ac=>?_)
 obtain⟨ad,O⟩:=ac;subst ad;replace O:=AB O;refine aw ?_;exact Gz O.1):p:=h
def zAv{p:Prop}(h:p:=by
 have D:=trivial;try replace D:=O E zEx
 simp only[go_sem,Q,R,T,D,b1,AM]):p:=h
def zAw{p:Prop}(h:p:=by have pA:Id.is (1::w) i=false:=AF fun e=>D (e▸f.out (1::w) BH);have T:Id.is (1::P) i=false:=AF fun e=>L (by simp[AE,A9,e]);have C:=AF fun e=>c (.inl e.symm);have B:=AF fun e=>c (.inr e.symm);have t:=AI y;simp only[go_sem,B,t,C,pA,T,AM]):p:=h
def zA0{p:Prop}(h:p:=by rw[J.1];refine aw ?_;rw[J8 1 0 _ rfl];refine aw ?_;refine⟨by rw[AF (u.1 id (V.m_mem id)).2.1];rfl,ZG (CM h.1 fun j c=>?_)⟩;rw[get_put,AF (fun e=>(u.1 j c).2.2 e.symm),get_put,AF (fun e=>(u.1 j c).2.1 e.symm)];rfl):p:=h
def zA4{p:Prop}(h:p:=by have ac:=l.out.n.nm x q;have z:=(Av ac 1 (b+23) AA).1;have D:=(Av ac 1 (b+24) AA).1;have F:=AF (fun e:Y=x=>l.out.yn (e▸q));have w:=(BW ac [1,3,b+21] AG).1;simp only[Cs,CE]at w;simp only[go_sem,z,D,F,w,AM]):p:=h
def zA5{p:Prop}(h:p:=by
 first
 |(refine Ao [] (by simp[bo.1]) ?_
   simp only[CI,BE,By,BY,bo.1];simp only[go_sem,F,I,A,B,z,C,AM,CE]
   done)
 |(refine Ao bk AG ?_
   simp only[BE,By,BY,DO,Cs,CE];simp only[go_sem,F,I,A,B,z,C,AM]
   done)):p:=h
def zBA{p:Prop}(h:p:=by
 first
 |(refine Ao [] AG ?_
   simp only[CI,BE,By,BY];simp only[go_sem,F,I,A,B,z,C,AM,CE]
   done)
 |(refine Ao bk AG ?_
   simp only[BE,By,BY,DO,Cs,CE];simp only[go_sem,F,I,A,B,z,C,AM]
   done)):p:=h
def zBD{p:Prop}(h:p:=by simp only[AE,Ac]at a6;subst a6;exact⟨CQ (c+47) [1] AA AA,_,rfl⟩):p:=h
def zBF{p:Prop}(h:p:=by simp only[AE,Ac]at t;subst t;exact⟨CQ (N+63) [1] AA AA,_,rfl⟩):p:=h
def zBG{p:Prop}(h:p:=by simp only[AE,Ac]at t;subst t;exact⟨CQ (N+56) [1] AA AA,_,rfl⟩):p:=h
def zBH{p:Prop}(h:p:=by simp only[AE,Ac]at t;subst t;exact⟨CQ (N+65) [1] AA AA,_,rfl⟩):p:=h
def zBI{p:Prop}(h:p:=by
 have Q:=Af f 0 (N+39) AA AA;have R:=Af f 1 (N+62) AA AA;have T:=Af f 1 (N+63) AA AA;have D:=trivial;try replace D:=O E zEx
 simp only[go_sem,b0,Q,R,T,D,b1,AM]):p:=h
def zBJ{p:Prop}(h:p:=by simp only[go_sem,L,f,AM]):p:=h
def zBK{p:Prop}(h:p:=by simp only[AE,Ac]at q;subst q;exact fun Z=>Ed AA (l.out.n.nm _ Z)):p:=h
def zBL{p:Prop}(h:p:=by have pA:Id.is (1::w) i=false:=AF fun e=>D (e▸f.out (1::w) BH);have C:=AF fun e=>c (.inl e.symm);have B:=AF fun e=>c (.inr e.symm);have t:=AI y;simp only[go_sem,B,t,C,pA,AM]):p:=h
def zBN{p:Prop}(h:p:=by have z:=(Av p 1 (b+12) AA).1;have D:=(Av p 1 (b+13) AA).1;have F:=AF (fun e:O=x=>L e.symm);have ad:=AF (fun e:A=x=>h2 (by rw[<-e];simp[AE]));simp only[go_sem,z,D,F,ad,AM]):p:=h
def zBs{p:Prop}(h:p:=by obtain⟨ad,O⟩:=ac;subst ad;replace O:=AB O;refine aw ?_;exact Gz O.1.run):p:=h
def zBu{p:Prop}(h:p:=by have C:=AI u;have D:=AI (AJ u 4);have F: ∀L,AD.get (g++L) id=AD.get L id:=fun L=>Bt (b.1.own id (AJ u 15));simp only[go_sem,C,D,F,AM]):p:=h
def zBy{p:Prop}(h:p:=by simp only[go_sem,H,I,T,AM]):p:=h
def zBz{p:Prop}(h:p:=by rw[i]at c;replace c:A=.ge (C5 2):=c;subst c;replace l:=AB l;refine aw ?_;exact⟨fun _=>rfl,fun h=>by rw[B.1,i]at h;cases h⟩):p:=h
def zB5{p:Prop}(h:p:=by simp only[go_sem,F,I,A,B,z,C,AM];first|done|rfl):p:=h
def zCC{p:Prop}(h:p:=by have z:=(Av p 1 (b+12) AA).1;have D:=(Av p 1 (b+13) AA).1;have F:=AF (fun e:O=x=>L e.symm);simp only[go_sem,z,D,F,AM]):p:=h
def zCL{p:Prop}(h:p:=by
 have r:=AI f;have F:Id.is id R=false:=AF fun e=>by rw[<-e,a0.1]at f;cases f
 simp only[go_sem,r,F,l.1 R f,AM]):p:=h
def zCW{p:Prop}(h:p:=by
 subst a2;refine ax ?_;refine c9.1 (_,_) ⟨f,r,A,y,?_,⟨?_⟩⟩
 .dsimp only;omega
 .rw[b5.1,D6 rfl,FD]):p:=h
def zCb{p:Prop}(h:p:=by have U:=Af T;simp only[go_sem,U,b1,AM]):p:=h
def zCc{p:Prop}(h:p:=by refine .inr ⟨id,ai,?_,n,AA,av.1,a2.1⟩;simp only[go_sem,w,AM,O,M,f,o,r,s,u,bv,bo,B,C,D,F,J,I]):p:=h
def zCh{p:Prop}(h:p:=by have Q:=O.1 id o f;have R: ∀L,AD.get (g++L) id=some o:=fun L=>C3 f;simp only[go_sem,Q,R,AM]):p:=h
def zCi{p:Prop}(h:p:=by have Q:=Af f 0 (N+39) AA AA;have R:=Af f 1 (N+55) AA AA;have T:=Af f 1 (N+56) AA AA;exact zAv):p:=h
def zCj{p:Prop}(h:p:=by have Q:=Af f 0 (N+39) AA AA;have R:=Af f 1 (N+64) AA AA;have T:=Af f 1 (N+65) AA AA;exact zAv):p:=h
def zCr{p:Prop}(h:p:=by simp only[go_sem,Ba,AM,f,o,r,s,u];first|done|rfl):p:=h
def zCw{p:Prop}(h:p:=by simp only[go_sem,bv,bc,be,Z,av,M,ar,F,I,A,B,z,C,AM];first|done|rfl|(rw[<-cc];rfl)):p:=h
def zC8{p:Prop}(h:p:=by have U:=Af T;have a0:=X A (by rw[bc];simp[AE]);simp only[go_sem,U,b1,a0,AM]):p:=h
def zC9{p:Prop}(h:p:=by simp only[go_sem,w,BE,BY,AM,O,M,f,o,r,s,u,bv,bo,B,C,D,F,J,I];first|done|rfl):p:=h
def zDB{p:Prop}(h:p:=by
 first
 |exact absurd z N
 |(simp only[go_sem];done)
 |(simp only[go_sem];rfl)):p:=h
def zDD{p:Prop}(h:p:=by simp only[go_sem,bi,r,AM]):p:=h
def zDG{p:Prop}(h:p:=by simp only[go_sem,w,BE,BY,AM,f,o,r,s,u,B,C,D,F,J,I,ar,az];first|done|rfl):p:=h
def zDH{p:Prop}(h:p:=by
 first
 |exact .inl zFk
 |exact .inr fun id t=>by
   exact zBF):p:=h
def zDI{p:Prop}(h:p:=by
 first
 |exact .inl zFk
 |exact .inr fun id t=>by
   exact zBG):p:=h
def zDJ{p:Prop}(h:p:=by
 first
 |exact .inl zFk
 |exact .inr fun id t=>by
   exact zBH):p:=h
def zDL{p:Prop}(h:p:=by simp only[go_sem,Ba,AM,O,M,f,o,r,s,u,bv,bo,B,C,D,F,J,I];first|done|rfl):p:=h
def zDP{p:Prop}(h:p:=by simp only[go_sem,a5,a6,a2,AM]):p:=h
def zDS{p:Prop}(h:p:=by simp only[AE,Ac]at a6;subst a6;exact⟨CQ (c+59) [1] AA AA,_,rfl⟩):p:=h
def zDY{p:Prop}(h:p:=by simp only[go_sem,Ba,AM,f,o,r,s,u,B,C,D,F,J,I,ar,az];first|done|rfl):p:=h
def zDi{p:Prop}(h:p:=by simp only[go_sem,AM]):p:=h
def zDn{p:Prop}(h:p:=by rw[ai];simp only[go_sem,W,w,AM,O,M,f,o,r,s,u,bv,bo,B,C,D,F,J,I]):p:=h
def zD0{p:Prop}(h:p:=by simp only[go_sem,ad,w,AM,f,o,r,s,u]):p:=h
def zD1{p:Prop}(h:p:=by simp only[go_sem,ag,w,AM,f,o,r,s,u]):p:=h
def zD8{p:Prop}(h:p:=by simp only[go_sem,W,w,AM,f,o,r,s,u]):p:=h
def zD9{p:Prop}(h:p:=by simp only[go_sem,w,BE,BY,AM,O,M,f,o,r,s,u,Q];first|done|rfl):p:=h
def zEA{p:Prop}(h:p:=by have r:=AI f;have T:=Dx f;simp only[go_sem,r,T,l.1 id f,AM]):p:=h
def zEK{p:Prop}(h:p:=by simp only[go_sem,ad,w,AM,O,M,f,o,r,s,u,bv,bo,B,C,D,F,J,I]):p:=h
def zEL{p:Prop}(h:p:=by simp only[go_sem,ag,w,AM,O,M,f,o,r,s,u,bv,bo,B,C,D,F,J,I]):p:=h
def zEO{p:Prop}(h:p:=by refine aw ?_;rw[O.1];refine Z.1 _ fun id b=>?_;exact zCp):p:=h
def zEP{p:Prop}(h:p:=by rw[P.1];refine Ha AA AG ?_;simp only[go_sem,ac,ad,BE,AM]):p:=h
end Go
namespace Go.Abs
def Vd{b:Type}{f:b->List Al}{l:List b}{g:G}{sz:Nat}{k:IntKind}{m:Int}(i: ∀a,(f a).length=sz)(c:0<=m)(j:m<=l.length):GZ g .slice sz (.d (.bv (l.map f))) (some (.d (.int k m))) none none=some (.d (.bv ((l.drop m.toNat).map f))):=by
 have e:FJ (some (.d (.int k m))) none none (l.map f).length=some (m.toNat,(l.map f).length,none):=by
  simp[FJ,Iq,J0,c,j]
 have h:Oa sz (l.map f)=true:=by
  cases l with
  |nil=>rfl
  |cons a l=>simp only[By,Oa,JH,Ap];exact i a
 show SK sz (l.map f) (FJ (some (.d (.int k m))) none none (l.map f).length)=_;rw[e];have n:Nat.ble m.toNat (l.map f).length=true:=by rw[H8];simp;omega
 have h2:Nat.ble (l.map f).length (l.map f).length=true:=by rw[H8];simp
 simp only[SK,n,h2,h,OL,F6,Pp];rw[Bi AG]
end Go.Abs
namespace Go.Proofs
open Abs
variable{g:G}{k:IntKind}{m:Int}
def jT{l:List Bl}(a:0<=m)(b:m<=l.length):GZ g .slice 2 (.d (.bv (l.map Aw))) (some (.d (.int k m))) none none=some (.d (.bv ((l.drop m.toNat).map Aw))):=Vd (fun _=>rfl) a b
def ql{l:List Cm}(a:0<=m)(b:m<=l.length):GZ g .slice 2 (.d (.bv (l.map AN))) (some (.d (.int k m))) none none=some (.d (.bv ((l.drop m.toNat).map AN))):=Vd (fun _=>rfl) a b
def Ug{h:AD}{π:List Nat}{m gid:Abs.Id}{p:AX}{s:BU}{st:Bq}{x9 x10 x11 x12:AV}(c4:looks p=some st)
 (H:h.get m=some (.box [.d (.bv (s.ac.map Aw)),.d (.bv (s.ce.map BG)),.d (.bv (s.be.map Cy)),.d (.bv (s.waits.map Ae)),.d (.bv (p.free.map Br)),.d (.bv (p.nodes.map Bc)),.d (.bv (p.defs.map B4)),nI p.main,.d (.bv (st.co.map AL)),x9,x10,x11,x12])) (d7:Id.under π m=false) (fl:x9=slv gid p.defs.length) (cx:p.defs.length≠0->h.get gid=some (.em 1 ((B8 p st.co).map AL))) (d6:Id.under π gid=false):
 ∃o h',kT (.fn 91) [.ptr m 0] h π true (some π)=.ok (o,h')/\o=(Jv (C5 2) (EH p st.co s)).1:=by
 have L:=AI d7;have gw:=Aj d7;have cl:=AJ d7;have bi:=AI d6;have gz:=Aj d6;have g0:=AJ d6;have ag:=AH.mk (DP c4);have e0:=ag.1.small;simp only[AX.small,AP,Ap]at e0;obtain⟨gr,gs,gu⟩:=e0;have g5:(B8 p st.co).length=p.defs.length:=by rw[B8,KA];simp
 by_cases a1:s.small=true
 .have a':AH (EH p st.co s=(GN s.ac&&(HJ s.ac (s.ac.drop 1)&&(CZ p (B8 p st.co) s 0 0 1 s.ce&&s.waits.all (Cc p st.co s))))):=⟨by rw[EH,a1,FD]⟩;simp only[BU.small,AP,Ap]at a1;obtain⟨hm,hn,ho,hp⟩:=a1;have hv:(s.ac.length:Int)<=24:=AA;have hw:(s.ce.length:Int)<=40:=AA;have hx:(s.be.length:Int)<=60:=AA;have hy:(s.waits.length:Int)<=40:=AA;have b7:=lP s.ac AA;cases c6:GN s.ac with
  |false=>
   rw[c6]at a' b7;rw[a'.1];refine BR Tryz.func91 ?_;refine aw ?_;rfl
  |true=>
   rw[c6,FD]at a';rw[c6]at b7;have X:=OG c6;have he:=X.top;have hb:(1:Int)<=s.ac.length:=by have:=X.pos;omega
   replace X:=AB X;refine BR Tryz.func91 ?_
   (repeat' (first|simp only[go_sem, *]|(refine sx ?_ ?_<;>intro bs)|refine sy AA fun x ac H=>?_|simp(disch:=first|assumption|omega) only[AR,jT]))
   refine Aq (s.ac.drop 1) _ (S:=fun J i (a:AD×Nat)=>⟨[(0,.ptr m 0),(65,.d (.bv ((s.ac.drop 1).map Aw))),(66,nI J),(67,nI i)],a.1,a.2+49,[]⟩)
    (Inv:=fun i O a=>a.1.get m=h.get m/\a.1.get gid=h.get gid/\AH (HJ s.ac (s.ac.drop 1)=HJ s.ac O)) (b0:=(h,_)) rfl ⟨rfl,rfl,⟨rfl⟩⟩ ?_ ?_
   .rintro i K ⟨g,c⟩ Q V a0 ⟨f,r,u⟩ T;dsimp only at*;have hg:=Q;rw[Hm]at Q;have g6:=V;rw[Ii]at V;have D:AH (HJ s.ac (s.ac.drop 1)=false->A8.ge (C5 2)=(Jv (C5 2) (EH p st.co s)).1):=⟨fun h=>by rw[a'.1,h];rfl⟩;have f7:FT s.ac K.pp:=by
     have cp:=X.1.rt (((1+i:Nat):Int)) ⟨AA,AA⟩;obtain⟨k,f2⟩: ∃k,s.ac.length=k+1:=⟨s.ac.length-1,AA⟩;rw[f2]at cp;have h2:=(Gn AA cp).1
     rwa [LH (s:=K) (by rw[<-Q];congr 1)]at h2
    obtain⟨I,R⟩:=f7;obtain⟨z,f'⟩:=get_some (l:=s.ac) (i:=K.pp.toNat) AA;have U:AH (Ak s.ac K.pp=z.dead):=⟨by simp[Ak,f']⟩;rw[HJ]at u;replace Q:=AB Q;cases dq:K.dead<;>cases e2:z.dead;all_goals (refine aw ?_)
    all_goals first
    |(refine T.1 (_,_) ⟨?_,?_,⟨?_⟩⟩
      .exact zBJ
      .exact zDD
      .rw[u.1,dq,U.1,e2];simp)
    |(refine T.1 (_,_) ⟨?_,?_,⟨?_⟩⟩
      .exact zBJ
      .exact zDD
      .rw[u.1,dq];simp)
    |exact D.1 (by rw[u.1,dq,U.1,e2];rfl)
   .rintro i ⟨g,c⟩ V a0 ⟨f,r,u⟩;dsimp only at*;rw[HJ]at u;refine aw ?_;clear V a0;have em:AH (EH p st.co s=(CZ p (B8 p st.co) s 0 0 1 s.ce&&s.waits.all (Cc p st.co s))):=⟨by rw[a'.1,u.1,FD]⟩;clear a' u i;refine Aq s.ce _ (S:=fun J i (a:AD×Nat×Nat×Nat)=>⟨[(0,.ptr m 0),(4,nI a.2.2.1),(5,nI a.2.2.2),(92,.d (.bv (s.ce.map BG))),(93,nI J),(94,nI i)],a.1,a.2.1+59,[]⟩)
     (Inv:=fun i O a=>a.1.get m=h.get m/\a.1.get gid=h.get gid/\a.2.2.1<=30*i/\a.2.2.2<=30*i+1/\AH (EH p st.co s=(CZ p (B8 p st.co) s i a.2.2.1 a.2.2.2 O&&s.waits.all (Cc p st.co s)))) (b0:=(g,_,0,1)) rfl ⟨f,r,AG,AG,em⟩ ?_ ?_
    .clear f r em g c;rintro i e ⟨g,n,c,k⟩ Q V a0 ⟨f,r,b1,d8,u⟩ T;dsimp only at*;by_cases e7:e.f9<0
     .have e7: ¬0<=e.f9:=AA;have dd:AH (EH p st.co s=false):=⟨by rw[u.1,CZ,AX.def?,Ci AA,Dl]⟩;refine aw ?_;all_goals (rw[dd.1];rfl)
     by_cases gn:(p.defs.length:Int)<=e.f9
     .have gn: ¬e.f9<p.defs.length:=AA;have e7:0<=e.f9:=AA;have dd:AH (EH p st.co s=false):=⟨by rw[u.1,CZ,AX.def?,D4 AA,LC AA,Dl]⟩;refine aw ?_;all_goals (rw[dd.1];rfl)
     have e8:0<=e.f9:=AA;have hu:e.f9<p.defs.length:=AA;have fr:e.f9.toNat<p.defs.length:=AA;have eb:p.defs.length≠0:=AA;obtain⟨d,a7⟩:=get_some fr;have bv:=CC ag.1 a7;obtain⟨v,Z⟩:=get_some (l:=B8 p st.co) (i:=e.f9.toNat) AA;have hf:d.own<=v/\v<=5060:=by
      obtain⟨_,_,hl,_,_,_,_,c8,be,ad,_⟩:=bv.node;rw[Z]at ad;cases ad;have:=Po bv.ok;omega
     have b6:AH (EH p st.co s=((Kh p (B8 p st.co) s i c k e d&&CZ p (B8 p st.co) s (i+1) (c+d.be.length) (k+d.ac.length) (s.ce.drop (i+1)))&&s.waits.all (Cc p st.co s))):=⟨by
      rw[u.1,CZ,AX.def?,D4 e8,a7]⟩
     have b3:AH (Kh p (B8 p st.co) s i c k e d=(decide (FT s.ac e.at_)&&(decide ((e.env.length:Int)=v)&&(e.env.all (Cm.inB p s.be.length s.ac.length)&&(Dz d c k e&&FL p s d e i c 0 d.be))))):=⟨by
      rw[Kh,Z];rfl⟩
     have D:AH (Kh p (B8 p st.co) s i c k e d=false->A8.ge (C5 2)=(Jv (C5 2) (EH p st.co s)).1):=⟨fun h=>by rw[b6.1,h];rfl⟩;have bx:=bv.ok;have fd:=bx.be;have fi:=bx.ac;have gv:d.own=d.be.length+d.ac.length:=rfl;replace bx:=AB bx;replace bv:=AB bv;have fs:=cx eb;rw[Bk eb]at fl;refine aw ?_;refine EG (dk (sp:=s.ac.map Aw) (Eq.trans (b:=h.get m) ?_ H) Aa e.at_) (fun b' g1 I=>?_)
     .exact zBJ
     by_cases F:FT s.ac e.at_
     .have g7:=F;replace I:b'=.ret (.ii []):=by
       rw[I,D6 F.1,As,D6 F.2];rfl
      subst I;replace F:=AB F;have g4:h.get gid=some (.em 1 ((B8 p st.co).map AL)):=fs;refine aw ?_;refine EG (Yf (p:=p) (sp:=s.ac.map Aw) (ch:=s.be.map Cy) (Eq.trans (b:=h.get m) ?_ H) (cl _) Aa Aa AA e.env v AA) (fun e4 bk R=>?_)
      .exact zBJ
      rw[As,As]at R;by_cases b2:(decide ((e.env.length:Int)=v)&&e.env.all (Cm.inB p s.be.length s.ac.length))=true
      .rw[b2]at R;replace R:e4=.ret (.ii []):=R;subst R;rw[AP,Ap]at b2;obtain⟨de,bo⟩:=b2;have g':e.env.length<=5060:=AA;have en:d.own<=e.env.length:=AA;have c0:AH (Kh p (B8 p st.co) s i c k e d=(Dz d c k e&&FL p s d e i c 0 d.be)):=⟨by
        rw[b3.1,D6 F.1,D6 de,bo,FD,FD,FD]⟩
       clear b3;replace de:=AB de;replace bo:=AB bo;obtain⟨E,bl⟩: ∃E,E=e.env.drop (e.env.length-d.be.length-d.ac.length):=⟨_,rfl⟩;have g3:E.length=d.be.length+d.ac.length:=by rw[bl,Ii];omega
       have gi:IntKind.i64.wrap ((e.env.length:Int)-(d.be.length:Int))=(e.env.length:Int)-(d.be.length:Int):=wrap_id AA AA;have gm:IntKind.i64.wrap ((e.env.length:Int)-(d.be.length:Int)-(d.ac.length:Int))=((e.env.length-d.be.length-d.ac.length:Nat):Int):=zFa
       have e5: ∀d9:G,GZ d9 .slice 2 (.d (.bv (e.env.map AN))) (some (nI ((e.env.length-d.be.length-d.ac.length:Nat):Int))) none none=some (.d (.bv ((e.env.drop (e.env.length-d.be.length-d.ac.length)).map AN))):=fun d9=>ql AA AA;rw[<-bl]at e5;have df:AH (Dz d c k e=decide (E.drop 0=(Fh c k d).drop 0)):=⟨by rw[bl];rfl⟩;replace bl:=AB bl;have dr: ¬n=n+43:=AA;have d5: ¬n+43=n:=AA;refine ax ?_;clear gi gm e5 dr d5;refine Aq d.be _ (S:=fun J C (a:AD×Nat)=>⟨[(0,.ptr m 0),(4,nI c),(5,nI k),(6,nI i),(7,.ptr (0::(n+63)::π) 0),(8,.ptr (0::(n+106)::π) 0),(9,.d (.bv (E.map AN))),(92,.d (.bv (s.ce.map BG))),(93,nI s.ce.length),(94,nI i),(155,nI J),(156,nI C)],a.1,a.2+127,[]⟩)
        (Inv:=fun C O a=>a.1.get m=h.get m/\a.1.get gid=h.get gid/\a.1.get (0::(n+63)::π)=some (.box [nI e.f9,nI e.at_,.d (.bv (e.env.map AN))])/\a.1.get (0::(n+106)::π)=some (.box [.d (.bv (d.be.map BD)),.d (.bv (d.ac.map Ay)),.d (.bv (d.rules.map BC))])/\n<=a.2/\AH (Dz d c k e=decide (E.drop C=(Fh c k d).drop C))) (b0:=(_,_)) rfl ⟨?_,?_,?_,?_,?_,df⟩ ?_ ?_
       .exact zBJ
       .exact zDD
       .have dr: ¬n=n+43:=AA;have d5: ¬n+43=n:=AA;simp only[go_sem,dr,d5,AM]
       .exact zDi
       .exact Es _
       .clear df f r g;rintro C K ⟨g,t⟩ hh c2 ek ⟨f,r,A,y,M,N⟩ c9;dsimp only at*;obtain⟨P,c7⟩:=get_some (l:=E) (i:=C) AA;have g2:(C:Int)<E.length:=AA;have b5:AH (Dz d c k e=(decide (P=⟨3,(c:Int)+(C:Int)⟩)&&decide (E.drop (C+1)=(Fh c k d).drop (C+1)))):=⟨by
         rw[N.1,Ka c7,Ka (Nn c k d c2),OP];simp⟩
        have e6:IntKind.i64.wrap ((c:Int)+(C:Int))=(c:Int)+(C:Int):=wrap_id AA AA;by_cases a2:P=⟨3,(c:Int)+(C:Int)⟩
        .exact zCW
        .have f5:(decide (P.kind=3)&&decide (P.n=(c:Int)+(C:Int)))=false:=by
          rw[<-Lm,AP,Ap,Ap];rintro⟨cp,h2⟩;exact a2 (by cases P;simp_all)
         refine ax ?_;exact D.1 (by rw[c0.1,b5.1,DL a2];rfl)
       .clear df f r g;rintro C ⟨g,t⟩ c2 ek ⟨f,r,A,y,M,N⟩;dsimp only at*;rw[c2.1]at N;refine ax ?_;clear c2 ek C;refine Aq d.ac _ (S:=fun J j (a:AD×Nat)=>⟨[(0,.ptr m 0),(4,nI c),(5,nI k),(6,nI i),(7,.ptr (0::(n+63)::π) 0),(8,.ptr (0::(n+106)::π) 0),(9,.d (.bv (E.map AN))),(92,.d (.bv (s.ce.map BG))),(93,nI s.ce.length),(94,nI i),(172,nI J),(173,nI j)],a.1,a.2+132,[]⟩)
         (Inv:=fun j O a=>a.1.get m=h.get m/\a.1.get gid=h.get gid/\a.1.get (0::(n+63)::π)=some (.box [nI e.f9,nI e.at_,.d (.bv (e.env.map AN))])/\a.1.get (0::(n+106)::π)=some (.box [.d (.bv (d.be.map BD)),.d (.bv (d.ac.map Ay)),.d (.bv (d.rules.map BC))])/\n<=a.2/\AH (Dz d c k e=decide (E.drop (d.be.length+j)=(Fh c k d).drop (d.be.length+j)))) (b0:=(g,t)) rfl ⟨f,r,A,y,M,N⟩ ?_ ?_
        .clear N f r A y g M t;rintro j K ⟨g,t⟩ e1 az c3 ⟨f,r,A,y,M,N⟩ c9;dsimp only at*;obtain⟨P,c7⟩:=get_some (l:=E) (i:=d.be.length+j) AA;have b5:AH (Dz d c k e=(decide (P=⟨4,(k:Int)+(j:Int)⟩)&&decide (E.drop (d.be.length+(j+1))=(Fh c k d).drop (d.be.length+(j+1))))):=⟨by
          rw[N.1,Ka c7,Ka (Np c k d az),OP];simp[Rc]⟩
         have e6:IntKind.i64.wrap ((k:Int)+(j:Int))=(k:Int)+(j:Int):=wrap_id AA AA;have ht:IntKind.i64.wrap ((d.be.length:Int)+(j:Int))=(d.be.length:Int)+(j:Int):=wrap_id AA AA;have a3:((d.be.length:Int)+(j:Int)).toNat=d.be.length+j:=AA;rw[<-a3]at c7;replace a3:=AB a3;have gb:0<=(d.be.length:Int)+(j:Int):=AA;have gf:(d.be.length:Int)+(j:Int)<E.length:=AA;by_cases a2:P=⟨4,(k:Int)+(j:Int)⟩
         .exact zCW
         .have f5:(decide (P.kind=4)&&decide (P.n=(k:Int)+(j:Int)))=false:=by
           rw[<-Lm,AP,Ap,Ap];rintro⟨cp,h2⟩;exact a2 (by cases P;simp_all)
          refine ax ?_;exact D.1 (by rw[c0.1,b5.1,DL a2];rfl)
        .clear N f r A y g M t;rintro j ⟨g,t⟩ az c3 ⟨f,r,A,y,M,N⟩;dsimp only at*;have b4:Dz d c k e=true:=by
          have g8:=az.1;rw[N.1,EX AA,EX (by rw[Km];omega)];rfl
         have c1:AH (Kh p (B8 p st.co) s i c k e d=FL p s d e i c 0 d.be):=⟨by rw[c0.1,b4,FD]⟩;replace b4:=AB b4;clear N c0;refine ax ?_;clear az c3 j;refine Aq d.be _ (S:=fun J j (a:AD×Nat)=>⟨[(0,.ptr m 0),(4,nI c),(5,nI k),(6,nI i),(7,.ptr (0::(n+63)::π) 0),(8,.ptr (0::(n+106)::π) 0),(92,.d (.bv (s.ce.map BG))),(93,nI s.ce.length),(94,nI i),(192,.d (.bv (d.be.map BD))),(193,nI J),(194,nI j)],a.1,a.2+137,[]⟩)
          (Inv:=fun j O a=>a.1.get m=h.get m/\a.1.get gid=h.get gid/\a.1.get (0::(n+63)::π)=some (.box [nI e.f9,nI e.at_,.d (.bv (e.env.map AN))])/\a.1.get (0::(n+106)::π)=some (.box [.d (.bv (d.be.map BD)),.d (.bv (d.ac.map Ay)),.d (.bv (d.rules.map BC))])/\n<=a.2/\AH (FL p s d e i c 0 d.be=FL p s d e i c j O)) (b0:=(g,t)) rfl ⟨f,r,A,y,M,⟨rfl⟩⟩ ?_ ?_
         .clear f r A y g M t;rintro j ch ⟨g,t⟩ e1 az c3 ⟨f,r,A,y,M,bc⟩ c';dsimp only at*;have fp:c+j<s.be.length:=by
           have:=D3.1 bo.1 _ (AS (XZ b4.1 az));simp[Cm.inB]at this;omega
          obtain⟨q,es⟩:=get_some fp;have cs:=bx.1.chan ch (AS e1);have f8:=Q4 b4.1 en F.1 bo.1 (n:=ch.at_) cs.1 cs.2.1;obtain⟨hc,hd⟩:=f8;obtain⟨sp,dm⟩:=get_some (l:=s.ac) (i:=(e.place d ch.at_).toNat) AA;have U:AH (Ak s.ac (e.place d ch.at_)=sp.dead):=⟨by simp[Ak,dm]⟩;have ar:AH (Lq p s d e i j (c+j) ch=(decide (q.group=i)&&(decide (q.index=j)&&(decide (q.at_=e.place d ch.at_)&&(decide (q.queue.length<=12)&&((decide (q.queue.length=0)|| !Ak s.ac q.at_)&&q.queue.all (Gb p s.be.length s.ac.length ch.many))))))):=⟨by rw[Lq,es];rfl⟩;have ai:AH (Lq p s d e i j (c+j) ch=false->A8.ge (C5 2)=(Jv (C5 2) (EH p st.co s)).1):=⟨fun h=>D.1 (by rw[c1.1,bc.1,FL,h,Dl])⟩;have e6:IntKind.i64.wrap ((c:Int)+(j:Int))=(c:Int)+(j:Int):=wrap_id AA AA;have a3:((c:Int)+(j:Int)).toNat=c+j:=AA;rw[<-a3]at es;replace a3:=AB a3;have gb:0<=(c:Int)+(j:Int):=AA;have gf:(c:Int)+(j:Int)<s.be.length:=AA;have be: ¬t+78=n:=AA;have ad: ¬n=t+78:=AA;have a5: ¬t+91=n:=AA;have a6: ¬n=t+91:=AA;have d0: ¬t+35=n:=AA;have d1: ¬n=t+35:=AA;have d2: ¬t+48=n:=AA;have d3: ¬n=t+48:=AA;have d4: ¬t+13=t:=AA;have c8: ¬t=t+13:=AA;by_cases g1:q.group=i
          .by_cases bk:q.index=j
           .refine ax ?_;refine Dr (Ov (d:=d) (ds:=p.defs) (Eq.trans (b:=h.get m) ?_ H) (cl _) e8 a7 fd fi en AA ch.at_ cs.1 cs.2.1) (fun hk ea gg=>?_)
            .exact zBJ
            subst gg;by_cases cn:q.at_=e.place d ch.at_
            .rw[cn]
             (repeat' (first|simp only[go_sem, *,AM]|(refine sx ?_ ?_<;>intro bs)|refine sy AA fun x ac H=>?_|simp(disch:=first|assumption|omega) only[AR]))
             all_goals try
              refine ai.1 ?_;rw[ar.1,cn,U.1];clear T c' u b6 D ai ar c1 bc Q a7 Z X ag H cx b7 c4 f r A y;grind
             all_goals
              have av:AH (Lq p s d e i j (c+j) ch=q.queue.all (Gb p s.be.length s.ac.length ch.many)):=⟨by
               rw[ar.1,cn,U.1];clear T c' u b6 D ai ar c1 bc Q a7 Z X ag H cx b7 c4 f r A y;grind⟩
              refine Aq q.queue _ (S:=fun J l (a:AD×Nat)=>⟨[(0,.ptr m 0),(4,nI c),(5,nI k),(6,nI i),(7,.ptr (0::(n+63)::π) 0),(8,.ptr (0::(n+106)::π) 0),(13,.ptr (0::(t+141)::π) 0),(92,.d (.bv (s.ce.map BG))),(93,nI s.ce.length),(94,nI i),(192,.d (.bv (d.be.map BD))),(193,nI d.be.length),(194,nI j),(255,.d (.bv (q.queue.map BJ))),(256,nI J),(257,nI l)],a.1,a.2+205,[]⟩)
               (Inv:=fun l O a=>a.1.get m=h.get m/\a.1.get gid=h.get gid/\a.1.get (0::(n+63)::π)=some (.box [nI e.f9,nI e.at_,.d (.bv (e.env.map AN))])/\a.1.get (0::(n+106)::π)=some (.box [.d (.bv (d.be.map BD)),.d (.bv (d.ac.map Ay)),.d (.bv (d.rules.map BC))])/\a.1.get (0::(t+141)::π)=some (.box [nI ch.at_,nI ch.many])/\t<=a.2/\AH (q.queue.all (Gb p s.be.length s.ac.length ch.many)=O.all (Gb p s.be.length s.ac.length ch.many))) (b0:=(_,t)) ?_ ⟨?_,?_,?_,?_,?_,?_,⟨rfl⟩⟩ ?_ ?_
              .omega
              .exact zBJ
              .exact zDD
              .simp only[go_sem,A,be,ad,a5,a6,AM]
              .simp only[go_sem,y,d0,d1,d2,d3,AM]
              .simp only[go_sem,d4,c8,AM]
              .exact Es _
              .clear f r A y g be ad a5 a6 d0 d1 d2 d3 d4 c8;rintro l K ⟨g,a4⟩ hi f0 f1 ⟨f,r,A,y,d',f4,c5⟩ e';dsimp only at*;have be: ¬a4+67=t:=AA;have ad: ¬t=a4+67:=AA;refine ax ?_;refine EG (Yf (p:=p) (sp:=s.ac.map Aw) (ch:=s.be.map Cy) (Eq.trans (b:=h.get m) ?_ H) (cl _) Aa Aa AA K ch.many AA) (fun cc fk B=>?_)
               .exact zBJ
               rw[As,As]at B;have el:(decide ((K.length:Int)=ch.many)&&K.all (Cm.inB p s.be.length s.ac.length))=Gb p s.be.length s.ac.length ch.many K:=rfl;rw[el]at B;clear el;cases W:Gb p s.be.length s.ac.length ch.many K with
               |true=>
                rw[W]at B;replace B:cc=.ret (.ii []):=B;subst B;refine ax ?_;refine e'.1 (_,_) ⟨?_,?_,?_,?_,?_,?_,⟨?_⟩⟩
                .exact zBJ
                .exact zDD
                .have a5: ¬a4+145=n:=AA;have a6: ¬n=a4+145:=AA;simp only[go_sem,A,a5,a6,AM]
                .have a5: ¬a4+102=n:=AA;have a6: ¬n=a4+102:=AA;simp only[go_sem,y,a5,a6,AM]
                .simp only[go_sem,d',be,ad,AM]
                .dsimp only;omega
                .rw[c5.1,D9,W,FD]
               |false=>
                rw[W]at B;replace B:cc=.ge (C5 2):=B;subst B;refine ax ?_;exact ai.1 (by rw[av.1,c5.1,D9,W,Dl])
              .clear f r A y g be ad a5 a6 d0 d1 d2 d3 d4 c8;rintro l ⟨g,a4⟩ f0 f1 ⟨f,r,A,y,d',f4,c5⟩;dsimp only at*;refine ax ?_;refine c'.1 (_,_) ⟨f,r,A,y,?_,⟨?_⟩⟩
               .dsimp only;omega
               .rw[bc.1,FL,av.1,c5.1];rfl
            .refine ax ?_;exact ai.1 (by rw[ar.1,DL cn];simp)
           .refine ax ?_;exact ai.1 (by rw[ar.1,DL bk];simp)
          .refine ax ?_;exact ai.1 (by rw[ar.1,DL g1];simp)
         .clear f r A y g M t;rintro j ⟨g,t⟩ az c3 ⟨f,r,A,y,M,bc⟩;dsimp only at*;have fv:AH (Kh p (B8 p st.co) s i c k e d=true):=⟨by rw[c1.1,bc.1];rfl⟩;refine ax ?_;refine T.1 (g,_,c+d.be.length,k+d.ac.length) ⟨f,r,?_,?_,⟨?_⟩⟩
          .dsimp only;omega
          .dsimp only;omega
          .dsimp only;rw[b6.1,fv.1,FD]
      .rw[Lm]at b2;rw[b2]at R;replace R:e4=.ge (C5 2):=R;subst R;refine aw ?_;refine D.1 ?_;rw[b3.1];clear T u b6 D b3 Q a7 Z X ag H cx b7 c4 f r;grind
     .replace I:b'=.ge (C5 2):=by
       rw[I,As];have:(decide (0<=e.at_)&&decide (e.at_<(s.ac.length:Int)))=false:=by
        rw[<-Lm,AP,Ap,Ap];exact F
       rw[this];rfl
      subst I;refine aw ?_;exact D.1 (by rw[b3.1,DL F,Dl])
    .rintro i ⟨g,n,c,k⟩ V a0 ⟨f,r,b1,d8,u⟩;dsimp only at*;have av:AH (EH p st.co s=((decide (c=s.be.length)&&decide (k=s.ac.length))&&s.waits.all (Cc p st.co s))):=⟨by rw[u.1,CZ]⟩;by_cases g1:c=s.be.length
     .by_cases bk:k=s.ac.length
      .have ej:AH (EH p st.co s=s.waits.all (Cc p st.co s)):=⟨by rw[av.1,D6 g1,D6 bk];rfl⟩;clear av u;refine aw ?_;clear V a0 i b1 d8;refine Aq s.waits _ (S:=fun J i (a:AD×Nat)=>⟨[(0,.ptr m 0),(303,.d (.bv (s.waits.map Ae))),(304,nI J),(305,nI i)],a.1,a.2+86,[]⟩)
        (Inv:=fun i O a=>a.1.get m=h.get m/\AH (EH p st.co s=O.all (Cc p st.co s))) (b0:=(g,n)) rfl ⟨f,ej⟩ ?_ ?_
       .clear f r ej g n;rintro i w ⟨g,n⟩ Q V a0 ⟨f,u⟩ T;dsimp only at*;have b8:AH (Cc p st.co s w=(decide (FT s.ac w.at_)&&(!Ak s.ac w.at_&&(decide (0<=w.node)&&((match p.nodes[w.node.toNat]? with|some x=>DZ x.op|none=>false)&&(decide ((w.env.length:Int)=(st.co[w.node.toNat]?).getD 0)&&w.env.all (Cm.inB p s.be.length s.ac.length))))))):=⟨rfl⟩
        have D:AH (Cc p st.co s w=false->A8.ge (C5 2)=(Jv (C5 2) (EH p st.co s)).1):=⟨fun h=>by rw[u.1,D9,h];rfl⟩;refine ax ?_;refine EG (dk (sp:=s.ac.map Aw) (Eq.trans (b:=h.get m) ?_ H) Aa w.at_) (fun b' g1 I=>?_)
        .exact zBJ
        by_cases F:FT s.ac w.at_
        .replace I:b'=.ret (.ii []):=by
          rw[I,D6 F.1,As,D6 F.2];rfl
         subst I;obtain⟨ga,C⟩:=F;obtain⟨sp,dm⟩:=get_some (l:=s.ac) (i:=w.at_.toNat) AA;have U:AH (Ak s.ac w.at_=sp.dead):=⟨by simp[Ak,dm]⟩;by_cases e3:0<=w.node
         .by_cases hj:w.node<p.nodes.length
          .obtain⟨x,ac⟩:=get_some (l:=p.nodes) (i:=w.node.toNat) AA;obtain⟨v,_,Z,v0,v1,_⟩:=ag.1.node _ x ac;have g9:=AB ag.1.len;have ha:=AK Z;have dn:AH (Cc p st.co s w=(!Ak s.ac w.at_&&(DZ x.op&&(decide ((w.env.length:Int)=v)&&w.env.all (Cm.inB p s.be.length s.ac.length))))):=⟨by
            rw[b8.1,ac,Z,D6 e3,D6 ⟨ga,C⟩];rfl⟩
           clear b8;cases ex:sp.dead with
           |true=>
            refine ax ?_;all_goals exact D.1 (by rw[dn.1,U.1,ex];rfl)
           |false=>
            by_cases Y:DZ x.op=true
            .have f9:AH (Cc p st.co s w=(decide ((w.env.length:Int)=v)&&w.env.all (Cm.inB p s.be.length s.ac.length))):=⟨by
              rw[dn.1,U.1,ex,Y];rfl⟩
             simp only[DZ,I8,Ap]at Y;replace Y:=AB Y
             (repeat' (first|simp only[go_sem, *,AM]|(refine sx ?_ ?_<;>intro bs)|refine sy AA fun x ac H=>?_|simp(disch:=first|assumption|omega) only[AR]))
             all_goals try(exfalso;have:=Y.1;omega)
             all_goals
              refine EG (Yf (p:=p) (sp:=s.ac.map Aw) (ch:=s.be.map Cy) (Eq.trans (b:=h.get m) ?_ H) (cl _) Aa Aa AA w.env v AA) (fun cc fk B=>?_)
              .exact zBJ
              rw[As,As]at B;rw[<-f9.1]at B;cases W:Cc p st.co s w with
              |true=>
               rw[W]at B;replace B:cc=.ret (.ii []):=B;subst B;refine ax ?_;refine T.1 (_,_) ⟨?_,⟨?_⟩⟩
               .exact zBJ
               .rw[u.1,D9,W,FD]
              |false=>
               rw[W]at B;replace B:cc=.ge (C5 2):=B;subst B;refine ax ?_;exact D.1 W
            .have f6:AH (DZ x.op=false):=⟨by simpa using Y⟩;simp only[DZ,I8,Ap,not_or]at Y;obtain⟨hq,hr,hs⟩:=Y;refine ax ?_;all_goals exact D.1 (by rw[dn.1,U.1,f6.1];simp)
          ·(repeat' (first|simp only[go_sem, *,AM]|(refine sx ?_ ?_<;>intro bs)|refine sy AA fun x ac H=>?_|simp(disch:=first|assumption|omega) only[AR]))
           all_goals exact D.1 (by rw[b8.1,LC (show p.nodes.length<=w.node.toNat by omega)];simp)
         ·(repeat' (first|simp only[go_sem, *,AM]|(refine sx ?_ ?_<;>intro bs)|refine sy AA fun x ac H=>?_|simp(disch:=first|assumption|omega) only[AR]))
          all_goals exact D.1 (by rw[b8.1,DL e3];simp)
        .replace I:b'=.ge (C5 2):=by
          rw[I,As];have:(decide (0<=w.at_)&&decide (w.at_<(s.ac.length:Int)))=false:=by
           rw[<-Lm,AP,Ap,Ap];exact F
          rw[this];rfl
         subst I;refine ax ?_;exact D.1 (by rw[b8.1,DL F];rfl)
       .rintro i ⟨g,n⟩ V a0 ⟨f,u⟩;dsimp only at*;refine aw ?_;rw[u.1];rfl
      .have ea: ¬(k:Int)=s.ac.length:=AA;refine aw ?_;rw[av.1,DL bk];simp[Jv]
     .have ea: ¬(c:Int)=s.be.length:=AA;refine aw ?_;rw[av.1,DL g1];rfl
 .have f3:EH p st.co s=false:=by rw[EH];simp[a1]
  rw[f3];have a1:AH (¬(s.ac.length<=24/\s.ce.length<=40/\s.be.length<=60/\s.waits.length<=40)):=⟨by simpa[BU.small]using a1⟩;refine BR Tryz.func91 ?_
  (repeat' (first|simp only[go_sem, *]|(refine sx ?_ ?_<;>intro bs)|refine sy AA fun x ac H=>?_|simp(disch:=first|assumption|omega) only[AR]))
  all_goals first
  |rfl
  |(have:=a1.1;exfalso;omega)
end Go.Proofs
namespace Go.Abs
def ve(id:Id)(x:Al)(v:AV)(es:List (Al×AV)):Option (Option AV)->Option C0
 |some _=>some ⟨.undef,[(id,.map (Fg es x v))]⟩
 |none=>none
def ko(id:Id)(x:Al)(v:AV):Option Obj->Option C0
 |some (.map es)=>ve id x v es (Dh es x)
 |_=>none
def vf(x:Al)(v:AV)(id:Id)(o:Option Obj):Option TI->Option C0
 |some j=>if (LA j.kind x&&v.isCell)=true then ko id x v o else none
 |none=>none
def pR(a:TypeId->Option TI)(g:G)(i:TI)(id:Id)(x:Al)(v:AV)(b:i.kind=.map):mapPut a g (some i) (.mp id) (.d x) v=vf x v id (g id) (a i.key):=by
 unfold mapPut;simp only[NV,b];cases a i.key with
 |none=>rfl
 |some j=>
  simp only[vf];cases LA j.kind x&&v.isCell with
  |false=>rfl
  |true=>
   simp only[F6];cases g id with
   |none=>rfl
   |some o=>
    cases o with
    |map es=>
     simp only[ko];cases Dh es x<;>rfl
    |_=>rfl
theorem iY(x:Al)(v:AV)(id:Id)(o:Option Obj)(j:TI):vf x v id o (some j)=if (LA j.kind x&&v.isCell)=true then ko id x v o else none:=rfl
theorem pq(id:Id)(x:Al)(v:AV)(es:List (Al×AV)):ko id x v (some (.map es))=ve id x v es (Dh es x):=rfl
theorem iX(id:Id)(x:Al)(v:AV)(es:List (Al×AV))(o:Option AV):ve id x v es (some o)=some ⟨.undef,[(id,.map (Fg es x v))]⟩:=rfl
theorem iG(x:Al)(v:AV):Fg [] x v=[(x,v)]:=rfl
def iE(k:IntKind)(a b:Int)(v w:AV)(es:List (Al×AV)):Fg ((.int k a,w)::es) (.int k b) v=if a=b then(.int k a,v)::es else(.int k a,w)::Fg es (.int k b) v:=by
 rw[Fg];by_cases h:a=b
 .exact zBk
 .exact zBk
attribute [go_sem] pR iY pq iX iG iE
end Go.Abs
namespace Go.Proofs
open Abs
def Nz(π:List Nat)(p:AX)(st:Bq):AD:=if p.defs.length=0 then
    [(0::0::π,.box [.d7,.d7,.d7,.d7,.d (.bv (p.free.map Br)),.d (.bv (p.nodes.map Bc)),.d (.bv (p.defs.map B4)),nI p.main,.d (.bv (st.co.map AL)),.emp,.mp (1::3::π),.d7,nI 0]),(1::3::π,.map JU)]
 else [(0::0::π,.box [.d7,.d7,.d7,.d7,.d (.bv (p.free.map Br)),.d (.bv (p.nodes.map Bc)),.d (.bv (p.defs.map B4)),nI p.main,.d (.bv (st.co.map AL)),.f8 (1::1::π) 0 p.defs.length,.mp (1::4::π),.d7,nI 0]),(1::1::π,.em 1 ((B8 p st.co).map AL)),(1::4::π,.map JU)]
structure rq(π:List Nat)(p:AX)(r:A8×AD):Prop where
 ge:looks p=none->r=(.ge (C5 2),[])
 ret: ∀st,looks p=some st->r=(.ret (.ptr (0::0::π) 0),Nz π p st)
def dE(p:AX)(y: ∀s∈p.free,s.size<=maxLen)(k:Nat)(ρ:List Nat): ∃r,BX kT 65 [.agg (pC p)] (k::ρ)=.ok r/\rq (k::ρ) p r:=by
 have j:=ry p y;replace y:=AB y;cases a:looks p with
 |none=>
  rw[a]at j;simp only[Lg]at j;refine Lh Tryz.func65 ?_;refine aw ?_;exact⟨fun _=>rfl,fun st h=>by rw[a]at h;cases h⟩
 |some st=>
  rw[a]at j;simp only[Lg]at j;have n:=AH.mk (DP a);have B:=n.1.small;simp only[AX.small,AP,Ap]at B;obtain⟨K,L,M⟩:=B;refine Lh Tryz.func65 ?_;by_cases A:p.defs.length=0
  ·(repeat' (first|simp only[go_sem, *]|(refine sx ?_ ?_<;>intro F)|refine sy AA fun x J I=>?_|simp(disch:=first|assumption|omega) only[AR,Ff]))
   refine Aq p.nodes _ (S:=fun m i (_:Unit)=>⟨[(3,.d (.bv (st.co.map AL))),(5,.ptr (0::0::k::ρ) 0),(25,.d (.bv (p.nodes.map Bc))),(26,nI m),(27,nI i)],[(0::0::k::ρ,.box [.d7,.d7,.d7,.d7,.d (.bv (p.free.map Br)),.d (.bv (p.nodes.map Bc)),.d (.bv (p.defs.map B4)),nI p.main,.d (.bv (st.co.map AL)),.emp,.d .wd,.d7,nI 0])],1,[]⟩)
    (Inv:=fun i C _=>True) (b0:=()) rfl trivial ?_ ?_
   .rintro i b _ z q t _ f;have c: ¬b.op=4:=fun c=>by
     have:=NW n.1 z c;omega
    refine aw ?_;exact f.1 () trivial
   .rintro i _ q t _;have D:=AB A;refine aw ?_;exact⟨fun h=>(by rw[a]at h;cases h),fun st h=>by rw[a]at h;cases h;rw[Nz,D4 D.1];rfl⟩
  ·(repeat' (first|simp only[go_sem, *]|(refine sx ?_ ?_<;>intro F)|refine sy AA fun x J I=>?_|simp(disch:=first|assumption|omega) only[AR,Ff]))
   refine Aq p.nodes _ (S:=fun m i (out:List Int)=>⟨[(3,.d (.bv (st.co.map AL))),(5,.ptr (0::0::k::ρ) 0),(25,.d (.bv (p.nodes.map Bc))),(26,nI m),(27,nI i)],[(0::0::k::ρ,.box [.d7,.d7,.d7,.d7,.d (.bv (p.free.map Br)),.d (.bv (p.nodes.map Bc)),.d (.bv (p.defs.map B4)),nI p.main,.d (.bv (st.co.map AL)),.f8 (1::1::k::ρ) 0 p.defs.length,.d .wd,.d7,nI 0]),(1::1::k::ρ,.em 1 (out.map AL))],2,[]⟩)
    (Inv:=fun i C out=>out.length=p.defs.length/\AH (B8 p st.co=GJ st.co out C)) (b0:=List.replicate p.defs.length 0) rfl ⟨AG,⟨rfl⟩⟩ ?_ ?_
   .rintro i b out z q t ⟨w,g⟩ f;by_cases c:b.op=4
    .obtain⟨U,V,T,v,N,O,P,u,_,_⟩:=NW n.1 z c;obtain⟨o,Q⟩:=get_some (l:=out) (i:=b.n.toNat) AA;have R:b.n.toNat<p.defs.length:=AA;have u:=AB u;refine aw ?_;have e:(out.map AL).set b.n.toNat [.int .i64 v]=(out.set b.n.toNat v).map AL:=by rw[JP];rfl
     rw[e];refine f.1 (out.set b.n.toNat v) ⟨by simpa using w,⟨?_⟩⟩;rw[g.1,GJ,D4 c,u.1]
    .refine aw ?_;refine f.1 out ⟨w,⟨?_⟩⟩;rw[g.1,GJ,Ci c]
   .rintro i out q t ⟨w,g⟩;have H:AH (B8 p st.co=out):=⟨by rw[g.1];rfl⟩;refine aw ?_;exact⟨fun h=>(by rw[a]at h;cases h),fun st h=>by rw[a]at h;cases h;rw[Nz,Ci A,H.1];rfl⟩
end Go.Proofs
namespace Go.Proofs
open Abs
def mc(v1 v2 v3 v4 v9:AV)(a:Abs.Id)(rows:List (List AV)):MV:=⟨fun i=>match i with|0=>v1|1=>v2|2=>v4|_=>.d7,v3,v9,a,rows⟩
variable{π ρ:List Nat}{s:BU}{rows:List (List AV)}{g:AD}{m:Abs.Id}{p:AX}{sz:List Int}{n:Nat}
def aK{v1 v2 v3 v4:AV}(b:Te π s v1 v2 v3 v4 rows g){G:AD}{a:Abs.Id}{v9:AV}(u:π=n::ρ)(r:G.get m=some (.box (BL p sz (mc v1 v2 v3 v4 v9 a rows) 0)))(l:G.get a=some (.map JU))
 (j: ∀id o,g.get id=some o->G.get id=some o) (t:Id.under ρ m=true) (q:Id.under ρ a=true):J4 p sz G m (mc v1 v2 v3 v4 v9 a rows) ⟨s,[],0⟩/\ ∀id∈(mc v1 v2 v3 v4 v9 a rows).ids m,Id.under ρ id=true:=by
 have key: ∀{sz:Nat} {v:AV} {es:List (List Al)},KJ g sz v es->KJ G sz v es:=fun h=>by
  refine GM h fun id c=>?_;obtain⟨x,f⟩:=Ia h c;rw[f];exact j _ _ f
 refine⟨⟨r,.inr l,fun i k=>?_,?_,?_,b.gw,b.qd,fun _ _ _=>rfl⟩,fun id c=>?_⟩
 .match i,k with
  |0,_=>exact key b.s0
  |1,_=>exact key b.s1
  |2,_=>exact key b.s2
  |3,_=>exact .inl ⟨rfl,rfl⟩
 .refine Lu b.arr fun id c=>?_;have:=HY b.arr c;rw[this];exact j _ _ this
 .refine Lr b.be fun id c=>?_;obtain⟨x,f⟩:=K5 b.be c;rw[f];exact j _ _ f
 .have e:=fun h=>BM (n:=n) (u▸b.ids id h);rcases(MV.mem _ m id).1 c with rfl|rfl|⟨i,k,h⟩|h|h
  .exact t
  .exact q
  .match i,k with
   |0,_=>exact e (.inl h)
   |1,_=>exact e (.inr (.inl h))
   |2,_=>exact e (.inr (.inr (.inl h)))
   |3,_=>simp[mc,AE]at h
  .exact e (.inr (.inr (.inr (.inl h))))
  .exact e (.inr (.inr (.inr (.inr h))))
structure rj(π:List Nat)(p:AX)(s:BU)(st:Bq)(id:Abs.Id)(V:MV)(g:AD):Prop where
 looks:looks p=some st
 rep:J4 p st.co g id V ⟨s,[],0⟩
 ids: ∀x∈V.ids id,Id.under π x=true
 own: ∀x,Id.under π x=false->g.get x=none
structure rk(π:List Nat)(p:AX)(s:BU)(r:A8×AD):Prop where
 bad:DI p s≠0->r=(.ge (C5 2),[])
 i9:DI p s=0-> ∃st id V g,r=(.ret (.ptr id 0),g)/\rj π p s st id V g
variable{V:MV}
def kf{st:Bq}{id:Abs.Id}(a:looks p=some st)(h2:J4 p st.co g id V ⟨s,[],0⟩/\ ∀x∈V.ids id,Id.under π x=true)(b: ∀x,Id.under π x=false->g.get x=none):rj π p s st id V g:=⟨a,h2.1,h2.2,b⟩
def o9(p:AX)(s:BU)(P: ∀s∈p.free,s.size<=maxLen)(k:Nat)(ρ:List Nat): ∃r,BX kT 51 [.agg (pC p),.agg (sC s)] (k::ρ)=.ok r/\rk (k::ρ) p s r:=by
 obtain⟨r,T,S⟩:=dE p P 4 (k::ρ);replace P:=AB P;cases j:looks p with
 |none=>
  obtain rfl:=S.ge j;refine Lh Tryz.func51 ?_;refine aw ?_;exact⟨fun _=>rfl,fun h=>by rw[DI,j]at h;cases h⟩
 |some st=>
  obtain rfl:=S.ret st j;have B:AH (DI p s=if EH p st.co s=true then 0 else 2):=⟨by rw[DI,j]⟩;have l:=fun h=>ma s (P0 j h);by_cases z:p.defs.length=0
  .simp only[Nz,z,F6,FN,JU]at T;refine Lh Tryz.func51 ?_;refine aw ?_;refine EG (Ug (s:=s) (x9:=.emp) (x10:=.mp (1::3::4::k::ρ)) (x11:=.d7) (x12:=nI 0) (gid:=1::1::4::k::ρ) j ?_ ?_ ?_ ?_ ?_) (fun A g1 c=>?_)
   .simp only[go_sem]
   .exact Fk _ _ _ _ _ AZ
   .simp only[slv,z,F6,FN]
   .intro N;exact zDB
   .exact Fk _ _ _ _ _ AZ
   cases i:EH p st.co s with
   |false=>
    exact zBz
   |true=>
    rw[i]at c;replace c:A=.ret (.ii []):=c;subst c;obtain⟨ac,V,v1,v2,v3,v4,rows,g,rfl,b⟩:=l i 15 (k::ρ);clear l;have t:=b.own;have U: ∀L,AD.get (g++L) (0::0::4::k::ρ)=AD.get L (0::0::4::k::ρ):=fun L=>Bt (t _ (Fk _ _ _ _ _ AZ));replace t:=AB t;have M:AH (DI p s=0):=⟨by rw[B.1,i];rfl⟩;have J:=AB fun G v9 n h2 q=>aK b (G:=G) (m:=0::0::4::k::ρ) (a:=1::3::4::k::ρ) (v9:=v9) (p:=p) (sz:=st.co) rfl n h2 q (under_iff.2 ⟨[0,0,4],rfl⟩) (under_iff.2 ⟨[1,3,4],rfl⟩);have K:AH (∀L,AD.get (g++L) (1::3::4::k::ρ)=AD.get L (1::3::4::k::ρ)):=⟨fun L=>Bt (b.own _ (Fk _ _ _ _ _ AZ))⟩;have O:AH (∀id o,g.get id=some o->Id.is (0::0::4::k::ρ) id=false):=⟨fun id o f=>AF fun e=>by rw[<-e,b.own _ (Fk _ _ _ _ _ AZ)]at f;cases f⟩;have I:=AB j;have n:=b.s0;have h2:=b.s1;have q:=b.arr;have H:=b.s2;replace b:=AB b;rcases n with⟨rfl,v⟩|⟨W,ad,rfl,v⟩;all_goals rcases h2 with⟨rfl,w⟩|⟨X,ag,rfl,w⟩
    all_goals rcases q with⟨rfl,x⟩|⟨Y,rfl,x⟩
    all_goals rcases H with⟨rfl,y⟩|⟨Z,ai,rfl,y⟩
    all_goals
     replace v:=AB v;replace w:=AB w;replace x:=AB x;replace y:=AB y;refine aw ?_;refine⟨fun h=>absurd M.1 h,fun _=>⟨st,_,_,_,rfl,kf I.1 (J.1 _ .emp ?_ ?_ fun id o f=>?_) fun id u=>?_⟩⟩
     .simp only[go_sem,BL,mc];first|done|rfl
     .simp only[go_sem,K.1,JU];first|done|rfl
     .exact zCh
     .exact zBu
  .simp only[Nz,z,F6,FN,JU]at T;refine Lh Tryz.func51 ?_;refine aw ?_;refine EG (Ug (s:=s) (x9:=.f8 (1::1::4::k::ρ) 0 p.defs.length) (x10:=.mp (1::4::4::k::ρ)) (x11:=.d7) (x12:=nI 0) (gid:=1::1::4::k::ρ) j ?_ ?_ ?_ ?_ ?_) (fun A g1 c=>?_)
   .simp only[go_sem]
   .exact Fk _ _ _ _ _ AZ
   .simp only[slv,z,F6,FN]
   .intro N;exact zDB
   .exact Fk _ _ _ _ _ AZ
   cases i:EH p st.co s with
   |false=>
    exact zBz
   |true=>
    rw[i]at c;replace c:A=.ret (.ii []):=c;subst c;obtain⟨ac,V,v1,v2,v3,v4,rows,g,rfl,b⟩:=l i 15 (k::ρ);clear l;have t:=b.own;have U: ∀L,AD.get (g++L) (0::0::4::k::ρ)=AD.get L (0::0::4::k::ρ):=fun L=>Bt (t _ (Fk _ _ _ _ _ AZ));replace t:=AB t;have M:AH (DI p s=0):=⟨by rw[B.1,i];rfl⟩;have J:=AB fun G v9 n h2 q=>aK b (G:=G) (m:=0::0::4::k::ρ) (a:=1::4::4::k::ρ) (v9:=v9) (p:=p) (sz:=st.co) rfl n h2 q (under_iff.2 ⟨[0,0,4],rfl⟩) (under_iff.2 ⟨[1,4,4],rfl⟩);have K:AH (∀L,AD.get (g++L) (1::4::4::k::ρ)=AD.get L (1::4::4::k::ρ)):=⟨fun L=>Bt (b.own _ (Fk _ _ _ _ _ AZ))⟩;have O:AH (∀id o,g.get id=some o->Id.is (0::0::4::k::ρ) id=false):=⟨fun id o f=>AF fun e=>by rw[<-e,b.own _ (Fk _ _ _ _ _ AZ)]at f;cases f⟩;have I:=AB j;have n:=b.s0;have h2:=b.s1;have q:=b.arr;have H:=b.s2;replace b:=AB b;rcases n with⟨rfl,v⟩|⟨W,ad,rfl,v⟩;all_goals rcases h2 with⟨rfl,w⟩|⟨X,ag,rfl,w⟩
    all_goals rcases q with⟨rfl,x⟩|⟨Y,rfl,x⟩
    all_goals rcases H with⟨rfl,y⟩|⟨Z,ai,rfl,y⟩
    all_goals
     replace v:=AB v;replace w:=AB w;replace x:=AB x;replace y:=AB y;refine aw ?_;refine⟨fun h=>absurd M.1 h,fun _=>⟨st,_,_,_,rfl,kf I.1 (J.1 _ (.f8 (1::1::4::k::ρ) 0 p.defs.length) ?_ ?_ fun id o f=>?_) fun id u=>?_⟩⟩
     .simp only[go_sem,BL,mc];first|done|rfl
     .simp only[go_sem,K.1,JU];first|done|rfl
     .exact zCh
     .exact zBu
variable{e:CA}{H:AD}
def z9{K:Ab}{ci:Option (List Nat)}{b:List Nat}{a:Abs.Id}{c:Nat}{ds:List Df}{Q:Eh->St->Prop}{t:B0}{args:List AV}{r:Lp}(g: ∀f,f=r->JA ρ b a e c ds Q (K t args (H.put a (.loop f)) b true ci)):JA ρ b a e c ds Q (K t args (H.put a (.loop r)) b true ci):=g r rfl
variable{st:CW}
def pr{G:AD}(h:J4 p sz g m V st)(a: ∀id o,g.get id=some o->G.get id=some o):J4 p sz G m V st:=by
 refine⟨a _ _ h.box,Ll h fun _ e=>(a _ _ e).trans e.symm,fun i f=>GM (h.sl i f) fun id b=>?_,Lu h.arr fun id b=>?_,Lr h.be fun id b=>?_,h.gw,h.qd,h.inv⟩
 .obtain⟨x,c⟩:=Ia (h.sl i f) b;rw[c];exact a _ _ c
 .have:=HY h.arr b;rw[this];exact a _ _ this
 .obtain⟨x,c⟩:=K5 h.be b;rw[c];exact a _ _ c
def GG:BU:=⟨[],[],[],[]⟩
structure Made where
 d8:BU
 ev:List Eg
 err:Int
def cJ:Option CW->Made
 |some st=>⟨st.d8,st.ev,0⟩
 |none=>⟨GG,[],3⟩
abbrev L8(r:Made):AV:=.ii [sA r.d8,.d (.bv (r.ev.map Dk)),nI r.err]
def qo(p:AX)(s:BU)(x:FH):Hy p s [] x=De p s x:=by
 rw[Hy];cases De p s x<;>rfl
variable{v:AV}{es:List (List Al)}
def Bg{sz:Nat}(h:KJ g sz v es):v.isCell=true/\v.cells=[v]:=by
 rcases h with⟨rfl,_⟩|⟨_,_,rfl,_⟩<;>exact⟨rfl,rfl⟩
def Gm(h:rV g v rows):v.isCell=true/\v.cells=[v]:=by
 rcases h with⟨rfl,_⟩|⟨_,rfl,_⟩<;>exact⟨rfl,rfl⟩
def lJ{b:Type}(l x:List b)(n:Nat)(a:n=l.length):K2 (l++x) 0 n=some l:=by
 subst a;unfold K2;rw[D4 AG];simp
def bO{sz:Nat}(h:KJ g sz v es):FQ g.get v=some (.bv es):=by
 rcases h with⟨rfl,rfl⟩|⟨id,x,rfl,a⟩
 .rfl
 .simp only[FQ,a,lJ es x _ rfl,F3]
def Fe{sz:Nat}(h:KJ g sz v es):C9 g.get v=some (.bv es):=by
 have a:=bO h;rcases h with⟨rfl,rfl⟩|⟨id,x,rfl,b⟩
 .rfl
 .simp only[C9,b];exact a
def bN{sz:Nat}(h:KJ g sz v es):Fc g.get v=some (.d (.bv es)):=by
 have a:=Fe h;rcases h with⟨rfl,rfl⟩|⟨id,x,rfl,b⟩
 .rfl
 .simp only[Fc,a,F3]
def Ve{sz:Nat}(h:jv g sz v es):v.isCell=true/\v.cells=[v]:=by
 rcases h with h|⟨rfl,_⟩
 .exact Bg h
 .exact⟨rfl,rfl⟩
def uD{sz:Nat}(h:jv g sz v es):FQ g.get v=some (.bv es):=by
 rcases h with h|⟨rfl,rfl⟩
 .exact bO h
 .rfl
def Qc{sz:Nat}(h:jv g sz v es):C9 g.get v=some (.bv es):=by
 rcases h with h|⟨rfl,rfl⟩
 .exact Fe h
 .rfl
def XJ{g:AD}: ∀{rows:List (List AV)} {l:List HD},rows.length=l.length->(∀(j:Nat) (q:HD),l[j]? =some q-> ∃v,rows[j]? =some (A6 q v)/\jv g 1 v (q.queue.map BJ))->C7 g.get rows=some (l.map Cy)
 |[],[],_,_=>rfl
 |[],_::_,h,_=>by cases h
 |_::_,[],h,_=>by cases h
 |r::rows,q::l,h,hr=>by
  obtain⟨v,a,h2⟩:=hr 0 q rfl;simp only[F4,Co]at a;subst a;have f:=XJ (rows:=rows) (l:=l) (by simpa using h) fun j q e=>by
   have:=hr (j+1) q zFF;simpa using this
  have b:=uD h2;have c:C6 g.get (A6 q v)=some (Cy q):=by
   simp only[A6,C6,b,show∀x,FQ g.get (.d x)=some x from fun _=>rfl,Cy]
  simp only[C7,c,f,By]
def Nf{c:Bool}{l:List HD}(h:rV g v rows)(b:eK c g rows l):C9 g.get v=some (.bv (l.map Cy)):=by
 have a:=XJ b.len fun j q i=>by obtain⟨v,a,h2⟩:=b.row j q i;exact⟨v,a,Vc h2⟩
 have e:=b.len;rcases h with⟨rfl,rfl⟩|⟨id,rfl,f⟩
 .cases l with
  |nil=>rfl
  |cons q l=>cases e
 .have:=lJ (l.map Cy) [] rows.length (by rw[As,e]);rw[CI]at this;simp only[C9,f,a,this,F3]
def lk{c:Type}{f:c->List Al}{sz:Nat}(k: ∀x,(f x).length=sz)(o:0<sz)(l:List c)(h: ¬l.length=0)(n:l.length<=1000000): ∀(g:G) (a:Abs.Id) (j:TI),j.mix=false->j.size=sz->QE g a j .emp (some ((l.map f).map fun x=>x.map AV.d))=some ⟨.f8 (1::a) 0 l.length,[(1::a,.em sz (l.map f))]⟩:=by
 intro g a j m b;have:=TN g a j (l.map f) m AA (fun e i=>by
  obtain⟨x,_,rfl⟩:=F1.1 i;rw[b];exact k x) (fun e=>h (by rw[D5.1 e];rfl)) zEm
 rw[this,As,b]
variable{k b:Nat}
def Ed{t j:Nat}(h:b<=j): ¬FW (k::ρ) b (t::j::k::ρ):=fun e=>by
 have:=(Av e t j h).1;rw[is_self]at this;cases this
def aJ(s:BU)(h:s.Fits)(cl: ¬s.ac.length=0)(k:Nat)(ρ:List Nat): ∃r,BX kT 104 [.agg (sC s)] (k::ρ)=.ok r/\ ∃v1 v2 v3 v4 rows g,r=(.ret (.agg [v1,v2,v3,v4]),g)/\IY (k::ρ) s v1 v2 v3 v4 rows g:=by
 have ap:=lk (f:=Aw) (sz:=2) (fun _=>rfl) AZ s.ac cl h.ac;replace h:=AB h;refine Lh Tryz.func104 ?_;refine aw ?_;refine Fw (cs:=PT s) (ng:=0) (nc:=0) (nw:=0) (B:=0::0::k::ρ) (R:=0::1::k::ρ) (O:=0::7::k::ρ) (v1:=.f8 (1::5::k::ρ) 0 s.ac.length) (v2:=.d7) (v3:=.d7) (v4:=.d7) (rows:=[]) (k:=4) (i:=0) ?_ ⟨?_,?_,?_,.inr ⟨fun e=>cl (by rw[D5.1 e];rfl),1::5::k::ρ,by rw[As],?_⟩,.inl ⟨rfl,rfl⟩,.inl ⟨rfl,rfl⟩,⟨rfl,AG,AG⟩,.inl ⟨rfl,rfl⟩,BH,AG,AG⟩ h.out.be fun B R O v1 v2 v3 v4 rows g b y=>?_
 .simp only[go_sem]
 .exact zAs
 .simp only[go_sem]
 .simp only[go_sem]
 .simp only[go_sem]
 refine Ah s.ce (S:=fun i (a:H4)=>⟨[(1,.ptr a.B 0),(2,.ptr a.R 0),(3,.ptr a.O 0),(4,nI i)],a.g,a.b,[]⟩)
  (Inv:=fun i cc a=>AH (eI (k::ρ) (PT s) s i 0 0 a.B a.R a.O a.v1 a.v2 a.v3 a.v4 a.rows a.g a.b)) (b0:=⟨B,R,O,v1,v2,v3,v4,rows,g,b⟩) ⟨y⟩ ?_ ?_
 .clear y;rintro i X ⟨B,R,O,v1,v2,v3,v4,rows,g,b⟩ az av a' l Q;dsimp only at*;have y:=l.out.cp;have a1:g.get B=some (.box (sC s)):=y.bx;have a4:=y.out;have ai:=fun k ρ=>GQ X.env (h.out.group X (AS az)) k ρ;have fa:=B7;have ch:IntKind.i64.wrap ((i:Int)+1)=(i:Int)+1:=wrap_id AA (by have:=h.out.ce;omega);have bk:=y.s1;have u:=l.out.nm;have H:=fun t j o=>(Av (u O zEY) t j o).1;have I:=fun t j o=>(Av (u O zEY) t j o).2;have b7:=fun a c d=>(BW (u O zEY) [a,c,d] AG).2;have T:=fun a c d=>(BW (u O zEY) [a,c,d] AG).1;have bc:=fun a c d=>(BW (u B zEY) [a,c,d] AG).2;simp only[Cs,CE]at b7 T bc;have N:AH (s.ce.take (i+1)=s.ce.take i++[X]):=⟨by rw[GC,az];rfl⟩;have P:(s.ce.take i).length=i:=by rw[F2];omega
  replace u:=AB u;replace y:=AB y;rcases bk with⟨v,rfl⟩|⟨v,id,rfl,U⟩
  .have V:i=0:=by rw[D5.1 v]at P;exact P.symm
   replace V:=AB V;have a7:=AH.mk (D5.1 v);clear v P;by_cases J:X.env.length=0
   .simp only[Jn,D4 J]at ai;have K:=BI J;replace K:=AB K;refine aw ?_;refine Fw (ng:=i+1) (nc:=0) (nw:=0) (k:=4) ?_ (l.out.group (A:=1::(b+28)::k::ρ) ?_ AA ?_ (Ed AA) fun x p L h2=>?_) h.out.be fun B R O v1 v2 v3 v4 rows g b C=>Q.out ⟨B,R,O,v1,v2,v3,v4,rows,g,b⟩ ⟨C⟩
    .exact zAs
    .rw[V.out];exact zBy
    .simp only[go_sem,H,I,T,AM];rw[N.out,a7.out];simp only[CE,By,BY,BG,K.out]
    .exact zAR
   .simp only[Jn,Ci J]at ai;refine aw ?_;refine Fw (ng:=i+1) (nc:=0) (nw:=0) (k:=4) ?_ (l.out.group (A:=1::(b+28)::k::ρ) ?_ AA ?_ (Ed AA) fun x p L h2=>?_) h.out.be fun B R O v1 v2 v3 v4 rows g b C=>Q.out ⟨B,R,O,v1,v2,v3,v4,rows,g,b⟩ ⟨C⟩
    .exact zAs
    .rw[V.out];exact zBy
    .simp only[go_sem,H,I,T,AM];rw[N.out,a7.out];rfl
    .exact zAR
  .obtain⟨a3,ar⟩: ∃G,G=s.ce.take i:=⟨_,rfl⟩;rw[<-ar]at U v P N a4;rw[As,P]at a4;have b5: ¬i=0:=fun e=>v zFS;have cx:List.take i (a3.map BG)=a3.map BG:=Bi zFg;replace ar:=AB ar;have nI:=fun t j o=>(Av (u.out id (BQ.2 BH)) t j o).1;have cp:=fun t j o=>(Av (u.out id (BQ.2 BH)) t j o).2;have be:=fun a c d=>(BW (u.out id (BQ.2 BH)) [a,c,d] AG).2;have bi:=fun a c d=>(BW (u.out id (BQ.2 BH)) [a,c,d] AG).1;simp only[Cs,CE]at be bi;have IO:Id.is id O=false:=AF fun e=>by rw[e,y.out.out]at U;cases U
   have c1:Id.is O id=false:=AF fun e=>by rw[<-e,y.out.out]at U;cases U
   replace v:=AB v;have b6:i+1<=BF:=by have:=h.out.ce;unfold BF;omega
   by_cases J:X.env.length=0
   .simp only[Jn,D4 J]at ai;have K:=BI J;replace K:=AB K;refine aw ?_;refine Fw (ng:=i+1) (nc:=0) (nw:=0) (k:=4) ?_ (l.out.group (A:=1::(b+28)::k::ρ) ?_ AA ?_ (Ed AA) fun x p L h2=>?_) h.out.be fun B R O v1 v2 v3 v4 rows g b C=>Q.out ⟨B,R,O,v1,v2,v3,v4,rows,g,b⟩ ⟨C⟩
    .exact zAs
    .exact zBy
    .simp only[go_sem,H,I,T,AM];rw[N.out,BE];simp only[By,BY,BG,K.out]
    .exact zAK
   .simp only[Jn,Ci J]at ai;refine aw ?_;refine Fw (ng:=i+1) (nc:=0) (nw:=0) (k:=4) ?_ (l.out.group (A:=1::(b+28)::k::ρ) ?_ AA ?_ (Ed AA) fun x p L h2=>?_) h.out.be fun B R O v1 v2 v3 v4 rows g b C=>Q.out ⟨B,R,O,v1,v2,v3,v4,rows,g,b⟩ ⟨C⟩
    .exact zAs
    .exact zBy
    .simp only[go_sem,H,I,T,AM];rw[N.out,BE];rfl
    .exact zAK
 .clear y;rintro i ⟨B,R,O,v1,v2,v3,v4,rows,g,b⟩ av a' l;dsimp only at*;have a1:g.get B=some (.box (sC s)):=l.out.cp.bx;obtain rfl:=av.out;clear av;refine aw ?_;refine Fw (k:=5) (i:=0) (nc:=0) (nw:=0) ?_ l.out.cp h.out.be fun B R O v1 v2 v3 v4 rows g b y=>?_
  .simp only[go_sem]
  clear l a1 a';obtain⟨ng,bo⟩: ∃n,n=s.ce.length:=⟨_,rfl⟩;rw[<-bo]at y;replace bo:=AB bo;refine Ah s.be (S:=fun i (a:H4)=>⟨[(1,.ptr a.B 0),(2,.ptr a.R 0),(3,.ptr a.O 0),(5,nI i)],a.g,a.b,[]⟩)
   (Inv:=fun i cc a=>AH (eI (k::ρ) (PT s) s ng i 0 a.B a.R a.O a.v1 a.v2 a.v3 a.v4 a.rows a.g a.b)) (b0:=⟨B,R,O,v1,v2,v3,v4,rows,g,b⟩) ⟨y⟩ ?_ ?_
  .clear y;rintro i c ⟨B,R,O,v1,v2,v3,v4,rows,g,b⟩ az av a' l Q;dsimp only at*;have a1:g.get B=some (.box (sC s)):=l.out.cp.bx;have u:=AB l.out.nm;have c8:=fun t j o=>(Av (u.out B zEY) t j o).1;have c9:=fun t j o=>(Av (u.out B zEY) t j o).2;obtain⟨d8,b2⟩:=h.out.chan c (AS az);replace b2:=AB b2;refine aw ?_;have bv:=fun{x} (q:x∈Hz B R O v1 v2 v3 v4 rows)=>l.out.nm x q;refine NU (c:=c) (m:=0) (i:=i) (k:=0) (ng:=ng) (nc:=i) (nw:=0) (vq:=.d7) (Y:=0::(b+24)::k::ρ) ?_ (l.out.cp.pm fun x q=>?_) ?_ (.inl ⟨AG,rfl⟩) (fun q=>Ed AA (bv q)) (fun x q=>by cases q) h.out.be fun B R O Y v1 v2 v3 v4 vq rows g b y=>?_
   .simp only[go_sem]
   .have z:=(Av (bv q) 0 (b+24) AA).1;simp only[go_sem,z,AM]
   .simp only[go_sem]
   clear bv c8 c9 u a1 l;refine Ah c.queue (S:=fun j (a:y4)=>⟨[(1,.ptr a.a.B 0),(2,.ptr a.a.R 0),(3,.ptr a.a.O 0),(5,nI i),(6,.ptr a.Y 0),(7,nI j)],a.a.g,a.a.b,[]⟩)
    (Inv:=fun j cc a=>AH (hK (k::ρ) (PT s) s ng i 0 c j a.a.B a.a.R a.a.O a.Y a.a.v1 a.a.v2 a.a.v3 a.a.v4 a.vq a.a.rows a.a.g a.a.b)) (b0:=⟨⟨B,R,O,v1,v2,v3,v4,rows,g,b⟩,Y,vq⟩) ⟨y⟩ ?_ ?_
   .clear y;rintro j X ⟨⟨B,R,O,v1,v2,v3,v4,rows,g,b⟩,Y,vq⟩ cn o c7 l Q;dsimp only at*;have a1:g.get B=some (.box (sC s)):=l.out.n.cp.bx;have bx:=l.out.q;have ai:=fun k ρ=>GQ X (b2.out X (AS cn)) k ρ;have fa:=B7;have ch:IntKind.i64.wrap ((j:Int)+1)=(j:Int)+1:=wrap_id AA AA;have bk:=l.out.qs;have u:=l.out.n.nm;have a5:=fun t j o=>(Av l.out.qn t j o).1;have a6:=fun t j o=>(Av l.out.qn t j o).2;have c':=fun a c d=>(BW l.out.qn [a,c,d] AG).2;have a2:=fun a c d=>(BW l.out.qn [a,c,d] AG).1;have bc:=fun a c d=>(BW (u B zEY) [a,c,d] AG).2;simp only[Cs,CE]at c' a2 bc;have N:AH (c.queue.take (j+1)=c.queue.take j++[X]):=⟨by rw[GC,cn];rfl⟩;have P:(c.queue.take j).length=j:=by rw[F2];omega
    replace u:=AB u;rcases bk with⟨v,rfl⟩|⟨v,id,rfl,U⟩
    .have V:j=0:=by rw[D5.1 v]at P;exact P.symm
     replace V:=AB V;have a7:=AH.mk (D5.1 v);clear v P;by_cases J:X.length=0
     .simp only[Jn,D4 J]at ai;have K:=BI J;replace K:=AB K;refine aw ?_;refine NU (c:=c) (m:=j+1) (ng:=ng) (nc:=i) (nw:=0) (vq:=.f8 (1::(b+24)::k::ρ) 0 (j+1)) (Y:=Y) ?_ (l.out.n.cp.pm fun x q=>?_) ?_ (.inr ⟨by rw[N.out];simp,1::(b+24)::k::ρ,by rw[As,F2,Nat.min_eq_left AA],?_⟩) l.out.yn (fun x q=>?_) h.out.be fun B R O Y v1 v2 v3 v4 vq rows g b C=>Q.out ⟨⟨B,R,O,v1,v2,v3,v4,rows,g,b⟩,Y,vq⟩ ⟨C⟩
      .exact zAs
      .exact zA4
      .rw[V.out];exact zDP
      .simp only[go_sem,a5,a6,a2,AM];rw[N.out,a7.out];simp only[CE,By,BY,BJ,K.out]
      .exact zBK
     .simp only[Jn,Ci J]at ai;refine aw ?_;refine NU (c:=c) (m:=j+1) (ng:=ng) (nc:=i) (nw:=0) (vq:=.f8 (1::(b+24)::k::ρ) 0 (j+1)) (Y:=Y) ?_ (l.out.n.cp.pm fun x q=>?_) ?_ (.inr ⟨by rw[N.out];simp,1::(b+24)::k::ρ,by rw[As,F2,Nat.min_eq_left AA],?_⟩) l.out.yn (fun x q=>?_) h.out.be fun B R O Y v1 v2 v3 v4 vq rows g b C=>Q.out ⟨⟨B,R,O,v1,v2,v3,v4,rows,g,b⟩,Y,vq⟩ ⟨C⟩
      .exact zAs
      .exact zA4
      .rw[V.out];exact zDP
      .simp only[go_sem,a5,a6,a2,AM];rw[N.out,a7.out];rfl
      .exact zBK
    .obtain⟨a3,ar⟩: ∃G,G=c.queue.take j:=⟨_,rfl⟩;rw[<-ar]at U v P N bx;rw[As,P]at bx;have b5: ¬j=0:=fun e=>v zFS;have cx:List.take j (a3.map BJ)=a3.map BJ:=Bi zFg;replace ar:=AB ar;have nI:=fun t j o=>(Av (l.out.qv id BH).1 t j o).1;have cp:=fun t j o=>(Av (l.out.qv id BH).1 t j o).2;have be:=fun a c d=>(BW (l.out.qv id BH).1 [a,c,d] AG).2;have bi:=fun a c d=>(BW (l.out.qv id BH).1 [a,c,d] AG).1;simp only[Cs,CE]at be bi;have df:Id.is id Y=false:=AF fun e=>by rw[e,l.out.q]at U;cases U
     have d1:Id.is Y id=false:=AF fun e=>by rw[<-e,l.out.q]at U;cases U
     replace v:=AB v;have b6:j+1<=BF:=zEt
     by_cases J:X.length=0
     .simp only[Jn,D4 J]at ai;have K:=BI J;replace K:=AB K;refine aw ?_;refine NU (c:=c) (m:=j+1) (ng:=ng) (nc:=i) (nw:=0) (vq:=.f8 (1::(b+24)::k::ρ) 0 (j+1)) (Y:=Y) ?_ (l.out.n.cp.pm fun x q=>?_) ?_ (.inr ⟨by rw[N.out];simp,1::(b+24)::k::ρ,by rw[As,F2,Nat.min_eq_left AA],?_⟩) l.out.yn (fun x q=>?_) h.out.be fun B R O Y v1 v2 v3 v4 vq rows g b C=>Q.out ⟨⟨B,R,O,v1,v2,v3,v4,rows,g,b⟩,Y,vq⟩ ⟨C⟩
      .exact zAs
      .exact zAq
      .exact zDP
      .simp only[go_sem,a5,a6,a2,AM];rw[N.out,BE];simp only[By,BY,BJ,K.out]
      .exact zBK
     .simp only[Jn,Ci J]at ai;refine aw ?_;refine NU (c:=c) (m:=j+1) (ng:=ng) (nc:=i) (nw:=0) (vq:=.f8 (1::(b+24)::k::ρ) 0 (j+1)) (Y:=Y) ?_ (l.out.n.cp.pm fun x q=>?_) ?_ (.inr ⟨by rw[N.out];simp,1::(b+24)::k::ρ,by rw[As,F2,Nat.min_eq_left AA],?_⟩) l.out.yn (fun x q=>?_) h.out.be fun B R O Y v1 v2 v3 v4 vq rows g b C=>Q.out ⟨⟨B,R,O,v1,v2,v3,v4,rows,g,b⟩,Y,vq⟩ ⟨C⟩
      .exact zAs
      .exact zAq
      .exact zDP
      .simp only[go_sem,a5,a6,a2,AM];rw[N.out,BE];rfl
      .exact zBK
   .clear y;rintro j ⟨⟨B,R,O,v1,v2,v3,v4,rows,g,b⟩,Y,vq⟩ o c7 l;dsimp only at*;have a1:g.get B=some (.box (sC s)):=l.out.n.cp.bx;have a4:=l.out.n.cp.out;have bx:=l.out.q;have u:=AB l.out.n.nm;have H:=fun t j o=>(Av (u.out O zEY) t j o).1;have I:=fun t j o=>(Av (u.out O zEY) t j o).2;have d2:Id.is Y O=false:=AF fun e=>l.out.yn (by rw[e];simp[Hz]);have dq:Id.is O Y=false:=AF fun e=>l.out.yn (by rw[<-e];simp[Hz]);have b4:rows.length=i:=by rw[l.out.n.cp.rep.len,F2];omega
    have ch:IntKind.i64.wrap ((i:Int)+1)=(i:Int)+1:=wrap_id AA (by have:=h.out.be;omega);have b3:=l.out.qs;have c6:=o.out;subst c6;rw[D2]at b3;have c5:=l.out.n.cp.arr;rcases c5 with⟨v,rfl⟩|⟨v,A,rfl,a0⟩
    .have V:=AH.mk (show i=0 by rw[<-b4,v];rfl);replace v:=AB v;rcases b3 with⟨ag,rfl⟩|⟨ag,W,rfl,M⟩
     .replace ag:=AB ag;refine aw ?_;refine Fw (ng:=ng) (nc:=i+1) (nw:=0) (k:=5) ?_ (l.out.n.chan (A:=1::(b+13)::k::ρ) (vq:=.d7) az ?_ ?_ ?_ (fun x q Z=>(l.out.qv x q).2 (BQ.2 (.inr (.inr (.inr (.inr (.inr (.inr (.inr Z))))))))) fun x p L h2=>?_) h.out.be fun B R O v1 v2 v3 v4 rows g b C=>Q.out ⟨B,R,O,v1,v2,v3,v4,rows,g,b⟩ ⟨C⟩
      .exact zAs
      .rw[V.out];simp only[go_sem,H,I,AM]
      .simp only[go_sem,H,I,AM];rw[v.out];rfl
      .exact .inl ⟨by rw[D5.1 ag.out];rfl,rfl⟩
      .exact zCC
     .have b8:=fun t j o=>(Av (l.out.qv W BH).1 t j o).1;have b':=fun t j o=>(Av (l.out.qv W BH).1 t j o).2;have c3:Id.is W Y=false:=AF fun e=>by rw[e,l.out.q]at M;cases M
      have c4:Id.is Y W=false:=AF fun e=>by rw[<-e,l.out.q]at M;cases M
      have c2:Id.is W O=false:=AF fun e=>by rw[e,l.out.n.cp.out]at M;cases M
      have bs:Id.is O W=false:=AF fun e=>by rw[<-e,l.out.n.cp.out]at M;cases M
      replace ag:=AB ag;refine aw ?_;refine Fw (ng:=ng) (nc:=i+1) (nw:=0) (k:=5) ?_ (l.out.n.chan (A:=1::(b+13)::k::ρ) (vq:=.f8 W 0 (c.queue.map BJ).length) az ?_ ?_ ?_ (fun x q Z=>(l.out.qv x q).2 (BQ.2 (.inr (.inr (.inr (.inr (.inr (.inr (.inr Z))))))))) fun x p L h2=>?_) h.out.be fun B R O v1 v2 v3 v4 rows g b C=>Q.out ⟨B,R,O,v1,v2,v3,v4,rows,g,b⟩ ⟨C⟩
      .exact zAs
      .rw[V.out];simp only[go_sem,H,I,AM]
      .simp only[go_sem,H,I,AM];rw[v.out];rfl
      .refine .inr ⟨fun e=>ag.out (by rw[BI e];rfl),W,by rw[As],?_⟩;simp only[go_sem,M,bs,b8,b',AM]
      .exact zCC
    .rw[b4]at a4;have eb:rows.take i=rows:=Bi AA;have ea: ¬i+1<=i:=AA;have b6:i+1<=BF:=by have:=h.out.be;unfold BF;omega
     have b5: ¬i=0:=fun e=>v (BI (b4.trans e));have d9:=fun t j o=>(Av (u.out A (BQ.2 BH)) t j o).1;have d':=fun t j o=>(Av (u.out A (BQ.2 BH)) t j o).2;have dd:Id.is A O=false:=AF fun e=>by rw[e,l.out.n.cp.out]at a0;cases a0
     have dm:Id.is O A=false:=AF fun e=>by rw[<-e,l.out.n.cp.out]at a0;cases a0
     have de:Id.is A Y=false:=AF fun e=>by rw[e,l.out.q]at a0;cases a0
     have d0:Id.is Y A=false:=AF fun e=>by rw[<-e,l.out.q]at a0;cases a0
     replace v:=AB v;rcases b3 with⟨ag,rfl⟩|⟨ag,W,rfl,M⟩
     .replace ag:=AB ag;refine aw ?_;refine Fw (ng:=ng) (nc:=i+1) (nw:=0) (k:=5) ?_ (l.out.n.chan (A:=1::(b+13)::k::ρ) (vq:=.d7) az ?_ ?_ ?_ (fun x q Z=>(l.out.qv x q).2 (BQ.2 (.inr (.inr (.inr (.inr (.inr (.inr (.inr Z))))))))) fun x p L h2=>?_) h.out.be fun B R O v1 v2 v3 v4 rows g b C=>Q.out ⟨B,R,O,v1,v2,v3,v4,rows,g,b⟩ ⟨C⟩
      .exact zAs
      .simp only[go_sem,H,I,AM]
      .simp only[go_sem,H,I,AM];rfl
      .exact .inl ⟨by rw[D5.1 ag.out];rfl,rfl⟩
      .exact zBN
     .have b8:=fun t j o=>(Av (l.out.qv W BH).1 t j o).1;have b':=fun t j o=>(Av (l.out.qv W BH).1 t j o).2;have c3:Id.is W Y=false:=AF fun e=>by rw[e,l.out.q]at M;cases M
      have c4:Id.is Y W=false:=AF fun e=>by rw[<-e,l.out.q]at M;cases M
      have c2:Id.is W O=false:=AF fun e=>by rw[e,l.out.n.cp.out]at M;cases M
      have bs:Id.is O W=false:=AF fun e=>by rw[<-e,l.out.n.cp.out]at M;cases M
      replace ag:=AB ag;have c0:Id.is A W=false:=Fi a0 M;have ds:Id.is W A=false:=Fi M a0;refine aw ?_;refine Fw (ng:=ng) (nc:=i+1) (nw:=0) (k:=5) ?_ (l.out.n.chan (A:=1::(b+13)::k::ρ) (vq:=.f8 W 0 (c.queue.map BJ).length) az ?_ ?_ ?_ (fun x q Z=>(l.out.qv x q).2 (BQ.2 (.inr (.inr (.inr (.inr (.inr (.inr (.inr Z))))))))) fun x p L h2=>?_) h.out.be fun B R O v1 v2 v3 v4 rows g b C=>Q.out ⟨B,R,O,v1,v2,v3,v4,rows,g,b⟩ ⟨C⟩
      .exact zAs
      .simp only[go_sem,H,I,AM]
      .simp only[go_sem,H,I,AM];rfl
      .refine .inr ⟨fun e=>ag.out (by rw[BI e];rfl),W,by rw[As],?_⟩;simp only[go_sem,M,bs,c0,b8,b',AM]
      .exact zBN
  .clear y;rintro i ⟨B,R,O,v1,v2,v3,v4,rows,g,b⟩ av a' l;dsimp only at*;have a1:g.get B=some (.box (sC s)):=l.out.cp.bx;obtain⟨nc,bl⟩: ∃n,n=s.be.length:=⟨_,rfl⟩;have b1:=av.out;subst b1;clear av;refine aw ?_;refine Fw (k:=8) (i:=0) (nw:=0) ?_ l.out.cp h.out.be fun B R O v1 v2 v3 v4 rows g b y=>?_
   .simp only[go_sem]
   clear l a1 a';rw[<-bl]at y;replace bl:=AB bl;refine Ah s.waits (S:=fun i (a:H4)=>⟨[(1,.ptr a.B 0),(2,.ptr a.R 0),(3,.ptr a.O 0),(8,nI i)],a.g,a.b,[]⟩)
    (Inv:=fun i cc a=>AH (eI (k::ρ) (PT s) s ng nc i a.B a.R a.O a.v1 a.v2 a.v3 a.v4 a.rows a.g a.b)) (b0:=⟨B,R,O,v1,v2,v3,v4,rows,g,b⟩) ⟨y⟩ ?_ ?_
   .clear y;rintro i X ⟨B,R,O,v1,v2,v3,v4,rows,g,b⟩ az av a' l Q;dsimp only at*;have y:=l.out.cp;have a1:g.get B=some (.box (sC s)):=y.bx;have a4:=y.out;have ai:=fun k ρ=>GQ X.env (h.out.wait X (AS az)) k ρ;have fa:=B7;have ch:IntKind.i64.wrap ((i:Int)+1)=(i:Int)+1:=wrap_id AA (by have:=h.out.waits;omega);have bk:=y.s2;have u:=l.out.nm;have H:=fun t j o=>(Av (u O zEY) t j o).1;have I:=fun t j o=>(Av (u O zEY) t j o).2;have b7:=fun a c d=>(BW (u O zEY) [a,c,d] AG).2;have T:=fun a c d=>(BW (u O zEY) [a,c,d] AG).1;have bc:=fun a c d=>(BW (u B zEY) [a,c,d] AG).2;simp only[Cs,CE]at b7 T bc;have N:AH (s.waits.take (i+1)=s.waits.take i++[X]):=⟨by rw[GC,az];rfl⟩;have P:(s.waits.take i).length=i:=by rw[F2];omega
    replace u:=AB u;replace y:=AB y;rcases bk with⟨v,rfl⟩|⟨v,id,rfl,U⟩
    .have V:i=0:=by rw[D5.1 v]at P;exact P.symm
     replace V:=AB V;have a7:=AH.mk (D5.1 v);clear v P;by_cases J:X.env.length=0
     .simp only[Jn,D4 J]at ai;have K:=BI J;replace K:=AB K;refine aw ?_;refine Fw (ng:=ng) (nc:=nc) (nw:=i+1) (k:=8) ?_ (l.out.wait (A:=1::(b+28)::k::ρ) ?_ AA ?_ (Ed AA) fun x p L h2=>?_) h.out.be fun B R O v1 v2 v3 v4 rows g b C=>Q.out ⟨B,R,O,v1,v2,v3,v4,rows,g,b⟩ ⟨C⟩
      .exact zAs
      .rw[V.out];exact zBy
      .simp only[go_sem,H,I,T,AM];rw[N.out,a7.out];simp only[CE,By,BY,Ae,K.out]
      .exact zAR
     .simp only[Jn,Ci J]at ai;refine aw ?_;refine Fw (ng:=ng) (nc:=nc) (nw:=i+1) (k:=8) ?_ (l.out.wait (A:=1::(b+28)::k::ρ) ?_ AA ?_ (Ed AA) fun x p L h2=>?_) h.out.be fun B R O v1 v2 v3 v4 rows g b C=>Q.out ⟨B,R,O,v1,v2,v3,v4,rows,g,b⟩ ⟨C⟩
      .exact zAs
      .rw[V.out];exact zBy
      .simp only[go_sem,H,I,T,AM];rw[N.out,a7.out];rfl
      .exact zAR
    .obtain⟨a3,ar⟩: ∃G,G=s.waits.take i:=⟨_,rfl⟩;rw[<-ar]at U v P N a4;rw[As,P]at a4;have b5: ¬i=0:=fun e=>v zFS;have cx:List.take i (a3.map Ae)=a3.map Ae:=Bi zFg;replace ar:=AB ar;have nI:=fun t j o=>(Av (u.out id (BQ.2 BH)) t j o).1;have cp:=fun t j o=>(Av (u.out id (BQ.2 BH)) t j o).2;have be:=fun a c d=>(BW (u.out id (BQ.2 BH)) [a,c,d] AG).2;have bi:=fun a c d=>(BW (u.out id (BQ.2 BH)) [a,c,d] AG).1;simp only[Cs,CE]at be bi;have IO:Id.is id O=false:=AF fun e=>by rw[e,y.out.out]at U;cases U
     have c1:Id.is O id=false:=AF fun e=>by rw[<-e,y.out.out]at U;cases U
     replace v:=AB v;have b6:i+1<=BF:=by have:=h.out.waits;unfold BF;omega
     by_cases J:X.env.length=0
     .simp only[Jn,D4 J]at ai;have K:=BI J;replace K:=AB K;refine aw ?_;refine Fw (ng:=ng) (nc:=nc) (nw:=i+1) (k:=8) ?_ (l.out.wait (A:=1::(b+28)::k::ρ) ?_ AA ?_ (Ed AA) fun x p L h2=>?_) h.out.be fun B R O v1 v2 v3 v4 rows g b C=>Q.out ⟨B,R,O,v1,v2,v3,v4,rows,g,b⟩ ⟨C⟩
      .exact zAs
      .exact zBy
      .simp only[go_sem,H,I,T,AM];rw[N.out,BE];simp only[By,BY,Ae,K.out]
      .exact zAK
     .simp only[Jn,Ci J]at ai;refine aw ?_;refine Fw (ng:=ng) (nc:=nc) (nw:=i+1) (k:=8) ?_ (l.out.wait (A:=1::(b+28)::k::ρ) ?_ AA ?_ (Ed AA) fun x p L h2=>?_) h.out.be fun B R O v1 v2 v3 v4 rows g b C=>Q.out ⟨B,R,O,v1,v2,v3,v4,rows,g,b⟩ ⟨C⟩
      .exact zAs
      .exact zBy
      .simp only[go_sem,H,I,T,AM];rw[N.out,BE];rfl
      .exact zAK
   .clear y;rintro i ⟨B,R,O,v1,v2,v3,v4,rows,g,b⟩ av a' l;dsimp only at*;have a1:g.get B=some (.box (sC s)):=l.out.cp.bx;have a4:=l.out.cp.out;have d7:=l.out.cp.res;have d3:=(Bg (Dd l.out.cp.s0)).1;have d4:=(Bg (Dd l.out.cp.s1)).1;have d5:=(Bg (Dd l.out.cp.s2)).1;have d6:=(Gm l.out.cp.chv).1;have dn:Id.is O R=false:=AF fun e=>l.out.cp.ro e.symm;have dr:Id.is R O=false:=AF l.out.cp.ro;have b1:=av.out;subst b1;clear av;refine aw ?_;rw[bo.out,bl.out]at l;exact⟨v1,v2,v3,v4,rows,_,⟨rfl,rfl⟩,l.out.post _⟩
def xF{p:AX}{h:AD}{π:List Nat}{m:Abs.Id}{V:MV}{st:CW}(W:Vr p h m V st)(X:Bx π V m)(j:HF){x:C8}(f3:j.env.length<=10000)(f1:x.args.length<=3)(c7: ∀e∈x.args,e.formed j.env.length=true)(f4:0<=x.n)(f5:x.n<j.env.length)
 (c9:j.env.all (Cm.inB p st.d8.be.length st.d8.ac.length)=true) (a4: ∀(c:Nat) (q:HD),st.d8.be[c]? =some q->YC p st.d8 q) (f2:st.ev.length<=1000000):
 ∃o h',kT (.fn 143) [.ptr m 0,.agg [nI x.op,nI x.n,.d (.bv (x.args.map BT)),.d (.bv (x.kids.map AL))],nI j.at_,.d (.bv (j.env.map AN))] h π true none=.ok (o,h')/\Jx p π m V h (Cx p x j st) o h':=by
 have az:=W.box;have cp:=X m (V.m_mem m);simp only[Ba]at az;have D:=AI cp;have F:=Aj cp;have fr:=Dx cp;have fs:=Jk cp;obtain⟨L,bl⟩: ∃L,L=x.args.map fun e=>e.value j.env:=⟨_,rfl⟩;have b':L.length=x.args.length:=by rw[bl,As]
 obtain⟨R,ej⟩:=get_some (l:=j.env) (i:=x.n.toNat) AA;replace W:=AB W;replace X:=AB X;replace a4:=AB a4;replace c9:=AB c9;replace bl:=AB bl;replace b':=AB b';replace c7:=AB c7;refine BR Tryz.func143 ?_;refine aw ?_;refine Ah x.args (S:=fun i (a:(AV×AD)×Nat)=>⟨[(0,.ptr m 0),(2,nI j.at_),(3,.d (.bv (j.env.map AN))),(5,.ptr (0::0::π) 0),(8,a.1.1),(9,nI i)],a.1.2,a.2+3,[]⟩)
  (Inv:=fun i gu a=>(∀id,Id.under π id=false->a.1.2.get id=h.get id)/\a.1.2.get (0::0::π)=some (.box [nI x.op,nI x.n,.d (.bv (x.args.map BT)),.d (.bv (x.kids.map AL))])/\AH ((i=0/\a.1.1=.d7)\/ ∃n,n<a.2+3/\a.1.1=.f8 (1::n::π) 0 i/\a.1.2.get (1::n::π)=some (.em 2 ((L.take i).map AN)))) (b0:=((_,_),_)) ⟨?_,?_,⟨.inl ⟨rfl,rfl⟩⟩⟩ ?_ ?_
 .intro id b;exact zCp
 .simp only[go_sem]
 .rintro i c2 ⟨⟨e3,g⟩,b⟩ el c8 av ⟨t,de,J⟩ d0;dsimp only at*;have f7:=c7.1 c2 (AS el);have es:AH (L[i]? =some (c2.value j.env)):=⟨by rw[bl.1,D7,el];rfl⟩;have g0:IntKind.i64.wrap ((i:Int)+1)=(i:Int)+1:=wrap_id AA AA;replace t:=AB t;have d2:AH (L.take (i+1)=L.take i++[c2.value j.env]):=⟨by rw[GC,es.1];rfl⟩;rcases J.1 with⟨rfl,rfl⟩|⟨n,bx,rfl,bs⟩
  .clear J;have bv:(0:Int)<x.args.length:=av;refine aw ?_;refine d0.1 ((_,_),_) ⟨fun id b=>?_,?_,⟨.inr ⟨b+17,AG,rfl,?_⟩⟩⟩
   .have f:=AI b;have k:=t.1 id b;simp only[go_sem,f,k,AM]
   .simp only[go_sem,de]
   .rw[d2.1];simp only[go_sem]
  .clear J;have fp:(L.take i).length=i:=by have:=b'.1;rw[F2];omega
   have b4:List.take i (List.map AN (List.take i L))=List.map AN (List.take i L):=Bi Aa;have b5: ¬b+16=n:=AA;have b6: ¬b+9=n:=AA;have b7: ¬n=b+16:=AA;have en: ¬n=b+17:=AA;refine ax ?_;refine d0.1 ((_,_),_) ⟨fun id b=>?_,?_,⟨.inr ⟨b+17,AG,rfl,?_⟩⟩⟩
   .have f:=AI b;have k:=t.1 id b;simp only[go_sem,f,k,AM]
   .simp only[go_sem,de]
   .rw[d2.1];simp only[go_sem,en,BE]
 .rintro i ⟨⟨e3,g⟩,b⟩ c8 av ⟨t,de,J⟩;dsimp only at*;have M:i=L.length:=by rw[c8.1,b'.1]
  clear c8;have c':IL j.env x.n=R:=by rw[IL,ej];rfl
  have f6:List.take L.length L=L:=D2;have f0:L.length<=3:=by have:=b'.1;omega
  have K:=(t m cp).trans az;replace t:=AB t;by_cases em:R.kind=2
  .have O:AH (Cx p x j st=some {st with ev:=st.ev++[⟨5,j.at_,R.n,0,L⟩]}):=⟨by
    simp only[Cx,c',em,F6,bl.1];rfl⟩
   have go:=AH.mk (Dc (st':={st with ev:=st.ev++[⟨5,j.at_,R.n,0,L⟩]}) 3 AA W.1 X.1 (kU rfl) rfl)
   rcases W.1.sl 3 AA with⟨P,N⟩|⟨E,cs,P,b8⟩
   .rw[P]at K;replace P:=AB P;replace N:=AH.mk (D5.1 N);rcases J.1 with⟨rfl,rfl⟩|⟨n,bx,rfl,bs⟩
    .clear J;have bv: ¬(0:Int)<x.args.length:=av;have ac:=BI M.symm;subst ac;clear M;exact zAb
    .clear J;subst M;have b4: ¬b+29=n:=AA;have b5: ¬b+28=n:=AA;have b6: ¬n=b+28:=AA;have b7: ¬n=b+29:=AA;exact zAb
   .simp only[Dt,Ax,As]at P b8;rw[P]at K;have dn:=X.1 E (V.s_mem m (i:=3) AA (by rw[P];simp[AE]));replace b8:=(t.1 E dn).trans b8;have a0:=AI dn;have a1:=Aj dn;have ag:Id.is E m=false:=Fi b8 K;have a3:Id.is m E=false:=Fi K b8;replace P:=AB P;rcases cs with _|⟨c2,cs⟩
    .rcases J.1 with⟨rfl,rfl⟩|⟨n,bx,rfl,bs⟩
     .clear J;have bv: ¬(0:Int)<x.args.length:=av;have ac:=BI M.symm;subst ac;clear M;exact zAX
     .clear J;subst M;have b4: ¬b+29=n:=AA;have b5: ¬b+28=n:=AA;have b6: ¬n=b+28:=AA;have b7: ¬n=b+29:=AA;exact zAX
    .rcases J.1 with⟨rfl,rfl⟩|⟨n,bx,rfl,bs⟩
     .clear J;have bv: ¬(0:Int)<x.args.length:=av;have ac:=BI M.symm;subst ac;clear M;exact zAc
     .clear J;subst M;have b4: ¬b+29=n:=AA;have b5: ¬b+28=n:=AA;have b6: ¬n=b+28:=AA;have b7: ¬n=b+29:=AA;exact zAc
  have Z:AH (∀H:AD,(∀id,Id.under π id=false->H.get id=g.get id)->Jx p π m V h (some st) (.ret (.ii [])) H):=⟨fun H d1=>⟨rfl,V,Ek W.1 X.1 fun id b=>(d1 id b).trans (t.1 id b),cB fun id b=>(d1 id b).trans (t.1 id b)⟩⟩;by_cases df:R.kind=3
  .have d6:=D3.1 c9.1 R (AS ej);simp only[Cm.inB,df,Int.reduceEq,F6,FN,AP,Ap]at d6;obtain⟨gw,gz⟩:=d6;obtain⟨q,cx⟩:=get_some (l:=st.d8.be) (i:=R.n.toNat) AA;obtain⟨v,cn,e1⟩:=W.1.be.row _ _ cx;have d9:=AB cn;have bo:=a4.1 _ _ cx;obtain⟨e8,e'⟩:=bo.at_;obtain⟨fv,d,ch,d5,fd,d4,d3⟩:=bo.ex;have fi:=bo.g0;have fk:=bo.i0;have fl:=bo.len;obtain⟨sp,eb⟩:=get_some (l:=st.d8.ac) (i:=q.at_.toNat) AA;obtain⟨S,g3,U,c4,g2,f',ga⟩:=FV (W.1.sl 0 AA) eb;obtain⟨G,cs,T,c3,g1,f8,f9⟩:=FV (W.1.sl 1 AA) d5;have I:=W.1.arr;rcases I with⟨_,I⟩|⟨A,I,bi⟩
   .rw[I]at cn;simp at cn
   have e2:=AK cn;have gv: ∀r:List AV,(V.rows.set R.n.toNat r)[R.n.toNat]? =some r:=fun r=>List.getElem?_set_self e2;have dm:=X.1 A (V.v3_mem m zEn);have ds:=X.1 S (V.s_mem m (i:=0) AA (by rw[U];simp[AE]));have dq:=X.1 G (V.s_mem m (i:=1) AA (by rw[T];simp[AE]));rw[I,U,T]at K;replace bi:=(t.1 A dm).trans bi;replace c4:=(t.1 S ds).trans c4;replace c3:=(t.1 G dq).trans c3;have ai:=AI dm;have ar:=Aj dm;have e4:=AI ds;have e5:=Aj ds;have e6:=AI dq;have e7:=Aj dq;have gg: ¬b=b+17:=AA;have gi: ¬b+17=b:=AA;have gm: ¬b=b+11:=AA;have gn: ¬b+11=b:=AA;have gr: ¬b=b+28:=AA;have gs: ¬b+28=b:=AA;have gf:=AK d4;have gb:=AK d3;have ea:Ak st.d8.ac q.at_=sp.dead:=by simp[Ak,eb]
   have d7:ET p st.d8 q=ch.many:=by simp[ET,d5,d4,d3]
   have O:AH (Cx p x j st=(Mr p st.d8 R.n L).map fun s=>{st with d8:=s}):=⟨by
    simp only[Cx,c',df,F6,bl.1];rfl⟩
   have cl:AH (Mr p st.d8 R.n L=if sp.dead=false/\ch.many=L.length then Se st.d8 R.n q L else some st.d8):=⟨by
    rw[Mr,cx];simp only[ea,d7]⟩
   clear ea d7 bo;replace az:=AB az;replace U:=AB U;replace T:=AB T;replace I:=AB I;simp only[A6]at cn;simp only[Dt]at c4 c3;have go:=AH.mk (N1 W.1 X.1 I.1 cx d9.1 (q.queue++[L]));have c0:AH (sp.dead=true->Cx p x j st=some st):=⟨fun h=>by rw[O.1,cl.1,Ci zE5];rfl⟩;have c1:AH (¬ch.many=L.length->Cx p x j st=some st):=⟨fun h=>by rw[O.1,cl.1,Ci (fun ex=>h ex.2)];rfl⟩;have b2:AH (sp.dead=false->ch.many=L.length->q.queue.length<12->Cx p x j st=some {st with d8:={st.d8 with be:=st.d8.be.set R.n.toNat {q with queue:=q.queue++[L]}}}):=⟨fun c5 h2 c6=>by rw[O.1,cl.1,D4 ⟨c5,h2⟩,Se,D4 c6];rfl⟩
   have d':AH (sp.dead=false->ch.many=L.length-> ¬q.queue.length<12->Cx p x j st=none):=⟨fun c5 h2 c6=>by rw[O.1,cl.1,D4 ⟨c5,h2⟩,Se,Ci c6];rfl⟩;clear O cl;have ad:Id.is A m=false:=Fi bi K;have a2:Id.is m A=false:=Fi K bi;rcases Xz e1 with⟨ek,N⟩|⟨Q,zs,rfl,bk⟩
   .replace N:=AH.mk (D5.1 N);rcases J.1 with⟨rfl,rfl⟩|⟨n,bx,rfl,bs⟩;all_goals clear J
    .have bv: ¬(0:Int)<x.args.length:=av;have ac:=BI M.symm;subst ac;clear M;exact zAF
    .subst M;have b4: ¬b+84=n:=AA;have b5: ¬n=b+84:=AA;have b6: ¬b+85=n:=AA;have b7: ¬n=b+85:=AA;exact zAF
   .have cc:=V.row_mem m (CS.2 ⟨_,AS d9.1,(by simp[Bs,AE]:Q∈A9 (A6 q (.f8 Q 0 (q.queue.map BJ).length)))⟩);have dr:=X.1 Q cc;replace cc:=AB cc;replace bk:=(t.1 Q dr).trans bk;have a':=AI dr;have bc:=Aj dr;have a6:Id.is Q A=false:=Fi bk bi;have a5:Id.is A Q=false:=Fi bi bk;have a7:Id.is Q m=false:=Fi bk K;have b3:Id.is m Q=false:=Fi K bk;rcases J.1 with⟨rfl,rfl⟩|⟨n,bx,rfl,bs⟩;all_goals clear J
    .have bv: ¬(0:Int)<x.args.length:=av;have ac:=BI M.symm;subst ac;clear M;exact zAC
    .subst M;have b4: ¬b+84=n:=AA;have b5: ¬n=b+84:=AA;have b6: ¬b+85=n:=AA;have b7: ¬n=b+85:=AA;exact zAC
  .have O:AH (Cx p x j st=some st):=⟨by simp only[Cx,c',em,df,FN]⟩;rcases J.1 with⟨rfl,rfl⟩|⟨n,bx,rfl,bs⟩;all_goals clear J
   .have bv: ¬(0:Int)<x.args.length:=av;clear M;exact zEO
   .subst M;exact zEO
def WU(p:AX)(sz:List Int)(k:Nat):Prop:= ∀(h:AD) (π:List Nat) (m:Abs.Id) (V:MV) (st:CW) (j:HF),Vr p h m V st->Bx π V m->Fo p sz st.d8->CT p sz st.d8 j->0<=st.work->st.work<=400->401<=st.work+k->(st.ev.length:Int)<=900000+st.work->
 ∃o h',kT (.fn 87) [.ptr m 0,nI j.node,nI j.at_,.d (.bv (j.env.map AN))] h π true none=.ok (o,h')/\Jx p π m V h (Eu p k j st) o h'
def xQ(p:AX)(h:AD)(π:List Nat)(m:Abs.Id)(V:MV)(w a b:Int)(l:List Cm)(f:h.get m=some (.box (Ba p true V w)))(c:Id.under π m=false):
 ∃o h',kT (.fn 87) [.ptr m 0,nI a,nI b,.d (.bv (l.map AN))] h π true none=.ok (o,h')/\o=.ret (.ii [])/\(∃w',h'.get m=some (.box (Ba p true V w')))/\ ∀id,Id.is m id=false->Id.under π id=false->h'.get id=h.get id:=by
 simp only[Ba]at f;have i:=AI c;have j:=Aj c;refine BR Tryz.func87 ?_;refine aw ?_;refine⟨⟨IntKind.i64.wrap (w+1),rfl⟩,fun id b1 e=>?_⟩;have g:=AI e;simp only[go_sem,g,b1,AM]
def TF(p:AX)(π:List Nat)(m:Abs.Id)(V:MV)(h:AD)(b:Nat)(E:List Abs.Id)(g:AD):Option CW->Prop
 |some st=> ∃V',Bu (Ba p false) false π m V h b V' st g/\ ∀i∈E,i∉V'.ids m
 |none=>(∃V' w,g.get m=some (.box (Ba p true V' w)))/\(∀id,id∉V.ids m->Id.under π id=false->g.get id=h.get id)/\ ∀i∈E,Id.is m i=false
variable{h:AD}{r:Option CW}
def dY{E:List Abs.Id}(e:TF p π m V h b E g r): ∃f a w,g.get m=some (.box (Ba p f a w)):=by
 cases r with
 |some st=>obtain⟨a,c,_⟩:=e;exact⟨false,a,st.work,c.rep.box⟩
 |none=>obtain⟨⟨a,w,c⟩,_⟩:=e;exact⟨true,a,w,c⟩
variable{b':Nat}
def ZK{E:List Abs.Id}(a:TF p π m V h b E g r)(f:b<=b'):TF p π m V h b' E g r:=by
 cases r with
 |some st=>obtain⟨c,e,h2⟩:=a;exact⟨c,e.up f,h2⟩
 |none=>exact a
def Gz{E:List Abs.Id}(c:TF p π m V h b E g r):Jx p π m V h r (.ret (.ii [])) g:=by
 cases r with
 |some st=>
  obtain⟨e,a,_⟩:=c;exact⟨rfl,e,a.rep,fun id f=>(a.ids id f).imp_right fun⟨n,_,h2,h3⟩=>⟨BM h2,h3⟩,a.frame⟩
 |none=>exact⟨rfl,c.1,c.2.1⟩
structure jt(p:AX)(π:List Nat)(m:Abs.Id)(V:MV)(h:AD)(b n:Nat)(E:List Abs.Id)(g g':AD)(r:Option CW):Prop where
 run:TF p π m V h (n+1) E g' r
 box: ∀k,k<b->g'.get (0::k::π)=g.get (0::k::π)
 pm: ∀i∈E,g'.get i=g.get i
def J2(R:WU p sz k){E:List Abs.Id}(v:Bx π V m)(Q:TF p π m V h b E g r)(j:HF)(t: ∀st,r=some st->Ky p sz k st/\CT p sz st.d8 j)(H:AD)(n:Nat)(K:b<=n)(s: ∀id,(∀a n,b<=n->Id.is (a::n::π) id=false)->H.get id=g.get id)(l: ∀i∈E,(∀a k,b<=k->Id.is (a::k::π) i=false)/\Id.under (n::π) i=false):
 ∃o g1,kT (.fn 87) [.ptr m 0,nI j.node,nI j.at_,.d (.bv (j.env.map AN))] H (n::π) true none=.ok (o,g1)/\o=.ret (.ii [])/\jt p π m V h b n E g (gc (n::π) g1) (r.bind (Eu p k j)):=by
 have M:=v m (V.m_mem m);have N:=AJ M n;have I: ∀k,k<b->H.get (0::k::π)=g.get (0::k::π):=fun k u=>s _ fun a n K=>AF fun e=>by simp at e;omega
 have U:H.get m=g.get m:=s _ fun a n _=>AI M a n;cases r with
 |none=>
  obtain⟨⟨x,w,D⟩,h2,q⟩:=Q;obtain⟨o,g1,W,X,⟨w',Y⟩,L⟩:=xQ p H (n::π) m x w j.node j.at_ j.env (U.trans D) N;refine⟨o,g1,W,X,⟨⟨x,w',(An _ _ _ N).trans Y⟩,fun id a c=>?_,q⟩,fun k u=>?_,fun i f=>?_⟩
  .rw[An _ _ _ (AJ c n),L id (AF fun e=>a zEv) (AJ c n),s id fun a n _=>AI c a n];exact h2 id a c
  .rw[An _ _ _ (Au π AA),L _ (Aj M 0 k) (Au π AA)];exact I k u
  .rw[An _ _ _ (l i f).2,L i (q i f) (l i f).2];exact s i (l i f).1
 |some st=>
  obtain⟨x,F,B⟩:=Q;obtain⟨t,T⟩:=t st rfl;have z:=F.loc v s;obtain⟨o,g1,D,h2⟩:=R H (n::π) m x st j z.rep (z.apart v K) t.qr T t.w0 t.w1 t.w2 t.ev;refine⟨o,g1,D,?_⟩;rw[I2];cases O:Eu p k j st with
  |some Z=>
   rw[O]at h2;obtain⟨q,A⟩:=h2;obtain⟨C,y,S⟩:=z.callL v K A;have P:=Nq A;refine⟨q,⟨C,y,fun i f=>S i (B i f) (l i f).2⟩,fun k u=>?_,fun i f=>?_⟩
   .rw[An _ _ _ (Au π AA),P _ (Dv z v k) (Au π AA)];exact I k u
   .rw[An _ _ _ (l i f).2,P i (B i f) (l i f).2];exact s i (l i f).1
  |none=>
   rw[O]at h2;obtain⟨q,⟨C,w,A⟩,y⟩:=h2;refine⟨q,⟨⟨C,w,(An _ _ _ N).trans A⟩,fun id a c=>?_,fun i f=>AF fun e=>B i f (by rw[<-e];exact x.m_mem m)⟩,fun k u=>?_,fun i f=>?_⟩
   .rw[An _ _ _ (AJ c n),y id (fun J=>?_) (AJ c n),s id fun a n _=>AI c a n]
    .exact F.frame id a c
    .rcases F.ids id J with J|⟨k,_,q,_⟩
     .exact a J
     .rw[BM q]at c;cases c
   .rw[An _ _ _ (Au π AA),y _ (Dv z v k) (Au π AA)];exact I k u
   .rw[An _ _ _ (l i f).2,y i (B i f) (l i f).2];exact s i (l i f).1
variable{j:HF}{x:C8}{d:CJ}
def R9{G:BA}(f:BP p sz)(a:Fm p sz st.d8 j x d)(b:G=A7 st.d8 d x.n j)(n:Int)(h:0<=n)(i:n<=d.ac.length):
 BX kT 118 [.agg (pC p),.agg [nI x.n,nI j.at_,.d (.bv (G.env.map AN))],nI n] []=.ok (.ret (nI (G.place d n)),[]):=by
 have e:d.own<=G.env.length/\G.env.length<=10000:=by
  rw[b,a.env];have:=a.ok.be;have:=a.ok.ac;obtain⟨_,_,_,_,_,_,k⟩:=Jg f a.job;unfold CJ.own;omega
 have c:G.f9=x.n:=zFp
 have g:G.at_=j.at_:=zFp
 have:=Ou p G d n (by rw[c];exact a.n0) (by rw[c];exact a.f9) a.ok.be a.ok.ac e.1 e.2 h i
 rwa [c,g]at this
def Yt{z:AV}{L:List Cm}(h:NF z π g b v L)(f:b<=b'):NF z π g b' v L:=by
 exact zCv
def aR{p:AX}{sz:List Int}{k:Nat}(az:BP p sz)(ad:WU p sz k){h:AD}{π:List Nat}{m:Abs.Id}{V:MV}{st:CW}(F:Bx π V m){j:HF}{x:C8}{d:CJ}(O:Fm p sz st.d8 j x d){G:BA}(a0:G=A7 st.d8 d x.n j){R:Option CW}
 {e:CA} {g:AD} {b:Nat} {ev:AV} {r0:Option CW} (bo:e.get 0=.ptr m 0) (bs:e.get 2=nI j.at_) (bv:e.get 5=.ptr (0::0::π) 0) (bx:e.get 8=.ptr (0::10::π) 0) (b1:e.get 9=.ptr (0::18::π) 0) (bc:52<=b) (X:TF p π m V h b (AE ev) g r0)
 (Q: ∀st',r0=some st'->Ky p sz k st'/\ ∀I∈CK d G 0 d.ac++BN x 0 j.at_ G.env,CT p sz st'.d8 I) (t:R=r0.bind (CH (Eu p k) (CK d G 0 d.ac++BN x 0 j.at_ G.env)))
 (C:g.get (0::0::π)=some (.box [nI x.op,nI x.n,.d (.bv (x.args.map BT)),.d (.bv (x.kids.map AL))])) (J:g.get (0::10::π)=some (.box [.d (.bv (d.be.map BD)),.d (.bv (d.ac.map Ay)),.d (.bv (d.rules.map BC))])) (A:g.get (0::18::π)=some (.box [nI x.n,nI j.at_,ev])) (q:NF .emp π g b ev G.env):
 Wp cfg kT ⟨144,π,true,none,false,221⟩ 0 (Vj 9 (Tryz.f144.body.get rfl)) ⟨e,g,b,[]⟩ (K1 cfg none [] π true (Jx p π m V h R)):=by
 have bk:=F m (V.m_mem m);have c1:=AI bk;have c2:=Aj bk;have cx:=O.ok.be;have c0:=O.ok.ac;have b7:=AH.mk (R9 az O a0);replace a0:=AB a0;replace F:=AB F;replace O:=AB O;replace X:=AB X;replace Q:=AB Q;replace t:=AB t;obtain⟨N,b3⟩: ∃N,b=N+52:=⟨b-52,AA⟩;subst b3;simp only[Tryz.f144,I3,Vj];refine ax ?_;clear bo bs bv bx b1;refine Ah d.ac (S:=fun i (a:AD×Nat)=>⟨[(0,.ptr m 0),(2,nI j.at_),(5,.ptr (0::0::π) 0),(8,.ptr (0::10::π) 0),(9,.ptr (0::18::π) 0),(14,nI i)],a.1,a.2+53,[]⟩)
  (Inv:=fun i bi a=>AH (∃r,TF p π m V h (a.2+53) (AE ev) a.1 r/\(∀st',r=some st'->Ky p sz k st'/\ ∀I∈CK d G i bi++BN x 0 j.at_ G.env,CT p sz st'.d8 I)/\R=r.bind (CH (Eu p k) (CK d G i bi++BN x 0 j.at_ G.env)))/\a.1.get (0::0::π)=some (.box [nI x.op,nI x.n,.d (.bv (x.args.map BT)),.d (.bv (x.kids.map AL))])/\a.1.get (0::10::π)=some (.box [.d (.bv (d.be.map BD)),.d (.bv (d.ac.map Ay)),.d (.bv (d.rules.map BC))])/\a.1.get (0::18::π)=some (.box [nI x.n,nI j.at_,ev])/\AH (NF .emp π a.1 (a.2+53) ev G.env)) (b0:=(_,N)) ⟨⟨r0,ZK X.1 AA,Q.1,t.1⟩,C,J,A,⟨Yt q AA⟩⟩ ?_ ?_
 .clear X Q t C J A q bc g N;rintro i a7 ⟨g,c⟩ c3 o b4 ⟨B,C,J,A,q⟩ a';dsimp only at*;obtain⟨r,B,u,t⟩:=B.1;obtain⟨cc,bl,w,P⟩:=dY B;simp only[Ba]at P;have c4:IntKind.i64.wrap ((i:Int)+1)=(i:Int)+1:=wrap_id AA AA;have b6:=b7.1 ((i:Int)+1) AA AA;have y:=fun i (o:i∈AE ev)=>(⟨fun a k z=>Uc q.1 a k z rfl i o,Hi q.1 (n:=c+53) AA rfl i o⟩:(∀a k,c+53<=k->Id.is (a::k::π) i=false)/\Id.under ((c+53)::π) i=false);have W:AH (∀st',r=some st'->Ky p sz k st'/\CT p sz st'.d8 ⟨a7.node,G.place d ((i:Int)+1),G.env⟩):=⟨fun st' h=>⟨(u st' h).1,(u st' h).2 _ zFl⟩⟩;replace B:=AB B;replace u:=AB u;replace t:=AB t;replace y:=AB y;rcases q.1 with⟨ai,v⟩|⟨H,v,a2,ch,b5,b8,a5⟩
  .rw[v]at A;rw[show G.env.map AN=[] by rw[ai];rfl]at b6;refine ax ?_;rw[show(Al.bv [])=.bv (G.env.map AN) by rw[ai];rfl];exact zAJ
  .rw[v]at A;have L:=y.1 H (by rw[v];simp[AE]);have cl:=L.1;replace L:=AB L.2;have cn:Id.is m H=false:=Fi P a2;have cp: ∀l,Id.is (0::l) H=false:=fun l=>by obtain⟨b',rfl⟩:=a5;exact AF AG
   refine ax ?_;exact zAJ
 .clear X Q t C J A q bc g N;rintro i ⟨g,c⟩ o b4 ⟨B,C,J,A,q⟩;dsimp only at*;obtain⟨r,T,u,t⟩:=B.1;clear B;obtain⟨cc,bl,w,P⟩:=dY T;simp only[Ba]at P;have b2:=o.1;subst b2;clear o;obtain⟨Y,be,_⟩:=O.1.kid;have a4:CK d G d.ac.length []++BN x 0 j.at_ G.env=[⟨Y,j.at_,G.env⟩]:=by rw[BN,be];rfl
  rw[a4]at u t;have ag:R=r.bind (Eu p k ⟨Y,j.at_,G.env⟩):=by
   rw[t];cases r with
   |none=>rfl
   |some s=>exact Ni _ _ _
  rw[be]at C;have W:AH (∀st',r=some st'->Ky p sz k st'/\CT p sz st'.d8 ⟨Y,j.at_,G.env⟩):=⟨fun st' h=>⟨(u st' h).1,(u st' h).2 _ AG⟩⟩;have y:=fun i (o:i∈AE ev)=>(⟨fun a k z=>Uc q.1 a k z rfl i o,Hi q.1 (n:=c+53) AA rfl i o⟩:(∀a k,c+53<=k->Id.is (a::k::π) i=false)/\Id.under ((c+53)::π) i=false);replace y:=AB y;replace T:=AB T;replace u:=AB u;replace t:=AB t;replace ag:=AB ag;replace a4:=AB a4;rcases q.1 with⟨ai,v⟩|⟨H,v,a2,ch,b5,b8,a5⟩
  .rw[v]at A;refine ax ?_;rw[show(Al.bv [])=.bv (G.env.map AN) by rw[ai];rfl];exact zAp
  .rw[v]at A;have L:=y.1 H (by rw[v];simp[AE]);have cl:=L.1;replace L:=AB L.2;have cn:Id.is m H=false:=Fi P a2;have cp: ∀l,Id.is (0::l) H=false:=fun l=>by obtain⟨b',rfl⟩:=a5;exact AF AG
   refine ax ?_;exact zAp
def fH(S:BP p sz)(a1:WU p sz k)(A:Bx π V m)(o:Ky p sz k st)(l:Fm p sz st.d8 j x d){G:BA}(u:G=A7 st.d8 d x.n j)
    {ev:AV} {q:MV} (C:e.get 0=.ptr m 0) (D:e.get 2=nI j.at_) (F:e.get 5=.ptr (0::0::π) 0) (I:e.get 8=.ptr (0::10::π) 0) (J:e.get 9=.ptr (0::18::π) 0) (b4:52<=b) (f:Bu (Ba p false) false π m V h b q {st with d8:=B6 st.d8 d G} g) (v: ∀i∈AE ev,i∉q.ids m)
 (a':g.get (0::0::π)=some (.box [nI x.op,nI x.n,.d (.bv (x.args.map BT)),.d (.bv (x.kids.map AL))])) (bc:g.get (0::10::π)=some (.box [.d (.bv (d.be.map BD)),.d (.bv (d.ac.map Ay)),.d (.bv (d.rules.map BC))])) (be:g.get (0::18::π)=some (.box [nI x.n,nI j.at_,ev])) (a6:NF .emp π g b ev G.env):
 Wp cfg kT ⟨144,π,true,none,false,221⟩ 0 (Vj 8 (Tryz.f144.body.get rfl)) ⟨e,g,b,[]⟩ (K1 cfg none [] π true (Jx p π m V h (Ic (Eu p k) (Fb p x j st)))):=by
 have az:=A m (V.m_mem m);have b3:=AI az;have a3:=Aj az;have B:=l.node;have a5:=l.f9;have b0:=l.ok.be;have b2:=l.ok.ac;obtain⟨t,ac⟩: ∃n,n=st.d8.be.length:=⟨_,rfl⟩;obtain⟨s,Z⟩: ∃n,n=st.d8.ac.length:=⟨_,rfl⟩;obtain⟨ng,ad⟩: ∃n,n=st.d8.ce.length:=⟨_,rfl⟩;have O:(B6 st.d8 d G).be.length=t+d.be.length:=by simp[B6,GA,ac]
 have P:(B6 st.d8 d G).ac.length=s+d.ac.length:=by simp[B6,E8,Z]
 have Q:(B6 st.d8 d G).ce.length=ng+1:=by simp[B6,ad]
 have K:Fb p x j st=if t+d.be.length<=60/\s+d.ac.length<=24/\ng+1<=40 then some ({st with d8:=B6 st.d8 d G},CK d G 0 d.ac++BN x 0 j.at_ G.env)else none:=by
  simp only[Fb,a5,<-u,O,P,Q]
 have av:=o.qr.small;simp only[BU.small,AP,Ap]at av;obtain⟨b6,b7,b8,b'⟩:=av;have a4:=f.rep.box;simp only[Ba]at a4;have z:=KC f.rep.arr;rw[f.rep.be.len,O]at z;have w:=E6 (f.rep.sl 0 AA);simp only[Ax,As,P]at w;have y:=E6 (f.rep.sl 1 AA);simp only[Ax,As,Q]at y;clear O P Q;have b5:=AH.mk (R9 S l u);replace K:=AB K;replace u:=AB u;replace A:=AB A;replace l:=AB l;replace o:=AB o;replace f:=AB f;replace v:=AB v;replace ac:=AB ac;replace Z:=AB Z;replace ad:=AB ad;refine SU 1 fun a2 T=>?_;have L:AH (∀(e:CA) (H:AD) (r:Bool),r=decide (¬(t+d.be.length<=60/\s+d.ac.length<=24/\ng+1<=40))->e.get 0=.ptr m 0->e.get 2=(nI j.at_)->e.get 5=.ptr (0::0::π) 0->e.get 8=.ptr (0::10::π) 0->e.get 9=.ptr (0::18::π) 0->H.get m=some (.box (Ba p r q st.work))->(∀id,Id.is m id=false->H.get id=g.get id)->Wp cfg kT ⟨144,π,true,none,false,221⟩ 0 a2 ⟨e,H,b+35,[]⟩ (K1 cfg none [] π true (Jx p π m V h (Ic (Eu p k) (Fb p x j st))))):=⟨fun e H r R bi bk bl bo x9 a0 N=>by
  rw[T];have U:=fun k=>N (0::k::π) (a3 0 k);refine aR S a1 A.1 (r0:=if r=true then none else some {st with d8:=B6 st.d8 d G}) (ev:=ev) l.1 u.1 bi bk bl bo x9 AA ?_ ?_ ?_ ((U 0).trans a') ((U 10).trans bc) ((U 18).trans be) (Yt (L3 a6 fun i X=>N i (AF fun e=>v.1 i X (by rw[<-e];exact q.m_mem m))) AA)
  .cases r with
   |true=>
    rw[D4 rfl];exact⟨⟨q,st.work,a0⟩,fun id a c=>(N id (AF fun e=>a zEv)).trans (f.1.frame id a c),fun i X=>AF fun e=>v.1 i X (by rw[<-e];exact q.m_mem m)⟩
   |false=>
    rw[Ci AG];refine⟨q,(f.1.loc (H:=H) A.1 fun id _=>?_).up AA,v.1⟩;by_cases ai:id=m
    .rw[ai,a0];exact f.1.rep.box.symm
    .exact N id (AF fun e=>ai e.symm)
  .intro st' M;cases r with
   |true=>rw[D4 rfl]at M;cases M
   |false=>
    rw[Ci AG]at M;cases M;have a7:t+d.be.length<=60/\s+d.ac.length<=24/\ng+1<=40:=Decidable.of_not_not (of_decide_eq_false R.symm);have ar:=UQ (st':={st with d8:=B6 st.d8 d G}) S o.1.qr l.1.job B l.1.op (by rw[K.1,D4 a7])
    exact⟨⟨ar.qr,o.1.w0,o.1.w1,o.1.w2,o.1.ev⟩,ar.jobs⟩
  .rw[K.1];cases r with
   |true=>rw[Ci (of_decide_eq_true R.symm)];rfl
   |false=>rw[D4 (Decidable.of_not_not (of_decide_eq_false R.symm))];rfl⟩
 replace T:=AB T;have ag: ¬(t+d.be.length<=60/\s+d.ac.length<=24/\ng+1<=40)\/(t+d.be.length<=60/\s+d.ac.length<=24/\ng+1<=40):=AA;replace ag:=AB ag;by_cases bx:(60:Int)<(t+d.be.length:Nat)
 .exact zAL
 by_cases bs:(24:Int)<(s+d.ac.length:Nat)
 .exact zAL
 by_cases bv:(40:Int)<(ng+1:Nat)
 .exact zAL
 .simp only[Tryz.f144,I3,Vj,Ri]
  (repeat' (first|simp only[go_sem, *,↓z,↓w,↓y,AM]|(refine sx ?_ ?_<;>intro W)|refine sy AA fun x B Y=>?_|simp(disch:=first|assumption|omega) only[AR]))
  refine L.1 _ _ false ?_ C D F I J ?_ fun id b1=>?_
  .exact(DL AA).symm
  .simp only[go_sem,Ba]
  .exact zDa
def fI{p:AX}{sz:List Int}{k:Nat}(e7:BP p sz)(fs:WU p sz k){h:AD}{π:List Nat}{m:Abs.Id}{V:MV}{st:CW}(eb:Vr p h m V st)(a3:Bx π V m)(cn:Ky p sz k st){j:HF}{x:C8}{d:CJ}(b6:Fm p sz st.d8 j x d){G:BA}(cl:G=A7 st.d8 d x.n j)
 {e:CA} {g:AD} {b:Nat} {ev:AV} (f2:e.get 0=.ptr m 0) (f3:e.get 2=nI j.at_) (f4:e.get 5=.ptr (0::0::π) 0) (f5:e.get 8=.ptr (0::10::π) 0) (f6:e.get 9=.ptr (0::18::π) 0) (fi:32<=b) (df: ∀id,Id.under π id=false->g.get id=h.get id)
 (ad:g.get (0::0::π)=some (.box [nI x.op,nI x.n,.d (.bv (x.args.map BT)),.d (.bv (x.kids.map AL))])) (ag:g.get (0::10::π)=some (.box [.d (.bv (d.be.map BD)),.d (.bv (d.ac.map Ay)),.d (.bv (d.rules.map BC))])) (W:g.get (0::18::π)=some (.box [nI x.n,nI j.at_,ev])) (b8:Mz .emp π g b ev G.env):
 Wp cfg kT ⟨144,π,true,none,false,221⟩ 0 (Vj 5 (Tryz.f144.body.get rfl)) ⟨e,g,b,[]⟩ (K1 cfg none [] π true (Jx p π m V h (Ic (Eu p k) (Fb p x j st)))):=by
 have fp:=a3 m (V.m_mem m);have gw:=AI fp;have w:=Aj fp;have gu:=b6.ok.be;have gv:=b6.ok.ac;have O:G.f9=x.n:=by rw[cl];rfl
 have M:G.at_=j.at_:=by rw[cl];rfl
 have fk:=cn.qr.small;simp only[BU.small,AP,Ap]at fk;obtain⟨g4,g5,g7,g8⟩:=fk;obtain⟨ng,d2⟩: ∃n,n=st.d8.ce.length:=⟨_,rfl⟩;obtain⟨g3,ex⟩: ∃n,n=st.d8.be.length:=⟨_,rfl⟩;obtain⟨ga,d1⟩: ∃n,n=st.d8.ac.length:=⟨_,rfl⟩;have g6:ng<=40:=AA;obtain⟨b5,c2⟩: ∃l,l=GK d G ng 0 d.be:=⟨_,rfl⟩;have ej: ∀(t:Nat) c,d.be[t]? =some c->b5[t]? =some ⟨ng,t,G.place d c.at_,[]⟩:=fun t c a5=>by rw[c2,Jj,a5];simp
 have fl:=AH.mk (R9 e7 b6 cl);have y:AH (Bu (Ba p false) false π m V h b V st g):=⟨(JC eb a3 df).up AA⟩;refine SU 3 fun fv es=>?_;have cs:AH (∀(e:CA) (H:AD) (c:Nat),e.get 0=.ptr m 0->e.get 2=(nI j.at_)->e.get 5=.ptr (0::0::π) 0->e.get 8=.ptr (0::10::π) 0->e.get 9=.ptr (0::18::π) 0->(∃a1,Bu (Ba p false) false π m V h (c+52) a1 {st with d8:=B6 st.d8 d G} H/\ ∀i∈AE ev,i∉a1.ids m)->H.get (0::0::π)=some (.box [nI x.op,nI x.n,.d (.bv (x.args.map BT)),.d (.bv (x.kids.map AL))])->H.get (0::10::π)=some (.box [.d (.bv (d.be.map BD)),.d (.bv (d.ac.map Ay)),.d (.bv (d.rules.map BC))])->H.get (0::18::π)=some (.box [nI x.n,nI j.at_,ev])->NF .emp π H (c+52) ev G.env->Wp cfg kT ⟨144,π,true,none,false,221⟩ 0 fv ⟨e,H,c+52,[]⟩ (K1 cfg none [] π true (Jx p π m V h (Ic (Eu p k) (Fb p x j st))))):=⟨fun e H c fr gg gi gm x9 e1 gn gr gs f9=>by
  obtain⟨a1,e1,f'⟩:=e1;rw[es];exact fH e7 fs a3 cn b6 cl fr gg gi gm x9 AA e1 f' gn gr gs f9⟩
 replace es:=AB es;replace eb:=AB eb;replace a3:=AB a3;replace b6:=AB b6;replace cn:=AB cn;replace cl:=AB cl;replace d2:=AB d2;replace ex:=AB ex;replace d1:=AB d1;replace c2:=AB c2;replace ej:=AB ej;replace df:=AB df;obtain⟨N,f8⟩: ∃N,b=N+32:=⟨b-32,AA⟩;subst f8;simp only[Tryz.f144,I3,Vj,Ri];refine aw ?_;clear f2 f3 f4 f5 f6;refine Ah d.be (S:=fun i (a:AD×Nat)=>⟨[(0,.ptr m 0),(2,nI j.at_),(5,.ptr (0::0::π) 0),(8,.ptr (0::10::π) 0),(9,.ptr (0::18::π) 0),(12,nI i)],a.1,a.2+33,[]⟩)
  (Inv:=fun i gb a=>AH (∃P,Bu (Ba p false) false π m V h (a.2+33) P {st with d8:={st.d8 with be:=st.d8.be++b5.take i}} a.1/\ ∀i∈AE ev,i∉P.ids m)/\a.1.get (0::0::π)=some (.box [nI x.op,nI x.n,.d (.bv (x.args.map BT)),.d (.bv (x.kids.map AL))])/\a.1.get (0::10::π)=some (.box [.d (.bv (d.be.map BD)),.d (.bv (d.ac.map Ay)),.d (.bv (d.rules.map BC))])/\a.1.get (0::18::π)=some (.box [nI x.n,nI j.at_,ev])/\AH (Mz .emp π a.1 (a.2+33) ev G.env)) (b0:=(_,N)) ⟨⟨V,?_,cF b8 a3.1⟩,ad,ag,W,⟨KD b8 AA⟩⟩ ?_ ?_
 .rw[Rt,CI];exact y.1.up AA
 .clear y b8 df ad ag W fi g N;rintro i b2 ⟨g,c⟩ de K ds ⟨y,ad,ag,W,a4⟩ b3;dsimp only at*;obtain⟨P,y,a'⟩:=y.1;have bx:=Iv a4.1 (c+73);have d3:=b6.1.ok.chan b2 (AS de);have gf:IntKind.i64.wrap ((i:Int)+1)=(i:Int)+1:=wrap_id AA AA;have R:=y.rep.box;have e0:=fl.1 b2.at_ d3.1 d3.2.1;simp only[Ba]at R;have c7:=E6 (y.rep.sl 1 AA);simp only[Ax,As,<-d2.1]at c7;have bc:=y.rep.arr;have e6:AH (∀A,P.v3=.f8 A 0 P.rows.length->(∀a n,c+33<=n->Id.is (a::n::π) A=false)/\(∀a n,c+33<=n->Id.is A (a::n::π)=false)/\Id.is A m=false/\Id.is m A=false/\ ∀k,Id.is A (0::k::π)=false):=⟨fun A ea=>by
   have K:=y.ids A (P.v3_mem m (by rw[ea];simp[AE]));have Z:=HY y.rep.arr (id:=A) (by rw[ea];simp[AE]);exact⟨C4 (b':=0) a3.1 K,En a3.1 K,AF fun e=>(by rw[e,R]at Z;cases Z),AF fun e=>(by rw[<-e,R]at Z;cases Z),fun k=>AF fun e=>Dv y a3.1 k (by rw[<-e];exact P.v3_mem m (by rw[ea];simp[AE]))⟩⟩
  have g2:P.rows.length<=1000:=by
   have:=y.rep.be.len;simp only[Be,F2]at this;omega
  have a7:AH (∀H:AD,H.get m=some (.box (Ba p false {P with v3:=.f8 (1::(c+65)::π) 0 (P.rows.length+1)} st.work))->H.get (1::(c+65)::π)=some (.arr 4 (P.rows++[A6 ⟨ng,i,G.place d b2.at_,[]⟩ .d7]))->(∀id,Id.is m id=false->(∀Y∈AE P.v3,Id.is Y id=false)->DX (c+33) (c+73) π id=false->H.get id=g.get id)-> ∃a1,Bu (Ba p false) false π m V h (c+73) a1 {st with d8:={st.d8 with be:=st.d8.be++b5.take (i+1)}} H/\ ∀i∈AE ev,i∉a1.ids m):=⟨fun H c0 f0 c1=>by
   obtain⟨a1,dm,dn⟩:=y.step (b':=c+73) AA (Z8 y.rep (y.apartB a3.1) (q:=⟨ng,i,G.place d b2.at_,[]⟩) rfl (1::(c+65)::π) H c0 f0 ⟨CQ (c+65) [1] AA AA,_,rfl⟩ c1);rw[GC,ej.1 i b2 de,<-DO];exact⟨a1,dm,fun i K=>dn i (a' i K) (bx i K)⟩⟩
  replace bx:=AB bx;replace a':=AB a';replace y:=AB y;replace a4:=a4.1;rcases a4 with⟨Q,rfl⟩|⟨id,rfl,Z,n,c9,av,a2⟩
  .rw[Q,BY]at e0;replace Q:=AB Q;rcases bc with⟨bc,c'⟩|⟨A,bc,d9⟩
   .rw[bc]at R
    (repeat' (first|simp only[go_sem, *,↓c7,D2,AM]|(refine sx ?_ ?_<;>intro a5)|refine sy AA fun x bl bk=>?_|simp(disch:=first|assumption|omega) only[AR]))
    refine b3.1 (_,_) ⟨⟨a7.1 _ ?_ ?_ fun Y b1 X T=>?_⟩,?_,?_,?_,⟨.inl ⟨Q.1,rfl⟩⟩⟩
    .rw[c'];simp only[go_sem,Ba,AM];first|done|rfl
    .rw[c'];simp only[go_sem,w,A6,AM];first|done|rfl
    .exact zCb
    .simp only[go_sem,ad,w,AM]
    .simp only[go_sem,ag,w,AM]
    .simp only[go_sem,W,w,AM]
   .obtain⟨f,o,r,s,u⟩:=e6.1 A bc;rw[bc]at R
    (repeat' (first|simp only[go_sem, *,↓c7,D2,AM]|(refine sx ?_ ?_<;>intro a5)|refine sy AA fun x bl bk=>?_|simp(disch:=first|assumption|omega) only[AR]))
    refine b3.1 (_,_) ⟨⟨a7.1 _ ?_ ?_ fun Y b1 X T=>?_⟩,?_,?_,?_,⟨.inl ⟨Q.1,rfl⟩⟩⟩
    .exact zCr
    .simp only[go_sem,w,A6,AM,f,o,r,s,u];first|done|rfl
    .exact zC8
    .exact zD0
    .exact zD1
    .exact zD8
  .obtain⟨B,C,D,F⟩:=Cn c9 av a2;have J:Id.is m id=false:=Fi R Z;have I:Id.is id m=false:=Fi Z R;replace av:=AB av;replace a2:=AB a2;rcases bc with⟨bc,c'⟩|⟨A,bc,d9⟩
   .rw[bc]at R
    (repeat' (first|simp only[go_sem, *,↓c7,D2,AM]|(refine sx ?_ ?_<;>intro a5)|refine sy AA fun x bl bk=>?_|simp(disch:=first|assumption|omega) only[AR]))
    refine b3.1 (_,_) ⟨⟨a7.1 _ ?_ ?_ fun Y b1 X T=>?_⟩,?_,?_,?_,⟨.inr ⟨id,rfl,?_,n,AA,av.1,a2.1⟩⟩⟩
    .rw[c'];simp only[go_sem,Ba,AM,B,C,D,F,J,I];first|done|rfl
    .rw[c'];simp only[go_sem,w,A6,AM,B,C,D,F,J,I];first|done|rfl
    .exact zCb
    .simp only[go_sem,ad,w,AM,B,C,D,F,J,I]
    .simp only[go_sem,ag,w,AM,B,C,D,F,J,I]
    .simp only[go_sem,W,w,AM,B,C,D,F,J,I]
    .simp only[go_sem,Z,AM,B,C,D,F,J,I]
   .obtain⟨f,o,r,s,u⟩:=e6.1 A bc;rw[bc]at R;have ar:Id.is A id=false:=Fi d9 Z;have az:Id.is id A=false:=Fi Z d9
    (repeat' (first|simp only[go_sem, *,↓c7,D2,AM]|(refine sx ?_ ?_<;>intro a5)|refine sy AA fun x bl bk=>?_|simp(disch:=first|assumption|omega) only[AR]))
    refine b3.1 (_,_) ⟨⟨a7.1 _ ?_ ?_ fun Y b1 X T=>?_⟩,?_,?_,?_,⟨.inr ⟨id,rfl,?_,n,AA,av.1,a2.1⟩⟩⟩
    .simp only[go_sem,Ba,AM,B,C,D,F,J,I,f,o,r,s,u,ar,az];first|done|rfl
    .simp only[go_sem,w,A6,AM,B,C,D,F,J,I,f,o,r,s,u,ar,az];first|done|rfl
    .exact zC8
    .simp only[go_sem,ad,w,AM,B,C,D,F,J,I,f,o,r,s,u,ar,az]
    .simp only[go_sem,ag,w,AM,B,C,D,F,J,I,f,o,r,s,u,ar,az]
    .simp only[go_sem,W,w,AM,B,C,D,F,J,I,f,o,r,s,u,ar,az]
    .simp only[go_sem,Z,AM,B,C,D,F,J,I,f,o,r,s,u,ar,az]
 .clear y b8 df ad ag W fi g N;rintro i ⟨g,c⟩ K ds ⟨y,ad,ag,W,a4⟩;dsimp only at*;have d':=K.1;subst d';clear K;have dr:b5.length=d.be.length:=by rw[c2.1,GA]
  rw[<-dr,D2]at y;obtain⟨d5,c4,c5⟩:=y.1;clear y;replace c5:=AB c5;replace c4:=AB c4;have b8:=a4;clear a4;refine aw ?_;obtain⟨cc,c3⟩: ∃l,l=Db d G d.ac:=⟨_,rfl⟩;have ek: ∀(t:Nat) c,d.ac[t]? =some c->cc[t]? =some ⟨G.place d c.pp,false⟩:=fun t c a5=>by rw[c3,Db,D7,a5];rfl
  have el:cc.length=d.ac.length:=by rw[c3,E8]
  have g0:1<=ga:=by rw[d1.1];exact cn.1.qr.tree.pos
  replace c3:=AB c3;replace ek:=AB ek;replace dr:=AB dr;replace el:=AB el;refine Ah d.ac (S:=fun i (a:AD×Nat)=>⟨[(0,.ptr m 0),(2,nI j.at_),(5,.ptr (0::0::π) 0),(8,.ptr (0::10::π) 0),(9,.ptr (0::18::π) 0),(13,nI i)],a.1,a.2+34,[]⟩)
   (Inv:=fun i gb a=>AH (∃P,Bu (Ba p false) false π m V h (a.2+34) P {st with d8:={st.d8 with be:=st.d8.be++b5,ac:=st.d8.ac++cc.take i}} a.1/\ ∀i∈AE ev,i∉P.ids m)/\a.1.get (0::0::π)=some (.box [nI x.op,nI x.n,.d (.bv (x.args.map BT)),.d (.bv (x.kids.map AL))])/\a.1.get (0::10::π)=some (.box [.d (.bv (d.be.map BD)),.d (.bv (d.ac.map Ay)),.d (.bv (d.rules.map BC))])/\a.1.get (0::18::π)=some (.box [nI x.n,nI j.at_,ev])/\AH (Mz .emp π a.1 (a.2+34) ev G.env)) (b0:=(_,c+5)) ⟨⟨d5,?_,c5.1⟩,ad,ag,W,⟨KD b8.1 AA⟩⟩ ?_ ?_
  .rw[Rt,CI];exact c4.1.up AA
  .clear c4 c5 b8 ad ag W g c d5;rintro i b2 ⟨g,c⟩ de K ds ⟨y,ad,ag,W,a4⟩ b3;dsimp only at*;obtain⟨P,y,a'⟩:=y.1;have bx:=Iv a4.1 (c+67);have d3:=Ku b6.1.ok.spot i b2 de;have gf:IntKind.i64.wrap ((i:Int)+1)=(i:Int)+1:=wrap_id AA AA;have R:=y.rep.box;have e0:=fl.1 b2.pp d3.1 AA;simp only[Ba]at R;have L:=y.rep.sl 0 AA;obtain⟨b4,cp⟩: ∃l,l=st.d8.ac++cc.take i:=⟨_,rfl⟩;have gz:b4.length<=100:=by rw[cp];simp;omega
   simp only[Dt,Ax,<-cp]at L;have f7:b4≠ []:=by
    intro e;have h2:b4.length=0:=zFj
    rw[cp,Be]at h2;have:=cn.1.qr.tree.pos;omega
   rcases L with⟨_,L⟩|⟨S,bi,L,dq⟩
   .exact absurd (D5.1 L) f7
   have a7:AH (∀(v:AV) (H:AD),H.get m=some (.box (Ba p false (P.ip 0 v) st.work))->KJ H 2 v ((b4++[(⟨G.place d b2.pp,false⟩:Bl)]).map Aw)->(AE v=AE (P.s 0)\/ ∀id∈AE v,DX (c+34) (c+67) π id=true/\ ∃l,id=1::l)->(∀id,Id.is m id=false->(∀Y∈AE (P.s 0),Id.is Y id=false)->DX (c+34) (c+67) π id=false->H.get id=g.get id)-> ∃a1,Bu (Ba p false) false π m V h (c+67) a1 {st with d8:={st.d8 with be:=st.d8.be++b5,ac:=st.d8.ac++cc.take (i+1)}} H/\ ∀i∈AE ev,i∉a1.ids m):=⟨fun v H c0 d6 d7 c1=>by
    obtain⟨a1,dm,dn⟩:=y.step (b':=c+67) AA (Dc (st':={st with d8:={st.d8 with be:=st.d8.be++b5,ac:=b4++[⟨G.place d b2.pp,false⟩]}}) 0 AA y.rep (y.apartB a3.1) (XN rfl rfl rfl) rfl v H c0 d6 d7 c1)
    rw[GC,ek.1 i b2 de,<-DO,<-cp];exact⟨a1,dm,fun i K=>dn i (a' i K) (bx i K)⟩⟩
   replace bx:=AB bx;replace a':=AB a';rw[As]at L;have fd:=y.ids S (P.s_mem m (i:=0) AA (by rw[L];simp[AE]));have f:=fun a n c8=>C4 (b':=0) a3.1 fd a n c8;have o:=fun a n c8=>En a3.1 fd a n c8;have r:Id.is S m=false:=Fi dq R;have s:Id.is m S=false:=Fi R dq;have u: ∀k,Id.is S (0::k::π)=false:=fun k=>AF fun e=>Dv y a3.1 k zFL;rw[L]at R;replace cp:=AB cp;replace y:=AB y;replace a4:=a4.1;rcases a4 with⟨Q,rfl⟩|⟨id,rfl,Z,n,c9,av,a2⟩
   .rw[Q,BY]at e0;replace Q:=AB Q;rcases bi with _|⟨z,bi⟩
    ·(repeat' (first|simp only[go_sem, *,D2,AM]|(refine sx ?_ ?_<;>intro a5)|refine sy AA fun x bl bk=>?_|simp(disch:=first|assumption|omega) only[AR]))
     refine b3.1 (_,_) ⟨⟨a7.1 (.f8 (1::(c+59)::π) 0 (b4.length+1)) _ ?_ (Ao [] AG ?_) (.inr fun Y a6=>?_) fun Y b1 X T=>?_⟩,?_,?_,?_,⟨.inl ⟨Q.1,rfl⟩⟩⟩
     .exact zCr
     .simp only[go_sem,w,BE,BY,AM,f,o,r,s,u];first|done|rfl
     .exact zDS
     .exact zAT
     .exact zD0
     .exact zD1
     .exact zD8
    ·(repeat' (first|simp only[go_sem, *,D2,AM]|(refine sx ?_ ?_<;>intro a5)|refine sy AA fun x bl bk=>?_|simp(disch:=first|assumption|omega) only[AR]))
     refine b3.1 (_,_) ⟨⟨a7.1 (.f8 S 0 (b4.length+1)) _ ?_ (Ao bi AG ?_) (.inl (by rw[L];rfl)) fun Y b1 X T=>?_⟩,?_,?_,?_,⟨.inl ⟨Q.1,rfl⟩⟩⟩
     .exact zCr
     .simp only[go_sem,w,BE,BY,AM,f,o,r,s,u];first|done|rfl
     .exact zAT
     .exact zD0
     .exact zD1
     .exact zD8
   .obtain⟨B,C,D,F⟩:=Cn c9 av a2;have J:Id.is m id=false:=Fi R Z;have I:Id.is id m=false:=Fi Z R;have ar:Id.is S id=false:=AF fun e=>a'.1 id BH zFL;have az:Id.is id S=false:=AF fun e=>by rw[e,is_self]at ar;cases ar
    replace av:=AB av;replace a2:=AB a2;rcases bi with _|⟨z,bi⟩
    ·(repeat' (first|simp only[go_sem, *,D2,AM]|(refine sx ?_ ?_<;>intro a5)|refine sy AA fun x bl bk=>?_|simp(disch:=first|assumption|omega) only[AR]))
     refine b3.1 (_,_) ⟨⟨a7.1 (.f8 (1::(c+59)::π) 0 (b4.length+1)) _ ?_ (Ao [] AG ?_) (.inr fun Y a6=>?_) fun Y b1 X T=>?_⟩,?_,?_,?_,⟨.inr ⟨id,rfl,?_,n,AA,av.1,a2.1⟩⟩⟩
     .exact zDY
     .exact zDG
     .exact zDS
     .exact zAT
     .simp only[go_sem,ad,w,AM,f,o,r,s,u,B,C,D,F,J,I,ar,az]
     .simp only[go_sem,ag,w,AM,f,o,r,s,u,B,C,D,F,J,I,ar,az]
     .simp only[go_sem,W,w,AM,f,o,r,s,u,B,C,D,F,J,I,ar,az]
     .simp only[go_sem,Z,AM,f,o,r,s,u,B,C,D,F,J,I,ar,az]
    ·(repeat' (first|simp only[go_sem, *,D2,AM]|(refine sx ?_ ?_<;>intro a5)|refine sy AA fun x bl bk=>?_|simp(disch:=first|assumption|omega) only[AR]))
     refine b3.1 (_,_) ⟨⟨a7.1 (.f8 S 0 (b4.length+1)) _ ?_ (Ao bi AG ?_) (.inl (by rw[L];rfl)) fun Y b1 X T=>?_⟩,?_,?_,?_,⟨.inr ⟨id,rfl,?_,n,AA,av.1,a2.1⟩⟩⟩
     .exact zDY
     .exact zDG
     .exact zAT
     .simp only[go_sem,ad,w,AM,f,o,r,s,u,B,C,D,F,J,I,ar,az]
     .simp only[go_sem,ag,w,AM,f,o,r,s,u,B,C,D,F,J,I,ar,az]
     .simp only[go_sem,W,w,AM,f,o,r,s,u,B,C,D,F,J,I,ar,az]
     .simp only[go_sem,Z,AM,f,o,r,s,u,B,C,D,F,J,I,ar,az]
  .clear c4 c5 b8 ad ag W g c d5 ds;rintro i ⟨g,c⟩ K ds ⟨y,ad,ag,W,a4⟩;dsimp only at*;have d':=K.1;subst d';clear K;have em:=el.1;rw[<-em,D2]at y;obtain⟨P,e8,a'⟩:=y.1;clear y;have y:=e8;clear e8;have bx:=Iv a4.1 (c+52);have R:=y.rep.box;simp only[Ba]at R;have b7:=KC y.rep.arr;rw[y.rep.be.len]at b7;simp only[Be,<-ex.1,dr.1]at b7;have ch:=E6 (y.rep.sl 0 AA);simp only[Ax,As,Be,<-d1.1,em]at ch;have L:=y.rep.sl 1 AA;simp only[Dt,Ax]at L;clear em;have a7:AH (∀(g1:AD) (v:AV) (H:AD),(∀i∈P.ids m,g1.get i=g.get i)->(∀i,Id.under π i=false->g1.get i=g.get i)->H.get m=some (.box (Ba p false (P.ip 1 v) st.work))->KJ H 3 v ((st.d8.ce++[G]).map BG)->(AE v=AE (P.s 1)\/ ∀id∈AE v,DX (c+34) (c+52) π id=true/\ ∃l,id=1::l)->(∀id,Id.is m id=false->(∀Y∈AE (P.s 1),Id.is Y id=false)->DX (c+34) (c+52) π id=false->H.get id=g1.get id)-> ∃a1,Bu (Ba p false) false π m V h (c+52) a1 {st with d8:=B6 st.d8 d G} H/\ ∀i∈AE ev,i∉a1.ids m):=⟨fun g1 v H b1 X c0 d6 d7 c1=>by
    have en:Bu (Ba p false) false π m V h (c+34) P {st with d8:={st.d8 with be:=st.d8.be++b5,ac:=st.d8.ac++cc}} g1:=⟨CM y.rep b1,y.ids,fun id f1 e5=>(X id e5).trans (y.frame id f1 e5)⟩
    obtain⟨a1,dm,dn⟩:=en.step (b':=c+52) AA (Dc (st':={st with d8:={st.d8 with be:=st.d8.be++b5,ac:=st.d8.ac++cc,ce:=st.d8.ce++[G]}}) 1 AA en.rep (en.apartB a3.1) (gX rfl rfl rfl) rfl v H c0 d6 d7 c1)
    refine⟨a1,?_,fun i K=>dn i (a' i K) (bx i K)⟩;rw[B6,<-d2.1,<-c2.1,<-c3.1];exact dm⟩
   have d4:AH (∀S,P.s 1=.f8 S 0 st.d8.ce.length->(∀a n,c+34<=n->Id.is (a::n::π) S=false)/\(∀a n,c+34<=n->Id.is S (a::n::π)=false)/\Id.is S m=false/\Id.is m S=false/\(∀k,Id.is S (0::k::π)=false)/\(∀i∈AE ev,Id.is S i=false/\Id.is i S=false)):=⟨fun S e'=>by
    have d0:S∈P.ids m:=P.s_mem m (i:=1) AA (by rw[e'];simp[AE]);have K:=y.ids S d0;obtain⟨fr,Z⟩:=Ia (y.rep.sl 1 AA) (id:=S) (by rw[e'];simp[AE]);exact⟨fun a n c8=>C4 (b':=0) a3.1 K a n c8,En a3.1 K,AF fun e=>(by rw[e,R]at Z;cases Z),AF fun e=>(by rw[<-e,R]at Z;cases Z),fun k=>AF fun e=>Dv y a3.1 k (by rw[<-e];exact d0),fun i K=>⟨AF fun e=>a' i K (by rw[<-e];exact d0),AF fun e=>a' i K (by rw[e];exact d0)⟩⟩⟩
   have e4:AH (∀i∈P.ids m,∀cx∈AE ev,Id.is cx i=false):=⟨fun i K cx c6=>AF fun e=>a' cx c6 (by rw[e];exact K)⟩;have e3:AH (∀i,Id.under π i=false-> ∀cx∈AE ev,Id.is cx i=false):=⟨fun i K cx c6=>AF fun e=>by
    rcases a4.1 with⟨_,rfl⟩|⟨id,rfl,_,n,_,av,_⟩
    .simp[AE]at c6
    .simp only[AE,Ac]at c6;subst c6;rw[<-e,BM av]at K;cases K⟩
   replace bx:=AB bx;replace a':=AB a';replace y:=AB y;replace a4:=a4.1;rcases a4 with⟨Q,ai⟩|⟨id,ai,Z,n,c9,av,a2⟩
   .rw[ai]at W;rcases L with⟨L,e2⟩|⟨S,bi,L,dq⟩
    .have dd:=AH.mk (D5.1 e2);rw[L]at R
     (repeat' (first|simp only[go_sem, *,↓b7,↓ch,AM]|(refine sx ?_ ?_<;>intro a5)|refine sy AA fun x bl bk=>?_|simp(disch:=first|assumption|omega) only[AR]))
     refine cs.1 _ _ _ rfl rfl rfl rfl rfl (a7.1 g (.f8 (1::(c+47)::π) 0 1) _ (fun _ _=>rfl) (fun _ _=>rfl) ?_ (Ao [] ?_ ?_) (.inr fun Y a6=>?_) fun Y b1 X T=>?_) ?_ ?_ ?_ ?_
     .simp only[go_sem,Ba,AM,O,M,Q];first|done|rfl
     .rw[dd.1];rfl
     .rw[dd.1];simp only[go_sem,w,BE,BY,AM,O,M,Q];first|done|rfl
     .exact zBD
     .exact zCb
     .simp only[go_sem,ad,w,AM,O,M,Q]
     .simp only[go_sem,ag,w,AM,O,M,Q]
     .rw[ai];simp only[go_sem,W,w,AM,O,M,Q]
     .exact .inl ⟨Q,ai⟩
    .rw[As]at L;rcases bi with _|⟨z,bi⟩
     .obtain⟨f,o,r,s,u,bs⟩:=d4.1 S L;replace bs:=AB bs;rw[L]at R
      (repeat' (first|simp only[go_sem, *,↓b7,↓ch,AM]|(refine sx ?_ ?_<;>intro a5)|refine sy AA fun x bl bk=>?_|simp(disch:=first|assumption|omega) only[AR]))
      refine cs.1 _ _ _ rfl rfl rfl rfl rfl (a7.1 g (.f8 (1::(c+47)::π) 0 (st.d8.ce.length+1)) _ (fun _ _=>rfl) (fun _ _=>rfl) ?_ (Ao [] ?_ ?_) (.inr fun Y a6=>?_) fun Y b1 X T=>?_) ?_ ?_ ?_ ?_
      .simp only[go_sem,Ba,AM,O,M,f,o,r,s,u,Q];first|done|rfl
      .simp
      .exact zD9
      .exact zBD
      .exact zAT
      .simp only[go_sem,ad,w,AM,O,M,f,o,r,s,u,Q]
      .simp only[go_sem,ag,w,AM,O,M,f,o,r,s,u,Q]
      .rw[ai];simp only[go_sem,W,w,AM,O,M,f,o,r,s,u,Q]
      .exact .inl ⟨Q,ai⟩
     .obtain⟨f,o,r,s,u,bs⟩:=d4.1 S L;replace bs:=AB bs;rw[L]at R
      (repeat' (first|simp only[go_sem, *,↓b7,↓ch,AM]|(refine sx ?_ ?_<;>intro a5)|refine sy AA fun x bl bk=>?_|simp(disch:=first|assumption|omega) only[AR]))
      refine cs.1 _ _ _ rfl rfl rfl rfl rfl (a7.1 g (.f8 S 0 (st.d8.ce.length+1)) _ (fun _ _=>rfl) (fun _ _=>rfl) ?_ (Ao bi ?_ ?_) (.inl (by rw[L];rfl)) fun Y b1 X T=>?_) ?_ ?_ ?_ ?_
      .simp only[go_sem,Ba,AM,O,M,f,o,r,s,u,Q];first|done|rfl
      .simp
      .exact zD9
      .exact zAT
      .simp only[go_sem,ad,w,AM,O,M,f,o,r,s,u,Q]
      .simp only[go_sem,ag,w,AM,O,M,f,o,r,s,u,Q]
      .rw[ai];simp only[go_sem,W,w,AM,O,M,f,o,r,s,u,Q]
      .exact .inl ⟨Q,ai⟩
   .rw[ai]at W;obtain⟨B,C,D,F⟩:=Cn c9 av a2;have J:Id.is m id=false:=Fi R Z;have I:Id.is id m=false:=Fi Z R;replace av:=AB av;replace a2:=AB a2;rcases L with⟨L,e2⟩|⟨S,bi,L,dq⟩
    .have dd:=AH.mk (D5.1 e2);rw[L]at R
     (repeat' (first|simp only[go_sem, *,↓b7,↓ch,AM]|(refine sx ?_ ?_<;>intro a5)|refine sy AA fun x bl bk=>?_|simp(disch:=first|assumption|omega) only[AR]))
     refine cs.1 _ _ _ rfl rfl rfl rfl rfl (a7.1 (g.put id (.i7 2 (G.env.map AN))) (.f8 (1::(c+47)::π) 0 1) _ (fun i K=>by rw[get_put,e4.1 i K id zEl];simp) (fun i K=>by rw[get_put,e3.1 i K id zEl];simp) ?_ (Ao [] ?_ ?_) (.inr fun Y a6=>?_) fun Y b1 X T=>?_) ?_ ?_ ?_ ?_
     .simp only[go_sem,Ba,AM,O,M,B,C,D,F,J,I];first|done|rfl
     .rw[dd.1];rfl
     .rw[dd.1];simp only[go_sem,w,BE,BY,AM,O,M,B,C,D,F,J,I];first|done|rfl
     .exact zBD
     .exact zCb
     .simp only[go_sem,ad,w,AM,O,M,B,C,D,F,J,I]
     .simp only[go_sem,ag,w,AM,O,M,B,C,D,F,J,I]
     .rw[ai];simp only[go_sem,W,w,AM,O,M,B,C,D,F,J,I]
     .refine .inr ⟨id,ai,?_,n,AA,av.1,a2.1⟩;simp only[go_sem,w,AM,O,M,B,C,D,F,J,I]
    .rw[As]at L;rcases bi with _|⟨z,bi⟩
     .obtain⟨f,o,r,s,u,bs⟩:=d4.1 S L;obtain⟨bv,bo⟩:=bs id zEl;replace bs:=AB bs;rw[L]at R
      (repeat' (first|simp only[go_sem, *,↓b7,↓ch,AM]|(refine sx ?_ ?_<;>intro a5)|refine sy AA fun x bl bk=>?_|simp(disch:=first|assumption|omega) only[AR]))
      refine cs.1 _ _ _ rfl rfl rfl rfl rfl (a7.1 (g.put id (.i7 2 (G.env.map AN))) (.f8 (1::(c+47)::π) 0 (st.d8.ce.length+1)) _ (fun i K=>by rw[get_put,e4.1 i K id zEl];simp) (fun i K=>by rw[get_put,e3.1 i K id zEl];simp) ?_ (Ao [] ?_ ?_) (.inr fun Y a6=>?_) fun Y b1 X T=>?_) ?_ ?_ ?_ ?_
      .exact zDL
      .simp
      .exact zC9
      .exact zBD
      .exact zAT
      .exact zEK
      .exact zEL
      .exact zDn
      .exact zCc
     .obtain⟨f,o,r,s,u,bs⟩:=d4.1 S L;obtain⟨bv,bo⟩:=bs id zEl;replace bs:=AB bs;rw[L]at R
      (repeat' (first|simp only[go_sem, *,↓b7,↓ch,AM]|(refine sx ?_ ?_<;>intro a5)|refine sy AA fun x bl bk=>?_|simp(disch:=first|assumption|omega) only[AR]))
      refine cs.1 _ _ _ rfl rfl rfl rfl rfl (a7.1 (g.put id (.i7 2 (G.env.map AN))) (.f8 S 0 (st.d8.ce.length+1)) _ (fun i K=>by rw[get_put,e4.1 i K id zEl];simp) (fun i K=>by rw[get_put,e3.1 i K id zEl];simp) ?_ (Ao bi ?_ ?_) (.inl (by rw[L];rfl)) fun Y b1 X T=>?_) ?_ ?_ ?_ ?_
      .exact zDL
      .simp
      .exact zC9
      .exact zAT
      .exact zEK
      .exact zEL
      .exact zDn
      .exact zCc
def yc{p:AX}{sz:List Int}{k:Nat}(a7:BP p sz)(a4:WU p sz k){h:AD}{π:List Nat}{m:Abs.Id}{V:MV}{st:CW}(y:Vr p h m V st)(Z:Bx π V m)(U:Ky p sz k st){j:HF}{x:C8}(c1:j.env.length<=10000){d:CJ}(z:Fm p sz st.d8 j x d):
 ∃o h',kT (.fn 144) [.ptr m 0,.agg [nI x.op,nI x.n,.d (.bv (x.args.map BT)),.d (.bv (x.kids.map AL))],nI j.at_,.d (.bv (j.env.map AN))] h π true none=.ok (o,h')/\Jx p π m V h (Ic (Eu p k) (Fb p x j st)) o h':=by
 have C:=y.box;have K:=Z m (V.m_mem m);simp only[Ba]at C;have cl:=AI K;have cn:=Aj K;have cp:=Dx K;have cs:=Jk K;have bc:=z.f9;have cx:=z.n0;have c0:=AK bc;have cc:=z.ok.be;have ch:=z.ok.ac;have ar:=GQ j.env AA;have a3:=U.qr.small;simp only[BU.small,AP,Ap]at a3;obtain⟨c2,c4,c5,c6⟩:=a3;replace y:=AB y;replace Z:=AB Z;replace z:=AB z;replace U:=AB U;have J:=KC y.1.arr;have I:=E6 (y.1.sl 0 AA);rw[y.1.be.len]at J;simp only[Ax,As]at I;obtain⟨s,Y⟩: ∃n,n=st.d8.be.length:=⟨_,rfl⟩;obtain⟨w,X⟩: ∃n,n=st.d8.ac.length:=⟨_,rfl⟩;rw[<-Y]at J;rw[<-X]at I;have bv:s<=60:=AA;have c3:w<=24:=AA;replace Y:=AB Y;replace X:=AB X;by_cases ai:j.env.length=0;all_goals
  first
  |simp only[Jn,D4 ai]at ar
  |simp only[Jn,Ci ai]at ar
  have fa:=B7;refine BR Tryz.func144 ?_;refine SU 5 fun a5 av=>?_;have be:AH (∀(e:CA) (H:AD) (c:Nat),e.get 0=.ptr m 0->e.get 2=(nI j.at_)->e.get 5=.ptr (0::0::π) 0->e.get 8=.ptr (0::10::π) 0->e.get 9=.ptr (0::18::π) 0->(∀id,Id.under π id=false->H.get id=h.get id)->H.get (0::0::π)=some (.box [nI x.op,nI x.n,.d (.bv (x.args.map BT)),.d (.bv (x.kids.map AL))])->H.get (0::10::π)=some (.box [.d (.bv (d.be.map BD)),.d (.bv (d.ac.map Ay)),.d (.bv (d.rules.map BC))])->(∃ev,H.get (0::18::π)=some (.box [nI x.n,nI j.at_,ev])/\Mz .emp π H (c+32) ev (j.env++DK s d.be.length++G0 w d.ac.length))->Wp cfg kT ⟨144,π,true,none,false,221⟩ 0 a5 ⟨e,H,c+32,[]⟩ (K1 cfg none [] π true (Jx p π m V h (Ic (Eu p k) (Fb p x j st))))):=⟨fun e H c b2 b3 b4 b5 x9 l b7 b8 bi=>by
   obtain⟨ev,b',B⟩:=bi;rw[av];refine fI a7 a4 y.1 Z.1 U.1 z.1 rfl b2 b3 b4 b5 x9 AA l b7 b8 b' ?_;have:(A7 st.d8 d x.n j).env=j.env++DK s d.be.length++G0 w d.ac.length:=by rw[Y.1,X.1,A7,Fh,DO];rfl
   rw[this];exact B⟩
  replace av:=AB av;simp only[Tryz.f144,I3,Ri];refine ax ?_;clear ar;refine Ah d.be (S:=fun i (a:AD×Nat)=>⟨[(0,.ptr m 0),(2,nI j.at_),(5,.ptr (0::0::π) 0),(8,.ptr (0::10::π) 0),(9,.ptr (0::18::π) 0),(10,nI i)],a.1,a.2+21,[]⟩)
   (Inv:=fun i bs a=>AH (∀id,Id.under π id=false->a.1.get id=h.get id)/\a.1.get (0::0::π)=some (.box [nI x.op,nI x.n,.d (.bv (x.args.map BT)),.d (.bv (x.kids.map AL))])/\a.1.get (0::10::π)=some (.box [.d (.bv (d.be.map BD)),.d (.bv (d.ac.map Ay)),.d (.bv (d.rules.map BC))])/\AH (∃ev,a.1.get (0::18::π)=some (.box [nI x.n,nI j.at_,ev])/\Mz .emp π a.1 (a.2+21) ev (j.env++DK s i))) (b0:=(_,0)) ⟨⟨fun id b=>?_⟩,?_,?_,⟨?_⟩⟩ ?_ ?_
  .have r:=AI b;have T:=AI (AJ b 16) 1 3;simp only[go_sem,r,T,AM]
  .simp only[go_sem]
  .simp only[go_sem]
  .first
   |(refine⟨.emp,?_,.inl ⟨by simp[DK,BI ai],rfl⟩⟩
     simp only[go_sem]
     done)
   |(refine⟨.f8 (1::3::16::π) 0 j.env.length,?_,.inr ⟨_,by simp[DK],?_,16,AA,under_iff.2 ⟨[1,3],rfl⟩,_,rfl⟩⟩
     .simp only[go_sem]
     .simp only[DK,List.range'_zero,BY,CI];simp only[go_sem])
  .rintro i b6 ⟨g,c⟩ bl A W ⟨l,u,v,q⟩ M;dsimp only at*;obtain⟨ev,bo,q⟩:=q.1;have a6:=(l.1 m K).trans C;have bx:IntKind.i64.wrap ((i:Int)+1)=(i:Int)+1:=wrap_id AA AA;have b1:IntKind.i64.wrap ((s:Int)+(i:Int))=(s:Int)+(i:Int):=wrap_id AA AA;obtain⟨L,t⟩: ∃L,L=j.env++DK s i:=⟨_,rfl⟩;have P:AH (j.env++DK s (i+1)=L++[⟨3,(s:Int)+(i:Int)⟩]):=⟨by rw[Sa,<-DO,<-t];simp⟩;rw[<-t]at q;have a':L.length<=20000:=by rw[t];simp[DK];omega
   replace t:=AB t;rcases q with⟨a2,rfl⟩|⟨id,rfl,bk,n,Q,D,B⟩
   ·(repeat' (first|simp only[go_sem, *,↓J,↓I]|(refine sx ?_ ?_<;>intro az)|refine sy AA fun x a1 C=>?_|simp(disch:=first|assumption|omega) only[AR]))
    refine M.1 (_,_) ⟨⟨fun id f=>?_⟩,?_,?_,⟨.f8 (1::(c+38)::π) 0 1,?_,?_⟩⟩
    .exact zEA
    .simp only[go_sem,u]
    .simp only[go_sem,v]
    .simp only[go_sem]
    .rw[P.1,a2];exact zCg
   .obtain⟨ac,ad,N,O⟩:=Cn Q D B;have a0:=AH.mk (BM D);clear B D Q
    (repeat' (first|simp only[go_sem, *,↓J,↓I,AM]|(refine sx ?_ ?_<;>intro az)|refine sy AA fun x a1 C=>?_|simp(disch:=first|assumption|omega) only[AR]))
    refine M.1 (_,_) ⟨⟨fun R f=>?_⟩,?_,?_,⟨.f8 (1::(c+38)::π) 0 (L.length+1),?_,?_⟩⟩
    .exact zCL
    .simp only[go_sem,u,N,O,AM]
    .simp only[go_sem,v,N,O,AM]
    .simp only[go_sem]
    .exact zEP
  .clear bv;rintro i ⟨g,c⟩ A W ⟨l,u,v,q⟩;dsimp only at*;have ag:=A.1;subst ag;clear A;replace J:=AB J;refine aw ?_;refine Ah d.ac (S:=fun i (a:AD×Nat)=>⟨[(0,.ptr m 0),(2,nI j.at_),(5,.ptr (0::0::π) 0),(8,.ptr (0::10::π) 0),(9,.ptr (0::18::π) 0),(11,nI i)],a.1,a.2+27,[]⟩)
    (Inv:=fun i bs a=>AH (∀id,Id.under π id=false->a.1.get id=h.get id)/\a.1.get (0::0::π)=some (.box [nI x.op,nI x.n,.d (.bv (x.args.map BT)),.d (.bv (x.kids.map AL))])/\a.1.get (0::10::π)=some (.box [.d (.bv (d.be.map BD)),.d (.bv (d.ac.map Ay)),.d (.bv (d.rules.map BC))])/\AH (∃ev,a.1.get (0::18::π)=some (.box [nI x.n,nI j.at_,ev])/\Mz .emp π a.1 (a.2+27) ev (j.env++DK s d.be.length++G0 w i))) (b0:=(_,c)) ⟨l,u,v,⟨by obtain⟨ev,r,F⟩:=q.1;exact⟨ev,r,by simpa[G0]using KD F AA⟩⟩⟩ ?_ ?_
   .clear q l u v g c;rintro i b6 ⟨g,c⟩ bl A W ⟨l,u,v,q⟩ M;dsimp only at*;obtain⟨ev,bo,q⟩:=q.1;have a6:=(l.1 m K).trans C;have bx:IntKind.i64.wrap ((i:Int)+1)=(i:Int)+1:=wrap_id AA AA;have b1:IntKind.i64.wrap ((w:Int)+(i:Int))=(w:Int)+(i:Int):=wrap_id AA AA;obtain⟨L,t⟩: ∃L,L=j.env++DK s d.be.length++G0 w i:=⟨_,rfl⟩;have P:AH (j.env++DK s d.be.length++G0 w (i+1)=L++[⟨4,(w:Int)+(i:Int)⟩]):=⟨by rw[TB,<-DO,<-t];simp⟩;rw[<-t]at q;have a':L.length<=20000:=by rw[t];simp[DK,G0];omega
    replace t:=AB t;rcases q with⟨a2,rfl⟩|⟨id,rfl,bk,n,Q,D,B⟩
    ·(repeat' (first|simp only[go_sem, *,↓I]|(refine sx ?_ ?_<;>intro az)|refine sy AA fun x a1 C=>?_|simp(disch:=first|assumption|omega) only[AR]))
     refine M.1 (_,_) ⟨⟨fun id f=>?_⟩,?_,?_,⟨.f8 (1::(c+44)::π) 0 1,?_,?_⟩⟩
     .exact zEA
     .simp only[go_sem,u]
     .simp only[go_sem,v]
     .simp only[go_sem]
     .rw[P.1,a2];exact zCg
    .obtain⟨ac,ad,N,O⟩:=Cn Q D B;have a0:=AH.mk (BM D);clear B D Q
     (repeat' (first|simp only[go_sem, *,↓I,AM]|(refine sx ?_ ?_<;>intro az)|refine sy AA fun x a1 C=>?_|simp(disch:=first|assumption|omega) only[AR]))
     refine M.1 (_,_) ⟨⟨fun R f=>?_⟩,?_,?_,⟨.f8 (1::(c+44)::π) 0 (L.length+1),?_,?_⟩⟩
     .exact zCL
     .simp only[go_sem,u,N,O,AM]
     .simp only[go_sem,v,N,O,AM]
     .simp only[go_sem]
     .exact zEP
   .clear q l u v g c W;rintro i ⟨g,c⟩ A W ⟨l,u,v,q⟩;dsimp only at*;have ag:=A.1;subst ag;clear A;refine aw ?_;exact be.1 _ _ _ rfl rfl rfl rfl rfl l.1 u v (by obtain⟨ev,r,F⟩:=q.1;exact⟨ev,r,KD F AA⟩)
def ZJ{t:MV}{g1:AD}{o:A8}(v:Bx π V m)(l:Bu (Ba p false) false π m V h b t st H)(x:b<=n)(u:Jx p (n::π) m t H r o g1):o=.ret (.ii [])/\TF p π m V h (n+1) [] (gc (n::π) g1) r:=by
 have y:=AJ (v m (V.m_mem m)) n;cases r with
 |some A=>
  obtain⟨e,g⟩:=u;obtain⟨f,j,z⟩:=l.callL v x g;exact⟨e,f,j,fun i s=>by cases s⟩
 |none=>
  obtain⟨e,⟨f,w,g⟩,j⟩:=u;refine⟨e,⟨f,w,(An _ _ _ y).trans g⟩,fun id a c=>?_,fun i s=>by cases s⟩;rw[An _ _ _ (AJ c n),j id (fun q=>?_) (AJ c n)]
  .exact l.frame id a c
  .rcases l.ids id q with q|⟨k,_,e,_⟩
   .exact a q
   .rw[BM e]at c;cases c
def UW{p:AX}{sz:List Int}(a5:BP p sz): ∀k,WU p sz k
 |0=>fun h π m V st j a6 S a7 bc el em en d6=>AA
 |k+1=>fun h π m V st j a6 S a7 bc el em en d6=>by
  have b7:=UW a5 k;obtain⟨x,l,b5,c4,bl,az,e4⟩:=Jg a5 bc;have ds:=c4;simp only[DG,AP,Ap,D3]at c4;obtain⟨b2,b4,dd,b'⟩:=c4;have e5:=bc.n0;have e':=AK b5;have av:=a6.box;have cn:=S m (V.m_mem m);simp only[Ba]at av;have t:=AI cn;have z:=Aj cn;have fd:IntKind.i64.wrap (st.work+1)=st.work+1:=wrap_id AA AA;obtain⟨u,Z⟩: ∃s,s={st with work:=st.work+1}:=⟨_,rfl⟩
  have d1:=a5.small;simp only[AX.small,AP,Ap]at d1;obtain⟨fi,fk,fl⟩:=d1;have dn:AH (Eu p (k+1) j st=if st.work<400 then Ic (Eu p k) (Ja p j u)else none):=⟨by rw[Z];rfl⟩;have bo:AH (∀H:AD,H.get m=some (.box (Ba p false V (st.work+1)))->(∀id,Id.is m id=false->Id.under π id=false->H.get id=h.get id)->Bu (Ba p false) false π m V h 0 V u H):=⟨fun H a4 bs=>by
   have:=R3 (st':=u) a6 S (by rw[Z];exact a4) (by rw[Z];exact⟨rfl,rfl⟩) fun id b1 Q=>bs id (AF fun e=>b1 e.symm) Q;exact⟨this.1,fun id cc=>.inl cc,this.2.frame⟩⟩
  have ar:AH (st.work<400->Ky p sz k u):=⟨fun h=>by rw[Z];exact⟨a7,AU,AU,AU,AU⟩⟩;have bx:AH (CT p sz u.d8 j):=⟨by rw[Z];exact bc⟩;have c6:AH (u.d8=st.d8):=⟨by rw[Z]⟩;have d7:AH (u.ev.length<=1000000):=⟨by rw[Z];dsimp only;omega⟩;have e7:AH (u.work=st.work+1):=⟨by rw[Z]⟩;replace Z:=AB Z;replace a6:=AB a6;replace S:=AB S;replace a7:=AB a7;replace bc:=AB bc;replace b':=AB b';replace ds:=AB ds;replace az:=AB az;replace bl:=AB bl;by_cases c7:st.work<400
  .have ek:st.work+1<=400:=AA;have e6: ¬400<st.work+1:=AA;rw[dn.1,D4 c7];have a3:AH (Ja p j u=if x.op=2 then(Cx p x j u).map fun st=>(st,[])else if x.op=3 then some (u,BN x 0 j.at_ j.env++BN x 1 j.at_ j.env)else if x.op=4 then Fb p x j u else if x.op=5 then some (u,BN x (Qh x j.env) j.at_ j.env)else if DZ x.op=true then(FZ j u).map fun st=>(st,[])else some (u,[])):=⟨by rw[Ja,b5]⟩;have ar:=ar.1 c7;replace ar:=AB ar;have c':=AB dd;clear dd;rcases cq b2 with F|F|F|F|F|F|F|F
   .rw[a3.1];simp only[F,Int.reduceEq,F6,FN,DZ,decide_false,Bool.or_self,AM,Ic,CH];refine BR Tryz.func87 ?_;refine aw ?_;exact Gz (b:=0) (E:=[]) ⟨V,bo.1 _ zEq (fun id b1 Q=>by
     have f:=AI Q;simp only[go_sem,f,b1,AM]),fun i Y=>by cases Y⟩
   .rw[a3.1];simp only[F,Int.reduceEq,F6,FN,QP];have dr:0<=x.n/\x.n<j.env.length:=by simpa[Xc,F]using b4
    have d4:x.args.length<=3:=by simpa[FI,F]using c'.1
    have b8: ∀e∈x.args,e.formed j.env.length=true:=fun e d5=>by
     have:=b'.1 e d5;exact zCV
    have c2:AH (∀H n,Bu (Ba p false) false π m V h 0 V u H-> ∃o h',kT (.fn 143) [.ptr m 0,.agg [nI 2,nI x.n,.d (.bv (x.args.map BT)),.d (.bv (x.kids.map AL))],nI j.at_,.d (.bv (j.env.map AN))] H (n::π) true none=.ok (o,h')/\(o=.ret (.ii [])/\TF p π m V h (n+1) [] (gc (n::π) h') (Cx p x j u))):=⟨fun H n X=>by
     obtain⟨o,g1,f,c8⟩:=xF (st:=u) X.rep (X.apart S.1 (n:=n) (It _)) j AA d4 b8 dr.1 dr.2 (by rw[c6.1];exact bc.1.lc) (fun c q az=>by rw[c6.1]at az⊢;exact QK a5 a7.1 az) d7.1;rw[F]at f;exact⟨o,g1,f,ZJ S.1 X (It _) c8⟩⟩
    clear b8;exact zAu
   .rw[a3.1];simp only[F,Int.reduceEq,F6,FN];have b3:x.kids.length=2:=by simpa[Dp,F]using b2.symm
    obtain⟨R,T,ag⟩:=RM b3;have cl:CT p sz u.d8 ⟨R,j.at_,j.env⟩:=LY bx.1 AA bl.1 az.1 0 _ zFn;have c3:CT p sz u.d8 ⟨T,j.at_,j.env⟩:=LY bx.1 AA bl.1 az.1 1 _ zFn;have c5:Ic (Eu p k) (some (u,BN x 0 j.at_ j.env++BN x 1 j.at_ j.env))=((some u).bind (Eu p k ⟨R,j.at_,j.env⟩)).bind (Eu p k ⟨T,j.at_,j.env⟩):=by
     simp only[BN,ag,F4,GS,Cs,CE,Ic,CH,I2];cases Eu p k ⟨R,j.at_,j.env⟩ u with
     |none=>rfl
     |some s=>
      simp only[I2];cases Eu p k ⟨T,j.at_,j.env⟩ s<;>rfl
    rw[c5];have de:AH (∀H n,36<=n->Bu (Ba p false) false π m V h 0 V u H-> ∃o g1,kT (.fn 87) [.ptr m 0,nI R,nI j.at_,.d (.bv (j.env.map AN))] H (n::π) true none=.ok (o,g1)/\o=.ret (.ii [])/\jt p π m V h 36 n [] H (gc (n::π) g1) ((some u).bind (Eu p k ⟨R,j.at_,j.env⟩))):=⟨fun H n b4 X=>J2 b7 S.1 (r:=some u) (E:=[]) ⟨V,X.up AA,fun i Y=>by cases Y⟩ ⟨R,j.at_,j.env⟩ (fun st' e=>by cases e;exact⟨ar.1,cl⟩) H n b4 (fun _ _=>rfl) fun i Y=>by cases Y⟩;have df:AH (∀H n b,b<=n->36<=b->TF p π m V h b [] H ((some u).bind (Eu p k ⟨R,j.at_,j.env⟩))-> ∃o g1,kT (.fn 87) [.ptr m 0,nI T,nI j.at_,.d (.bv (j.env.map AN))] H (n::π) true none=.ok (o,g1)/\o=.ret (.ii [])/\jt p π m V h b n [] H (gc (n::π) g1) (((some u).bind (Eu p k ⟨R,j.at_,j.env⟩)).bind (Eu p k ⟨T,j.at_,j.env⟩))):=⟨fun H n b b4 e3 X=>J2 b7 S.1 X ⟨T,j.at_,j.env⟩ (fun st' e=>by
     have dq:=Jb a5 k _ _ _ ar.1.qr cl e;exact⟨ar.1.post dq,Mg c3 dq.ext⟩) H n b4 (fun _ _=>rfl) fun i Y=>by cases Y⟩
    replace cl:=AB cl;replace c3:=AB c3;replace c5:=AB c5;obtain⟨e0,cp,d3,ex⟩:=x;dsimp only at ag F b3 b5⊢;subst ag;subst F;refine BR Tryz.func87 ?_;refine aw ?_;refine Ad (de.1 _ _ AA (bo.1 _ zEq (fun id b1 Q=>by
     have f:=AI Q;simp only[go_sem,f,b1,AM]))) (fun b6 g1 ac=>?_)
    obtain⟨ad,O⟩:=ac;subst ad;have e2:=(O.box 35 AA).trans (show _=some (.box [nI 3,nI cp,.d (.bv (d3.map BT)),.d (.bv ([R,T].map AL))]) by simp only[go_sem]);have ea:=AB O.run;clear O;refine aw ?_;refine Ad (df.1 _ _ _ ?_ ?_ ea.1) (fun b6 g1 ac=>?_)
    .omega
    .omega
    obtain⟨ad,O⟩:=ac;subst ad;replace O:=AB O;refine aw ?_;exact Gz O.1.run
   .rw[a3.1];simp only[F,Int.reduceEq,F6,FN];obtain⟨d,c0⟩:=fJ a5 (s:=u.d8) (by rw[c6.1];exact a7.1) bx.1 b5 F;have c2:AH (∀H n,Bu (Ba p false) false π m V h 0 V u H-> ∃o h',kT (.fn 144) [.ptr m 0,.agg [nI 4,nI x.n,.d (.bv (x.args.map BT)),.d (.bv (x.kids.map AL))],nI j.at_,.d (.bv (j.env.map AN))] H (n::π) true none=.ok (o,h')/\(o=.ret (.ii [])/\TF p π m V h (n+1) [] (gc (n::π) h') (Ic (Eu p k) (Fb p x j u)))):=⟨fun H n X=>by
     obtain⟨o,g1,f,c8⟩:=yc a5 b7 X.rep (X.apart S.1 (n:=n) (It _)) ar.1 AA c0;rw[F]at f;exact⟨o,g1,f,ZJ S.1 X (It _) c8⟩⟩
    replace c0:=AB c0;exact zAu
   .rw[a3.1];simp only[F,Int.reduceEq,F6,FN];have b3:x.kids.length=2:=by simpa[Dp,F]using b2.symm
    obtain⟨R,T,ag⟩:=RM b3;have c9:x.args.length=1:=by simpa[FI,F]using c'.1
    obtain⟨be,c1⟩: ∃e,x.args=[e]:=by
     match hxa:x.args,c9 with
     |[e],_=>exact⟨e,rfl⟩
    have b8:be.formed j.env.length=true:=by
     have:=b'.1 be (by rw[c1];simp);exact zCV
    have d9:AH (CT p sz u.d8 ⟨R,j.at_,j.env⟩):=⟨LY bx.1 AA bl.1 az.1 0 _ zFn⟩;have d':AH (CT p sz u.d8 ⟨T,j.at_,j.env⟩):=⟨LY bx.1 AA bl.1 az.1 1 _ zFn⟩;have dm:AH (∀(c:Int),CT p sz u.d8 ⟨c,j.at_,j.env⟩-> ∀H n,Bu (Ba p false) false π m V h 0 V u H-> ∃o g1,kT (.fn 87) [.ptr m 0,nI c,nI j.at_,.d (.bv (j.env.map AN))] H (n::π) true none=.ok (o,g1)/\o=.ret (.ii [])/\jt p π m V h 0 n [] H (gc (n::π) g1) (Eu p k ⟨c,j.at_,j.env⟩ u)):=⟨fun c a' H n X=>J2 b7 S.1 (r:=some u) (E:=[]) ⟨V,X,fun i Y=>by cases Y⟩ ⟨c,j.at_,j.env⟩ (fun st' e=>by cases e;exact⟨ar.1,a'⟩) H n (It _) (fun _ _=>rfl) fun i Y=>by cases Y⟩;obtain⟨v,w⟩: ∃v,v=be.value j.env:=⟨_,rfl⟩;have ej:=rH j.env be b8;rw[<-w]at ej;obtain⟨e0,cp,d3,ex⟩:=x;dsimp only at ag F b3 b5 c9 c1 a3⊢;subst ag;subst F;subst c1;have ch:AH (Qh ⟨5,cp,[be],[R,T]⟩ j.env=if v.kind=1/\v.n≠0 then 0 else 1):=⟨by simp only[Qh,F4,w]⟩;have d0:AH (∀i,Ic (Eu p k) (some (u,BN ⟨5,cp,[be],[R,T]⟩ i j.at_ j.env))=match [R,T][i]? with|some c=>Eu p k ⟨c,j.at_,j.env⟩ u|none=>some u):=⟨fun i=>by
     simp only[Ic,BN];cases [R,T][i]? with
     |none=>rfl
     |some c=>exact Ni _ _ _⟩
    replace w:=AB w;by_cases a':v.kind=1/\v.n≠0
    .rw[ch.1,D4 a',d0.1];clear ch;obtain⟨de,df⟩:=a';refine BR Tryz.func87 ?_;refine aw ?_;refine Ad (dm.1 R d9.1 _ _ (bo.1 _ zEq (fun id b1 Q=>by
     have f:=AI Q;simp only[go_sem,f,b1,AM]))) (fun b6 g1 ac=>?_)
     exact zBs
    .rw[ch.1,Ci a',d0.1];clear ch;have P:(if v.kind=1 then v.n else 0)=0:=by
      split
      .rename_i b2;by_cases bk:v.n=0
       .exact bk
       .exact absurd ⟨b2,bk⟩ a'
      .rfl
     clear a';refine BR Tryz.func87 ?_;refine aw ?_;refine Ad (dm.1 T d'.1 _ _ (bo.1 _ zEq (fun id b1 Q=>by
     have f:=AI Q;simp only[go_sem,f,b1,AM]))) (fun b6 g1 ac=>?_)
     exact zBs
   all_goals
    rw[a3.1];simp only[F,Int.reduceEq,F6,FN,QP,DZ,decide_true,decide_false,Bool.true_or,T6,Bool.or_self,AM];have eb:=Z.1;clear a3;subst eb;have a2:=GQ j.env AA;have fa:=B7;have A:=fun n=>AI (AJ cn n) 1 3;have B:=fun n=>Aj (AJ cn n) 1 3;have go:=AH.mk (Dc (st':={st with work:=st.work+1,d8:={st.d8 with waits:=st.d8.waits++[⟨j.at_,j.node,j.env⟩]}}) 2 AA a6.1 S.1 (XO rfl rfl rfl) rfl)
    have e8:st.d8.waits.length<=40:=by
     have:=a7.1.small;simp only[BU.small,AP,Ap]at this;omega
    have U:AH (∀(N n:Nat) (H:AD),st.d8.waits.length<40->n=st.d8.waits.length+1->H.get m=some (.box (Ba p false (V.ip 2 (.f8 (1::N::π) 0 n)) (st.work+1)))->H.get (1::N::π)=some (.em 3 ((st.d8.waits++[(⟨j.at_,j.node,j.env⟩:Gg)]).map Ae))->(∀id,Id.is m id=false->(∀i∈AE (V.s 2),Id.is i id=false)->Id.under π id=false->H.get id=h.get id)->Jx p π m V h (FZ j {d8:=st.d8,ev:=st.ev,work:=st.work+1}) (.ret (.ii [])) H):=⟨fun N n H a2 h2 a4 bs bv=>by
     rw[FZ,D4 a2];exact⟨rfl,go.1 _ H a4 (.inl (Ao [] (by rw[h2];simp[Ax]) (by rw[CI];exact bs))) (.inr fun id cc=>by
      simp only[AE,Ac]at cc;subst cc;exact⟨Ar [1,N],_,rfl⟩) bv⟩⟩
    have cx:AH (∀{W:Abs.Id} (ai:List (List Al)) (H:AD),st.d8.waits.length<40->V.s 2=.f8 W 0 st.d8.waits.length->H.get m=some (.box (Ba p false (V.ip 2 (.f8 W 0 (st.d8.waits.length+1))) (st.work+1)))->H.get W=some (.em 3 ((st.d8.waits++[(⟨j.at_,j.node,j.env⟩:Gg)]).map Ae++ai))->(∀id,Id.is m id=false->(∀i∈AE (V.s 2),Id.is i id=false)->Id.under π id=false->H.get id=h.get id)->Jx p π m V h (FZ j {d8:=st.d8,ev:=st.ev,work:=st.work+1}) (.ret (.ii [])) H):=⟨fun{W} ai H a2 h2 a4 bs bv=>by
     rw[FZ,D4 a2];exact⟨rfl,go.1 _ H a4 (.inl (Ao ai (by simp[Ax]) bs)) (.inl (by rw[h2];rfl)) bv⟩⟩
    have a1:AH (∀(cs:MV) (H:AD),¬st.d8.waits.length<40->H.get m=some (.box (Ba p true cs (st.work+1)))->(∀id,Id.is m id=false->(∀i∈AE (V.s 2),Id.is i id=false)->Id.under π id=false->H.get id=h.get id)->Jx p π m V h (FZ j {d8:=st.d8,ev:=st.ev,work:=st.work+1}) (.ret (.ii [])) H):=⟨fun cs H a2 a4 bv=>by
     rw[FZ,Ci a2];exact⟨rfl,⟨cs,_,a4⟩,fun id b0 Q=>bv id (AF fun e=>b0 zEv) (fun i Y=>AF fun e=>b0 (by rw[<-e];exact V.s_mem m (i:=2) AA Y)) Q⟩⟩
    by_cases bk:j.env.length=0;all_goals
     first
     |(simp only[Jn,D4 bk]at a2;rw[BI bk]at U cx)
     |simp only[Jn,Ci bk]at a2
    all_goals rcases Xz (a6.1.sl 2 AA)with⟨d2,P⟩|⟨W,ai,w,bi⟩
    all_goals try simp only[Dt,Ax,As]at w
    .exact zAE
    .exact zAA
    .exact zAE
    .exact zAA
  .have ek:400<st.work+1:=AA;rw[dn.1,Ci c7];refine BR Tryz.func87 ?_;refine aw ?_;refine⟨rfl,⟨V,st.work+1,by simp only[go_sem,Ba]⟩,fun id b0 Q=>?_⟩;have b1:Id.is m id=false:=AF fun e=>b0 zEv;have f:=AI Q;simp only[go_sem,f,b1,AM]
def yf{p:AX}{sz:List Int}(ds:BP p sz){h:AD}{π:List Nat}{m:Abs.Id}{V:MV}{st:CW}(a3:Vr p h m V st)(y:Bx π V m)(U:Fo p sz st.d8){at_:Int}(a4:FT st.d8.ac at_):
 ∃o h',kT (.fn 164) [.ptr m 0,nI at_] h π true none=.ok (o,h')/\Jx p π m V h (some ⟨PR st.d8 at_,st.ev,st.work⟩) o h':=by
 have ag:=a3.box;simp only[Ba]at ag;have c2:=y m (V.m_mem m);have ex:=AI c2;have c':=Aj c2;have c0:=U.small;simp only[BU.small,AP,Ap]at c0;obtain⟨fr,fs,fv,f0⟩:=c0;have c6:=a4.1;have b4:=a4.2;have ch:AH (Bu (Ba p false) false π m V h 0 V st h):=⟨JC a3 y fun id b=>rfl⟩;replace a3:=AB a3;replace y:=AB y;replace U:=AB U;replace a4:=AB a4;refine BR Tryz.func164 ?_;refine ax ?_;refine rounds (S:=fun(a:Nat×AD×Nat)=>⟨[(0,.ptr m 0),(1,nI at_),(4,nI a.1)],a.2.1,a.2.2+1,[]⟩)
  (Inv:=fun a=>a.1<=st.d8.ac.length/\AH (∃f,Bu (Ba p false) false π m V h (a.2.2+1) f ⟨{st.d8 with ac:=K0 st.d8.ac at_ a.1},st.ev,st.work⟩ a.2.1)) (m:=fun a=>st.d8.ac.length-a.1) (a:=(0,h,0)) ⟨It _,⟨V,by rw[W5];exact ch.1.up AA⟩⟩ ?_
 clear ag ch;rintro⟨i,g,b⟩ ⟨hil,e⟩ IH;dsimp only at*;obtain⟨f,e⟩:=e.1;obtain⟨D,r⟩: ∃D,D=K0 st.d8.ac at_ i:=⟨_,rfl⟩;have s:D.length=st.d8.ac.length:=by rw[r];exact NX _ _ AA
 have j:=e.rep.box;simp only[Ba]at j;have Q:=E6 (e.rep.sl 0 AA);simp only[Ax,As,<-r,s]at Q;by_cases d2:i<st.d8.ac.length
 .have d3:(i:Int)<st.d8.ac.length:=AA;obtain⟨x,av⟩:=get_some d2;have cc:D[i]? =some x:=by rw[r];exact kE av
  have a2: ∀i,Bh D i=Bh st.d8.ac i:=fun k=>by rw[r];exact aV _ _ AA k
  have Z:AH (K0 st.d8.ac at_ (i+1)=D.set i {x with dead:=x.dead||CP st.d8.ac i at_}):=⟨by rw[r];exact W4 av⟩
  have bi:=Xw a2 s U.1.tree;have be:=S8 a2 s (i:Int) at_;rw[<-r]at e;replace r:=AB r;obtain⟨S,X,I,P,c3,bx,c1⟩:=FV (e.rep.sl 0 AA) cc;simp only[Dt]at P;have bv:=Rp D (.bv (st.d8.ce.map BG)) (.bv (st.d8.be.map Cy)) (.bv (st.d8.waits.map Ae)) (i:Int) at_ AA bi ⟨AA,AA⟩ c6;rw[be]at bv;have d':IntKind.i64.wrap ((i:Int)+1)=(i:Int)+1:=wrap_id AA AA;obtain⟨ej,en⟩:=Bg (e.rep.sl 0 AA);obtain⟨ek,c7⟩:=Bg (e.rep.sl 1 AA);obtain⟨el,c8⟩:=Ve (e.rep.sl 2 AA);obtain⟨em,c9⟩:=Gm e.rep.arr;have dd:=Fe (e.rep.sl 0 AA);have de:=Fe (e.rep.sl 1 AA);have df:=Qc (e.rep.sl 2 AA);have dm:=Nf e.rep.arr e.rep.be;simp only[Ax]at dd de df dm;replace a2:=AB a2;replace bi:=AB bi;replace be:=AB be;replace e:=AB e;have dr:=AB s;have e1:(i:Int)<D.length:=AA;cases K:CP st.d8.ac i at_ with
  |true=>
   rw[K]at bv Z;rw[T6]at Z;replace s:=AB s;clear Q;refine ax ?_;have d0:Id.is S m=false:=Fi P j;have d5:(D.set i {x with dead:=true}).map Aw++X=(D.map Aw++X).set i [.int .i64 x.pp,.bool true]:=by
    rw[Ro _ _ (by simpa using bx),JP];rfl
   obtain⟨Y,bk,_⟩:=e.1.step (b':=b+28) AA (Dc (N:=DX (b+1) (b+28) π) (st:=⟨{st.d8 with ac:=D},st.ev,st.work⟩) (st':=⟨{st.d8 with ac:=K0 st.d8.ac at_ (i+1)},st.ev,st.work⟩) 0 AA e.1.rep (e.1.apartB y.1) (XN rfl rfl rfl) rfl (.f8 S 0 D.length) (g.put S (.em 2 ((D.map Aw++X).set i [.int .i64 x.pp,.bool true]))) (by rw[get_put,d0];exact j.trans (by rw[<-I];rfl)) (Ao X (by simp only[Ax,As];rw[NX _ _ AA];exact dr.1) (by rw[get_put,is_self,<-d5,<-Z.1];rfl)) (.inl (by rw[I])) fun id b1 a0 b6=>by rw[get_put,a0 S zEn];rfl)
   exact IH.1 (i+1,_,b+27) AU ⟨AU,⟨Y,bk⟩⟩
  |false=>
   rw[K,Bool.or_false]at Z;rw[K]at bv;replace s:=AB s;clear Q;refine ax ?_;refine IH.1 (i+1,g,b+18) AU ⟨AU,⟨f,?_⟩⟩;have:K0 st.d8.ac at_ (i+1)=D:=by
    rw[Z.1];exact RH cc
   dsimp only;rw[this];exact e.1.up AA
 .have K:i=st.d8.ac.length:=AA;have d3: ¬(i:Int)<st.d8.ac.length:=AA;rw[r,K,UR]at s;rw[K,UR]at e;clear r D;obtain⟨D,r⟩: ∃D,D=MX st.d8.ac at_:=⟨_,rfl⟩;rw[kI,<-r];rw[<-r]at e s;replace r:=AB r;replace K:=AB K;replace e:=AB e;replace s:=AB s
  (repeat' (first|simp only[go_sem, *,↓Q,AM]|(refine sx ?_ ?_<;>intro cp)|refine sy AA fun x av ag=>?_|simp(disch:=first|assumption|omega) only[AR]))
  refine Ah st.d8.waits (S:=fun k (a:(AD×AV)×Nat)=>⟨[(0,.ptr m 0),(5,a.1.2),(6,nI k)],a.1.1,a.2+11,[]⟩)
   (Inv:=fun k d9 a=>b<=a.2/\AH (Bu (Ba p false) false π m V h (b+11) f ⟨{st.d8 with ac:=D},st.ev,st.work⟩ a.1.1)/\AH ((a.1.2=.d7/\(st.d8.waits.take k).filter (fun w=> !Ak D w.at_)=[])\/ ∃n,b+11<=n/\n<a.2+11/\a.1.2=.f8 (1::n::π) 0 ((st.d8.waits.take k).filter fun w=> !Ak D w.at_).length/\a.1.1.get (1::n::π)=some (.em 3 (((st.d8.waits.take k).filter fun w=> !Ak D w.at_).map Ae)))) (b0:=((g,.d7),b)) ⟨Es _,⟨e.1.up AA⟩,⟨.inl ⟨rfl,rfl⟩⟩⟩ ?_ ?_
  .clear e Q j;rintro k w ⟨⟨g,v⟩,c⟩ a6 ad L ⟨bl,e,u⟩ O;dsimp only at*;have j:=e.1.rep.box;simp only[Ba]at j;have b8:=s.1;have a7:=U.1.wait w (AS a6);simp only[Cc,AP,Ap]at a7;obtain⟨f2,d'⟩:=a7.1;obtain⟨sp,ar⟩:=get_some (l:=D) (i:=w.at_.toNat) AA;obtain⟨S,X,I,P,c3,bx,c1⟩:=FV (e.1.rep.sl 0 AA) ar;obtain⟨W,zs,cn,dq,f3,e8,e'⟩:=FV (jV (e.1.rep.sl 2 AA) a6) a6;simp only[Dt]at P dq;rw[I,cn]at j;have e3:(k:Int)<st.d8.waits.length:=L;have ea:IntKind.i64.wrap ((k:Int)+1)=(k:Int)+1:=wrap_id AA AA;have J:Ak D w.at_=sp.dead:=by rw[Ak,ar];rfl
   obtain⟨F,z⟩: ∃F,F=(st.d8.waits.take k).filter fun w=> !Ak D w.at_:=⟨_,rfl⟩;have B:(st.d8.waits.take (k+1)).filter (fun w=> !Ak D w.at_)=if sp.dead=true then F else F++[w]:=by
    rw[GC,a6,TY,z,Option.toList_some,Rw,J];cases sp.dead<;>simp
   rw[<-z]at u;have e0:F.length<=40:=by
    rw[z];exact IP (List.length_filter_le _ _) zFN
   have fd:=C4 (b':=0) y.1 (e.1.ids m (f.m_mem m));have fi:=C4 (b':=0) y.1 (e.1.ids S (f.s_mem m (i:=0) AA zEn));have fk:=C4 (b':=0) y.1 (e.1.ids W (f.s_mem m (i:=2) AA zE0));replace J:=AB J;replace z:=AB z;replace b8:=AB b8;replace a7:=AB a7;cases ai:sp.dead with
   |true=>
    rw[ai,D4 rfl]at B;refine ax ?_;refine O.1 ((_,_),c+29) ⟨AU,e,⟨?_⟩⟩;dsimp only;rw[B];rcases u.1 with h|⟨n,az,b2,d7⟩
    .exact .inl h
    .exact .inr ⟨n,az,AA,d7⟩
   |false=>
    rw[ai,Ci AG]at B;replace B:=AB B;rcases u.1 with⟨rfl,M⟩|⟨n,az,b2,rfl,bc⟩
    .replace M:=AB M;refine ax ?_;refine O.1 ((_,_),c+41) ⟨AU,⟨e.1.loc y.1 fun id t=>?_⟩,⟨.inr ⟨c+47,AA,AU,?_,?_⟩⟩⟩
     .have a':=t 1 (c+46) AA;have b3:=t 1 (c+47) AA;simp only[go_sem,a',b3,AM]
     .rw[B.1,M.1];rfl
     .rw[B.1,M.1];simp only[go_sem];first|done|rfl
    .have f1:List.take F.length (F.map Ae)=F.map Ae:=Bi AG;have c7: ¬c+46=n:=AA;have c8: ¬n=c+46:=AA;have es: ¬c+47=n:=AA;have c9: ¬n=c+47:=AA;refine ax ?_;refine O.1 ((_,_),c+41) ⟨AU,⟨e.1.loc y.1 fun id t=>?_⟩,⟨.inr ⟨c+47,AA,AU,?_,?_⟩⟩⟩
     .have a':=t 1 (c+46) AA;have b3:=t 1 (c+47) AA;have d8:=t 1 n AA;simp only[go_sem,a',b3,d8,AM]
     .rw[B.1,Be];rfl
     .rw[B.1,BE];simp only[go_sem];first|done|rfl
  .clear e Q j;rintro k ⟨⟨g,v⟩,c⟩ ad L ⟨bl,e,u⟩;dsimp only at*;rw[ad.1,D2]at u;obtain⟨F,z⟩: ∃F,F=st.d8.waits.filter fun w=> !Ak D w.at_:=⟨_,rfl⟩;rw[<-z]at u⊢;have j:=e.1.rep.box;simp only[Ba]at j;have a5:=zy (e.1.rep.sl 2 AA);simp only[Ax,As]at a5;have C:=KC e.1.rep.arr;rw[e.1.rep.be.len]at C;dsimp only at C;have d4: ¬(k:Int)<st.d8.waits.length:=L;have d6:v.isCell=true/\v.cells=[v]:=by rcases u.1 with⟨rfl,_⟩|⟨n,_,_,rfl,_⟩<;>exact⟨rfl,rfl⟩
   obtain⟨v0,v1⟩:=d6;replace z:=AB z;have bs:AH (∀H:AD,H.get m=some (.box (Ba p false (f.ip 2 v) st.work))->(∀id,Id.is m id=false->H.get id=g.get id)-> ∃Y,Bu (Ba p false) false π m V h (c+26) Y ⟨⟨D,st.d8.ce,MW D st.d8.be 0,F⟩,st.ev,st.work⟩ H):=⟨fun H b4 b5=>by
    rw[W2];obtain⟨Y,bk,_⟩:=e.1.step (b':=c+26) AA (Dc (N:=DX (b+11) (c+26) π) (st:=⟨{st.d8 with ac:=D},st.ev,st.work⟩) (st':=⟨{st.d8 with ac:=D,waits:=F},st.ev,st.work⟩) 2 AA e.1.rep (e.1.apartB y.1) (XO rfl rfl rfl) rfl v H b4 (by
     refine Or.inl ?_;rcases u.1 with⟨rfl,M⟩|⟨n,az,b2,rfl,bc⟩
     .exact .inl ⟨rfl,by show F.map Ae=[];rw[M];rfl⟩
     .exact Ao [] (by simp[Ax]) (by rw[b5 _ (c' 1 n),bc,CI];rfl)) (.inr fun id t=>by
     rcases u.1 with⟨rfl,M⟩|⟨n,az,b2,rfl,bc⟩
     .simp[AE]at t
     .simp only[AE,Ac]at t;subst t;exact⟨CQ n [1] az AA,_,rfl⟩) fun id b1 a0 b6=>b5 id b1)
    exact⟨Y,bk⟩⟩
   replace u:=AB u
   (repeat' (first|simp only[go_sem, *,↓a5,↓C,AM]|(refine sx ?_ ?_<;>intro cp)|refine sy AA fun x av ag=>?_|simp(disch:=first|assumption|omega) only[AR]))
   refine Ah st.d8.be (S:=fun k (a:AD×Nat)=>⟨[(0,.ptr m 0),(7,nI k)],a.1,a.2+26,[]⟩)
    (Inv:=fun k d9 a=>AH (∃f,Bu (Ba p false) false π m V h (a.2+26) f ⟨⟨D,st.d8.ce,MW D st.d8.be k,F⟩,st.ev,st.work⟩ a.1)) (b0:=(_,c)) ⟨bs.1 _ ?_ fun id b1=>?_⟩ ?_ ?_
   .simp only[go_sem,Ba];first|done|rfl
   .exact zDa
   .clear bs e u v0 v1 a5 C j bl g v c f;rintro k q ⟨g,c⟩ R ad L e O;dsimp only at*;obtain⟨f,e⟩:=e.1;have j:=e.rep.box;simp only[Ba]at j;have cx:=(QK ds U.1 R).at_;have fl:=cx.1;have a':=cx.2;obtain⟨fp,T,e4⟩:=e.rep.be.row _ _ (OZ (l:=D) R);rcases e.rep.arr with⟨_,a1⟩|⟨A,a1,dn⟩
    .rw[a1]at T;simp at T
    have e7:=AK T;have e5:f.rows.length=st.d8.be.length:=by
     have:=e.rep.be.len;simp only at this;rw[this,aN _ _ (by have:=AK R;omega)]
    have b7:=s.1;obtain⟨sp,ar⟩:=get_some (l:=D) (i:=q.at_.toNat) AA;obtain⟨S,X,I,P,c3,bx,c1⟩:=FV (e.rep.sl 0 AA) ar;simp only[Dt]at P;rw[I,a1]at j;have ea:IntKind.i64.wrap ((k:Int)+1)=(k:Int)+1:=wrap_id AA AA;have e2:(k:Int)<st.d8.be.length:=L;have cs:AH (MW D st.d8.be (k+1)=(MW D st.d8.be k).set k (O8 D q)):=⟨W1 R⟩;have J:Ak D q.at_=sp.dead:=by rw[Ak,ar];rfl
    have d1:=AB fun h'=>N1 (N:=DX (c+26) (c+63) π) e.rep (e.apartB y.1) a1 (OZ (l:=D) R) T [] .d7 h';have e6:=AB T;simp only[A6]at T;replace b7:=AB b7;replace e:=AB e;replace J:=AB J;cases ai:sp.dead with
    |true=>
     refine ax ?_;have bo:O8 D q={q with queue:=[]}:=by rw[O8,J.1,ai,D4 rfl]
     have c4:Id.is A m=false:=Fi dn j;obtain⟨c5,cl,_⟩:=e.1.step (b':=c+63) AA (d1.1 (g.put A (.arr 4 (f.rows.set k [nI q.group,nI q.index,nI q.at_,.d7]))) (by rw[get_put,c4];exact e.1.rep.box) (by rw[get_put,is_self];rfl) (.inl (.inl ⟨rfl,rfl⟩)) (.inr fun id t=>by simp[AE]at t) fun id b1 a0 b6 eb=>by rw[get_put,a0];rfl);refine O.1 (_,c+37) ⟨c5,?_⟩;dsimp only at cl⊢;rw[cs.1,bo];exact cl
    |false=>
     refine ax ?_;have bo:O8 D q=q:=by rw[O8,J.1,ai,Ci AG]
     refine O.1 (_,c+28) ⟨f,?_⟩;dsimp only;rw[cs.1,bo,RH (OZ (l:=D) R)];exact e.1.up AA
   .clear bs e u v0 v1 a5 C j bl g v c f;rintro k ⟨g,c⟩ ad L e;dsimp only at*;obtain⟨f,e⟩:=e.1;rw[ad.1,aL]at e;have j:=e.rep.box;simp only[Ba]at j;have C:=KC e.rep.arr;rw[e.rep.be.len]at C;simp only[As]at C;have d4: ¬(k:Int)<st.d8.be.length:=L;replace e:=AB e
    (repeat' (first|simp only[go_sem, *,↓C,AM]|(refine sx ?_ ?_<;>intro cp)|refine sy AA fun x av ag=>?_|simp(disch:=first|assumption|omega) only[AR]))
    exact⟨rfl,f,e.1.rep,fun id t=>(e.1.ids id t).imp_right fun⟨n,_,h2,h3⟩=>⟨BM h2,h3⟩,e.1.frame⟩
def eB{p:AX}{sz:List Int}(b4:BP p sz){h:AD}{π:List Nat}{m:Abs.Id}{V:MV}{st:CW}(P:Bx π V m)(bx:Fo p sz st.d8){i:Nat}{w:Gg}(bl:st.d8.waits[i]? =some w)(h2:ol p st.d8 w=true)(e1:st.ev.length<=400000){q:BU}(J:q={st.d8 with waits:=CY st.d8.waits i})
 {e:CA} {g:AD} {b:Nat} {U:MV} (es:e.get 0=.ptr m 0) (ex:e.get 4=.ptr (0::8::π) 0) (e0:30<=b) (X:Bu (Ba p false) false π m V h b U ⟨q,st.ev,0⟩ g)
 (e4:g.get (0::8::π)=some (.box [nI w.at_,nI w.node,.d (.bv (w.env.map AN))])):
 Wp cfg kT ⟨105,π,true,none,false,139⟩ 0 (Vj 2 (Tryz.f105.body.get rfl)) ⟨e,g,b,[]⟩ (K1 cfg none [] π true (Jx p π m V h (Hy p st.d8 st.ev ⟨i,0,0,[]⟩))):=by
 have d7:=P m (V.m_mem m);have F:=AI d7;have I:=Aj d7;have b2:=bx.small;simp only[BU.small,AP,Ap]at b2;obtain⟨e6,e7,e8,e'⟩:=b2;have c3:=bx.wait w (AS bl);obtain⟨bs,Y⟩:=O5 b4 c3;have c2:Fo p sz q:=by
  rw[J];exact O2 bx zFq fun v a'=>bx.wait v (Ob a')
 have a4:=Y.node;have e2:=Y.n0;have e3:=AK a4;have d1:=Y.op;have a5:=X.rep.box;simp only[Ba]at a5;obtain⟨N,el⟩: ∃N,b=N+30:=⟨b-30,AA⟩;subst el;replace P:=AB P;replace X:=AB X;replace bx:=AB bx;replace Y:=AB Y;replace c3:=AB c3;replace J:=AB J;have dq:AH (∀(H:AD) (n:Nat) (E:Eg),(∃W,Bu (Ba p false) false π m V h n W ⟨q,st.ev++[E],0⟩ H)-> ∃o g1,kT (.fn 164) [.ptr m 0,nI w.at_] H (n::π) true none=.ok (o,g1)/\o=.ret (.ii [])/\Jx p π m V h (some ⟨PR q w.at_,st.ev++[E],0⟩) (.ret (.ii [])) (gc (n::π) g1)):=⟨fun H n E a6=>by
  obtain⟨W,a6⟩:=a6;obtain⟨o,g1,Q,R⟩:=yf (st:=⟨q,st.ev++[E],0⟩) b4 a6.rep (a6.apart P.1 (n:=n) (Es _)) c2 (at_:=w.at_) (by rw[J.1];exact Y.1.at_);obtain⟨T,D⟩:=ZJ P.1 a6 (Es _) R;exact⟨o,g1,Q,T,Gz D⟩⟩
 have c0:AH (∀(u:Int) (b6:BU),Fo p sz b6->CT p sz b6 ⟨u,w.at_,w.env⟩-> ∀(H:AD) (n:Nat) (E:Eg),(∃W,Bu (Ba p false) false π m V h n W ⟨b6,st.ev++[E],0⟩ H)-> ∃o g1,kT (.fn 87) [.ptr m 0,nI u,nI w.at_,.d (.bv (w.env.map AN))] H (n::π) true none=.ok (o,g1)/\o=.ret (.ii [])/\Jx p π m V h (Eu p 401 ⟨u,w.at_,w.env⟩ ⟨b6,st.ev++[E],0⟩) (.ret (.ii [])) (gc (n::π) g1)):=⟨fun u b6 d' ea H n E a6=>by
  obtain⟨W,a6⟩:=a6;obtain⟨o,g1,Q,R,T⟩:=J2 (UW b4 401) P.1 (r:=some ⟨b6,st.ev++[E],0⟩) (E:=[]) ⟨W,a6,fun i K=>by cases K⟩ ⟨u,w.at_,w.env⟩ (fun st' e=>by cases e;exact⟨⟨d',AU,AU,AU,Aa⟩,ea⟩) H n (Es _) (fun _ _=>rfl) fun i K=>by cases K
  exact⟨o,g1,Q,R,Gz T.run⟩⟩
 have b7:AH (∀(E:Eg) (c:Nat),N+30<=c-> ∀H:AD,(∃L,H.get m=some (.box (Ba p false (U.ip 3 L) 0))/\KJ H 5 L ((st.ev++[E]).map Dk)/\(AE L=AE (U.s 3)\/ ∀id∈AE L,DX (N+30) c π id=true/\ ∃l,id=1::l))->(∀id,Id.is m id=false->(∀de∈AE (U.s 3),Id.is de id=false)->DX (N+30) c π id=false->H.get id=g.get id)-> ∃W,Bu (Ba p false) false π m V h c W ⟨q,st.ev++[E],0⟩ H):=⟨fun E c c9 H ⟨L,A1,A2,A3⟩ A4=>by
  obtain⟨W,b3,_⟩:=X.1.step (b':=c) c9 (Dc (st':=⟨q,st.ev++[E],0⟩) 3 AA X.1.rep (X.1.apartB P.1) (kU rfl) rfl L H A1 A2 A3 A4);exact⟨W,b3⟩⟩
 have a1:AH (∀sp,st.d8.ac[w.at_.toNat]? =some sp-> ∀n:Int,∃S ai,U.s 0=.f8 S 0 st.d8.ac.length/\g.get S=some (.em 2 (st.d8.ac.map Aw++ai))/\(st.d8.ac.map Aw++ai)[w.at_.toNat]? =some (Aw sp)/\w.at_.toNat<st.d8.ac.length/\w.at_.toNat<st.d8.ac.length+ai.length/\(∀a n,N+30<=n->Id.is (a::n::π) S=false)/\(∀a n,N+30<=n->Id.is S (a::n::π)=false)/\(∀k,Id.is S (0::k::π)=false)/\Id.is S m=false/\Id.is m S=false/\(∀i∈AE (U.s 3),Id.is S i=false/\Id.is i S=false)/\
  ∀(E:Eg) (c:Nat),N+30<=c-> ∀H:AD,(∃L,H.get m=some (.box (Ba p false (U.ip 3 L) 0))/\KJ H 5 L ((st.ev++[E]).map Dk)/\(AE L=AE (U.s 3)\/ ∀id∈AE L,DX (N+30) c π id=true/\ ∃l,id=1::l))->H.get S=some (.em 2 ((st.d8.ac.map Aw++ai).set w.at_.toNat [.int .i64 n,.bool sp.dead]))->(∀id,Id.is m id=false->Id.is S id=false->(∀de∈AE (U.s 3),Id.is de id=false)->DX (N+30) c π id=false->H.get id=g.get id)-> ∃W,Bu (Ba p false) false π m V h c W ⟨{q with ac:=FY q.ac w.at_ n},st.ev++[E],0⟩ H):=⟨fun sp b5 n=>by
  have b2:q.ac=st.d8.ac:=by rw[J.1]
  obtain⟨S,ai,cs,a2,c5,cl,c4⟩:=FV (X.1.rep.sl 0 AA) (show q.ac[w.at_.toNat]? =some sp by rw[b2];exact b5);simp only[Dt,b2]at a2 c5 cl c4 cs;have c8:=U.s_mem m (i:=0) AA (id:=S) (by rw[cs];simp[AE]);have d6:=X.1.ids S c8;have Z:Id.is S m=false:=Fi a2 a5;have av:Id.is m S=false:=Fi a5 a2;have M: ∀i∈AE (U.s 3),g.get i≠some (.em 2 (st.d8.ac.map Aw++ai)):=fun i K=>by
   rcases X.1.rep.sl 3 AA with⟨a',_⟩|⟨E,bk,a',b8⟩
   .rw[a']at K;simp[AE]at K
   .rw[a']at K;simp only[AE,Ac]at K;rw[K,b8];simp[Dt]
  refine⟨S,ai,cs,a2,c5,cl,c4,fun a n dd=>C4 (b':=0) P.1 d6 a n dd,fun a n dd=>En P.1 d6 a n dd,fun k=>AF fun e=>Dv X.1 P.1 k (by rw[<-e];exact c8),Z,av,fun i K=>⟨AF fun e=>M i K (by rw[<-e];exact a2),AF fun e=>M i K (by rw[e];exact a2)⟩,fun E c c9 H ⟨L,A1,A2,A3⟩ A5 A4=>?_⟩;have em: ∀i∈AE L,Id.is S i=false:=fun i K=>AF fun e=>by
   rcases A3 with a|a
   .rw[a,<-e]at K;exact M _ K a2
   .have:=(a i K).1;rw[<-e,X.1.apartB P.1 S c8]at this;cases this
  have dn:(H.put S (.em 2 (st.d8.ac.map Aw++ai))).get m=some (.box (Ba p false (U.ip 3 L) 0)):=by
   rw[get_put,Z];exact A1
  obtain⟨W,b3⟩:=b7.1 E c c9 (H.put S (.em 2 (st.d8.ac.map Aw++ai))) ⟨L,dn,by
   rcases A2 with a|⟨i,x,a,d⟩
   .exact .inl a
   .exact .inr ⟨i,x,a,by rw[get_put,em i (by rw[a];simp[AE])];exact d⟩,A3⟩ fun id b1 O f=>by
    cases t:Id.is S id with
    |true=>
     have:S=id:=Decidable.byContradiction fun h=>by rw[AF h]at t;cases t
     rw[get_put,t,<-this];exact a2.symm
    |false=>rw[get_put,t];exact A4 id b1 t O f
  have c6:W.s 0=.f8 S 0 st.d8.ac.length:=by
   have:=Obj.box.inj (Ip (dn.symm.trans b3.rep.box));simp only[Ba,Ms]at this;rw[<-cs];exact this.2.2.2.2.1.symm
  obtain⟨d9,en,_⟩:=b3.step (b':=c) (Es _) (Dc (st':=⟨{q with ac:=FY q.ac w.at_ n},st.ev++[E],0⟩) 0 AA b3.rep (b3.apartB P.1) (XN rfl rfl rfl) rfl (.f8 S 0 st.d8.ac.length) H (by
   have e:=b3.rep.box;rw[get_put,Z]at e;rw[show H.get m=_ from e];simp only[Ba,c6];rfl) (Ao ai (by rw[Ax,As,Ji,b2]) (by
    rw[A5,Ax,Ro _ _ (by simpa using cl)];have:FY q.ac w.at_ n=st.d8.ac.set w.at_.toNat {sp with pp:=n}:=by rw[FY,b2];simp only[b5]
    rw[this,JP];rfl)) (.inl (by rw[c6])) fun id b1 O f=>by rw[get_put,O S (by rw[c6];simp[AE])];rfl)
  exact⟨d9,en⟩⟩
 have dr:AH (∀u,bs.kids=[u]->CT p sz q ⟨u,w.at_,w.env⟩):=⟨fun u y=>by
  have:=OQ b4 c3.1 a4 0;rw[show BN bs 0 w.at_ w.env=[⟨u,w.at_,w.env⟩] by rw[BN,y];rfl]at this;rw[J.1];exact KO (this _ AG) _⟩
 have cp:AH (∀(u:Int) (v:Cm),bs.op=6->bs.kids=[u]->IL w.env bs.n=v->Fo p sz {q with ac:=FY q.ac w.at_ v.n}/\CT p sz {q with ac:=FY q.ac w.at_ v.n} ⟨u,w.at_,w.env⟩):=⟨fun u v cp y ag=>by
  obtain⟨L,_,d4,ch⟩:=Y.1.val AA;rw[ag]at d4;subst d4;have a3:=h2;rw[ol,a4]at a3;simp only[cp,Int.reduceEq,FN,F6,ag]at a3;have d0:v.kind=4:=by
   by_cases ds:v.kind=4
   .exact ds
   .rw[Ci ds]at a3;cases a3
  rw[D4 d0]at a3;obtain⟨d8,_⟩:=ch d0;simp only[AP,Ap,HW]at a3;have d2:0<w.at_:=by have:=Y.1.at_.1;omega
  refine⟨MA c2 d2 (by rw[J.1];exact Y.1.at_) (by rw[J.1];exact d8) (by rw[J.1];exact a3.2.1) (by rw[J.1];exact a3.2.2),?_⟩;have:=OQ b4 ((MA bx.1 d2 Y.1.at_ d8 a3.2.1 a3.2.2).wait w (AS bl)) a4 0;rw[show BN bs 0 w.at_ w.env=[⟨u,w.at_,w.env⟩] by rw[BN,y];rfl]at this;rw[J.1];exact KO (this _ AG) (CY st.d8.waits i)⟩
 have val:=fun c7: ¬bs.op=7=>Y.1.val c7;have y:=fun c7: ¬bs.op=7=>eC b4 Y.1 c7;have c1:=Y.1.n;have cx:=Y.1.at_;have d3:=AB c2;clear c2;rcases X.1.rep.sl 3 AA with⟨j,bo⟩|⟨E,bk,j,b8⟩
 .have z:=trivial;have C:=trivial;have A:=trivial;have B:=trivial;have ek:=trivial;rw[j]at a5;replace j:=AB j;replace bo:AH (st.ev=[]):=⟨D5.1 bo⟩;simp only[Tryz.f105,I3,Vj];rcases d1 with ad|ad|ad
  .obtain⟨v,a',ag,ch⟩:=val AA;obtain⟨u,y⟩:=y AA;obtain⟨df,dm⟩:=c1 AA;have eb:=cx.1;have ej:=cx.2;obtain⟨sp,b5⟩:=get_some (l:=st.d8.ac) (i:=w.at_.toNat) AA;obtain⟨S,ai,cc,a2,c5,cl,c4,bc,be,bv,Z,av,bi,a1⟩:=a1.1 _ b5 v.n;have ar:=trivial;have M:=trivial;try replace ar:=(bi E zEx).1
   try replace M:=(bi E zEx).2
   replace bi:=AB bi;replace a1:=AB a1;have a7:=cp.1 u v ad y ag;rw[Vg bl a4 ad y ag,show({st.d8 with waits:=CY st.d8.waits i,ac:=FY st.d8.ac w.at_ v.n}:BU)={q with ac:=FY q.ac w.at_ v.n} by rw[J.1]]
   rw[cc]at a5;replace a7:=AB a7;refine aw ?_;refine Ad (c0.1 _ _ a7.1.1 a7.1.2 _ _ ⟨2,w.at_,v.n,0,[]⟩ (a1.1 _ _ AA _ ?_ ?_ fun id b1 b0 O f=>?_)) (fun cn g1 az=>?_)
   .apply Exists.intro;refine⟨?_,?_,?_⟩
    .exact zCw
    .first
     |(refine Ao [] (by simp[bo.1]) ?_
       simp only[CI,BE,By,BY,bo.1];simp only[go_sem,bv,bc,be,Z,av,M,ar,F,I,A,B,z,C,AM,CE]
       done)
     |(refine Ao bk AG ?_
       simp only[BE,By,BY,DO,Cs,CE];simp only[go_sem,bv,bc,be,Z,av,M,ar,F,I,A,B,z,C,AM]
       done)
    .exact zDH
   .simp only[go_sem,bc,be,Z,av,M,ar]
   .exact zBI
   obtain⟨a0,s⟩:=az;subst a0;replace s:=AB s;refine aw ?_;exact s.1
  .rw[P1 bl a4 ad,<-J.1];refine aw ?_;refine Ad (dq.1 _ _ ⟨3,w.at_,0,0,[]⟩ (b7.1 _ _ AA _ ?_ fun id b1 O f=>?_)) (fun cn g1 az=>?_)
   .apply Exists.intro;refine⟨?_,?_,?_⟩
    .exact zB5
    .exact zA5
    .exact zDI
   .exact zCi
   obtain⟨a0,s⟩:=az;subst a0;replace s:=AB s;refine aw ?_;exact s.1
  .obtain⟨v,a',ag,ch⟩:=val AA;obtain⟨u,y⟩:=y AA;obtain⟨df,dm⟩:=c1 AA;rw[P2 bl a4 ad y ag,<-J.1];have c':=dr.1 _ y;refine aw ?_;refine Ad (c0.1 _ _ d3.1 c' _ _ ⟨4,w.at_,v.n,0,[]⟩ (b7.1 _ _ AA _ ?_ fun id b1 O f=>?_)) (fun cn g1 az=>?_)
   .apply Exists.intro;refine⟨?_,?_,?_⟩
    .exact zB5
    .exact zA5
    .exact zDJ
   .exact zCj
   obtain⟨a0,s⟩:=az;subst a0;replace s:=AB s;refine aw ?_;exact s.1
 .have d5:=X.1.ids E (U.s_mem m (i:=3) AA (by rw[j];simp[AE]));have ek: ∀k,Id.is E (0::k::π)=false:=fun k=>AF fun e=>Dv X.1 P.1 k (by rw[<-e];exact U.s_mem m (i:=3) AA (by rw[j];simp[AE]));have A:=C4 (b':=0) P.1 d5;have B:=En P.1 d5;have z:Id.is E m=false:=Fi b8 a5;have C:Id.is m E=false:=Fi a5 b8;simp only[Dt,Ax,As]at b8 j;rw[j]at a5;replace j:=AB j;rcases bk with _|⟨e5,bk⟩;all_goals
   simp only[Tryz.f105,I3,Vj];rcases d1 with ad|ad|ad
   .obtain⟨v,a',ag,ch⟩:=val AA;obtain⟨u,y⟩:=y AA;obtain⟨df,dm⟩:=c1 AA;have eb:=cx.1;have ej:=cx.2;obtain⟨sp,b5⟩:=get_some (l:=st.d8.ac) (i:=w.at_.toNat) AA;obtain⟨S,ai,cc,a2,c5,cl,c4,bc,be,bv,Z,av,bi,a1⟩:=a1.1 _ b5 v.n;have ar:=trivial;have M:=trivial;try replace ar:=(bi E zEx).1
    try replace M:=(bi E zEx).2
    replace bi:=AB bi;replace a1:=AB a1;have a7:=cp.1 u v ad y ag;rw[Vg bl a4 ad y ag,show({st.d8 with waits:=CY st.d8.waits i,ac:=FY st.d8.ac w.at_ v.n}:BU)={q with ac:=FY q.ac w.at_ v.n} by rw[J.1]]
    rw[cc]at a5;replace a7:=AB a7;refine aw ?_;refine Ad (c0.1 _ _ a7.1.1 a7.1.2 _ _ ⟨2,w.at_,v.n,0,[]⟩ (a1.1 _ _ AA _ ?_ ?_ fun id b1 b0 O f=>?_)) (fun cn g1 az=>?_)
    .apply Exists.intro;refine⟨?_,?_,?_⟩
     .exact zCw
     .first
      |(refine Ao [] AG ?_
        simp only[CI,BE,By,BY];simp only[go_sem,bv,bc,be,Z,av,M,ar,F,I,A,B,z,C,AM,CE]
        done)
      |(refine Ao bk AG ?_
        simp only[BE,By,BY,DO,Cs,CE];simp only[go_sem,bv,bc,be,Z,av,M,ar,F,I,A,B,z,C,AM]
        done)
     .exact zDH
    .simp only[go_sem,bc,be,Z,av,M,ar]
    .exact zBI
    obtain⟨a0,s⟩:=az;subst a0;replace s:=AB s;refine aw ?_;exact s.1
   .rw[P1 bl a4 ad,<-J.1];refine aw ?_;refine Ad (dq.1 _ _ ⟨3,w.at_,0,0,[]⟩ (b7.1 _ _ AA _ ?_ fun id b1 O f=>?_)) (fun cn g1 az=>?_)
    .apply Exists.intro;refine⟨?_,?_,?_⟩
     .exact zB5
     .exact zBA
     .exact zDI
    .exact zCi
    obtain⟨a0,s⟩:=az;subst a0;replace s:=AB s;refine aw ?_;exact s.1
   .obtain⟨v,a',ag,ch⟩:=val AA;obtain⟨u,y⟩:=y AA;obtain⟨df,dm⟩:=c1 AA;rw[P2 bl a4 ad y ag,<-J.1];have c':=dr.1 _ y;refine aw ?_;refine Ad (c0.1 _ _ d3.1 c' _ _ ⟨4,w.at_,v.n,0,[]⟩ (b7.1 _ _ AA _ ?_ fun id b1 O f=>?_)) (fun cn g1 az=>?_)
    .apply Exists.intro;refine⟨?_,?_,?_⟩
     .exact zB5
     .exact zBA
     .exact zDJ
    .exact zCj
    obtain⟨a0,s⟩:=az;subst a0;replace s:=AB s;refine aw ?_;exact s.1
def oU{p:AX}{sz:List Int}{s:BU}{st:CW}{h:AD}{π:List Nat}{m:Abs.Id}{V:MV}(Y:BP p sz)(f:J4 p sz h m V st)(bl:st.d8=s)(S:Bx π V m)(J:Fo p sz s): ∃o h',kT (.fn 108) [.d7,.fn 52 [.ptr m 0] []] h π true none=.ok (o,h')/\ ∃v,o=.ret v/\KJ h' 4 v ((CG p s).map Cr)/\(∀i∈AE v,Id.under π i=true/\ ∃l,i=1::l)/\ ∀i,Id.under π i=false->h'.get i=h.get i:=by
 subst bl;have bk:=O4 Y J;replace f:=AB f;replace Y:=AB Y;replace J:=AB J;replace S:=AB S;refine BR Tryz.func108 ?_;refine aw ?_;refine z9 fun r0 a7=>?_;obtain⟨ad,j⟩: ∃ad:List FH->(Abs.Id->Prop)->AD->Prop,ad=fun l M g=>g.get (0::3::π)=some (.loop r0)/\(∀i,M i-> ∃l,i=1::l)/\ ∃v pre,CG p st.d8=pre++l/\g.get (0::0::π)=some (.box [v])/\KJ g 4 v (pre.map Cr)/\ ∀i∈AE v,M i:=⟨_,rfl⟩;have a2:ND r6 (0::3::π) (fun i=>i=0::3::π\/i=0::0::π) ad (fun _ _=>False) (4::π):=by
  refine⟨.inl rfl,fun i a=>?_,fun h=>?_,fun h=>?_,fun{x l M H ρ v r} a3 a6 az ac ar b'=>?_,fun h J=>?_,fun h _=>h.elim⟩
  .rcases a with rfl|rfl
   .exact Au π AA
   .exact Au π AA
  .rw[j]at h;exact h.2.1
  .rw[j]at h;exact⟨_,h.1⟩
  .rw[j]at a3;obtain⟨ai,z,b3,pre,u,ag,F,f⟩:=a3;rw[ai]at a6;cases a6;have a4:=congrArg List.length u;rw[Be,List.length_cons]at a4;obtain⟨cs,rfl,a5⟩:=az;have be:=ac _ (Au (k:=3) (n:=4) π AA);have bc:=ac _ (Au (k:=0) (n:=4) π AA);have b2:=AI be;have b4:=Aj be;have b1:=AI bc;have b0:=Aj bc;subst a7;replace j:=AB j;replace u:=AB u;replace f:=AB f;replace z:=AB z;replace ac:=AB ac;replace ar:=AB ar;rcases F with⟨rfl,a'⟩|⟨A,Q,rfl,U⟩
   .have bo:=D5.1 a';subst bo;clear a' a4;rcases a5 with⟨rfl,O⟩|⟨X,rfl,N,P,rfl⟩
    .have I:Cr x=[.int .i64 x.wait,.int .i64 x.group,.int .i64 x.wn,.bv []]:=by rw[Cr,O];rfl
     replace O:=AB O;replace I:=AB I;refine Hq rfl ?_;refine aw ?_;refine .inl ⟨rfl,fun i=>i=1::5::ρ,?_,fun i a=>.inr (.inr ⟨5,ρ,a,Ar []⟩),fun i c D L y=>?_⟩
     .rw[j.out];refine⟨?_,fun i a=>⟨_,a⟩,.f8 (1::5::ρ) 0 1,[x],u.out,?_,Ao [] rfl ?_,fun i a=>by simpa[AE]using a⟩
      .simp only[go_sem]
      .simp only[go_sem]
      .rw[By,I.out];simp only[go_sem]
     .have C:=AF fun e=>c (.inl e.symm);have B:=AF fun e=>c (.inr e.symm);have t:=AI y;simp only[go_sem,B,t,C,AM]
    .replace N:=N;refine Hq rfl ?_;refine aw ?_;refine .inl ⟨rfl,fun i=>i=1::5::ρ,?_,fun i a=>.inr (.inr ⟨5,ρ,a,Ar []⟩),fun i c D L y=>?_⟩
     .rw[j.out];refine⟨?_,fun i a=>⟨_,a⟩,.f8 (1::5::ρ) 0 1,[x],u.out,?_,Ao [] rfl ?_,fun i a=>by simpa[AE]using a⟩
      .simp only[go_sem]
      .simp only[go_sem]
      .rw[By,Cr];simp only[go_sem]
     .have T:Id.is (1::P) i=false:=AF fun e=>L (by simp[AE,A9,e]);have C:=AF fun e=>c (.inl e.symm);have B:=AF fun e=>c (.inr e.symm);have t:=AI y;simp only[go_sem,B,t,C,T,AM]
   .obtain⟨w,rfl⟩:=z.out A (f.out A BH);have bi:=ar.out (1::w) (f.out _ BH);have b5:=AI bi;have b6:=Aj bi;have Z:AH (CG p st.d8=(pre++[x])++l):=⟨by rw[u.out,DO];rfl⟩;rw[As]at ag;rcases a5 with⟨rfl,O⟩|⟨X,rfl,N,P,rfl⟩
    .have I:Cr x=[.int .i64 x.wait,.int .i64 x.group,.int .i64 x.wn,.bv []]:=by rw[Cr,O];rfl
     replace O:=AB O;replace I:=AB I;rcases Q with _|⟨bv,Q⟩
     .refine Hq rfl ?_;refine ax ?_;refine .inl ⟨rfl,fun i=>i=1::5::ρ,?_,fun i a=>.inr (.inr ⟨5,ρ,a,Ar []⟩),fun i c D L y=>?_⟩
      .rw[j.out];refine⟨?_,fun i a=>⟨_,a⟩,.f8 (1::5::ρ) 0 (pre.length+1),pre++[x],Z.out,?_,Ao [] AG ?_,fun i a=>by simpa[AE]using a⟩
       .simp only[go_sem]
       .simp only[go_sem]
       .rw[BE,By,I.out,BY];exact zDi
      .exact zBL
     .refine Hq rfl ?_;refine ax ?_;refine .inl ⟨rfl,M,?_,fun i a=>.inl a,fun i c D L y=>?_⟩
      .rw[j.out];refine⟨?_,z.out,.f8 (1::w) 0 (pre.length+1),pre++[x],Z.out,?_,Ao Q AG ?_,fun i a=>f.out i (by simpa[AE]using a)⟩
       .simp only[go_sem]
       .simp only[go_sem]
       .rw[BE,By,I.out,BY];exact zDi
      .exact zBL
    .have b7:Id.is (1::P) (1::w)=false:=AF fun e=>by rw[e]at N;rw[N]at U;cases U
     have b8:Id.is (1::w) (1::P)=false:=AF fun e=>by rw[<-e]at N;rw[N]at U;cases U
     rcases Q with _|⟨bv,Q⟩
     .refine Hq rfl ?_;refine ax ?_;refine .inl ⟨rfl,fun i=>i=1::5::ρ,?_,fun i a=>.inr (.inr ⟨5,ρ,a,Ar []⟩),fun i c D L y=>?_⟩
      .rw[j.out];refine⟨?_,fun i a=>⟨_,a⟩,.f8 (1::5::ρ) 0 (pre.length+1),pre++[x],Z.out,?_,Ao [] AG ?_,fun i a=>by simpa[AE]using a⟩
       .simp only[go_sem]
       .simp only[go_sem]
       .rw[BE,By,Cr,BY];exact zDi
      .exact zAw
     .refine Hq rfl ?_;refine ax ?_;refine .inl ⟨rfl,M,?_,fun i a=>.inl a,fun i c D L y=>?_⟩
      .rw[j.out];refine⟨?_,z.out,.f8 (1::w) 0 (pre.length+1),pre++[x],Z.out,?_,Ao Q AG ?_,fun i a=>f.out i (by simpa[AE]using a)⟩
       .simp only[go_sem]
       .simp only[go_sem]
       .rw[BE,By,Cr,BY];exact zDi
      .exact zAw
  .rw[j]at h⊢;obtain⟨ai,z,v,pre,u,ag,F,f⟩:=h;exact⟨(J _ (.inl (Au π AA))).trans ai,z,v,pre,u,(J _ (.inl (Au π AA))).trans ag,GM F fun i a=>J i (.inr (f i a)),f⟩
 refine Sz (qu Y.out (Ek f.out S.out fun i b=>?_) (S.out.ext 4) J.out a2 (fun i a av=>?_) (M:=fun _=>False) (fun _ _ h=>h) (fun _ h=>h.elim) ?_) (fun cp a1 K=>?_)
 .have c:=AI b;simp only[go_sem,c,AM]
 .have:=S.out i a;rcases av with rfl|rfl
  .rw[show Id.under π (0::3::π)=true from Ar [0,3]]at this;cases this
  .rw[show Id.under π (0::0::π)=true from Ar [0,0]]at this;cases this
 .rw[j];refine⟨?_,fun _ h=>h.elim,.d7,[],rfl,?_,.inl ⟨rfl,rfl⟩,fun i a=>by simp[AE]at a⟩
  .simp only[go_sem]
  .simp only[go_sem]
 rcases K with⟨rfl,bx,K,a0,t⟩|⟨_,K⟩|⟨_,K⟩
 .rw[j]at K;obtain⟨cn,z,v,pre,u,bs,F,R⟩:=K;rw[CI]at u;subst a7;have az:v.isCell=true/\v.cells=[v]:=by rcases F with⟨rfl,_⟩|⟨_,_,rfl,_⟩<;>exact⟨rfl,rfl⟩
  obtain⟨cc,ch⟩:=az;have W: ∀i,Id.under (3::π) i=false->Id.under (4::π) i=false->(gc (3::π) (gc (4::π) a1)).get i=a1.get i:=fun i c y=>by rw[An _ _ _ c,An _ _ _ y]
  have cl:=(W (0::0::π) (Au π AA) (Au π AA)).trans bs;replace W:=AB W;replace t:=AB t;replace a0:=AB a0;replace j:=AB j;replace F:=AB F;replace u:=AB u;replace z:=AB z;replace R:=AB R;clear a2 bk;refine aw ?_;refine⟨v,rfl,?_,fun i a=>?_,fun i a=>?_⟩
  .rw[u.out];exact GM F.out fun i a=>by
    obtain⟨l,rfl⟩:=z.out i (R.out i a);rw[G5,G5]
  .rcases a0.out i (R.out i a)with q|q
   .exact q.elim
   .exact⟨q.out.up,z.out i (R.out i a)⟩
  .have q:=AI a;rw[W.out i (AJ a _) (AJ a _),t.out i (fun av=>?_) (fun h=>h) (AJ a _)]
   .exact zBf
   .rcases av with rfl|rfl
    .rw[show Id.under π (0::3::π)=true from Ar [0,3]]at a;cases a
    .rw[show Id.under π (0::0::π)=true from Ar [0,0]]at a;cases a
 .exact K.elim
 .exact K.elim
def fE(e:BP p sz)(f:J4 p sz h m V st)(k:st.d8=s)(j:Bx π V m)(g:Fo p sz s): ∃o h',kT (.fn 59) [.fn 52 [.ptr m 0] []] h π true none=.ok (o,h')/\ ∃v,o=.ret v/\KJ h' 4 v ((CG p s).map Cr)/\(∀i∈AE v,Id.under π i=true/\ ∃l,i=1::l)/\ ∀i,Id.under π i=false->h'.get i=h.get i:=by
 replace f:=AB f;replace e:=AB e;replace g:=AB g;replace j:=AB j;refine BR Tryz.func59 ?_;refine aw ?_;refine Ad (oU e.out f.out k (j.out.ext 2) g.out) (fun u g1 q=>?_);obtain⟨v,rfl,b,h2,c⟩:=q;have n:v.isCell=true/\v.cells=[v]:=by rcases b with⟨rfl,_⟩|⟨_,_,rfl,_⟩<;>exact⟨rfl,rfl⟩
 obtain⟨r,t⟩:=n;replace b:=AB b;replace h2:=AB h2;replace c:=AB c;refine aw ?_;refine⟨v,rfl,GM b.out fun i a=>?_,fun i a=>?_,fun i a=>?_⟩
 .obtain⟨l,rfl⟩:=(h2.out i a).2;rw[G5]
 .exact⟨BM (h2.out i a).1,(h2.out i a).2⟩
 .rw[An _ _ _ (AJ a _),c.out i (AJ a _)]
def lD:Option (BU×List Eg)->Made
 |some (s,ev)=>⟨s,ev,0⟩
 |none=>⟨GG,[],3⟩
def LK(p:AX)(s:BU)(ks:List Int):Made:=if DI p s=0 then if ks.length<=200 then lD (HI p ks s [])else⟨GG,[],3⟩else⟨GG,[],2⟩
def cz{k:Int}{n j:Nat}(b:j=(max k 0).toNat % n):(if 0>k then 0 else k).tmod (n:Int)=(j:Int):=by
 subst b;by_cases a:0>k
 .rw[D4 a,show max k 0=0 by omega];simp
 .obtain⟨m,rfl⟩: ∃m:Nat,k=m:=⟨k.toNat,AA⟩;rw[Ci a,show(max (m:Int) 0).toNat=m by omega];exact(Int.tmod_eq_emod_of_nonneg AA).trans AA
def ZG{id:Abs.Id}{ev:List Eg}{w:Int}(a:J4 p sz g id V ⟨s,ev,w⟩):zP (fun o' h'=>v5 (o',h')=(A8.ret (L8 (lD (some (s,ev)))),[])) (Option.map AV.ii (Sn (Option.map AV.agg (Ke (C9 g.get (V.s 0)) (Ke (C9 g.get (V.s 1)) (Ke (C9 g.get V.v3) (Ke (C9 g.get (V.s 2)) (some [])))))) (Sn (Fc g.get (V.s 3)) (some [nI 0])))):=by
 have b:=Fe (a.sl 0 AA);have c:=Fe (a.sl 1 AA);have e:=Fe (a.sl 2 AA);have f:=bN (a.sl 3 AA);have h:=Nf a.arr a.be;simp only[Ax]at b c e f;rw[b,c,e,f,h];rfl
theorem yJ(p:AX)(s:BU)(ks:List Int)(a2: ∀s∈p.free,s.size<=maxLen):BX kT 25 [pA p,sA s,.d (.bv (ks.map AL))] []=.ok (.ret (L8 (LK p s ks)),[]):=by
 obtain⟨r,ds,b8⟩:=o9 p s a2 8 [];replace a2:=AB a2;by_cases I:DI p s=0
 .obtain⟨st,id,V,g,rfl,A⟩:=b8.i9 I;have a1:=A.own;have X: ∀n,¬n=8-> ∀L,AD.get (g++L) [0,n]=AD.get L [0,n]:=fun n z L=>Bt (a1 _ (Au [] z));replace a1:=AB a1;obtain⟨d8,a0⟩:=Yl I;have b4:=A.looks;rw[a0.looks]at b4;cases b4;have M:=a0.formed;have a3:=a0.qr;replace A:=AB A;replace M:=AB M;replace a3:=AB a3;have Z: ∀i∈V.ids id,∀k,¬k=8->Id.under [k] i=false:=fun i W k c4=>by
   have:=A.1.ids i W;cases y:Id.under [k] i with
   |false=>rfl
   |true=>have:=B5 (π:=[]) this y;omega
  replace Z:=AB Z;by_cases c4:(ks.length:Int)<=200
  .have b':AH (LK p s ks=lD (HI p ks s [])):=⟨by rw[LK,D4 I,D4 AA]⟩;obtain⟨R,Y⟩: ∃R,R=HI p ks s []:=⟨_,rfl⟩;rw[b'.1,<-Y];clear b';replace Y:=AB Y;refine Az Tryz.func25 ?_;refine aw ?_;have F:=X 2 AZ;have H:=X 4 AZ;refine Ah ks (S:=fun i (a:(AD×MV)×Nat)=>⟨[(6,.ptr [0,2] 0),(7,.d7),(8,.ptr [0,4] 0),(9,.ptr id 0),(19,.d (.bv (ks.map AL))),(20,nI ks.length),(21,nI i)],a.1.1,a.2+16,[.call 50 [.ptr [0,4] 0]]⟩)
    (Inv:=fun i dd a=>a.1.1.get [0,2]=some (.box [.d7,.d7,.d7,.d7])/\a.1.1.get [0,4]=some (.box [nI 0])/\AH (∃t ev w,J4 p st.co a.1.1 id a.1.2 ⟨t,ev,w⟩/\Fo p st.co t/\ev.length<=401*i/\HI p dd t ev=R)/\AH (∀j∈a.1.2.ids id,(∃n,n<a.2+16/\Id.under [n] j=true)/\ ¬j=[0,2]/\ ¬j=[0,4])) (b0:=((_,V),0)) ⟨?_,?_,⟨s,[],0,pr A.1.rep fun i o W=>C3 W,a3.1,AG,Y.1.symm⟩,⟨fun j c=>?_⟩⟩ ?_ ?_
   .simp only[go_sem,F]
   .simp only[go_sem,H]
   .have:=A.1.ids j c;refine⟨⟨8,AU,this⟩,fun e=>?_,fun e=>?_⟩
    .rw[e]at this;cases this
    .rw[e]at this;cases this
   .clear F H Z;clear A;rintro i k ⟨⟨c0,V⟩,b⟩ d1 W c3 ⟨F,H,ar,u⟩ cs;dsimp only at*;obtain⟨t,ev,w,f,C,c2,B⟩:=ar.1;have ap: ∀n,b+16<=n->Bx [n] V id:=fun n z j c=>by
     obtain⟨⟨m,ad,h2⟩,_⟩:=u.1 j c;cases y:Id.under [n] j with
     |false=>rfl
     |true=>have:=B5 (π:=[]) h2 y;omega
    have c6:=O4 M.1 C;have d0:IntKind.i64.wrap ((i:Int)+1)=(i:Int)+1:=wrap_id AA AA;replace ap:=AB ap;replace f:=AB f;replace C:=AB C;replace B:=AB B;refine aw ?_;refine Ad (fE M.1 f.1 rfl (ap.1 _ AA) C.1) (fun d5 g1 c8=>?_);obtain⟨v,rfl,ad,h2,T⟩:=c8;dsimp only at ad;have az: ∀j∈V.ids id,∀n,b+16<=n->(gc [n] g1).get j=g1.get j:=fun j c n z=>An _ _ _ (ap.1 n z j c);have ch:=(An [b+22] g1 [0,2] (Au [] AA)).trans ((T [0,2] (Au [] AA)).trans F);have cl:=(An [b+22] g1 [0,4] (Au [] AA)).trans ((T [0,4] (Au [] AA)).trans H);have h:=CM f.1 fun j c=>(az j c (b+22) AA).trans (T j (ap.1 _ AA j c));replace az:=AB az;replace h2:=AB h2;replace T:=AB T;replace h:=AB h;rcases ad with⟨rfl,cc⟩|⟨S,a7,rfl,b1⟩
    .have a4:=D5.1 cc;replace a4:=AB a4;clear cc;have Q:=(h.1).box;simp only[BL]at Q;obtain⟨a',bl⟩:=Bg ((h.1).sl 0 AA);obtain⟨bc,bo⟩:=Bg ((h.1).sl 1 AA);obtain⟨be,bs⟩:=Bg ((h.1).sl 2 AA);obtain⟨bi,bv⟩:=Bg ((h.1).sl 3 AA);obtain⟨bk,bx⟩:=Gm (h.1).arr;replace f:=AB f;have J:AH (R=some (t,ev)):=⟨by rw[<-B.1,HI,Gx,a4.1];rfl⟩;exact zA0
    .by_cases O:CG p t=[]
     .have c1:=AB O;rw[O]at b1⊢;clear O;have Q:=(h.1).box;simp only[BL]at Q;obtain⟨a',bl⟩:=Bg ((h.1).sl 0 AA);obtain⟨bc,bo⟩:=Bg ((h.1).sl 1 AA);obtain⟨be,bs⟩:=Bg ((h.1).sl 2 AA);obtain⟨bi,bv⟩:=Bg ((h.1).sl 3 AA);obtain⟨bk,bx⟩:=Gm (h.1).arr;replace f:=AB f;have J:AH (R=some (t,ev)):=⟨by rw[<-B.1,HI,Gx,c1.1];rfl⟩;exact zA0
     .obtain⟨n,z⟩: ∃n,n=(CG p t).length:=⟨_,rfl⟩;have dq: ¬(n:Int)=0:=fun e=>O (BI AA);obtain⟨j,c⟩: ∃j,j=(max k 0).toNat % n:=⟨_,rfl⟩;have dn:j<n:=by rw[c];exact UN _ AA
      have dm:(j:Int)<n:=AA;obtain⟨x,y⟩:=get_some (l:=CG p t) (i:=j) AA;have df:(if 0>k then 0 else k).tmod (n:Int)=(j:Int):=cz c;have b7:AH (Gx (CG p t) k=some x):=⟨by rw[Gx,<-z,<-c];exact y⟩;have dr:n<=3000000:=AA;rw[As,<-z];have b3:=AH.mk (AS y);replace c:=AB c;have b6:n=(CG p t).length:=z;replace O:=AB O;clear c6;obtain⟨c7,rfl⟩:=(h2.1 S BH).2;have de:=(G5 [b+22] g1 c7).trans b1;have d2:j<((CG p t).map Cr++a7).length:=by rw[Be,As];omega
      have d4:((CG p t).map Cr++a7)[j]? =some (Cr x):=by rw[Ce zFg,D7,y];rfl
      have d3:j<(CG p t).length+a7.length:=AA;replace y:=AB y;replace z:=AB z;replace b6:=AB b6;refine aw ?_;refine Ad (mA M.1 h.1 (ap.1 _ AA) C.1 (x:=x) (Mv.1 b3.1) AU) (fun d6 P D=>?_);cases U:De p t x with
      |none=>
       rw[Hy,U]at D;obtain⟨rfl,D⟩:=D;have a5:[0,2] ∉V.ids id:=fun K=>(u.1 _ K).2.1 rfl;have a6:[0,4] ∉V.ids id:=fun K=>(u.1 _ K).2.2 rfl;have cn:=((An [b+36] P [0,2] (Au [] AA)).trans (D _ a5 (Au [] AA))).trans ch;have cp:=((An [b+36] P [0,4] (Au [] AA)).trans (D _ a6 (Au [] AA))).trans cl;have J:AH (R=none):=⟨by rw[<-B.1,HI,b7.1];simp only[U]⟩;rw[J.1];replace D:=AB D
       (repeat' (first|simp only[go_sem, *,C5]|(refine sx ?_ ?_<;>intro ac)|refine sy AA fun x y b5=>?_|simp(disch:=first|assumption|omega) only[AR]))
       rfl
      |some m=>
       rw[Hy,U]at D;obtain⟨rfl,cx,av,N⟩:=D;obtain⟨ag,b2,ai⟩:=O3 M.1 C.1 (Mv.1 b3.1) U;have a5:[0,2] ∉V.ids id:=fun K=>(u.1 _ K).2.1 rfl;have a6:[0,4] ∉V.ids id:=fun K=>(u.1 _ K).2.2 rfl;have cn:=((An [b+36] P [0,2] (Au [] AA)).trans (N.frame _ a5 (Au [] AA))).trans ch;have cp:=((An [b+36] P [0,4] (Au [] AA)).trans (N.frame _ a6 (Au [] AA))).trans cl;replace av:=AB av;replace N:=AB N;replace ag:=AB ag;replace ai:=AB ai;replace b2:=AB b2;refine aw ?_;refine cs.1 ((gc [b+36] P,cx),b+23) ⟨cn,cp,⟨m.d8,ev++m.ev,m.work,CM av.1 fun j c=>?_,?_,?_,?_⟩,⟨fun j c=>?_⟩⟩
       .rcases N.1.ids j c with q|⟨_,l,rfl⟩
        .exact An _ _ _ (ap.1 _ AA j q)
        .exact G5 _ _ _
       .exact ag.1
       .have:=ai.1;rw[Be];omega
       .rw[<-B.1,HI,b7.1];simp only[U]
       .rcases N.1.ids j c with q|⟨q,l,rfl⟩
        .obtain⟨⟨n,d7,c9⟩,c'⟩:=u.1 j q;exact⟨⟨n,AU,c9⟩,c'⟩
        .exact⟨⟨b+36,AU,q⟩,AG,AG⟩
   .clear F H Z;clear A;rintro i ⟨⟨c0,V⟩,b⟩ W c3 ⟨F,H,ar,u⟩;dsimp only at*;obtain⟨t,ev,w,f,C,c2,B⟩:=ar.1;have Q:=(f).box;simp only[BL]at Q;obtain⟨a',bl⟩:=Bg ((f).sl 0 AA);obtain⟨bc,bo⟩:=Bg ((f).sl 1 AA);obtain⟨be,bs⟩:=Bg ((f).sl 2 AA);obtain⟨bi,bv⟩:=Bg ((f).sl 3 AA);obtain⟨bk,bx⟩:=Gm (f).arr;replace f:=AB f;have J:AH (R=some (t,ev)):=⟨by rw[<-B];rfl⟩;clear B;rw[J.1];replace C:=AB C;refine aw ?_;refine⟨by rw[AF (u.1 id (V.m_mem id)).2.1];rfl,ZG (CM f.1 fun j c=>?_)⟩;rw[get_put,AF (fun e=>(u.1 j c).2.2 e.symm),get_put,AF (fun e=>(u.1 j c).2.1 e.symm)];rfl
  .have c5:AH (LK p s ks=⟨GG,[],3⟩):=⟨by rw[LK,D4 I,Ci AA]⟩;have F:=X 2 AZ;have H:=X 4 AZ;refine Az Tryz.func25 ?_
   (repeat' (first|simp only[go_sem, *,C5]|(refine sx ?_ ?_<;>intro ac)|refine sy AA fun x y b5=>?_|simp(disch:=first|assumption|omega) only[AR]))
   rw[c5.1];rfl
 .obtain rfl:=b8.bad I;have h2:=AH.mk (kL I);have ac:AH (LK p s ks=⟨GG,[],2⟩):=⟨by rw[LK,Ci I]⟩;refine Az Tryz.func25 ?_
  (repeat' (first|simp only[go_sem, *,C5]|(refine sx ?_ ?_<;>intro ac)|refine sy AA fun x y b5=>?_|simp(disch:=first|assumption|omega) only[AR]))
  rw[ac.1];rfl
def LL(a:List Cm)(g:a.length<=1000000):BX kT 57 [.d (.bv (a.map AN)),.d (.bv (a.map AN))] []=.ok (.ret (.d (.bool (true))),[]):=by
 refine Az Tryz.func57 ?_;refine aw ?_;refine Ah a (S:=fun i (_:Unit)=>⟨[(0,.d (.bv (a.map AN))),(1,.d (.bv (a.map AN))),(5,nI i)],[],0,[]⟩)
  (Inv:=fun i k _=>True) (b0:=()) trivial ?_ ?_
 .rintro i m _ j e f c b;have h:i<a.length:=AA;have l:IntKind.i64.wrap ((i:Int)+1)=(i:Int)+1:=wrap_id AA AA;refine aw ?_;exact b.1 () trivial
 .rintro i _ e f c;exact au
def ZL(a:List (List Cm))(k:a.length<=1000000)(b: ∀m∈a,m.length<=1000000):BX kT 37 [.d (.bv (a.map BJ)),.d (.bv (a.map BJ))] []=.ok (.ret (.d (.bool (true))),[]):=by
 replace b:=AB b;refine Az Tryz.func37 ?_;refine aw ?_;refine Ah a (S:=fun i (_:Unit)=>⟨[(0,.d (.bv (a.map BJ))),(1,.d (.bv (a.map BJ))),(5,nI i)],[],0,[]⟩)
  (Inv:=fun i o _=>True) (b0:=()) trivial ?_ ?_
 .rintro i c _ j g h f e;have l:i<a.length:=AA;have p:IntKind.i64.wrap ((i:Int)+1)=(i:Int)+1:=wrap_id AA AA;have n:=LL c (b.1 c (AS j));refine aw ?_;exact e.1 () trivial
 .rintro i _ g h f;exact au
structure BU.fits(s:BU):Prop where
 ac:s.ac.length<=1000000
 ce:s.ce.length<=1000000
 be:s.be.length<=1000000
 waits:s.waits.length<=1000000
 envs: ∀g∈s.ce,g.env.length<=1000000
 ques: ∀q∈s.be,q.queue.length<=1000000/\ ∀m∈q.queue,m.length<=1000000
 wenv: ∀w∈s.waits,w.env.length<=1000000
def nW(s:BU)(h:s.fits):BX kT 23 [sA s,sA s] []=.ok (.ret (.d (.bool (true))),[]):=by
 obtain⟨q,h2,r,t,k,j,l⟩:=h;replace k:=AB k;replace j:=AB j;replace l:=AB l;refine Az Tryz.func23 ?_;refine aw ?_;refine Ah s.ac (S:=fun i (_:Unit)=>⟨[(2,.ptr [0,0] 0),(3,.ptr [0,1] 0),(5,nI i)],[([0,0],.box [.d (.bv (s.ac.map Aw)),.d (.bv (s.ce.map BG)),.d (.bv (s.be.map Cy)),.d (.bv (s.waits.map Ae))]),([0,1],.box [.d (.bv (s.ac.map Aw)),.d (.bv (s.ce.map BG)),.d (.bv (s.be.map Cy)),.d (.bv (s.waits.map Ae))])],2,[]⟩)
  (Inv:=fun i n _=>True) (b0:=()) trivial ?_ ?_
 .rintro i a _ g b f e c;have m:i<s.ac.length:=AA;have u:(a.dead==a.dead)=true:=AG;have o:IntKind.i64.wrap ((i:Int)+1)=(i:Int)+1:=wrap_id AA AA;refine aw ?_;exact c.1 () trivial
 rintro i _ b f e;clear b;refine aw ?_;refine Ah s.ce (S:=fun i (_:Unit)=>⟨[(2,.ptr [0,0] 0),(3,.ptr [0,1] 0),(6,nI i)],[([0,0],.box [.d (.bv (s.ac.map Aw)),.d (.bv (s.ce.map BG)),.d (.bv (s.be.map Cy)),.d (.bv (s.waits.map Ae))]),([0,1],.box [.d (.bv (s.ac.map Aw)),.d (.bv (s.ce.map BG)),.d (.bv (s.be.map Cy)),.d (.bv (s.waits.map Ae))])],2,[]⟩)
  (Inv:=fun i n _=>True) (b0:=()) trivial ?_ ?_
 .rintro i a _ g b f e c;have m:i<s.ce.length:=AA;have o:IntKind.i64.wrap ((i:Int)+1)=(i:Int)+1:=wrap_id AA AA;have p:=LL a.env (k.1 a (AS g));refine aw ?_;exact c.1 () trivial
 rintro i _ b f e;clear b;refine aw ?_;refine Ah s.be (S:=fun i (_:Unit)=>⟨[(2,.ptr [0,0] 0),(3,.ptr [0,1] 0),(7,nI i)],[([0,0],.box [.d (.bv (s.ac.map Aw)),.d (.bv (s.ce.map BG)),.d (.bv (s.be.map Cy)),.d (.bv (s.waits.map Ae))]),([0,1],.box [.d (.bv (s.ac.map Aw)),.d (.bv (s.ce.map BG)),.d (.bv (s.be.map Cy)),.d (.bv (s.waits.map Ae))])],2,[]⟩)
  (Inv:=fun i n _=>True) (b0:=()) trivial ?_ ?_
 .rintro i a _ g b f e c;have m:i<s.be.length:=AA;have o:IntKind.i64.wrap ((i:Int)+1)=(i:Int)+1:=wrap_id AA AA;have p:=ZL a.queue (j.1 a (AS g)).1 (j.1 a (AS g)).2;refine aw ?_;exact c.1 () trivial
 rintro i _ b f e;clear b;refine aw ?_;refine Ah s.waits (S:=fun i (_:Unit)=>⟨[(2,.ptr [0,0] 0),(3,.ptr [0,1] 0),(8,nI i)],[([0,0],.box [.d (.bv (s.ac.map Aw)),.d (.bv (s.ce.map BG)),.d (.bv (s.be.map Cy)),.d (.bv (s.waits.map Ae))]),([0,1],.box [.d (.bv (s.ac.map Aw)),.d (.bv (s.ce.map BG)),.d (.bv (s.be.map Cy)),.d (.bv (s.waits.map Ae))])],2,[]⟩)
  (Inv:=fun i n _=>True) (b0:=()) trivial ?_ ?_
 .rintro i a _ g b f e c;have m:i<s.waits.length:=AA;have o:IntKind.i64.wrap ((i:Int)+1)=(i:Int)+1:=wrap_id AA AA;have p:=LL a.env (l.1 a (AS g));refine aw ?_;exact c.1 () trivial
 rintro i _ b f e;clear b;exact au
def WM(l:List Eg)(m:l.length<=1000000)(a: ∀e∈l,e.lc.length<=1000000):BX kT 24 [.d (.bv (l.map Dk)),.d (.bv (l.map Dk))] []=.ok (.ret (.d (.bool (true))),[]):=by
 replace a:=AB a;refine Az Tryz.func24 ?_;refine aw ?_;refine Ah l (S:=fun i (_:Unit)=>⟨[(0,.d (.bv (l.map Dk))),(1,.d (.bv (l.map Dk))),(5,nI i)],[],0,[]⟩)
  (Inv:=fun i n _=>True) (b0:=()) trivial ?_ ?_
 .rintro i c _ j b h g f;have k:i<l.length:=AA;have o:IntKind.i64.wrap ((i:Int)+1)=(i:Int)+1:=wrap_id AA AA;have a:=LL c.lc (a.1 c (AS j));refine aw ?_;exact f.1 () trivial
 .rintro i _ b h g;clear b;exact au
def rN:GG.fits:=⟨AZ,AZ,AZ,AZ,by simp[GG],by simp[GG],by simp[GG]⟩
def ZU(e:Eg):Prop:=e.lc.length<=5000
def Qj{f:HF->CW->Option CW}(b: ∀j st st',f j st=some st'->(∀e∈st.ev,ZU e)-> ∀e∈st'.ev,ZU e): ∀(a:List HF) (st st':CW),CH f a st=some st'->(∀e∈st.ev,ZU e)-> ∀e∈st'.ev,ZU e
 |[],st,st',h,hb=>by
  rw[CH]at h;cases h;exact hb
 |j::a,st,st',h,hb=>by
  rw[CH]at h;obtain⟨c,g,h2⟩:=IN.1 h;exact Qj b a c st' h2 (b j st c g hb)
def xH(f:BP p sz){i:Nat}(m:p.nodes[i]? =some x)(k:x.op=2){st':CW}(h:Cx p x j st=some st')(b: ∀e∈st.ev,ZU e): ∀e∈st'.ev,ZU e:=by
 obtain⟨s,l,_,_,_,c,_⟩:=f.node i x m;simp only[DG,AP]at c;have g:=c.2.2.1;rw[FI,D4 k,Ap]at g;simp only[Cx]at h;split at h
 .cases h;intro e a;rcases EL.1 a with a|a
  .exact b e a
  .rw[Ac.1 a];show(x.args.map _).length<=5000;rw[As];omega
 split at h
 .obtain⟨s,_,rfl⟩:=Bv.1 h;exact b
 .cases h;exact b
def mq(c:BP p sz){r:CW×List HF}(h:Ja p j st=some r)(b: ∀e∈st.ev,ZU e): ∀e∈r.1.ev,ZU e:=by
 unfold Ja at h;split at h
 .rename_i x g;split at h
  .rename_i f;obtain⟨s,a,rfl⟩:=Bv.1 h;exact xH c g f a b
  split at h
  .cases h;exact b
  split at h
  .unfold Fb at h;split at h
   .dsimp only at h;split at h
    .cases h;exact b
    .cases h
   .cases h
  split at h
  .cases h;exact b
  split at h
  .obtain⟨s,a,rfl⟩:=Bv.1 h;unfold FZ at a;split at a
   .cases a;exact b
   .cases a
  .cases h;exact b
 .cases h
def TQ(b:BP p sz): ∀(k:Nat) (j:HF) (st st':CW),Eu p k j st=some st'->(∀e∈st.ev,ZU e)-> ∀e∈st'.ev,ZU e
 |0,j,st,st',h,_=>by cases h
 |k+1,j,st,st',h,hb=>by
  rw[Eu]at h;split at h
  .cases a:Ja p j {st with work:=st.work+1}with
   |none=>rw[a]at h;cases h
   |some r=>
    rw[a]at h;have:=mq b a hb;exact Qj (TQ b k) r.2 r.1 st' h this
  .cases h
def xV{x:FH}(j:BP p sz)(B:Fo p sz s)(h:NJ p s x)(f:De p s x=some st): ∀e∈st.ev,ZU e:=by
 have one: ∀a:Eg,ZU a-> ∀e∈ [a],ZU e:=fun a y e z=>by rw[Ac.1 z];exact y
 have nil: ∀a b c d:Int,ZU ⟨a,b,c,d,[]⟩:=fun _ _ _ _=>It _;cases h with
 | @wait i w l h2=>
   rw[De,Ci AU,RP]at f;simp only[F7,l]at f;split at f
   .unfold OO at f;dsimp only at f;split at f
    .cases f;exact one _ (nil _ _ _ _)
    split at f
    .exact Qj (TQ j 401) _ _ _ f (one _ (nil _ _ _ _))
    .exact Qj (TQ j 401) _ _ _ f (one _ (nil _ _ _ _))
   .cases f
 | @wn i k g d r t l h2 m u v=>
   obtain⟨_,A⟩:=RB j B l h2 m u v;obtain⟨_,_,_,_,_,_,n⟩:=Jg j A;dsimp only at n;rw[Be]at n;have o:s.ce[((i:Nat):Int).toNat]? =some g:=l;have q:d.rules[((k:Nat):Int).toNat]? =some r:=m;rw[De,D4 AU,dM]at f;simp only[o,(Fx h2).2,q,Q6]at f;exact TQ j 401 _ _ _ f (one _ (by show(CF d g r.eq t s).1.length<=5000;omega))
def wJ{l:List FH}{k:Int}{x:FH}(h:Gx l k=some x):x∈l:=AS h
def xA(b:BP p sz): ∀(ks:List Int) (s:BU) (ev:List Eg) (r:BU×List Eg),Fo p sz s->(∀e∈ev,ZU e)->HI p ks s ev=some r->Fo p sz r.1/\(∀e∈r.2,ZU e)/\r.2.length<=ev.length+401*ks.length
 |[],s,ev,r,hs,hb,h=>by cases h;exact⟨hs,hb,AG⟩
 |k::ks,s,ev,r,hs,hb,h=>by
  rw[HI]at h;cases c:Gx (CG p s) k with
  |none=>
   rw[c]at h;cases h;exact⟨hs,hb,AG⟩
  |some x=>
   rw[c]at h;simp only at h;cases a:De p s x with
   |none=>rw[a]at h;cases h
   |some m=>
    rw[a]at h;have f:=Mv.1 (wJ c);obtain⟨g,_,q⟩:=O3 b hs f a;have i:=xV b hs f a;obtain⟨l,n,o⟩:=xA b ks m.d8 (ev++m.ev) r g (fun e j=>(EL.1 j).elim (hb e) (i e)) h;refine⟨l,n,?_⟩;rw[Be]at o;rw[List.length_cons];omega
