/- Parts of it. -/
import Derived.Test.YtbinfhpngacfgaaGreatDo12
set_option linter.all false
namespace Go
theorem zEb{p:Prop}(h:p:=by rw[w.out];simp[AE]):p:=h
theorem zEi{p:Prop}(h:p:=by rw[ai];simp[AE]):p:=h
theorem zEn{p:Prop}(h:p:=by simp only[go_sem,BZ,t,AM]):p:=h
theorem zEq{p:Prop}(h:p:=by rw[j.out];simp[AE]):p:=h
theorem zEu{p:Prop}(h:p:=by rw[←e];exact V.m_mem m):p:=h
theorem zEx{p:Prop}(h:p:=by rw[cn];simp[AE]):p:=h
theorem zFI{p:Prop}(h:p:=by rw[←e];exact P.s_mem m (i:=0) AA (by rw[L];simp[AE])):p:=h
theorem zFP{p:Prop}(h:p:=by rw[BI (P.trans e)];rfl):p:=h
theorem zFX{p:Prop}(h:p:=by rw[P.out];rfl):p:=h
theorem zFc{p:Prop}(h:p:=by first|assumption|omega|(rw[N.out];decide)):p:=h
theorem zFk{p:Prop}(h:p:=by simp[BL,ag]):p:=h
theorem zFp{p:Prop}(h:p:=by rw[P.out];decide):p:=h
end Go
namespace Go
theorem zAA{p:Prop}(h:p:=by
 simp only[Dm,Av]at bi;have a0:=S.out W (V.s_mem m (i:=2) AA (by rw[w];simp[AE]));rw[w]at av;have I:=AJ a0;have J:=Ak a0;have K:=fun n=>AJ (AI a0 n) 1 3;have L:=fun n=>Ak (AI a0 n) 1 3;have D:Id.is W m=false:=Fk bi av;have M:Id.is m W=false:=Fk av bi;replace w:=AB w;by_cases es:(40:Int)<(st.d8.waits.length+1:Nat);all_goals rcases ai with _|⟨e1,ai⟩
 all_goals
  refine BT Tryz.func87 ?_;refine ax ?_;all_goals
   first
   |refine U.out 61 (st.d8.waits.length+1) _ AA rfl (by
    simp only[go_sem,t,z,A,B,K,L,I,J,D,M,AM];first|done|rfl) (by
    simp only[BE,CO,BY];simp only[go_sem,t,z,A,B,K,L,I,J,D,M,AM,Bi];first|done|rfl) (fun id b1 y a=>by
    have f:=AJ a;have g:=fun n=>AJ (AI a n) 1 3;have C:=y W zEb;simp only[go_sem,f,g,b1,C,AM])
   |refine U.out 63 (st.d8.waits.length+1) _ AA rfl (by
    simp only[go_sem,t,z,A,B,K,L,I,J,D,M,AM];first|done|rfl) (by
    simp only[BE,CO,BY];simp only[go_sem,t,z,A,B,K,L,I,J,D,M,AM,Bi];first|done|rfl) (fun id b1 y a=>by
    have f:=AJ a;have g:=fun n=>AJ (AI a n) 1 3;have C:=y W zEb;simp only[go_sem,f,g,b1,C,AM])
   |refine U.out 65 (st.d8.waits.length+1) _ AA rfl (by
    simp only[go_sem,t,z,A,B,K,L,I,J,D,M,AM];first|done|rfl) (by
    simp only[BE,CO,BY];simp only[go_sem,t,z,A,B,K,L,I,J,D,M,AM,Bi];first|done|rfl) (fun id b1 y a=>by
    have f:=AJ a;have g:=fun n=>AJ (AI a n) 1 3;have C:=y W zEb;simp only[go_sem,f,g,b1,C,AM])
   |refine cx.out ai _ AA w.out (by
    simp only[go_sem,t,z,A,B,K,L,I,J,D,M,AM];first|done|rfl) (by
    simp only[BE,CO,BY,Dl,DL,Bi];simp only[go_sem,t,z,A,B,K,L,I,J,D,M,AM];first|done|rfl) (fun id b1 y a=>by
    have f:=AJ a;have g:=fun n=>AJ (AI a n) 1 3;have C:=y W zEb;simp only[go_sem,f,g,b1,C,AM])
   |refine a1.out (V.ip 2 (.f8 (1::61::π) 0 (st.d8.waits.length+1))) _ AA (by
    simp only[go_sem,t,z,A,B,K,L,I,J,D,M,AM];first|done|rfl) (fun id b1 y a=>by
    have f:=AJ a;have g:=fun n=>AJ (AI a n) 1 3;have C:=y W zEb;simp only[go_sem,f,g,b1,C,AM])
   |refine a1.out (V.ip 2 (.f8 (1::63::π) 0 (st.d8.waits.length+1))) _ AA (by
    simp only[go_sem,t,z,A,B,K,L,I,J,D,M,AM];first|done|rfl) (fun id b1 y a=>by
    have f:=AJ a;have g:=fun n=>AJ (AI a n) 1 3;have C:=y W zEb;simp only[go_sem,f,g,b1,C,AM])
   |refine a1.out (V.ip 2 (.f8 (1::65::π) 0 (st.d8.waits.length+1))) _ AA (by
    simp only[go_sem,t,z,A,B,K,L,I,J,D,M,AM];first|done|rfl) (fun id b1 y a=>by
    have f:=AJ a;have g:=fun n=>AJ (AI a n) 1 3;have C:=y W zEb;simp only[go_sem,f,g,b1,C,AM])
   |refine a1.out (V.ip 2 (.f8 W 0 (st.d8.waits.length+1))) _ AA (by
    simp only[go_sem,t,z,A,B,K,L,I,J,D,M,AM];first|done|rfl) (fun id b1 y a=>by
    have f:=AJ a;have g:=fun n=>AJ (AI a n) 1 3;have C:=y W zEb;simp only[go_sem,f,g,b1,C,AM])):p:=h
theorem zAC{p:Prop}(h:p:=by
 by_cases e0:(12:Int)≤q.queue.length;all_goals rcases zs with _|⟨z,zs⟩
 all_goals
  (repeat' (first|simp only[go_sem, *,AM]|(refine sx ?_ ?_<;>intro a4)|refine sy AA fun x dd az=>?_|simp(disch:=first|assumption|omega) only[AU]))
  all_goals
   first
   |(rw[c0.out Bs];exact Z.out _ (fun id b=>by have f:=AJ b;simp only[go_sem,f,AM]))
   |(rw[c1.out zEc];exact Z.out _ (fun id b=>by have f:=AJ b;simp only[go_sem,f,AM]))
   |(rw[b2.out Bs zEV zFc];refine⟨rfl,?_⟩;refine go.out (.f8 (1::(b+85)::π) 0 (q.queue.length+1)) _ ?_ ?_ (PT (Aq [] ?_ ?_)) (.inr fun B w=>?_) fun B b1 y u C=>?_;all_goals (first|(simp only[AE,Ac]at w;subst w;exact⟨Ay [1,b+85],_,rfl⟩)|(have f:=AJ C;have k:=t.out B C;have Y:=u Q BJ;simp only[go_sem,f,k,b1,y,Y,AM];done)|(simp;done)|(simp only[go_sem,D,F,ai,ar,ad,a2,K,BZ,U.out,T.out,I.out,Az,BE,BY,AM,a',bc,a6,a5,a7,b3];first|done|rfl));done)
   |(rw[b2.out Bs zEV zFO];refine⟨rfl,?_⟩;refine go.out (.f8 Q 0 (q.queue.length+1)) _ ?_ ?_ (PT (Aq zs ?_ ?_)) (.inl rfl) fun B b1 y u C=>?_;all_goals (first|(simp only[AE,Ac]at w;subst w;exact⟨Ay [1,b+85],_,rfl⟩)|(have f:=AJ C;have k:=t.out B C;have Y:=u Q BJ;simp only[go_sem,f,k,b1,y,Y,AM];done)|(simp;done)|(simp only[go_sem,D,F,ai,ar,ad,a2,K,BZ,U.out,T.out,I.out,Az,BE,BY,AM,a',bc,a6,a5,a7,b3];first|done|rfl));done)
   |(rw[d'.out Bs zEV zFO];exact⟨rfl,⟨V,st.work,by simp only[go_sem,D,F,ai,ar,ad,a2,K,BZ,U.out,T.out,I.out,Az,BE,BY,AM,a',bc,a6,a5,a7,b3];first|done|rfl⟩,fun B b0 C=>by(have b1:Id.is m B=false:=AF fun e=>b0 zEu;have y:Id.is A B=false:=AF fun e=>b0 (by rw[←e];exact V.v3_mem m (by rw[I.out];simp[AE]));have Y:Id.is Q B=false:=AF fun e=>b0 (by rw[←e];exact cc.out);have f:=AJ C;have k:=t.out B C;simp only[go_sem,f,k,b1,y,Y,AM])⟩)):p:=h
theorem zAD{p:Prop}(h:p:=by
 rw[U]at y;obtain⟨rfl,O,A,w⟩:=y;have bc:=A.box;simp only[BK]at bc;obtain⟨d7,eb⟩:=Cc (A.sl 0 AA);obtain⟨d8,ej⟩:=Cc (A.sl 1 AA);obtain⟨d9,ek⟩:=Cc (A.sl 2 AA);obtain⟨d',el⟩:=Cc (A.sl 3 AA);obtain⟨ea,em⟩:=KE A.arr;have uid:=bk.out id (V.m_mem id) 7;have e7:=(Ah _ _ _ uid).trans bc;have bx:=(Ah (7::ρ) g1 _ (AI a4 7)).trans (w.frame [0,14] (b 14 AK) (AI a4 7));have C:=(Ah (7::ρ) g1 _ (AI X 7)).trans (w.frame [0,3] (b 3 AK) (AI X 7));have F:=(Ah (7::ρ) g1 _ (AI Y 7)).trans (w.frame [0,4] (b 4 AK) (AI Y 7));have I:=(Ah (7::ρ) g1 _ (AI Z 7)).trans (w.frame [0,5] (b 5 AK) (AI Z 7));have d2:=(Ah (7::ρ) g1 _ (AI b3 7)).trans (w.frame [0,10] (b 10 AK) (AI b3 7));have a1: ∀k,¬k=9→Id.is id [0,k]=false:=fun k P=>AF fun e=>b k P (e▸V.m_mem id);have fl:=a1 3 AK;replace a1:=AB a1;replace b:=AB b;replace A:=AB A;replace w:=AB w;refine ax ?_;refine .inr ⟨.inl rfl,?_,fun j f t=>?_⟩
 .rw[K.out];refine .inl ⟨rfl,?_,ag.out,O,st',U,Bx A.out fun i a=>?_,fun i a=>?_,?_,?_,?_⟩
  .simp only[go_sem]
  .rcases w.out.ids i a with c|⟨c,b2,rfl⟩
   .have b0: ∀k,¬k=9→Id.is [0,k] i=false:=fun k P=>AF fun e=>b.out k P (e▸c);rw[get_put,b0 14 AK,get_put,b0 5 AK,get_put,b0 4 AK,get_put,b0 3 AK,Ah _ _ _ (bk.out i c 7)];rfl
   .rw[get_put,AF AG,get_put,AF AG,get_put,AF AG,get_put,AF AG,HC];rfl
  .rcases w.out.ids i a with c|⟨_,b2,rfl⟩
   .exact .inl ⟨N.out i c 15 AK,N.out i c 14 AK⟩
   .exact .inr ⟨b2,rfl⟩
  .simp only[go_sem]
  .simp only[go_sem]
  .simp only[go_sem]
 .have b0: ∀k,¬k=15→Id.is [0,k] (0::j)=false:=fun k P=>AF fun e=>by rw[←e,BR [] P]at f;cases f
  rw[get_put,b0 14 AK,get_put,b0 5 AK,get_put,b0 4 AK,get_put,b0 3 AK];simp only[AM,FD];rw[Ah _ _ _ (AI t 7),w.out.frame _ (cp.out j f) (AI t 7)];have b1:=AJ t 0 0;have R:=b0 14 AK;have av:Id.is [14] j=false:=AF fun e=>by rw[←e]at f;cases f
  have az:Id.is (0::ρ) j=false:=AF fun e=>by rw[←e,is_self]at b1;cases b1
  simp only[go_sem,b1,R,av,az,AM]):p:=h
theorem zAF{p:Prop}(h:p:=by
 replace P:=AH.mk (D6.1 P);rcases d2 with w|w;all_goals
  rw[w]at av;refine BT Tryz.func87 ?_;refine ax ?_;first
  |refine U.out 61 1 _ zFp zFX (by
   simp only[go_sem,t,z,A,B,AM];first|done|rfl) (by
   simp only[BE,CO,BY,P.out];simp only[go_sem,t,z,A,B,AM,Bi];first|done|rfl) (fun id b1 y a=>by
   have f:=AJ a;have g:=fun n=>AJ (AI a n) 1 3;simp only[go_sem,f,g,b1,AM])
  |refine U.out 63 1 _ zFp zFX (by
   simp only[go_sem,t,z,A,B,AM];first|done|rfl) (by
   simp only[BE,CO,BY,P.out];simp only[go_sem,t,z,A,B,AM,Bi];first|done|rfl) (fun id b1 y a=>by
   have f:=AJ a;have g:=fun n=>AJ (AI a n) 1 3;simp only[go_sem,f,g,b1,AM])
  |refine U.out 65 1 _ zFp zFX (by
   simp only[go_sem,t,z,A,B,AM];first|done|rfl) (by
   simp only[BE,CO,BY,P.out];simp only[go_sem,t,z,A,B,AM,Bi];first|done|rfl) (fun id b1 y a=>by
   have f:=AJ a;have g:=fun n=>AJ (AI a n) 1 3;simp only[go_sem,f,g,b1,AM])):p:=h
theorem zAG{p:Prop}(h:p:=by
 rcases ek with rfl|rfl;all_goals
  (repeat' (first|simp only[go_sem, *,AM]|(refine sx ?_ ?_<;>intro a4)|refine sy AA fun x dd az=>?_|simp(disch:=first|assumption|omega) only[AU]))
  all_goals
   first
   |(rw[c0.out Bs];exact Z.out _ (fun id b=>by have f:=AJ b;simp only[go_sem,f,AM]))
   |(rw[c1.out zEc];exact Z.out _ (fun id b=>by have f:=AJ b;simp only[go_sem,f,AM]))
   |(rw[b2.out Bs zEV zFc];refine⟨rfl,?_⟩;refine go.out (.f8 (1::(b+85)::π) 0 1) _ ?_ ?_ (PT (Aq [] ?_ ?_)) (.inr fun B w=>?_) fun B b1 y u C=>?_;all_goals (first|(simp only[AE,Ac]at w;subst w;exact⟨Ay [1,b+85],_,rfl⟩)|(have f:=AJ C;have k:=t.out B C;simp only[go_sem,f,k,b1,y,AM];done)|(simp[N.out];done)|(simp only[go_sem,D,F,ai,ar,ad,a2,K,BZ,U.out,T.out,I.out,Az,BE,BY,AM,N.out];first|done|rfl));done)):p:=h
theorem zAI{p:Prop}(h:p:=by
 rw[U]at y;obtain⟨rfl,B⟩:=y;have bx:=B [0,14] (b 14 AK) (AI a4 7);have C:=(Ah (7::ρ) g1 _ (AI X 7)).trans (B [0,3] (b 3 AK) (AI X 7));have F:=(Ah (7::ρ) g1 _ (AI Y 7)).trans (B [0,4] (b 4 AK) (AI Y 7));have I:=(Ah (7::ρ) g1 _ (AI Z 7)).trans (B [0,5] (b 5 AK) (AI Z 7));replace B:=AB B;refine ax ?_;refine .inr ⟨.inr ⟨_,rfl⟩,?_,fun j f t=>?_⟩
 .rw[K.out];refine .inr ⟨rfl,ag.out,U,?_,?_,?_⟩
  .simp only[go_sem,C,b5,b',AM]
  .simp only[go_sem,F,b6,cc,AM]
  .simp only[go_sem,I,b7,z,AM]
 .rw[Ah _ _ _ (AI t 7),B.out _ (cp.out j f) (AI t 7)];have b1:=AJ t 0 0;have R:Id.is [0,14] (0::j)=false:=AF fun e=>by rw[←e]at f;cases f
  have av:Id.is [14] j=false:=AF fun e=>by rw[←e]at f;cases f
  have az:Id.is (0::ρ) j=false:=AF fun e=>by rw[←e,is_self]at b1;cases b1
  simp only[go_sem,b1,R,av,az,AM]):p:=h
theorem zAL{p:Prop}(h:p:=by
 refine Ct (Jj ad F.out B.out ⟨a7.node,G.place d ((i:Int)+1),G.env⟩ W.out _ (c+75) AA (fun id D=>?_) fun i o=>⟨fun a k z=>(y.out i o).1 a k z,HN q.out AA rfl i o⟩) (fun a6 g1 K=>?_)
 .simp only[go_sem,D,AM]
 obtain⟨M,f⟩:=K;subst M;have b0:=(f.box 0 AA).trans C;have ar:=(f.box 10 AA).trans J;have av:=(f.box 18 AA).trans A;replace f:=AB f;refine ax ?_;refine a'.out (_,_) ⟨⟨_,Yu f.out.run AA,fun cs h2=>?_,?_⟩,b0,ar,?_,⟨YU (Ld q.out f.out.pp) AA⟩⟩
 .obtain⟨st',rfl,a1⟩:=IN.1 h2;obtain⟨Z,ac⟩:=u.out st' rfl;have U:=JI az k _ _ _ Z.ol (ac _ zFi) a1;exact⟨Z.post U,fun I a3=>MJ (ac I (by rw[CH,DL];exact F0 _ a3)) U.ext⟩
 .rw[t.out];cases r<;>rfl
 .exact av.trans (by rw[v])):p:=h
theorem zAM{p:Prop}(h:p:=by have z:=(Ar p 1 (b+27) AA).1;have D:=(Ar p 1 (b+28) AA).1;have F:=AF (fun e:O=x=>L e.symm);have w:=(BS p [1,3,b+25] AG).1;simp only[DL,Bi]at w;have ad:=AF (fun e:id=x=>h2 (by rw[←e];simp[AE]));simp only[go_sem,z,D,F,w,ad,AM]):p:=h
theorem zAN{p:Prop}(h:p:=by
 refine KZ rfl ?_;refine ax ?_;refine .inl ⟨rfl,?_,fun i f t=>?_⟩
 .rw[M.out];refine⟨?_,?_,?_,?_,?_,?_,Bx bi.out fun i a=>?_,pre++[b4],by rw[bo.out];simp,fun c=>?_⟩
  .simp only[go_sem]
  .simp only[go_sem,dn,cx,AM]
  .simp only[go_sem,b5,b',AM]
  .simp only[go_sem,b6,cc,AM]
  .simp only[go_sem,b7,z,AM]
  .simp only[go_sem,dm,dq,AM]
  .have q:=AJ (Q.out i (N.out i a 15 AK));have a3:Id.is [0,14] i=false:=AF fun e=>b 14 AK (e▸a);simp only[go_sem,q,a3,AM]
  .rcases EL.1 c with c|c
   .exact ch.out c
   .exact a5.out (Ac.1 c)
 .have b1:=AJ t 0 0;have R:Id.is [0,14] i=false:=AF fun e=>f e.symm;simp only[go_sem,b1,R,AM]):p:=h
theorem zAO{p:Prop}(h:p:=by
 simp only[Tryz.f144,I3,VC,RA]
 (repeat' (first|simp only[go_sem, *,↓z,↓w,↓y,AM]|(refine sx ?_ ?_<;>intro W)|refine sy AA fun x B Y=>?_|simp(disch:=first|assumption|omega) only[AU]))
 refine L.out _ _ true ?_ C D F I J ?_ fun id b1=>?_
 .exact(D1 AA).symm
 .simp only[go_sem,BZ]
 .simp only[go_sem,b1,AM]):p:=h
theorem zAT{p:Prop}(h:p:=by have z:=(Ar p 1 (b+27) AA).1;have D:=(Ar p 1 (b+28) AA).1;have F:=AF (fun e:O=x=>L e.symm);have w:=(BS p [1,3,b+25] AG).1;simp only[DL,Bi]at w;simp only[go_sem,z,D,F,w,AM]):p:=h
theorem zAV{p:Prop}(h:p:=by have U:=Af T;have a0:=X S (by rw[L];simp[AE]);simp only[go_sem,U,b1,a0,AM]):p:=h
theorem zAa{p:Prop}(h:p:=by
 refine ax ?_;rw[O.out];refine⟨rfl,go.out (.f8 (1::(b+29)::π) 0 (st.ev.length+1)) _ ?_ (Aq [] (by simp[Av]) ?_) (.inr fun id w=>?_) fun id b1 y u=>?_⟩
 .simp only[go_sem,D,F,a0,a1,ag,a3,AM];first|done|rfl
 .simp only[Dm,Av,CI,BE,CO,BY];simp only[go_sem,D,F,a0,a1,ag,a3,AM,Bi]
 .simp only[AE,Ac]at w;subst w;exact⟨Ay [1,b+29],_,rfl⟩
 .have f:=AJ u;have k:=t.out id u;simp only[go_sem,f,k,b1,y E (by rw[P.out];simp[AE]),AM]):p:=h
theorem zAe{p:Prop}(h:p:=by
 refine aw ?_;rw[O.out];refine⟨rfl,go.out (.f8 (1::(b+29)::π) 0 1) _ ?_ (Aq [] (by simp[Av,N.out]) ?_) (.inr fun id w=>?_) fun id b1 y u=>?_⟩
 .simp only[go_sem,D,F];first|done|rfl
 .simp only[Dm,Av,CI,BE,CO,BY,N.out];simp only[go_sem,D,F,Bi]
 .simp only[AE,Ac]at w;subst w;exact⟨Ay [1,b+29],_,rfl⟩
 .have f:=AJ u;have k:=t.out id u;simp only[go_sem,f,k,b1,AM]):p:=h
theorem zAf{p:Prop}(h:p:=by
 refine ax ?_;rw[O.out];refine⟨rfl,go.out (.f8 E 0 (st.ev.length+1)) _ ?_ (Aq cs (by simp[Av]) ?_) (.inl zFX) fun id b1 y u=>?_⟩
 .simp only[go_sem,D,F,a0,a1,ag,a3,AM];first|done|rfl
 .simp only[Dm,Av,BE,CO,BY,Dl,DL,Bi];simp only[go_sem,D,F,a0,a1,ag,a3,AM]
 .have f:=AJ u;have k:=t.out id u;simp only[go_sem,f,k,b1,y E (by rw[P.out];simp[AE]),AM]):p:=h
theorem zAn{p:Prop}(h:p:=by
 refine Ad (Jj ad F.out T.out ⟨Y,j.at_,G.env⟩ W.out _ (c+66) AA (fun id D=>?_) fun i o=>⟨fun a k z=>(y.out i o).1 a k z,HN q.out AA rfl i o⟩) (fun a6 g1 K=>?_)
 .first|rfl|simp only[go_sem,D,AM]
 obtain⟨M,f⟩:=K;subst M;replace f:=AB f;refine ax ?_;rw[ag.out];exact Gb f.out.run):p:=h
theorem zAo{p:Prop}(h:p:=by
 have bs:Id.under [9] i=true:=by
  cases W:Id.under [9] i with
  |true=>rfl
  |false=>rw[bl.out i W]at a;cases a
 have q:Id.is [0,14] i=false:=AF fun e=>by subst e;cases bs
 have t:Id.is [0,10] i=false:=AF fun e=>by subst e;cases bs
 rw[get_put,q,Co AG,get_put,t,Co AG,get_put,t,Co AG,Cz a]):p:=h
theorem zAt{p:Prop}(h:p:=by have ac:=l.out.n.nm x q;have z:=(Ar ac 1 (b+23) AA).1;have D:=(Ar ac 1 (b+24) AA).1;have F:=AF (fun e:Y=x=>l.out.yn (e▸q));have w:=(BS ac [1,3,b+21] AG).1;simp only[DL,Bi]at w;have ad:=AF (fun e:id=x=>(l.out.qv id BJ).2 (e▸q));simp only[go_sem,z,D,F,w,ad,AM]):p:=h
theorem zAu{p:Prop}(h:p:=by
 refine BT Tryz.func87 ?_;refine aw ?_;refine Ad (c2.out _ _ (bo.out _ zEn (fun id b1 Q=>by
  have f:=AJ Q;simp only[go_sem,f,b1,AM]))) (fun b6 g1 ac=>?_)
 obtain⟨ad,O⟩:=ac;subst ad;replace O:=AB O;refine aw ?_;exact Gb O.out):p:=h
theorem zAv{p:Prop}(h:p:=by
 have D:=trivial;try replace D:=O E zEq
 simp only[go_sem,Q,R,T,D,b1,AM]):p:=h
theorem zA5{p:Prop}(h:p:=by
 first
 |(refine Aq [] (by simp[bo.out]) ?_
   simp only[CI,BE,CO,BY,bo.out];simp only[go_sem,F,I,A,B,z,C,AM,Bi]
   done)
 |(refine Aq bk AG ?_
   simp only[BE,CO,BY,Dl,DL,Bi];simp only[go_sem,F,I,A,B,z,C,AM]
   done)):p:=h
theorem zA6{p:Prop}(h:p:=by have ac:=l.out.n.nm x q;have z:=(Ar ac 1 (b+23) AA).1;have D:=(Ar ac 1 (b+24) AA).1;have F:=AF (fun e:Y=x=>l.out.yn (e▸q));have w:=(BS ac [1,3,b+21] AG).1;simp only[DL,Bi]at w;simp only[go_sem,z,D,F,w,AM]):p:=h
theorem zBB{p:Prop}(h:p:=by
 first
 |(refine Aq [] AG ?_
   simp only[CI,BE,CO,BY];simp only[go_sem,F,I,A,B,z,C,AM,Bi]
   done)
 |(refine Aq bk AG ?_
   simp only[BE,CO,BY,Dl,DL,Bi];simp only[go_sem,F,I,A,B,z,C,AM]
   done)):p:=h
theorem zBE{p:Prop}(h:p:=by simp only[AE,Ac]at a6;subst a6;exact⟨CM (c+47) [1] AA AA,_,rfl⟩):p:=h
theorem zBG{p:Prop}(h:p:=by simp only[AE,Ac]at t;subst t;exact⟨CM (N+63) [1] AA AA,_,rfl⟩):p:=h
theorem zBH{p:Prop}(h:p:=by
 have Q:=Af f 0 (N+39) AA AA;have R:=Af f 1 (N+62) AA AA;have T:=Af f 1 (N+63) AA AA;have D:=trivial;try replace D:=O E zEq
 simp only[go_sem,b0,Q,R,T,D,b1,AM]):p:=h
theorem zBI{p:Prop}(h:p:=by simp only[AE,Ac]at t;subst t;exact⟨CM (N+56) [1] AA AA,_,rfl⟩):p:=h
theorem zBJ{p:Prop}(h:p:=by simp only[AE,Ac]at t;subst t;exact⟨CM (N+65) [1] AA AA,_,rfl⟩):p:=h
theorem zBK{p:Prop}(h:p:=by simp only[go_sem,L,f,AM]):p:=h
theorem zBL{p:Prop}(h:p:=by simp only[AE,Ac]at q;subst q;exact fun Z=>EN AA (l.out.n.nm _ Z)):p:=h
theorem zBP{p:Prop}(h:p:=by have z:=(Ar p 1 (b+12) AA).1;have D:=(Ar p 1 (b+13) AA).1;have F:=AF (fun e:O=x=>L e.symm);have ad:=AF (fun e:A=x=>h2 (by rw[←e];simp[AE]));simp only[go_sem,z,D,F,ad,AM]):p:=h
theorem zBm{p:Prop}(h:p:=by obtain⟨ad,O⟩:=ac;subst ad;replace O:=AB O;refine aw ?_;exact Gb O.out.run):p:=h
theorem zBt{p:Prop}(h:p:=by have C:=AJ u;have D:=AJ (AI u 4);have F: ∀L,AD.get (g++L) id=AD.get L id:=fun L=>B5 (b.out.own id (AI u 15));simp only[go_sem,C,D,F,AM]):p:=h
theorem zBy{p:Prop}(h:p:=by rw[i]at c;replace c:A=.ge (DH 2):=c;subst c;replace l:=AB l;refine aw ?_;exact⟨fun _=>rfl,fun h=>by rw[B.out,i]at h;cases h⟩):p:=h
theorem zBz{p:Prop}(h:p:=by simp only[go_sem,H,I,T,AM]):p:=h
theorem zB5{p:Prop}(h:p:=by simp only[go_sem,F,I,A,B,z,C,AM];first|done|rfl):p:=h
theorem zCE{p:Prop}(h:p:=by have z:=(Ar p 1 (b+12) AA).1;have D:=(Ar p 1 (b+13) AA).1;have F:=AF (fun e:O=x=>L e.symm);simp only[go_sem,z,D,F,AM]):p:=h
theorem zCL{p:Prop}(h:p:=by
 have r:=AJ f;have F:Id.is id R=false:=AF fun e=>by rw[←e,a0.out]at f;cases f
 simp only[go_sem,r,F,l.out R f,AM]):p:=h
theorem zCS{p:Prop}(h:p:=by
 subst a2;refine ax ?_;refine c9.out (_,_) ⟨f,r,A,y,?_,⟨?_⟩⟩
 .dsimp only;omega
 .rw[b5.out,D1 rfl,FN]):p:=h
theorem zCa{p:Prop}(h:p:=by refine .inr ⟨id,ai,?_,n,AA,av.out,a2.out⟩;simp only[go_sem,w,AM,O,M,f,o,r,s,u,bv,bo,B,C,D,F,J,I]):p:=h
theorem zCd{p:Prop}(h:p:=by refine ax ?_;exact D.out (by rw[c0.out,b5.out,Ci a2];rfl)):p:=h
theorem zCe{p:Prop}(h:p:=by have U:=Af T;simp only[go_sem,U,b1,AM]):p:=h
theorem zCg{p:Prop}(h:p:=by have Q:=O.out id o f;have R: ∀L,AD.get (g++L) id=some o:=fun L=>Cz f;simp only[go_sem,Q,R,AM]):p:=h
theorem zCk{p:Prop}(h:p:=by have Q:=Af f 0 (N+39) AA AA;have R:=Af f 1 (N+55) AA AA;have T:=Af f 1 (N+56) AA AA;exact zAv):p:=h
theorem zCl{p:Prop}(h:p:=by have Q:=Af f 0 (N+39) AA AA;have R:=Af f 1 (N+64) AA AA;have T:=Af f 1 (N+65) AA AA;exact zAv):p:=h
theorem zCu{p:Prop}(h:p:=by simp only[go_sem,BZ,AM,f,o,r,s,u];first|done|rfl):p:=h
theorem zC0{p:Prop}(h:p:=by simp only[go_sem,bv,bc,be,Z,av,M,ar,F,I,A,B,z,C,AM];first|done|rfl|(rw[←cc];rfl)):p:=h
theorem zC9{p:Prop}(h:p:=by have U:=Af T;have a0:=X A (by rw[bc];simp[AE]);simp only[go_sem,U,b1,a0,AM]):p:=h
theorem zDA{p:Prop}(h:p:=by simp only[go_sem,w,BE,BY,AM,O,M,f,o,r,s,u,bv,bo,B,C,D,F,J,I];first|done|rfl):p:=h
theorem zDC{p:Prop}(h:p:=by
 first
 |exact absurd z N
 |(simp only[go_sem];done)
 |(simp only[go_sem];rfl)):p:=h
theorem zDF{p:Prop}(h:p:=by simp only[go_sem,bi,r,AM]):p:=h
theorem zDG{p:Prop}(h:p:=by
 first
 |exact .inl zFW
 |exact .inr fun id t=>by
   exact zBG):p:=h
theorem zDH{p:Prop}(h:p:=by
 first
 |exact .inl zFW
 |exact .inr fun id t=>by
   exact zBI):p:=h
theorem zDI{p:Prop}(h:p:=by
 first
 |exact .inl zFW
 |exact .inr fun id t=>by
   exact zBJ):p:=h
theorem zDL{p:Prop}(h:p:=by simp only[go_sem,w,BE,BY,AM,f,o,r,s,u,B,C,D,F,J,I,ar,az];first|done|rfl):p:=h
theorem zDN{p:Prop}(h:p:=by simp only[go_sem,BZ,AM,O,M,f,o,r,s,u,bv,bo,B,C,D,F,J,I];first|done|rfl):p:=h
theorem zDR{p:Prop}(h:p:=by simp only[go_sem,a5,a6,a2,AM]):p:=h
theorem zDX{p:Prop}(h:p:=by simp only[AE,Ac]at a6;subst a6;exact⟨CM (c+59) [1] AA AA,_,rfl⟩):p:=h
theorem zDe{p:Prop}(h:p:=by simp only[go_sem,BZ,AM,f,o,r,s,u,B,C,D,F,J,I,ar,az];first|done|rfl):p:=h
theorem zDq{p:Prop}(h:p:=by rw[ai];simp only[go_sem,W,w,AM,O,M,f,o,r,s,u,bv,bo,B,C,D,F,J,I]):p:=h
theorem zDz{p:Prop}(h:p:=by simp only[go_sem,ad,w,AM,f,o,r,s,u]):p:=h
theorem zD0{p:Prop}(h:p:=by simp only[go_sem,ag,w,AM,f,o,r,s,u]):p:=h
theorem zD1{p:Prop}(h:p:=by have r:=AJ f;have T:=Ds f;simp only[go_sem,r,T,l.out id f,AM]):p:=h
theorem zD4{p:Prop}(h:p:=by refine aw ?_;rw[O.out];refine Z.out _ fun id b=>?_;exact zCs):p:=h
theorem zEA{p:Prop}(h:p:=by simp only[go_sem,W,w,AM,f,o,r,s,u]):p:=h
theorem zEB{p:Prop}(h:p:=by simp only[go_sem,w,BE,BY,AM,O,M,f,o,r,s,u,Q];first|done|rfl):p:=h
theorem zED{p:Prop}(h:p:=by rw[P.out];refine HD AA AG ?_;simp only[go_sem,ac,ad,BE,AM]):p:=h
theorem zEL{p:Prop}(h:p:=by simp only[go_sem,ad,w,AM,O,M,f,o,r,s,u,bv,bo,B,C,D,F,J,I]):p:=h
theorem zEM{p:Prop}(h:p:=by simp only[go_sem,ag,w,AM,O,M,f,o,r,s,u,bv,bo,B,C,D,F,J,I]):p:=h
theorem zEN{p:Prop}(h:p:=by have f:=AJ b;have k:=t.out id b;simp only[go_sem,f,k,AM]):p:=h
end Go
namespace Go.Proofs
open Go Go.Abs
set_option maxRecDepth 100000
set_option maxHeartbeats 4000000
theorem sX(a b:List Int)(u:b.length≤1000000):BU (KL Tryz.prog cfg) 99 [.d (.bv (a.map AR)),.d (.bv (b.map AR))] []=.ok (.ret (.d (.bool (decide (a=b)))),[]):=by
 by_cases g:(a.length:Int)=b.length
 .have w: ¬ ¬(a.length:Int)=b.length:=fun h=>h g;refine A7 Tryz.func99 ?_;refine aw ?_;refine An a _ (S:=fun s i (_:Unit)=>⟨[(0,.d (.bv (a.map AR))),(1,.d (.bv (b.map AR))),(12,nI s),(13,nI i)],[],0,[]⟩)
   (Inv:=fun i x _=>AH (a.take i=b.take i)) (b0:=()) AA ⟨AG⟩ ?_ ?_
  .rintro i t _ j f p c m;have o:i<b.length:=AA;have v:i<a.length:=AA;have n:(i:Int)<b.length:=AA;have y:IntKind.i64.wrap ((i:Int)+1)=(i:Int)+1:=wrap_id AA AA;obtain⟨z,l⟩:=get_some o;have q:=AH.mk (XR AA j l);by_cases k:t=z
   .subst k;have r:AH (a.take (i+1)=b.take (i+1)):=⟨by rw[F6,F6,c.out,j,l]⟩;refine aw ?_;exact m.out () r
   .rw[q.out k];exact au
  .rintro i _ f p c;have:decide (a=b)=true:=D1 (by
    have h:=c.out
    rwa [f.out,D3,show a.length=b.length by omega,D3]at h)
   rw[this];have n: ¬(i:Int)<b.length:=by have:=f.out;omega
   exact au
 .rw[Ci fun e=>g (by rw[e])];refine A7 Tryz.func99 ?_;exact au
theorem Yw(x a:Dp)(c:a.kw.length≤1000000):BU (KL Tryz.prog cfg) 54 [Qq x,Qq a] []=.ok (.ret (.d (.bool (decide (x=a)))),[]):=by
 have e:=sX x.kw a.kw c;have b:AH (decide (x=a)=(decide (x.wait=a.wait)&&(decide (x.group=a.group)&&(decide (x.rt=a.rt)&&decide (x.kw=a.kw))))):=⟨by
  have:(x=a)↔(x.wait=a.wait∧x.group=a.group∧x.rt=a.rt∧x.kw=a.kw):=by cases x;cases a;simp
  rw[MD];simp only[AP,Ap];exact this⟩
 rw[b.out];refine A7 Tryz.func54 ?_;exact au;all_goals simp[*]
end Go.Proofs
namespace Go.Abs
theorem U5{b:Type}{f:b→List Ao}{l:List b}{g:G}{sz:Nat}{k:IntKind}{m:Int}(i: ∀a,(f a).length=sz)(c:0≤m)(j:m≤l.length):Fy g .slice sz (.d (.bv (l.map f))) (some (.d (.int k m))) none none=some (.d (.bv ((l.drop m.toNat).map f))):=by
 have e:E1 (some (.d (.int k m))) none none (l.map f).length=some (m.toNat,(l.map f).length,none):=by
  simp[E1,IU,Jh,c,j]
 have h:N3 sz (l.map f)=true:=by
  cases l with
  |nil=>rfl
  |cons a l=>simp only[CO,N3,Il,Ap];exact i a
 show Rr sz (l.map f) (E1 (some (.d (.int k m))) none none (l.map f).length)=_;rw[e];have n:Nat.ble m.toNat (l.map f).length=true:=by rw[Hh];simp;omega
 have h2:Nat.ble (l.map f).length (l.map f).length=true:=by rw[Hh];simp
 simp only[Rr,n,h2,h,ON,F7,Pp];rw[By AG]
end Go.Abs
namespace Go.Proofs
open Go Go.Abs
set_option maxRecDepth 100000
set_option maxHeartbeats 4000000
variable{g:G}{k:IntKind}{m:Int}
theorem ie{l:List Bn}(a:0≤m)(b:m≤l.length):Fy g .slice 2 (.d (.bv (l.map Au))) (some (.d (.int k m))) none none=some (.d (.bv ((l.drop m.toNat).map Au))):=U5 (fun _=>rfl) a b
theorem qA{l:List Cl}(a:0≤m)(b:m≤l.length):Fy g .slice 2 (.d (.bv (l.map AN))) (some (.d (.int k m))) none none=some (.d (.bv ((l.drop m.toNat).map AN))):=U5 (fun _=>rfl) a b
theorem Tv{h:AD}{π:List Nat}{m gid:Abs.Id}{p:AX}{s:BX}{st:Bo}{x9 x10 x11 x12:AV}(c4:looks p=some st)
 (H:h.get m=some (.box [.d (.bv (s.ac.map Au)),.d (.bv (s.ce.map BF)),.d (.bv (s.be.map DA)),.d (.bv (s.waits.map Ae)),.d (.bv (p.free.map Bp)),.d (.bv (p.nodes.map Ba)),.d (.bv (p.defs.map Bw)),nI p.main,.d (.bv (st.co.map AR)),x9,x10,x11,x12])) (d7:Id.under π m=false) (fp:x9=slv gid p.defs.length) (cx:p.defs.length≠0→h.get gid=some (.em 1 ((B6 p st.co).map AR))) (d6:Id.under π gid=false):
 ∃o h',KL Tryz.prog cfg (.fn 91) [.ptr m 0] h π true (some π)=.ok (o,h')∧o=(Jc (DH 2) (EA p st.co s)).1:=by
 have L:=AJ d7;have gz:=Ak d7;have cl:=AI d7;have bi:=AJ d6;have g0:=Ak d6;have g2:=AI d6;have ag:=AH.mk (DI c4);have e0:=ag.out.small;simp only[AX.small,AP,Ap]at e0;obtain⟨gs,gu,gv⟩:=e0;have g6:(B6 p st.co).length=p.defs.length:=by rw[B6,Jq];simp
 by_cases a1:s.small=true
 .have a':AH (EA p st.co s=(Ha s.ac&&(Gw s.ac (s.ac.drop 1)&&(CX p (B6 p st.co) s 0 0 1 s.ce&&s.waits.all (Ca p st.co s))))):=⟨by rw[EA,a1,FN]⟩;simp only[BX.small,AP,Ap]at a1;obtain⟨hn,ho,hp,hq⟩:=a1;have hw:(s.ac.length:Int)≤24:=AA;have hx:(s.ce.length:Int)≤40:=AA;have hy:(s.be.length:Int)≤60:=AA;have hz:(s.waits.length:Int)≤40:=AA;have b7:=lA s.ac AA;cases c6:Ha s.ac with
  |false=>
   rw[c6]at a' b7;rw[a'.out];refine BT Tryz.func91 ?_;refine aw ?_;rfl
  |true=>
   rw[c6,FN]at a';rw[c6]at b7;have X:=VD c6;have hf:=X.top;have hc:(1:Int)≤s.ac.length:=by have:=X.pos;omega
   replace X:=AB X;refine BT Tryz.func91 ?_
   (repeat' (first|simp only[go_sem, *]|(refine sx ?_ ?_<;>intro bs)|refine sy AA fun x ac H=>?_|simp(disch:=first|assumption|omega) only[AU,ie]))
   refine An (s.ac.drop 1) _ (S:=fun J i (a:AD×Nat)=>⟨[(0,.ptr m 0),(65,.d (.bv ((s.ac.drop 1).map Au))),(66,nI J),(67,nI i)],a.1,a.2+49,[]⟩)
    (Inv:=fun i O a=>a.1.get m=h.get m∧a.1.get gid=h.get gid∧AH (Gw s.ac (s.ac.drop 1)=Gw s.ac O)) (b0:=(h,_)) rfl ⟨rfl,rfl,⟨rfl⟩⟩ ?_ ?_
   .rintro i K ⟨g,c⟩ Q V a0 ⟨f,r,u⟩ T;dsimp only at*;have hh:=Q;rw[He]at Q;have g7:=V;rw[Io]at V;have D:AH (Gw s.ac (s.ac.drop 1)=false→Ax.ge (DH 2)=(Jc (DH 2) (EA p st.co s)).1):=⟨fun h=>by rw[a'.out,h];rfl⟩;have f8:E7 s.ac K.rc:=by
     have cp:=X.out.rx (((1+i:Nat):Int)) ⟨AA,AA⟩;obtain⟨k,f3⟩: ∃k,s.ac.length=k+1:=⟨s.ac.length-1,AA⟩;rw[f3]at cp;have h2:=(GQ AA cp).1
     rwa [Ky (s:=K) (by rw[←Q];congr 1)]at h2
    obtain⟨I,R⟩:=f8;obtain⟨z,ga⟩:=get_some (l:=s.ac) (i:=K.rc.toNat) AA;have U:AH (Al s.ac K.rc=z.dead):=⟨by simp[Al,ga]⟩;rw[Gw]at u;replace Q:=AB Q;cases dq:K.dead<;>cases e2:z.dead;all_goals (refine aw ?_)
    all_goals first
    |(refine T.out (_,_) ⟨?_,?_,⟨?_⟩⟩
      .exact zBK
      .exact zDF
      .rw[u.out,dq,U.out,e2];simp)
    |(refine T.out (_,_) ⟨?_,?_,⟨?_⟩⟩
      .exact zBK
      .exact zDF
      .rw[u.out,dq];simp)
    |exact D.out (by rw[u.out,dq,U.out,e2];rfl)
   .rintro i ⟨g,c⟩ V a0 ⟨f,r,u⟩;dsimp only at*;rw[Gw]at u;refine aw ?_;clear V a0;have em:AH (EA p st.co s=(CX p (B6 p st.co) s 0 0 1 s.ce&&s.waits.all (Ca p st.co s))):=⟨by rw[a'.out,u.out,FN]⟩;clear a' u i;refine An s.ce _ (S:=fun J i (a:AD×Nat×Nat×Nat)=>⟨[(0,.ptr m 0),(4,nI a.2.2.1),(5,nI a.2.2.2),(92,.d (.bv (s.ce.map BF))),(93,nI J),(94,nI i)],a.1,a.2.1+59,[]⟩)
     (Inv:=fun i O a=>a.1.get m=h.get m∧a.1.get gid=h.get gid∧a.2.2.1≤30*i∧a.2.2.2≤30*i+1∧AH (EA p st.co s=(CX p (B6 p st.co) s i a.2.2.1 a.2.2.2 O&&s.waits.all (Ca p st.co s)))) (b0:=(g,_,0,1)) rfl ⟨f,r,AG,AG,em⟩ ?_ ?_
    .clear f r em g c;rintro i e ⟨g,n,c,k⟩ Q V a0 ⟨f,r,b1,d8,u⟩ T;dsimp only at*;by_cases e7:e.f9<0
     .have e7: ¬0≤e.f9:=AA;have dd:AH (EA p st.co s=false):=⟨by rw[u.out,CX,AX.def?,Co AA,DO]⟩;refine aw ?_;all_goals (rw[dd.out];rfl)
     by_cases gr:(p.defs.length:Int)≤e.f9
     .have gr: ¬e.f9<p.defs.length:=AA;have e7:0≤e.f9:=AA;have dd:AH (EA p st.co s=false):=⟨by rw[u.out,CX,AX.def?,D5 AA,Kw AA,DO]⟩;refine aw ?_;all_goals (rw[dd.out];rfl)
     have e8:0≤e.f9:=AA;have hv:e.f9<p.defs.length:=AA;have fs:e.f9.toNat<p.defs.length:=AA;have eb:p.defs.length≠0:=AA;obtain⟨d,a7⟩:=get_some fs;have bv:=CA ag.out a7;obtain⟨v,Z⟩:=get_some (l:=B6 p st.co) (i:=e.f9.toNat) AA;have hg:d.own≤v∧v≤5060:=by
      obtain⟨_,_,hm,_,_,_,_,c8,be,ad,_⟩:=bv.node;rw[Z]at ad;cases ad;have:=PK bv.ok;omega
     have b6:AH (EA p st.co s=((KO p (B6 p st.co) s i c k e d&&CX p (B6 p st.co) s (i+1) (c+d.be.length) (k+d.ac.length) (s.ce.drop (i+1)))&&s.waits.all (Ca p st.co s))):=⟨by
      rw[u.out,CX,AX.def?,D5 e8,a7]⟩
     have b3:AH (KO p (B6 p st.co) s i c k e d=(decide (E7 s.ac e.at_)&&(decide ((e.env.length:Int)=v)&&(e.env.all (Cl.inB p s.be.length s.ac.length)&&(Du d c k e&&E2 p s d e i c 0 d.be))))):=⟨by
      rw[KO,Z];rfl⟩
     have D:AH (KO p (B6 p st.co) s i c k e d=false→Ax.ge (DH 2)=(Jc (DH 2) (EA p st.co s)).1):=⟨fun h=>by rw[b6.out,h];rfl⟩;have bx:=bv.ok;have fd:=bx.be;have fi:=bx.ac;have gw:d.own=d.be.length+d.ac.length:=rfl;replace bx:=AB bx;replace bv:=AB bv;have fv:=cx eb;rw[Bh eb]at fp;refine aw ?_;refine Dz (dD (sp:=s.ac.map Au) (Eq.trans (b:=h.get m) ?_ H) Aa e.at_) (fun b' g1 I=>?_)
     .exact zBK
     by_cases F:E7 s.ac e.at_
     .have g8:=F;replace I:b'=.ret (.ii []):=by
       rw[I,D1 F.1,As,D1 F.2];rfl
      subst I;replace F:=AB F;have g5:h.get gid=some (.em 1 ((B6 p st.co).map AR)):=fv;refine aw ?_;refine Dz (YG (p:=p) (sp:=s.ac.map Au) (ch:=s.be.map DA) (Eq.trans (b:=h.get m) ?_ H) (cl _) Aa Aa AA e.env v AA) (fun e4 bk R=>?_)
      .exact zBK
      rw[As,As]at R;by_cases b2:(decide ((e.env.length:Int)=v)&&e.env.all (Cl.inB p s.be.length s.ac.length))=true
      .rw[b2]at R;replace R:e4=.ret (.ii []):=R;subst R;rw[AP,Ap]at b2;obtain⟨de,bo⟩:=b2;have ha:e.env.length≤5060:=AA;have en:d.own≤e.env.length:=AA;have c0:AH (KO p (B6 p st.co) s i c k e d=(Du d c k e&&E2 p s d e i c 0 d.be)):=⟨by
        rw[b3.out,D1 F.out,D1 de,bo,FN,FN,FN]⟩
       clear b3;replace de:=AB de;replace bo:=AB bo;obtain⟨E,bl⟩: ∃E,E=e.env.drop (e.env.length-d.be.length-d.ac.length):=⟨_,rfl⟩;have g4:E.length=d.be.length+d.ac.length:=by rw[bl,Io];omega
       have gm:IntKind.i64.wrap ((e.env.length:Int)-(d.be.length:Int))=(e.env.length:Int)-(d.be.length:Int):=wrap_id AA AA;have gn:IntKind.i64.wrap ((e.env.length:Int)-(d.be.length:Int)-(d.ac.length:Int))=((e.env.length-d.be.length-d.ac.length:Nat):Int):=zFZ
       have e5: ∀d9:G,Fy d9 .slice 2 (.d (.bv (e.env.map AN))) (some (nI ((e.env.length-d.be.length-d.ac.length:Nat):Int))) none none=some (.d (.bv ((e.env.drop (e.env.length-d.be.length-d.ac.length)).map AN))):=fun d9=>qA AA AA;rw[←bl]at e5;have df:AH (Du d c k e=decide (E.drop 0=(FO c k d).drop 0)):=⟨by rw[bl];rfl⟩;replace bl:=AB bl;have dr: ¬n=n+43:=AA;have d5: ¬n+43=n:=AA;refine ax ?_;clear gm gn e5 dr d5;refine An d.be _ (S:=fun J C (a:AD×Nat)=>⟨[(0,.ptr m 0),(4,nI c),(5,nI k),(6,nI i),(7,.ptr (0::(n+63)::π) 0),(8,.ptr (0::(n+106)::π) 0),(9,.d (.bv (E.map AN))),(92,.d (.bv (s.ce.map BF))),(93,nI s.ce.length),(94,nI i),(155,nI J),(156,nI C)],a.1,a.2+127,[]⟩)
        (Inv:=fun C O a=>a.1.get m=h.get m∧a.1.get gid=h.get gid∧a.1.get (0::(n+63)::π)=some (.box [nI e.f9,nI e.at_,.d (.bv (e.env.map AN))])∧a.1.get (0::(n+106)::π)=some (.box [.d (.bv (d.be.map BC)),.d (.bv (d.ac.map Aw)),.d (.bv (d.rules.map BA))])∧n≤a.2∧AH (Du d c k e=decide (E.drop C=(FO c k d).drop C))) (b0:=(_,_)) rfl ⟨?_,?_,?_,?_,?_,df⟩ ?_ ?_
       .exact zBK
       .exact zDF
       .have dr: ¬n=n+43:=AA;have d5: ¬n+43=n:=AA;simp only[go_sem,dr,d5,AM]
       .simp only[go_sem,AM]
       .exact Es _
       .clear df f r g;rintro C K ⟨g,t⟩ hi c2 ek ⟨f,r,A,y,M,N⟩ c9;dsimp only at*;obtain⟨P,c7⟩:=get_some (l:=E) (i:=C) AA;have g3:(C:Int)<E.length:=AA;have b5:AH (Du d c k e=(decide (P=⟨3,(c:Int)+(C:Int)⟩)&&decide (E.drop (C+1)=(FO c k d).drop (C+1)))):=⟨by
         rw[N.out,KG c7,KG (NP c k d c2),MD];simp⟩
        have e6:IntKind.i64.wrap ((c:Int)+(C:Int))=(c:Int)+(C:Int):=wrap_id AA AA;by_cases a2:P=⟨3,(c:Int)+(C:Int)⟩
        .exact zCS
        .have f6:(decide (P.kind=3)&&decide (P.n=(c:Int)+(C:Int)))=false:=by
          rw[←Lm,AP,Ap,Ap];rintro⟨cp,h2⟩;exact a2 (by cases P;simp_all)
         exact zCd
       .clear df f r g;rintro C ⟨g,t⟩ c2 ek ⟨f,r,A,y,M,N⟩;dsimp only at*;rw[c2.out]at N;refine ax ?_;clear c2 ek C;refine An d.ac _ (S:=fun J j (a:AD×Nat)=>⟨[(0,.ptr m 0),(4,nI c),(5,nI k),(6,nI i),(7,.ptr (0::(n+63)::π) 0),(8,.ptr (0::(n+106)::π) 0),(9,.d (.bv (E.map AN))),(92,.d (.bv (s.ce.map BF))),(93,nI s.ce.length),(94,nI i),(172,nI J),(173,nI j)],a.1,a.2+132,[]⟩)
         (Inv:=fun j O a=>a.1.get m=h.get m∧a.1.get gid=h.get gid∧a.1.get (0::(n+63)::π)=some (.box [nI e.f9,nI e.at_,.d (.bv (e.env.map AN))])∧a.1.get (0::(n+106)::π)=some (.box [.d (.bv (d.be.map BC)),.d (.bv (d.ac.map Aw)),.d (.bv (d.rules.map BA))])∧n≤a.2∧AH (Du d c k e=decide (E.drop (d.be.length+j)=(FO c k d).drop (d.be.length+j)))) (b0:=(g,t)) rfl ⟨f,r,A,y,M,N⟩ ?_ ?_
        .clear N f r A y g M t;rintro j K ⟨g,t⟩ e1 az c3 ⟨f,r,A,y,M,N⟩ c9;dsimp only at*;obtain⟨P,c7⟩:=get_some (l:=E) (i:=d.be.length+j) AA;have b5:AH (Du d c k e=(decide (P=⟨4,(k:Int)+(j:Int)⟩)&&decide (E.drop (d.be.length+(j+1))=(FO c k d).drop (d.be.length+(j+1))))):=⟨by
          rw[N.out,KG c7,KG (NQ c k d az),MD];simp[Rc]⟩
         have e6:IntKind.i64.wrap ((k:Int)+(j:Int))=(k:Int)+(j:Int):=wrap_id AA AA;have hu:IntKind.i64.wrap ((d.be.length:Int)+(j:Int))=(d.be.length:Int)+(j:Int):=wrap_id AA AA;have a3:((d.be.length:Int)+(j:Int)).toNat=d.be.length+j:=AA;rw[←a3]at c7;replace a3:=AB a3;have gf:0≤(d.be.length:Int)+(j:Int):=AA;have gg:(d.be.length:Int)+(j:Int)<E.length:=AA;by_cases a2:P=⟨4,(k:Int)+(j:Int)⟩
         .exact zCS
         .have f6:(decide (P.kind=4)&&decide (P.n=(k:Int)+(j:Int)))=false:=by
           rw[←Lm,AP,Ap,Ap];rintro⟨cp,h2⟩;exact a2 (by cases P;simp_all)
          exact zCd
        .clear N f r A y g M t;rintro j ⟨g,t⟩ az c3 ⟨f,r,A,y,M,N⟩;dsimp only at*;have b4:Du d c k e=true:=by
          have g9:=az.out;rw[N.out,EX AA,EX (by rw[KR];omega)];rfl
         have c1:AH (KO p (B6 p st.co) s i c k e d=E2 p s d e i c 0 d.be):=⟨by rw[c0.out,b4,FN]⟩;replace b4:=AB b4;clear N c0;refine ax ?_;clear az c3 j;refine An d.be _ (S:=fun J j (a:AD×Nat)=>⟨[(0,.ptr m 0),(4,nI c),(5,nI k),(6,nI i),(7,.ptr (0::(n+63)::π) 0),(8,.ptr (0::(n+106)::π) 0),(92,.d (.bv (s.ce.map BF))),(93,nI s.ce.length),(94,nI i),(192,.d (.bv (d.be.map BC))),(193,nI J),(194,nI j)],a.1,a.2+137,[]⟩)
          (Inv:=fun j O a=>a.1.get m=h.get m∧a.1.get gid=h.get gid∧a.1.get (0::(n+63)::π)=some (.box [nI e.f9,nI e.at_,.d (.bv (e.env.map AN))])∧a.1.get (0::(n+106)::π)=some (.box [.d (.bv (d.be.map BC)),.d (.bv (d.ac.map Aw)),.d (.bv (d.rules.map BA))])∧n≤a.2∧AH (E2 p s d e i c 0 d.be=E2 p s d e i c j O)) (b0:=(g,t)) rfl ⟨f,r,A,y,M,⟨rfl⟩⟩ ?_ ?_
         .clear f r A y g M t;rintro j ch ⟨g,t⟩ e1 az c3 ⟨f,r,A,y,M,bc⟩ c';dsimp only at*;have fr:c+j<s.be.length:=by
           have:=D4.1 bo.out _ (AS (W4 b4.out az));simp[Cl.inB]at this;omega
          obtain⟨q,es⟩:=get_some fr;have cs:=bx.out.chan ch (AS e1);have f9:=Qe b4.out en F.out bo.out (n:=ch.at_) cs.1 cs.2.1;obtain⟨hd,he⟩:=f9;obtain⟨sp,dm⟩:=get_some (l:=s.ac) (i:=(e.place d ch.at_).toNat) AA;have U:AH (Al s.ac (e.place d ch.at_)=sp.dead):=⟨by simp[Al,dm]⟩;have ar:AH (LQ p s d e i j (c+j) ch=(decide (q.group=i)&&(decide (q.index=j)&&(decide (q.at_=e.place d ch.at_)&&(decide (q.queue.length≤12)&&((decide (q.queue.length=0)|| !Al s.ac q.at_)&&q.queue.all (GF p s.be.length s.ac.length ch.many))))))):=⟨by rw[LQ,es];rfl⟩;have ai:AH (LQ p s d e i j (c+j) ch=false→Ax.ge (DH 2)=(Jc (DH 2) (EA p st.co s)).1):=⟨fun h=>D.out (by rw[c1.out,bc.out,E2,h,DO])⟩;have e6:IntKind.i64.wrap ((c:Int)+(j:Int))=(c:Int)+(j:Int):=wrap_id AA AA;have a3:((c:Int)+(j:Int)).toNat=c+j:=AA;rw[←a3]at es;replace a3:=AB a3;have gf:0≤(c:Int)+(j:Int):=AA;have gg:(c:Int)+(j:Int)<s.be.length:=AA;have be: ¬t+78=n:=AA;have ad: ¬n=t+78:=AA;have a5: ¬t+91=n:=AA;have a6: ¬n=t+91:=AA;have d0: ¬t+35=n:=AA;have d1: ¬n=t+35:=AA;have d2: ¬t+48=n:=AA;have d3: ¬n=t+48:=AA;have d4: ¬t+13=t:=AA;have c8: ¬t=t+13:=AA;by_cases g1:q.group=i
          .by_cases bk:q.index=j
           .refine ax ?_;refine Dj (OM (d:=d) (ds:=p.defs) (Eq.trans (b:=h.get m) ?_ H) (cl _) e8 a7 fd fi en AA ch.at_ cs.1 cs.2.1) (fun hl ea gi=>?_)
            .exact zBK
            subst gi;by_cases cn:q.at_=e.place d ch.at_
            .rw[cn]
             (repeat' (first|simp only[go_sem, *,AM]|(refine sx ?_ ?_<;>intro bs)|refine sy AA fun x ac H=>?_|simp(disch:=first|assumption|omega) only[AU]))
             all_goals try
              refine ai.out ?_;rw[ar.out,cn,U.out];clear T c' u b6 D ai ar c1 bc Q a7 Z X ag H cx b7 c4 f r A y;grind
             all_goals
              have av:AH (LQ p s d e i j (c+j) ch=q.queue.all (GF p s.be.length s.ac.length ch.many)):=⟨by
               rw[ar.out,cn,U.out];clear T c' u b6 D ai ar c1 bc Q a7 Z X ag H cx b7 c4 f r A y;grind⟩
              refine An q.queue _ (S:=fun J l (a:AD×Nat)=>⟨[(0,.ptr m 0),(4,nI c),(5,nI k),(6,nI i),(7,.ptr (0::(n+63)::π) 0),(8,.ptr (0::(n+106)::π) 0),(13,.ptr (0::(t+141)::π) 0),(92,.d (.bv (s.ce.map BF))),(93,nI s.ce.length),(94,nI i),(192,.d (.bv (d.be.map BC))),(193,nI d.be.length),(194,nI j),(255,.d (.bv (q.queue.map BD))),(256,nI J),(257,nI l)],a.1,a.2+205,[]⟩)
               (Inv:=fun l O a=>a.1.get m=h.get m∧a.1.get gid=h.get gid∧a.1.get (0::(n+63)::π)=some (.box [nI e.f9,nI e.at_,.d (.bv (e.env.map AN))])∧a.1.get (0::(n+106)::π)=some (.box [.d (.bv (d.be.map BC)),.d (.bv (d.ac.map Aw)),.d (.bv (d.rules.map BA))])∧a.1.get (0::(t+141)::π)=some (.box [nI ch.at_,nI ch.many])∧t≤a.2∧AH (q.queue.all (GF p s.be.length s.ac.length ch.many)=O.all (GF p s.be.length s.ac.length ch.many))) (b0:=(_,t)) ?_ ⟨?_,?_,?_,?_,?_,?_,⟨rfl⟩⟩ ?_ ?_
              .omega
              .exact zBK
              .exact zDF
              .simp only[go_sem,A,be,ad,a5,a6,AM]
              .simp only[go_sem,y,d0,d1,d2,d3,AM]
              .simp only[go_sem,d4,c8,AM]
              .exact Es _
              .clear f r A y g be ad a5 a6 d0 d1 d2 d3 d4 c8;rintro l K ⟨g,a4⟩ hj f1 f2 ⟨f,r,A,y,d',f5,c5⟩ e';dsimp only at*;have be: ¬a4+67=t:=AA;have ad: ¬t=a4+67:=AA;refine ax ?_;refine Dz (YG (p:=p) (sp:=s.ac.map Au) (ch:=s.be.map DA) (Eq.trans (b:=h.get m) ?_ H) (cl _) Aa Aa AA K ch.many AA) (fun cc fl B=>?_)
               .exact zBK
               rw[As,As]at B;have el:(decide ((K.length:Int)=ch.many)&&K.all (Cl.inB p s.be.length s.ac.length))=GF p s.be.length s.ac.length ch.many K:=rfl;rw[el]at B;clear el;cases W:GF p s.be.length s.ac.length ch.many K with
               |true=>
                rw[W]at B;replace B:cc=.ret (.ii []):=B;subst B;refine ax ?_;refine e'.out (_,_) ⟨?_,?_,?_,?_,?_,?_,⟨?_⟩⟩
                .exact zBK
                .exact zDF
                .have a5: ¬a4+145=n:=AA;have a6: ¬n=a4+145:=AA;simp only[go_sem,A,a5,a6,AM]
                .have a5: ¬a4+102=n:=AA;have a6: ¬n=a4+102:=AA;simp only[go_sem,y,a5,a6,AM]
                .simp only[go_sem,d',be,ad,AM]
                .dsimp only;omega
                .rw[c5.out,D9,W,FN]
               |false=>
                rw[W]at B;replace B:cc=.ge (DH 2):=B;subst B;refine ax ?_;exact ai.out (by rw[av.out,c5.out,D9,W,DO])
              .clear f r A y g be ad a5 a6 d0 d1 d2 d3 d4 c8;rintro l ⟨g,a4⟩ f1 f2 ⟨f,r,A,y,d',f5,c5⟩;dsimp only at*;refine ax ?_;refine c'.out (_,_) ⟨f,r,A,y,?_,⟨?_⟩⟩
               .dsimp only;omega
               .rw[bc.out,E2,av.out,c5.out];rfl
            .refine ax ?_;exact ai.out (by rw[ar.out,Ci cn];simp)
           .refine ax ?_;exact ai.out (by rw[ar.out,Ci bk];simp)
          .refine ax ?_;exact ai.out (by rw[ar.out,Ci g1];simp)
         .clear f r A y g M t;rintro j ⟨g,t⟩ az c3 ⟨f,r,A,y,M,bc⟩;dsimp only at*;have f0:AH (KO p (B6 p st.co) s i c k e d=true):=⟨by rw[c1.out,bc.out];rfl⟩;refine ax ?_;refine T.out (g,_,c+d.be.length,k+d.ac.length) ⟨f,r,?_,?_,⟨?_⟩⟩
          .dsimp only;omega
          .dsimp only;omega
          .dsimp only;rw[b6.out,f0.out,FN]
      .rw[Lm]at b2;rw[b2]at R;replace R:e4=.ge (DH 2):=R;subst R;refine aw ?_;refine D.out ?_;rw[b3.out];clear T u b6 D b3 Q a7 Z X ag H cx b7 c4 f r;grind
     .replace I:b'=.ge (DH 2):=by
       rw[I,As];have:(decide (0≤e.at_)&&decide (e.at_<(s.ac.length:Int)))=false:=by
        rw[←Lm,AP,Ap,Ap];exact F
       rw[this];rfl
      subst I;refine aw ?_;exact D.out (by rw[b3.out,Ci F,DO])
    .rintro i ⟨g,n,c,k⟩ V a0 ⟨f,r,b1,d8,u⟩;dsimp only at*;have av:AH (EA p st.co s=((decide (c=s.be.length)&&decide (k=s.ac.length))&&s.waits.all (Ca p st.co s))):=⟨by rw[u.out,CX]⟩;by_cases g1:c=s.be.length
     .by_cases bk:k=s.ac.length
      .have ej:AH (EA p st.co s=s.waits.all (Ca p st.co s)):=⟨by rw[av.out,D1 g1,D1 bk];rfl⟩;clear av u;refine aw ?_;clear V a0 i b1 d8;refine An s.waits _ (S:=fun J i (a:AD×Nat)=>⟨[(0,.ptr m 0),(303,.d (.bv (s.waits.map Ae))),(304,nI J),(305,nI i)],a.1,a.2+86,[]⟩)
        (Inv:=fun i O a=>a.1.get m=h.get m∧AH (EA p st.co s=O.all (Ca p st.co s))) (b0:=(g,n)) rfl ⟨f,ej⟩ ?_ ?_
       .clear f r ej g n;rintro i w ⟨g,n⟩ Q V a0 ⟨f,u⟩ T;dsimp only at*;have b8:AH (Ca p st.co s w=(decide (E7 s.ac w.at_)&&(!Al s.ac w.at_&&(decide (0≤w.node)&&((match p.nodes[w.node.toNat]? with|some x=>DV x.op|none=>false)&&(decide ((w.env.length:Int)=(st.co[w.node.toNat]?).getD 0)&&w.env.all (Cl.inB p s.be.length s.ac.length))))))):=⟨rfl⟩
        have D:AH (Ca p st.co s w=false→Ax.ge (DH 2)=(Jc (DH 2) (EA p st.co s)).1):=⟨fun h=>by rw[u.out,D9,h];rfl⟩;refine ax ?_;refine Dz (dD (sp:=s.ac.map Au) (Eq.trans (b:=h.get m) ?_ H) Aa w.at_) (fun b' g1 I=>?_)
        .exact zBK
        by_cases F:E7 s.ac w.at_
        .replace I:b'=.ret (.ii []):=by
          rw[I,D1 F.1,As,D1 F.2];rfl
         subst I;obtain⟨gb,C⟩:=F;obtain⟨sp,dm⟩:=get_some (l:=s.ac) (i:=w.at_.toNat) AA;have U:AH (Al s.ac w.at_=sp.dead):=⟨by simp[Al,dm]⟩;by_cases e3:0≤w.node
         .by_cases hk:w.node<p.nodes.length
          .obtain⟨x,ac⟩:=get_some (l:=p.nodes) (i:=w.node.toNat) AA;obtain⟨v,_,Z,v0,v1,_⟩:=ag.out.node _ x ac;have g':=AB ag.out.len;have hb:=AL Z;have dn:AH (Ca p st.co s w=(!Al s.ac w.at_&&(DV x.op&&(decide ((w.env.length:Int)=v)&&w.env.all (Cl.inB p s.be.length s.ac.length))))):=⟨by
            rw[b8.out,ac,Z,D1 e3,D1 ⟨gb,C⟩];rfl⟩
           clear b8;cases ex:sp.dead with
           |true=>
            refine ax ?_;all_goals exact D.out (by rw[dn.out,U.out,ex];rfl)
           |false=>
            by_cases Y:DV x.op=true
            .have f':AH (Ca p st.co s w=(decide ((w.env.length:Int)=v)&&w.env.all (Cl.inB p s.be.length s.ac.length))):=⟨by
              rw[dn.out,U.out,ex,Y];rfl⟩
             simp only[DV,I8,Ap]at Y;replace Y:=AB Y
             (repeat' (first|simp only[go_sem, *,AM]|(refine sx ?_ ?_<;>intro bs)|refine sy AA fun x ac H=>?_|simp(disch:=first|assumption|omega) only[AU]))
             all_goals try(exfalso;have:=Y.out;omega)
             all_goals
              refine Dz (YG (p:=p) (sp:=s.ac.map Au) (ch:=s.be.map DA) (Eq.trans (b:=h.get m) ?_ H) (cl _) Aa Aa AA w.env v AA) (fun cc fl B=>?_)
              .exact zBK
              rw[As,As]at B;rw[←f'.out]at B;cases W:Ca p st.co s w with
              |true=>
               rw[W]at B;replace B:cc=.ret (.ii []):=B;subst B;refine ax ?_;refine T.out (_,_) ⟨?_,⟨?_⟩⟩
               .exact zBK
               .rw[u.out,D9,W,FN]
              |false=>
               rw[W]at B;replace B:cc=.ge (DH 2):=B;subst B;refine ax ?_;exact D.out W
            .have f7:AH (DV x.op=false):=⟨by simpa using Y⟩;simp only[DV,I8,Ap,not_or]at Y;obtain⟨hr,hs,ht⟩:=Y;refine ax ?_;all_goals exact D.out (by rw[dn.out,U.out,f7.out];simp)
          ·(repeat' (first|simp only[go_sem, *,AM]|(refine sx ?_ ?_<;>intro bs)|refine sy AA fun x ac H=>?_|simp(disch:=first|assumption|omega) only[AU]))
           all_goals exact D.out (by rw[b8.out,Kw (show p.nodes.length≤w.node.toNat by omega)];simp)
         ·(repeat' (first|simp only[go_sem, *,AM]|(refine sx ?_ ?_<;>intro bs)|refine sy AA fun x ac H=>?_|simp(disch:=first|assumption|omega) only[AU]))
          all_goals exact D.out (by rw[b8.out,Ci e3];simp)
        .replace I:b'=.ge (DH 2):=by
          rw[I,As];have:(decide (0≤w.at_)&&decide (w.at_<(s.ac.length:Int)))=false:=by
           rw[←Lm,AP,Ap,Ap];exact F
          rw[this];rfl
         subst I;refine ax ?_;exact D.out (by rw[b8.out,Ci F];rfl)
       .rintro i ⟨g,n⟩ V a0 ⟨f,u⟩;dsimp only at*;refine aw ?_;rw[u.out];rfl
      .have ea: ¬(k:Int)=s.ac.length:=AA;refine aw ?_;rw[av.out,Ci bk];simp[Jc]
     .have ea: ¬(c:Int)=s.be.length:=AA;refine aw ?_;rw[av.out,Ci g1];rfl
 .have f4:EA p st.co s=false:=by rw[EA];simp[a1]
  rw[f4];have a1:AH (¬(s.ac.length≤24∧s.ce.length≤40∧s.be.length≤60∧s.waits.length≤40)):=⟨by simpa[BX.small]using a1⟩;refine BT Tryz.func91 ?_
  (repeat' (first|simp only[go_sem, *]|(refine sx ?_ ?_<;>intro bs)|refine sy AA fun x ac H=>?_|simp(disch:=first|assumption|omega) only[AU]))
  all_goals first
  |rfl
  |(have:=a1.out;exfalso;omega)
end Go.Proofs
namespace Go.Abs
def uk(id:Id)(x:Ao)(v:AV)(es:List (Ao×AV)):Option (Option AV)→Option Cx
 |some _=>some ⟨.undef,[(id,.map (FM es x v))]⟩
 |none=>none
def j7(id:Id)(x:Ao)(v:AV):Option Obj→Option Cx
 |some (.map es)=>uk id x v es (Db es x)
 |_=>none
def uo(x:Ao)(v:AV)(id:Id)(o:Option Obj):Option TI→Option Cx
 |some j=>if (Ks j.kind x&&v.isCell)=true then j7 id x v o else none
 |none=>none
theorem oV(a:TypeId→Option TI)(g:G)(i:TI)(id:Id)(x:Ao)(v:AV)(b:i.kind=.map):mapPut a g (some i) (.mp id) (.d x) v=uo x v id (g id) (a i.key):=by
 unfold mapPut;simp only[M7,b];cases a i.key with
 |none=>rfl
 |some j=>
  simp only[uo];cases Ks j.kind x&&v.isCell with
  |false=>rfl
  |true=>
   simp only[F7];cases g id with
   |none=>rfl
   |some o=>
    cases o with
    |map es=>
     simp only[j7];cases Db es x<;>rfl
    |_=>rfl
theorem gV(x:Ao)(v:AV)(id:Id)(o:Option Obj)(j:TI):uo x v id o (some j)=if (Ks j.kind x&&v.isCell)=true then j7 id x v o else none:=rfl
theorem o7(id:Id)(x:Ao)(v:AV)(es:List (Ao×AV)):j7 id x v (some (.map es))=uk id x v es (Db es x):=rfl
theorem gU(id:Id)(x:Ao)(v:AV)(es:List (Ao×AV))(o:Option AV):uk id x v es (some o)=some ⟨.undef,[(id,.map (FM es x v))]⟩:=rfl
theorem gD(x:Ao)(v:AV):FM [] x v=[(x,v)]:=rfl
theorem fz(k:IntKind)(a b:Int)(v w:AV)(es:List (Ao×AV)):FM ((.int k a,w)::es) (.int k b) v=if a=b then(.int k a,v)::es else(.int k a,w)::FM es (.int k b) v:=by
 rw[FM];by_cases h:a=b
 .exact zBj
 .exact zBj
attribute [go_sem] oV gV o7 gU gD fz
end Go.Abs
namespace Go.Proofs
open Go Go.Abs
set_option maxRecDepth 100000
set_option maxHeartbeats 4000000
def Nb(π:List Nat)(p:AX)(st:Bo):AD:=if p.defs.length=0 then
    [(0::0::π,.box [.d7,.d7,.d7,.d7,.d (.bv (p.free.map Bp)),.d (.bv (p.nodes.map Ba)),.d (.bv (p.defs.map Bw)),nI p.main,.d (.bv (st.co.map AR)),.emp,.mp (1::3::π),.d7,nI 0]),(1::3::π,.map JC)]
 else [(0::0::π,.box [.d7,.d7,.d7,.d7,.d (.bv (p.free.map Bp)),.d (.bv (p.nodes.map Ba)),.d (.bv (p.defs.map Bw)),nI p.main,.d (.bv (st.co.map AR)),.f8 (1::1::π) 0 p.defs.length,.mp (1::4::π),.d7,nI 0]),(1::1::π,.em 1 ((B6 p st.co).map AR)),(1::4::π,.map JC)]
structure qq(π:List Nat)(p:AX)(r:Ax×AD):Prop where
 ge:looks p=none→r=(.ge (DH 2),[])
 ret: ∀st,looks p=some st→r=(.ret (.ptr (0::0::π) 0),Nb π p st)
theorem cR(p:AX)(y: ∀s∈p.free,s.size≤maxLen)(k:Nat)(ρ:List Nat): ∃r,BU (KL Tryz.prog cfg) 65 [.agg (pC p)] (k::ρ)=.ok r∧qq (k::ρ) p r:=by
 have j:=qw p y;replace y:=AB y;cases a:looks p with
 |none=>
  rw[a]at j;simp only[LJ]at j;refine LK Tryz.func65 ?_;refine aw ?_;exact⟨fun _=>rfl,fun st h=>by rw[a]at h;cases h⟩
 |some st=>
  rw[a]at j;simp only[LJ]at j;have n:=AH.mk (DI a);have B:=n.out.small;simp only[AX.small,AP,Ap]at B;obtain⟨K,L,M⟩:=B;refine LK Tryz.func65 ?_;by_cases A:p.defs.length=0
  ·(repeat' (first|simp only[go_sem, *]|(refine sx ?_ ?_<;>intro F)|refine sy AA fun x J I=>?_|simp(disch:=first|assumption|omega) only[AU,FL]))
   refine An p.nodes _ (S:=fun m i (_:Unit)=>⟨[(3,.d (.bv (st.co.map AR))),(5,.ptr (0::0::k::ρ) 0),(25,.d (.bv (p.nodes.map Ba))),(26,nI m),(27,nI i)],[(0::0::k::ρ,.box [.d7,.d7,.d7,.d7,.d (.bv (p.free.map Bp)),.d (.bv (p.nodes.map Ba)),.d (.bv (p.defs.map Bw)),nI p.main,.d (.bv (st.co.map AR)),.emp,.d .wn,.d7,nI 0])],1,[]⟩)
    (Inv:=fun i C _=>True) (b0:=()) rfl trivial ?_ ?_
   .rintro i b _ z q t _ f;have c: ¬b.op=4:=fun c=>by
     have:=M8 n.out z c;omega
    refine aw ?_;exact f.out () trivial
   .rintro i _ q t _;have D:=AB A;refine aw ?_;exact⟨fun h=>(by rw[a]at h;cases h),fun st h=>by rw[a]at h;cases h;rw[Nb,D5 D.out];rfl⟩
  ·(repeat' (first|simp only[go_sem, *]|(refine sx ?_ ?_<;>intro F)|refine sy AA fun x J I=>?_|simp(disch:=first|assumption|omega) only[AU,FL]))
   refine An p.nodes _ (S:=fun m i (out:List Int)=>⟨[(3,.d (.bv (st.co.map AR))),(5,.ptr (0::0::k::ρ) 0),(25,.d (.bv (p.nodes.map Ba))),(26,nI m),(27,nI i)],[(0::0::k::ρ,.box [.d7,.d7,.d7,.d7,.d (.bv (p.free.map Bp)),.d (.bv (p.nodes.map Ba)),.d (.bv (p.defs.map Bw)),nI p.main,.d (.bv (st.co.map AR)),.f8 (1::1::k::ρ) 0 p.defs.length,.d .wn,.d7,nI 0]),(1::1::k::ρ,.em 1 (out.map AR))],2,[]⟩)
    (Inv:=fun i C out=>out.length=p.defs.length∧AH (B6 p st.co=Fj st.co out C)) (b0:=List.replicate p.defs.length 0) rfl ⟨AG,⟨rfl⟩⟩ ?_ ?_
   .rintro i b out z q t ⟨w,g⟩ f;by_cases c:b.op=4
    .obtain⟨U,V,T,v,N,O,P,u,_,_⟩:=M8 n.out z c;obtain⟨o,Q⟩:=get_some (l:=out) (i:=b.n.toNat) AA;have R:b.n.toNat<p.defs.length:=AA;have u:=AB u;refine aw ?_;have e:(out.map AR).set b.n.toNat [.int .i64 v]=(out.set b.n.toNat v).map AR:=by rw[JP];rfl
     rw[e];refine f.out (out.set b.n.toNat v) ⟨by simpa using w,⟨?_⟩⟩;rw[g.out,Fj,D5 c,u.out]
    .refine aw ?_;refine f.out out ⟨w,⟨?_⟩⟩;rw[g.out,Fj,Co c]
   .rintro i out q t ⟨w,g⟩;have H:AH (B6 p st.co=out):=⟨by rw[g.out];rfl⟩;refine aw ?_;exact⟨fun h=>(by rw[a]at h;cases h),fun st h=>by rw[a]at h;cases h;rw[Nb,Co A,H.out];rfl⟩
end Go.Proofs
namespace Go.Proofs
open Go Go.Abs
set_option maxRecDepth 100000
set_option maxHeartbeats 4000000
def lj(v1 v2 v3 v4 v9:AV)(a:Abs.Id)(rows:List (List AV)):MV:=⟨fun i=>match i with|0=>v1|1=>v2|2=>v4|_=>.d7,v3,v9,a,rows⟩
variable{π ρ:List Nat}{s:BX}{rows:List (List AV)}{g:AD}{m:Abs.Id}{p:AX}{sz:List Int}{n:Nat}
theorem Zr{v1 v2 v3 v4:AV}(b:S9 π s v1 v2 v3 v4 rows g){G:AD}{a:Abs.Id}{v9:AV}(u:π=n::ρ)(r:G.get m=some (.box (BK p sz (lj v1 v2 v3 v4 v9 a rows) 0)))(l:G.get a=some (.map JC))
 (j: ∀id o,g.get id=some o→G.get id=some o) (t:Id.under ρ m=true) (q:Id.under ρ a=true):KA p sz G m (lj v1 v2 v3 v4 v9 a rows) ⟨s,[],0⟩∧ ∀id∈(lj v1 v2 v3 v4 v9 a rows).ids m,Id.under ρ id=true:=by
 have key: ∀{sz:Nat} {v:AV} {es:List (List Ao)},Kg g sz v es→Kg G sz v es:=fun h=>by
  refine H8 h fun id c=>?_;obtain⟨x,f⟩:=H7 h c;rw[f];exact j _ _ f
 refine⟨⟨r,.inr l,fun i k=>?_,?_,?_,b.gw,b.qd,fun _ _ _=>rfl⟩,fun id c=>?_⟩
 .match i,k with
  |0,_=>exact key b.s0
  |1,_=>exact key b.s1
  |2,_=>exact key b.s2
  |3,_=>exact .inl ⟨rfl,rfl⟩
 .refine LU b.arr fun id c=>?_;have:=HA b.arr c;rw[this];exact j _ _ this
 .refine LR b.be fun id c=>?_;obtain⟨x,f⟩:=Kn b.be c;rw[f];exact j _ _ f
 .have e:=fun h=>BM (n:=n) (u▸b.ids id h);rcases(MV.mem _ m id).1 c with rfl|rfl|⟨i,k,h⟩|h|h
  .exact t
  .exact q
  .match i,k with
   |0,_=>exact e (.inl h)
   |1,_=>exact e (.inr (.inl h))
   |2,_=>exact e (.inr (.inr (.inl h)))
   |3,_=>simp[lj,AE]at h
  .exact e (.inr (.inr (.inr (.inl h))))
  .exact e (.inr (.inr (.inr (.inr h))))
structure qj(π:List Nat)(p:AX)(s:BX)(st:Bo)(id:Abs.Id)(V:MV)(g:AD):Prop where
 looks:looks p=some st
 rep:KA p st.co g id V ⟨s,[],0⟩
 ids: ∀x∈V.ids id,Id.under π x=true
 own: ∀x,Id.under π x=false→g.get x=none
structure qk(π:List Nat)(p:AX)(s:BX)(r:Ax×AD):Prop where
 bad:CV p s≠0→r=(.ge (DH 2),[])
 i9:CV p s=0→ ∃st id V g,r=(.ret (.ptr id 0),g)∧qj π p s st id V g
variable{V:MV}
theorem jx{st:Bo}{id:Abs.Id}(a:looks p=some st)(h2:KA p st.co g id V ⟨s,[],0⟩∧ ∀x∈V.ids id,Id.under π x=true)(b: ∀x,Id.under π x=false→g.get x=none):qj π p s st id V g:=⟨a,h2.1,h2.2,b⟩
theorem oB(p:AX)(s:BX)(P: ∀s∈p.free,s.size≤maxLen)(k:Nat)(ρ:List Nat): ∃r,BU (KL Tryz.prog cfg) 51 [.agg (pC p),.agg (sC s)] (k::ρ)=.ok r∧qk (k::ρ) p s r:=by
 obtain⟨r,T,S⟩:=cR p P 4 (k::ρ);replace P:=AB P;cases j:looks p with
 |none=>
  obtain rfl:=S.ge j;refine LK Tryz.func51 ?_;refine aw ?_;exact⟨fun _=>rfl,fun h=>by rw[CV,j]at h;cases h⟩
 |some st=>
  obtain rfl:=S.ret st j;have B:AH (CV p s=if EA p st.co s=true then 0 else 2):=⟨by rw[CV,j]⟩;have l:=fun h=>lg s (PY j h);by_cases z:p.defs.length=0
  .simp only[Nb,z,F7,FD,JC]at T;refine LK Tryz.func51 ?_;refine aw ?_;refine Dz (Tv (s:=s) (x9:=.emp) (x10:=.mp (1::3::4::k::ρ)) (x11:=.d7) (x12:=nI 0) (gid:=1::1::4::k::ρ) j ?_ ?_ ?_ ?_ ?_) (fun A g1 c=>?_)
   .simp only[go_sem]
   .exact FP _ _ _ _ _ AK
   .simp only[slv,z,F7,FD]
   .intro N;exact zDC
   .exact FP _ _ _ _ _ AK
   cases i:EA p st.co s with
   |false=>
    exact zBy
   |true=>
    rw[i]at c;replace c:A=.ret (.ii []):=c;subst c;obtain⟨ac,V,v1,v2,v3,v4,rows,g,rfl,b⟩:=l i 15 (k::ρ);clear l;have t:=b.own;have U: ∀L,AD.get (g++L) (0::0::4::k::ρ)=AD.get L (0::0::4::k::ρ):=fun L=>B5 (t _ (FP _ _ _ _ _ AK));replace t:=AB t;have M:AH (CV p s=0):=⟨by rw[B.out,i];rfl⟩;have J:=AB fun G v9 n h2 q=>Zr b (G:=G) (m:=0::0::4::k::ρ) (a:=1::3::4::k::ρ) (v9:=v9) (p:=p) (sz:=st.co) rfl n h2 q (under_iff.2 ⟨[0,0,4],rfl⟩) (under_iff.2 ⟨[1,3,4],rfl⟩);have K:AH (∀L,AD.get (g++L) (1::3::4::k::ρ)=AD.get L (1::3::4::k::ρ)):=⟨fun L=>B5 (b.own _ (FP _ _ _ _ _ AK))⟩;have O:AH (∀id o,g.get id=some o→Id.is (0::0::4::k::ρ) id=false):=⟨fun id o f=>AF fun e=>by rw[←e,b.own _ (FP _ _ _ _ _ AK)]at f;cases f⟩;have I:=AB j;have n:=b.s0;have h2:=b.s1;have q:=b.arr;have H:=b.s2;replace b:=AB b;rcases n with⟨rfl,v⟩|⟨W,ad,rfl,v⟩;all_goals rcases h2 with⟨rfl,w⟩|⟨X,ag,rfl,w⟩
    all_goals rcases q with⟨rfl,x⟩|⟨Y,rfl,x⟩
    all_goals rcases H with⟨rfl,y⟩|⟨Z,ai,rfl,y⟩
    all_goals
     replace v:=AB v;replace w:=AB w;replace x:=AB x;replace y:=AB y;refine aw ?_;refine⟨fun h=>absurd M.out h,fun _=>⟨st,_,_,_,rfl,jx I.out (J.out _ .emp ?_ ?_ fun id o f=>?_) fun id u=>?_⟩⟩
     .simp only[go_sem,BK,lj];first|done|rfl
     .simp only[go_sem,K.out,JC];first|done|rfl
     .exact zCg
     .exact zBt
  .simp only[Nb,z,F7,FD,JC]at T;refine LK Tryz.func51 ?_;refine aw ?_;refine Dz (Tv (s:=s) (x9:=.f8 (1::1::4::k::ρ) 0 p.defs.length) (x10:=.mp (1::4::4::k::ρ)) (x11:=.d7) (x12:=nI 0) (gid:=1::1::4::k::ρ) j ?_ ?_ ?_ ?_ ?_) (fun A g1 c=>?_)
   .simp only[go_sem]
   .exact FP _ _ _ _ _ AK
   .simp only[slv,z,F7,FD]
   .intro N;exact zDC
   .exact FP _ _ _ _ _ AK
   cases i:EA p st.co s with
   |false=>
    exact zBy
   |true=>
    rw[i]at c;replace c:A=.ret (.ii []):=c;subst c;obtain⟨ac,V,v1,v2,v3,v4,rows,g,rfl,b⟩:=l i 15 (k::ρ);clear l;have t:=b.own;have U: ∀L,AD.get (g++L) (0::0::4::k::ρ)=AD.get L (0::0::4::k::ρ):=fun L=>B5 (t _ (FP _ _ _ _ _ AK));replace t:=AB t;have M:AH (CV p s=0):=⟨by rw[B.out,i];rfl⟩;have J:=AB fun G v9 n h2 q=>Zr b (G:=G) (m:=0::0::4::k::ρ) (a:=1::4::4::k::ρ) (v9:=v9) (p:=p) (sz:=st.co) rfl n h2 q (under_iff.2 ⟨[0,0,4],rfl⟩) (under_iff.2 ⟨[1,4,4],rfl⟩);have K:AH (∀L,AD.get (g++L) (1::4::4::k::ρ)=AD.get L (1::4::4::k::ρ)):=⟨fun L=>B5 (b.own _ (FP _ _ _ _ _ AK))⟩;have O:AH (∀id o,g.get id=some o→Id.is (0::0::4::k::ρ) id=false):=⟨fun id o f=>AF fun e=>by rw[←e,b.own _ (FP _ _ _ _ _ AK)]at f;cases f⟩;have I:=AB j;have n:=b.s0;have h2:=b.s1;have q:=b.arr;have H:=b.s2;replace b:=AB b;rcases n with⟨rfl,v⟩|⟨W,ad,rfl,v⟩;all_goals rcases h2 with⟨rfl,w⟩|⟨X,ag,rfl,w⟩
    all_goals rcases q with⟨rfl,x⟩|⟨Y,rfl,x⟩
    all_goals rcases H with⟨rfl,y⟩|⟨Z,ai,rfl,y⟩
    all_goals
     replace v:=AB v;replace w:=AB w;replace x:=AB x;replace y:=AB y;refine aw ?_;refine⟨fun h=>absurd M.out h,fun _=>⟨st,_,_,_,rfl,jx I.out (J.out _ (.f8 (1::1::4::k::ρ) 0 p.defs.length) ?_ ?_ fun id o f=>?_) fun id u=>?_⟩⟩
     .simp only[go_sem,BK,lj];first|done|rfl
     .simp only[go_sem,K.out,JC];first|done|rfl
     .exact zCg
     .exact zBt
variable{e:CB}{H:AD}
theorem zL{K:Ab}{ci:Option (List Nat)}{b:List Nat}{a:Abs.Id}{c:Nat}{ds:List Df}{Q:Ea→St→Prop}{t:B0}{args:List AV}{r:Lp}(g: ∀f,f=r→Ib ρ b a e c ds Q (K t args (H.put a (.loop f)) b true ci)):Ib ρ b a e c ds Q (K t args (H.put a (.loop r)) b true ci):=g r rfl
variable{st:CT}
theorem W7{G:AD}(h:KA p sz g m V st)(a: ∀id o,g.get id=some o→G.get id=some o):KA p sz G m V st:=by
 refine⟨a _ _ h.box,LO h fun _ e=>(a _ _ e).trans e.symm,fun i f=>H8 (h.sl i f) fun id b=>?_,LU h.arr fun id b=>?_,LR h.be fun id b=>?_,h.gw,h.qd,h.inv⟩
 .obtain⟨x,c⟩:=H7 (h.sl i f) b;rw[c];exact a _ _ c
 .have:=HA h.arr b;rw[this];exact a _ _ this
 .obtain⟨x,c⟩:=Kn h.be b;rw[c];exact a _ _ c
def HI:BX:=⟨[],[],[],[]⟩
structure Made where
 d8:BX
 ev:List GK
 err:Int
def oQ:Option CT→Made
 |some st=>⟨st.d8,st.ev,0⟩
 |none=>⟨HI,[],3⟩
def VV(p:AX)(s:BX)(x:Dp):Made:=if CV p s=0 then if x∈CD p s then oQ (DG p s x)else⟨HI,[],5⟩else⟨HI,[],2⟩
abbrev UU(r:Made):AV:=.ii [sA r.d8,.d (.bv (r.ev.map G4)),nI r.err]
theorem ed(x:Dp)(h: ¬CV p s=0):VV p s x=⟨HI,[],2⟩:=by rw[VV,Co h]
variable{x:Dp}
theorem YD(h:CV p s=0)(a:x∉CD p s):VV p s x=⟨HI,[],5⟩:=by rw[VV,D5 h,Co a]
theorem Sv(h:CV p s=0)(a:x∈CD p s):VV p s x=oQ (DG p s x):=by rw[VV,D5 h,D5 a]
theorem XY(p:AX)(s:BX)(x:Dp):IK p s [] x=DG p s x:=by
 rw[IK];cases DG p s x<;>rfl
variable{v:AV}{es:List (List Ao)}
theorem Cc{sz:Nat}(h:Kg g sz v es):v.isCell=true∧v.cells=[v]:=by
 rcases h with⟨rfl,_⟩|⟨_,_,rfl,_⟩<;>exact⟨rfl,rfl⟩
theorem KE(h:qa g v rows):v.isCell=true∧v.cells=[v]:=by
 rcases h with⟨rfl,_⟩|⟨_,rfl,_⟩<;>exact⟨rfl,rfl⟩
theorem kE{b:Type}(l x:List b)(n:Nat)(a:n=l.length):Kj (l++x) 0 n=some l:=by
 subst a;unfold Kj;rw[D5 AG];simp
theorem aX{sz:Nat}(h:Kg g sz v es):GJ g.get v=some (.bv es):=by
 rcases h with⟨rfl,rfl⟩|⟨id,x,rfl,a⟩
 .rfl
 .simp only[GJ,a,kE es x _ rfl,F3]
theorem KK{sz:Nat}(h:Kg g sz v es):Ec g.get v=some (.bv es):=by
 have a:=aX h;rcases h with⟨rfl,rfl⟩|⟨id,x,rfl,b⟩
 .rfl
 .simp only[Ec,b];exact a
theorem aW{sz:Nat}(h:Kg g sz v es):FR g.get v=some (.d (.bv es)):=by
 have a:=KK h;rcases h with⟨rfl,rfl⟩|⟨id,x,rfl,b⟩
 .rfl
 .simp only[FR,a,F3]
theorem U6{sz:Nat}(h:jK g sz v es):v.isCell=true∧v.cells=[v]:=by
 rcases h with h|⟨rfl,_⟩
 .exact Cc h
 .exact⟨rfl,rfl⟩
theorem tD{sz:Nat}(h:jK g sz v es):GJ g.get v=some (.bv es):=by
 rcases h with h|⟨rfl,rfl⟩
 .exact aX h
 .rfl
theorem QE{sz:Nat}(h:jK g sz v es):Ec g.get v=some (.bv es):=by
 rcases h with h|⟨rfl,rfl⟩
 .exact KK h
 .rfl
theorem Wc{g:AD}: ∀{rows:List (List AV)} {l:List Gp},rows.length=l.length→(∀(j:Nat) (q:Gp),l[j]? =some q→ ∃v,rows[j]? =some (Az q v)∧jK g 1 v (q.queue.map BD))→Dc g.get rows=some (l.map DA)
 |[],[],_,_=>rfl
 |[],_::_,h,_=>by cases h
 |_::_,[],h,_=>by cases h
 |r::rows,q::l,h,hr=>by
  obtain⟨v,a,h2⟩:=hr 0 q rfl;simp only[F4,Cs]at a;subst a;have f:=Wc (rows:=rows) (l:=l) (by simpa using h) fun j q e=>by
   have:=hr (j+1) q zFD;simpa using this
  have b:=tD h2;have c:DX g.get (Az q v)=some (DA q):=by
   simp only[Az,DX,b,show∀x,GJ g.get (.d x)=some x from fun _=>rfl,DA]
  simp only[Dc,c,f,CO]
theorem UA{c:Bool}{l:List Gp}(h:qa g v rows)(b:dY c g rows l):Ec g.get v=some (.bv (l.map DA)):=by
 have a:=Wc b.len fun j q i=>by obtain⟨v,a,h2⟩:=b.row j q i;exact⟨v,a,U4 h2⟩
 have e:=b.len;rcases h with⟨rfl,rfl⟩|⟨id,rfl,f⟩
 .cases l with
  |nil=>rfl
  |cons q l=>cases e
 .have:=kE (l.map DA) [] rows.length (by rw[As,e]);rw[CI]at this;simp only[Ec,f,a,this,F3]
theorem AAo(p:AX)(s:BX)(x:Dp)(c3: ∀s∈p.free,s.size≤maxLen):BU (KL Tryz.prog cfg) 21 [pA p,sA s,Qq x] []=.ok (.ret (UU (VV p s x)),[]):=by
 obtain⟨r,c5,d1⟩:=oB p s c3 9 [];replace c3:=AB c3;by_cases ac:CV p s=0
 .obtain⟨st,id,V,g,rfl,S⟩:=d1.i9 ac;have bl:=S.own;have b8: ∀n,¬n=9→ ∀L,AD.get (g++L) [0,n]=AD.get L [0,n]:=fun n e' L=>B5 (bl _ (BR [] e'));replace bl:=AB bl;obtain⟨f4,c1⟩:=S0 ac;have d0:=S.looks;rw[c1.looks]at d0;cases d0;have be:=c1.formed;have u:=c1.ol;replace S:=AB S;replace be:=AB be;replace u:=AB u;have N: ∀i∈V.ids id,∀k,¬k=9→Id.under [k] i=false:=fun i a k P=>by
   have:=S.out.ids i a;cases W:Id.under [k] i with
   |false=>rfl
   |true=>have:=B9 (π:=[]) this W;omega
  replace N:=AB N;refine A7 Tryz.func21 ?_;refine aw ?_;refine zL fun r0 cl=>?_;obtain⟨cs,M⟩: ∃cs:List Dp→AD→Prop,cs=fun l g=>g.get [0,14]=some (.loop r0)∧g.get [0,2]=some (.box [nI x.wait,nI x.group,nI x.rt,.d (.bv (x.kw.map AR))])∧g.get [0,3]=some (.box [.d7,.d7,.d7,.d7])∧g.get [0,4]=some (.box [.d7])∧g.get [0,5]=some (.box [nI 0])∧g.get [0,10]=some (.box [.ptr id 0])∧KA p st.co g id V ⟨s,[],0⟩∧ ∃pre:List Dp,CD p s=pre++l∧x∉pre:=⟨_,rfl⟩;obtain⟨D,K⟩: ∃D:Ax→AD→Prop,D=fun o g=>(o=.ret (.d (.bool (false)))∧g.get [0,14]=some (.loop {r0 with state:=.done,wl:=some .ret})∧x∈CD p s∧ ∃O st',DG p s x=some st'∧KA p st.co g id O st'∧(∀i∈O.ids id,(Id.under [15] i=false∧Id.under [14] i=false)∨ ∃l,i=1::l)∧g.get [0,3]=some (.box [O.s 0,O.s 1,O.v3,O.s 2])∧g.get [0,4]=some (.box [O.s 3])∧g.get [0,5]=some (.box [nI 0]))∨(o=.ge (DH 3)∧x∈CD p s∧DG p s x=none∧g.get [0,3]=some (.box [.d7,.d7,.d7,.d7])∧g.get [0,4]=some (.box [.d7])∧g.get [0,5]=some (.box [nI 0])):=⟨_,rfl⟩
  have a0:xM jL [0,14] (fun i=>i=[0,14]) cs D [15]:=by
   refine⟨rfl,fun i a=>?_,fun ad=>?_,fun{b4 l H ρ v r} ad c5 fd Q c2=>?_,fun ad u=>?_,fun dr u=>?_⟩
   .subst a;rfl
   .rw[M]at ad;exact⟨_,ad.1⟩
   .rw[M]at ad;obtain⟨e5,cx,b',cc,z,dq,bi,pre,bo,ch⟩:=ad;rw[e5]at c5;cases c5;obtain⟨fr,rfl,c4⟩:=fd;have f2:fr.isCell=true:=by rcases c4 with⟨rfl,_⟩|⟨_,rfl,_⟩<;>rfl
    have ag:b4∈CD p s:=by rw[bo];simp
    have f3:=dG be.out u.out ag;have cn:=Yw x b4 AA;have df:=Q [0,2] rfl;have X:=Q [0,3] rfl;have Y:=Q [0,4] rfl;have Z:=Q [0,5] rfl;have b3:=Q [0,10] rfl;have a4:=Q [0,14] rfl;have dn:=AJ df;have b5:=AJ X;have b6:=AJ Y;have b7:=AJ Z;have dm:=AJ b3;have f0:=AJ a4;subst cl;replace M:=AB M;replace K:=AB K;replace bo:=AB bo;replace bi:=AB bi;replace Q:=AB Q;replace c2:=AB c2;replace ch:=AB ch;replace ag:=AB ag;have bk:AH (∀i∈V.ids id,∀n,Id.under (n::ρ) i=false):=⟨fun i a n=>AI (Q.out i (N.out i a 15 AK)) n⟩;have b: ∀k,¬k=9→[0,k] ∉V.ids id:=fun k P c=>by have:=S.out.ids _ c;rw[BR [] P]at this;cases this
    have cp:AH (∀j,Id.under [15] (0::j)=true→0::j∉V.ids id):=⟨fun j ds c=>by rw[N.out _ c 15 AK]at ds;cases ds⟩;have T:AH (x∈CD p s→ ∀a':AD,(∀i∈V.ids id,a'.get i=H.get i)→ ∃o g1,KL Tryz.prog cfg (.fn 55) [.ptr id 0,Qq x] a' (7::ρ) true none=.ok (o,g1)∧GL p st.co (7::ρ) id V a' (DG p s x) o g1):=⟨fun fi a' W=>by
     have:=uM be.out (h:=a') (π:=7::ρ) (m:=id) (V:=V) (st:=⟨s,[],0⟩) (Bx bi.out W) (fun i a=>bk.out i a 7) u.out (x:=x) (Oa.1 fi) AG
     rwa [XY]at this⟩
    by_cases a5:x=b4
    .subst a5;rw[D1 rfl]at cn;have T:=T.out ag.out;rcases c4 with⟨rfl,c6⟩|⟨fp,rfl,e6,de,rfl⟩
     .simp only[Qq,c6,BY]at cx cn T;replace T:=AB T;refine KZ rfl ?_;refine ax ?_;refine Ad (T.out _ fun i a=>?_) (fun d6 g1 y=>?_)
      .have q:=AJ (Q.out i (N.out i a 15 AK));have a3:Id.is [0,14] i=false:=AF fun e=>b 14 AK (e▸a);simp only[go_sem,q,a3,AM]
      cases U:DG p s x with
      |none=>
       exact zAI
      |some st'=>
       exact zAD
     .replace T:=AB T;refine KZ rfl ?_;refine ax ?_;refine Ad (T.out _ fun i a=>?_) (fun d6 g1 y=>?_)
      .have q:=AJ (Q.out i (N.out i a 15 AK));have a3:Id.is [0,14] i=false:=AF fun e=>b 14 AK (e▸a);have fs:Id.is (1::de) i=false:=AF fun e=>by have:=N.out i a 15 AK;rw[←e,(c2.out (1::de) zFj).2.2]at this;cases this
       simp only[go_sem,q,a3,fs,AM]
      cases U:DG p s x with
      |none=>
       exact zAI
      |some st'=>
       exact zAD
    .rw[Ci a5]at cn;replace a5:=AB a5;rcases c4 with⟨rfl,c6⟩|⟨fp,rfl,e6,de,rfl⟩
     .simp only[Qq,c6,BY]at cn;exact zAN
     .exact zAN
   .rw[M]at ad⊢;obtain⟨bv,a6,C,F,I,a7,c7,pre,ai,a2⟩:=ad;exact⟨(u _ rfl).trans bv,(u _ rfl).trans a6,(u _ rfl).trans C,(u _ rfl).trans F,(u _ rfl).trans I,(u _ rfl).trans a7,Bx c7 fun i a=>u i (N.out i a 15 AK),pre,ai,a2⟩
   .rw[K]at dr⊢;rcases dr with⟨bv,a6,C,O,st',F,I,a7,c7,ai,a2⟩|⟨bv,a6,C,F,I,a7⟩
    .exact .inl ⟨bv,(u _ (.inl rfl)).trans a6,C,O,st',F,Bx I fun i a=>u i ((a7 i a).imp_left And.left),a7,(u _ (.inl rfl)).trans c7,(u _ (.inl rfl)).trans ai,(u _ (.inl rfl)).trans a2⟩
    .exact .inr ⟨bv,a6,C,(u _ (.inl rfl)).trans F,(u _ (.inl rfl)).trans I,(u _ (.inl rfl)).trans a7⟩
  refine SU (wV be.out (W7 S.out.rep fun i o a=>?_) (fun i a=>N.out i a 15 AK) u.out a0 (fun i a=>?_) ?_) (fun d6 z y=>?_)
  .exact zAo
  .have:=S.out.ids i a;rintro rfl;cases this
  .rw[M];have e1:=b8 2 AK;have e2:=b8 3 AK;have e3:=b8 4 AK;have e4:=b8 5 AK;refine⟨?_,?_,?_,?_,?_,?_,W7 S.out.rep fun i o a=>?_,[],rfl,AG⟩
   .simp only[go_sem]
   .simp only[go_sem,e1]
   .simp only[go_sem,e2]
   .simp only[go_sem,e3]
   .simp only[go_sem,e4]
   .simp only[go_sem]
   .exact zAo
  have J: ∀z:AD,∀i,Id.under [14] i=false→Id.under [15] i=false→(gc [14] (gc [15] z)).get i=z.get i:=fun z i f t=>by rw[Ah _ _ _ f,Ah _ _ _ t]
  rcases y with⟨rfl,y,B⟩|⟨rfl,y⟩|⟨⟨v,rfl⟩,y⟩
  .rw[M]at y;obtain⟨bx,a6,C,F,I,d2,_,pre,ai,a2⟩:=y;rw[CI]at ai;subst cl;replace B:=AB B;replace M:=AB M;replace K:=AB K;replace a0:=AB a0;replace ai:=AB ai;replace a2:=AB a2;have d3:=(J z [0,3] rfl rfl).trans C;have d4:=(J z [0,4] rfl rfl).trans F;have d5:=(J z [0,5] rfl rfl).trans I;replace J:=AB J;refine aw ?_;rw[YD ac (by rw[ai.out];exact a2.out)];rfl
  .rw[K]at y;rcases y with⟨_,bx,dd,O,st',c',c8,c9,C,F,I⟩|⟨e,_⟩
   .subst cl;replace M:=AB M;replace K:=AB K;replace a0:=AB a0;have d3:=(J z [0,3] rfl rfl).trans C;have d4:=(J z [0,4] rfl rfl).trans F;have d5:=(J z [0,5] rfl rfl).trans I;replace J:=AB J;have ar:=Bx (h':=gc [14] (gc [15] z)) c8 fun i a=>by
     rcases c9 i a with⟨fv,df⟩|⟨l,rfl⟩
     .rw[Ah _ _ _ df,Ah _ _ _ fv]
     .rw[HC,HC]
    have en:=KK (ar.sl 0 AA);have es:=KK (ar.sl 1 AA);have ex:=KK (ar.sl 2 AA);have e0:=aW (ar.sl 3 AA);have f1:=UA ar.arr ar.be;simp only[Av]at en es ex e0;replace c8:=AB c8;replace ar:=AB ar;replace c9:=AB c9;refine aw ?_;rw[Sv ac dd,c'];rfl
   .cases e
  .rw[K]at y;rcases y with⟨e,_⟩|⟨e,dd,c',C,F,I⟩
   .cases e
   .cases e;subst cl;replace M:=AB M;replace K:=AB K;replace a0:=AB a0;have d3:=(J z [0,3] rfl rfl).trans C;have d4:=(J z [0,4] rfl rfl).trans F;have d5:=(J z [0,5] rfl rfl).trans I;replace J:=AB J
    (repeat' (first|simp only[go_sem, *,DH]|(refine sx ?_ ?_<;>intro c0)|refine sy AA fun x W e8=>?_|simp(disch:=first|assumption|omega) only[AU]))
    rw[Sv ac dd,c'];rfl
 .obtain rfl:=d1.bad ac;have h2:=AH.mk (jh ac);have c0:=AH.mk (ed x ac);refine A7 Tryz.func21 ?_
  (repeat' (first|simp only[go_sem, *,DH]|(refine sx ?_ ?_<;>intro c0)|refine sy AA fun x W e8=>?_|simp(disch:=first|assumption|omega) only[AU]))
  rw[c0.out];rfl
theorem kc{c:Type}{f:c→List Ao}{sz:Nat}(k: ∀x,(f x).length=sz)(o:0<sz)(l:List c)(h: ¬l.length=0)(n:l.length≤1000000): ∀(g:G) (a:Abs.Id) (j:TI),j.mix=false→j.size=sz→Po g a j .emp (some ((l.map f).map fun x=>x.map AV.d))=some ⟨.f8 (1::a) 0 l.length,[(1::a,.em sz (l.map f))]⟩:=by
 intro g a j m b;have:=Ss g a j (l.map f) m AA (fun e i=>by
  obtain⟨x,_,rfl⟩:=F2.1 i;rw[b];exact k x) (fun e=>h (by rw[D6.1 e];rfl)) zEj
 rw[this,As,b]
variable{k b:Nat}
theorem EN{t j:Nat}(h:b≤j): ¬GB (k::ρ) b (t::j::k::ρ):=fun e=>by
 have:=(Ar e t j h).1;rw[is_self]at this;cases this
theorem r8(s:BX)(h:s.Fits)(cl: ¬s.ac.length=0)(k:Nat)(ρ:List Nat): ∃r,BU (KL Tryz.prog cfg) 104 [.agg (sC s)] (k::ρ)=.ok r∧ ∃v1 v2 v3 v4 rows g,r=(.ret (.agg [v1,v2,v3,v4]),g)∧hB (k::ρ) s v1 v2 v3 v4 rows g:=by
 have ap:=kc (f:=Au) (sz:=2) (fun _=>rfl) AK s.ac cl h.ac;replace h:=AB h;refine LK Tryz.func104 ?_;refine aw ?_;refine FW (cs:=RE s) (ng:=0) (nc:=0) (nw:=0) (B:=0::0::k::ρ) (R:=0::1::k::ρ) (O:=0::7::k::ρ) (v1:=.f8 (1::5::k::ρ) 0 s.ac.length) (v2:=.d7) (v3:=.d7) (v4:=.d7) (rows:=[]) (k:=4) (i:=0) ?_ ⟨?_,?_,?_,.inr ⟨fun e=>cl (by rw[D6.1 e];rfl),1::5::k::ρ,by rw[As],?_⟩,.inl ⟨rfl,rfl⟩,.inl ⟨rfl,rfl⟩,⟨rfl,AG,AG⟩,.inl ⟨rfl,rfl⟩,BJ,AG,AG⟩ h.out.be fun B R O v1 v2 v3 v4 rows g b y=>?_
 .simp only[go_sem]
 .exact zAx
 .simp only[go_sem]
 .simp only[go_sem]
 .simp only[go_sem]
 refine Aj s.ce (S:=fun i (a:M3)=>⟨[(1,.ptr a.B 0),(2,.ptr a.R 0),(3,.ptr a.O 0),(4,nI i)],a.g,a.b,[]⟩)
  (Inv:=fun i cc a=>AH (dZ (k::ρ) (RE s) s i 0 0 a.B a.R a.O a.v1 a.v2 a.v3 a.v4 a.rows a.g a.b)) (b0:=⟨B,R,O,v1,v2,v3,v4,rows,g,b⟩) ⟨y⟩ ?_ ?_
 .clear y;rintro i X ⟨B,R,O,v1,v2,v3,v4,rows,g,b⟩ az av a' l Q;dsimp only at*;have y:=l.out.cp;have a1:g.get B=some (.box (sC s)):=y.bx;have a4:=y.out;have ai:=fun k ρ=>Fs X.env (h.out.group X (AS az)) k ρ;have fa:=B4;have ch:IntKind.i64.wrap ((i:Int)+1)=(i:Int)+1:=wrap_id AA (by have:=h.out.ce;omega);have bk:=y.s1;have u:=l.out.nm;have H:=fun t j o=>(Ar (u O zEX) t j o).1;have I:=fun t j o=>(Ar (u O zEX) t j o).2;have b7:=fun a c d=>(BS (u O zEX) [a,c,d] AG).2;have T:=fun a c d=>(BS (u O zEX) [a,c,d] AG).1;have bc:=fun a c d=>(BS (u B zEX) [a,c,d] AG).2;simp only[DL,Bi]at b7 T bc;have N:AH (s.ce.take (i+1)=s.ce.take i++[X]):=⟨by rw[F6,az];rfl⟩;have P:(s.ce.take i).length=i:=by rw[F1];omega
  replace u:=AB u;replace y:=AB y;rcases bk with⟨v,rfl⟩|⟨v,id,rfl,U⟩
  .have V:i=0:=by rw[D6.1 v]at P;exact P.symm
   replace V:=AB V;have a7:=AH.mk (D6.1 v);clear v P;by_cases J:X.env.length=0
   .simp only[JV,D5 J]at ai;have K:=BI J;replace K:=AB K;refine aw ?_;refine FW (ng:=i+1) (nc:=0) (nw:=0) (k:=4) ?_ (l.out.group (A:=1::(b+28)::k::ρ) ?_ AA ?_ (EN AA) fun x p L h2=>?_) h.out.be fun B R O v1 v2 v3 v4 rows g b C=>Q.out ⟨B,R,O,v1,v2,v3,v4,rows,g,b⟩ ⟨C⟩
    .exact zAx
    .rw[V.out];exact zBz
    .simp only[go_sem,H,I,T,AM];rw[N.out,a7.out];simp only[Bi,CO,BY,BF,K.out]
    .exact zAT
   .simp only[JV,Co J]at ai;refine aw ?_;refine FW (ng:=i+1) (nc:=0) (nw:=0) (k:=4) ?_ (l.out.group (A:=1::(b+28)::k::ρ) ?_ AA ?_ (EN AA) fun x p L h2=>?_) h.out.be fun B R O v1 v2 v3 v4 rows g b C=>Q.out ⟨B,R,O,v1,v2,v3,v4,rows,g,b⟩ ⟨C⟩
    .exact zAx
    .rw[V.out];exact zBz
    .simp only[go_sem,H,I,T,AM];rw[N.out,a7.out];rfl
    .exact zAT
  .obtain⟨a3,ar⟩: ∃G,G=s.ce.take i:=⟨_,rfl⟩;rw[←ar]at U v P N a4;rw[As,P]at a4;have b5: ¬i=0:=fun e=>v zFP;have cx:List.take i (a3.map BF)=a3.map BF:=By (by rw[As];omega);replace ar:=AB ar;have nI:=fun t j o=>(Ar (u.out id (BP.2 BJ)) t j o).1;have cp:=fun t j o=>(Ar (u.out id (BP.2 BJ)) t j o).2;have be:=fun a c d=>(BS (u.out id (BP.2 BJ)) [a,c,d] AG).2;have bi:=fun a c d=>(BS (u.out id (BP.2 BJ)) [a,c,d] AG).1;simp only[DL,Bi]at be bi;have IO:Id.is id O=false:=AF fun e=>by rw[e,y.out.out]at U;cases U
   have c1:Id.is O id=false:=AF fun e=>by rw[←e,y.out.out]at U;cases U
   replace v:=AB v;have b6:i+1≤BG:=by have:=h.out.ce;unfold BG;omega
   by_cases J:X.env.length=0
   .simp only[JV,D5 J]at ai;have K:=BI J;replace K:=AB K;refine aw ?_;refine FW (ng:=i+1) (nc:=0) (nw:=0) (k:=4) ?_ (l.out.group (A:=1::(b+28)::k::ρ) ?_ AA ?_ (EN AA) fun x p L h2=>?_) h.out.be fun B R O v1 v2 v3 v4 rows g b C=>Q.out ⟨B,R,O,v1,v2,v3,v4,rows,g,b⟩ ⟨C⟩
    .exact zAx
    .exact zBz
    .simp only[go_sem,H,I,T,AM];rw[N.out,BE];simp only[CO,BY,BF,K.out]
    .exact zAM
   .simp only[JV,Co J]at ai;refine aw ?_;refine FW (ng:=i+1) (nc:=0) (nw:=0) (k:=4) ?_ (l.out.group (A:=1::(b+28)::k::ρ) ?_ AA ?_ (EN AA) fun x p L h2=>?_) h.out.be fun B R O v1 v2 v3 v4 rows g b C=>Q.out ⟨B,R,O,v1,v2,v3,v4,rows,g,b⟩ ⟨C⟩
    .exact zAx
    .exact zBz
    .simp only[go_sem,H,I,T,AM];rw[N.out,BE];rfl
    .exact zAM
 .clear y;rintro i ⟨B,R,O,v1,v2,v3,v4,rows,g,b⟩ av a' l;dsimp only at*;have a1:g.get B=some (.box (sC s)):=l.out.cp.bx;obtain rfl:=av.out;clear av;refine aw ?_;refine FW (k:=5) (i:=0) (nc:=0) (nw:=0) ?_ l.out.cp h.out.be fun B R O v1 v2 v3 v4 rows g b y=>?_
  .simp only[go_sem]
  clear l a1 a';obtain⟨ng,bo⟩: ∃n,n=s.ce.length:=⟨_,rfl⟩;rw[←bo]at y;replace bo:=AB bo;refine Aj s.be (S:=fun i (a:M3)=>⟨[(1,.ptr a.B 0),(2,.ptr a.R 0),(3,.ptr a.O 0),(5,nI i)],a.g,a.b,[]⟩)
   (Inv:=fun i cc a=>AH (dZ (k::ρ) (RE s) s ng i 0 a.B a.R a.O a.v1 a.v2 a.v3 a.v4 a.rows a.g a.b)) (b0:=⟨B,R,O,v1,v2,v3,v4,rows,g,b⟩) ⟨y⟩ ?_ ?_
  .clear y;rintro i c ⟨B,R,O,v1,v2,v3,v4,rows,g,b⟩ az av a' l Q;dsimp only at*;have a1:g.get B=some (.box (sC s)):=l.out.cp.bx;have u:=AB l.out.nm;have c8:=fun t j o=>(Ar (u.out B zEX) t j o).1;have c9:=fun t j o=>(Ar (u.out B zEX) t j o).2;obtain⟨d8,b2⟩:=h.out.chan c (AS az);replace b2:=AB b2;refine aw ?_;have bv:=fun{x} (q:x∈IV B R O v1 v2 v3 v4 rows)=>l.out.nm x q;refine M6 (c:=c) (m:=0) (i:=i) (k:=0) (ng:=ng) (nc:=i) (nw:=0) (vq:=.d7) (Y:=0::(b+24)::k::ρ) ?_ (l.out.cp.pp fun x q=>?_) ?_ (.inl ⟨AG,rfl⟩) (fun q=>EN AA (bv q)) (fun x q=>by cases q) h.out.be fun B R O Y v1 v2 v3 v4 vq rows g b y=>?_
   .simp only[go_sem]
   .have z:=(Ar (bv q) 0 (b+24) AA).1;simp only[go_sem,z,AM]
   .simp only[go_sem]
   clear bv c8 c9 u a1 l;refine Aj c.queue (S:=fun j (a:q5)=>⟨[(1,.ptr a.a.B 0),(2,.ptr a.a.R 0),(3,.ptr a.a.O 0),(5,nI i),(6,.ptr a.Y 0),(7,nI j)],a.a.g,a.a.b,[]⟩)
    (Inv:=fun j cc a=>AH (hO (k::ρ) (RE s) s ng i 0 c j a.a.B a.a.R a.a.O a.Y a.a.v1 a.a.v2 a.a.v3 a.a.v4 a.vq a.a.rows a.a.g a.a.b)) (b0:=⟨⟨B,R,O,v1,v2,v3,v4,rows,g,b⟩,Y,vq⟩) ⟨y⟩ ?_ ?_
   .clear y;rintro j X ⟨⟨B,R,O,v1,v2,v3,v4,rows,g,b⟩,Y,vq⟩ cn o c7 l Q;dsimp only at*;have a1:g.get B=some (.box (sC s)):=l.out.n.cp.bx;have bx:=l.out.q;have ai:=fun k ρ=>Fs X (b2.out X (AS cn)) k ρ;have fa:=B4;have ch:IntKind.i64.wrap ((j:Int)+1)=(j:Int)+1:=wrap_id AA AA;have bk:=l.out.qs;have u:=l.out.n.nm;have a5:=fun t j o=>(Ar l.out.qn t j o).1;have a6:=fun t j o=>(Ar l.out.qn t j o).2;have c':=fun a c d=>(BS l.out.qn [a,c,d] AG).2;have a2:=fun a c d=>(BS l.out.qn [a,c,d] AG).1;have bc:=fun a c d=>(BS (u B zEX) [a,c,d] AG).2;simp only[DL,Bi]at c' a2 bc;have N:AH (c.queue.take (j+1)=c.queue.take j++[X]):=⟨by rw[F6,cn];rfl⟩;have P:(c.queue.take j).length=j:=by rw[F1];omega
    replace u:=AB u;rcases bk with⟨v,rfl⟩|⟨v,id,rfl,U⟩
    .have V:j=0:=by rw[D6.1 v]at P;exact P.symm
     replace V:=AB V;have a7:=AH.mk (D6.1 v);clear v P;by_cases J:X.length=0
     .simp only[JV,D5 J]at ai;have K:=BI J;replace K:=AB K;refine aw ?_;refine M6 (c:=c) (m:=j+1) (ng:=ng) (nc:=i) (nw:=0) (vq:=.f8 (1::(b+24)::k::ρ) 0 (j+1)) (Y:=Y) ?_ (l.out.n.cp.pp fun x q=>?_) ?_ (.inr ⟨by rw[N.out];simp,1::(b+24)::k::ρ,by rw[As,F1,Nat.min_eq_left AA],?_⟩) l.out.yn (fun x q=>?_) h.out.be fun B R O Y v1 v2 v3 v4 vq rows g b C=>Q.out ⟨⟨B,R,O,v1,v2,v3,v4,rows,g,b⟩,Y,vq⟩ ⟨C⟩
      .exact zAx
      .exact zA6
      .rw[V.out];exact zDR
      .simp only[go_sem,a5,a6,a2,AM];rw[N.out,a7.out];simp only[Bi,CO,BY,BD,K.out]
      .exact zBL
     .simp only[JV,Co J]at ai;refine aw ?_;refine M6 (c:=c) (m:=j+1) (ng:=ng) (nc:=i) (nw:=0) (vq:=.f8 (1::(b+24)::k::ρ) 0 (j+1)) (Y:=Y) ?_ (l.out.n.cp.pp fun x q=>?_) ?_ (.inr ⟨by rw[N.out];simp,1::(b+24)::k::ρ,by rw[As,F1,Nat.min_eq_left AA],?_⟩) l.out.yn (fun x q=>?_) h.out.be fun B R O Y v1 v2 v3 v4 vq rows g b C=>Q.out ⟨⟨B,R,O,v1,v2,v3,v4,rows,g,b⟩,Y,vq⟩ ⟨C⟩
      .exact zAx
      .exact zA6
      .rw[V.out];exact zDR
      .simp only[go_sem,a5,a6,a2,AM];rw[N.out,a7.out];rfl
      .exact zBL
    .obtain⟨a3,ar⟩: ∃G,G=c.queue.take j:=⟨_,rfl⟩;rw[←ar]at U v P N bx;rw[As,P]at bx;have b5: ¬j=0:=fun e=>v zFP;have cx:List.take j (a3.map BD)=a3.map BD:=By (by rw[As];omega);replace ar:=AB ar;have nI:=fun t j o=>(Ar (l.out.qv id BJ).1 t j o).1;have cp:=fun t j o=>(Ar (l.out.qv id BJ).1 t j o).2;have be:=fun a c d=>(BS (l.out.qv id BJ).1 [a,c,d] AG).2;have bi:=fun a c d=>(BS (l.out.qv id BJ).1 [a,c,d] AG).1;simp only[DL,Bi]at be bi;have df:Id.is id Y=false:=AF fun e=>by rw[e,l.out.q]at U;cases U
     have d1:Id.is Y id=false:=AF fun e=>by rw[←e,l.out.q]at U;cases U
     replace v:=AB v;have b6:j+1≤BG:=zEs
     by_cases J:X.length=0
     .simp only[JV,D5 J]at ai;have K:=BI J;replace K:=AB K;refine aw ?_;refine M6 (c:=c) (m:=j+1) (ng:=ng) (nc:=i) (nw:=0) (vq:=.f8 (1::(b+24)::k::ρ) 0 (j+1)) (Y:=Y) ?_ (l.out.n.cp.pp fun x q=>?_) ?_ (.inr ⟨by rw[N.out];simp,1::(b+24)::k::ρ,by rw[As,F1,Nat.min_eq_left AA],?_⟩) l.out.yn (fun x q=>?_) h.out.be fun B R O Y v1 v2 v3 v4 vq rows g b C=>Q.out ⟨⟨B,R,O,v1,v2,v3,v4,rows,g,b⟩,Y,vq⟩ ⟨C⟩
      .exact zAx
      .exact zAt
      .exact zDR
      .simp only[go_sem,a5,a6,a2,AM];rw[N.out,BE];simp only[CO,BY,BD,K.out]
      .exact zBL
     .simp only[JV,Co J]at ai;refine aw ?_;refine M6 (c:=c) (m:=j+1) (ng:=ng) (nc:=i) (nw:=0) (vq:=.f8 (1::(b+24)::k::ρ) 0 (j+1)) (Y:=Y) ?_ (l.out.n.cp.pp fun x q=>?_) ?_ (.inr ⟨by rw[N.out];simp,1::(b+24)::k::ρ,by rw[As,F1,Nat.min_eq_left AA],?_⟩) l.out.yn (fun x q=>?_) h.out.be fun B R O Y v1 v2 v3 v4 vq rows g b C=>Q.out ⟨⟨B,R,O,v1,v2,v3,v4,rows,g,b⟩,Y,vq⟩ ⟨C⟩
      .exact zAx
      .exact zAt
      .exact zDR
      .simp only[go_sem,a5,a6,a2,AM];rw[N.out,BE];rfl
      .exact zBL
   .clear y;rintro j ⟨⟨B,R,O,v1,v2,v3,v4,rows,g,b⟩,Y,vq⟩ o c7 l;dsimp only at*;have a1:g.get B=some (.box (sC s)):=l.out.n.cp.bx;have a4:=l.out.n.cp.out;have bx:=l.out.q;have u:=AB l.out.n.nm;have H:=fun t j o=>(Ar (u.out O zEX) t j o).1;have I:=fun t j o=>(Ar (u.out O zEX) t j o).2;have d2:Id.is Y O=false:=AF fun e=>l.out.yn (by rw[e];simp[IV]);have dq:Id.is O Y=false:=AF fun e=>l.out.yn (by rw[←e];simp[IV]);have b4:rows.length=i:=by rw[l.out.n.cp.rep.len,F1];omega
    have ch:IntKind.i64.wrap ((i:Int)+1)=(i:Int)+1:=wrap_id AA (by have:=h.out.be;omega);have b3:=l.out.qs;have c6:=o.out;subst c6;rw[D3]at b3;have c5:=l.out.n.cp.arr;rcases c5 with⟨v,rfl⟩|⟨v,A,rfl,a0⟩
    .have V:=AH.mk (show i=0 by rw[←b4,v];rfl);replace v:=AB v;rcases b3 with⟨ag,rfl⟩|⟨ag,W,rfl,M⟩
     .replace ag:=AB ag;refine aw ?_;refine FW (ng:=ng) (nc:=i+1) (nw:=0) (k:=5) ?_ (l.out.n.chan (A:=1::(b+13)::k::ρ) (vq:=.d7) az ?_ ?_ ?_ (fun x q Z=>(l.out.qv x q).2 (BP.2 (.inr (.inr (.inr (.inr (.inr (.inr (.inr Z))))))))) fun x p L h2=>?_) h.out.be fun B R O v1 v2 v3 v4 rows g b C=>Q.out ⟨B,R,O,v1,v2,v3,v4,rows,g,b⟩ ⟨C⟩
      .exact zAx
      .rw[V.out];simp only[go_sem,H,I,AM]
      .simp only[go_sem,H,I,AM];rw[v.out];rfl
      .exact .inl ⟨by rw[D6.1 ag.out];rfl,rfl⟩
      .exact zCE
     .have b8:=fun t j o=>(Ar (l.out.qv W BJ).1 t j o).1;have b':=fun t j o=>(Ar (l.out.qv W BJ).1 t j o).2;have c3:Id.is W Y=false:=AF fun e=>by rw[e,l.out.q]at M;cases M
      have c4:Id.is Y W=false:=AF fun e=>by rw[←e,l.out.q]at M;cases M
      have c2:Id.is W O=false:=AF fun e=>by rw[e,l.out.n.cp.out]at M;cases M
      have bs:Id.is O W=false:=AF fun e=>by rw[←e,l.out.n.cp.out]at M;cases M
      replace ag:=AB ag;refine aw ?_;refine FW (ng:=ng) (nc:=i+1) (nw:=0) (k:=5) ?_ (l.out.n.chan (A:=1::(b+13)::k::ρ) (vq:=.f8 W 0 (c.queue.map BD).length) az ?_ ?_ ?_ (fun x q Z=>(l.out.qv x q).2 (BP.2 (.inr (.inr (.inr (.inr (.inr (.inr (.inr Z))))))))) fun x p L h2=>?_) h.out.be fun B R O v1 v2 v3 v4 rows g b C=>Q.out ⟨B,R,O,v1,v2,v3,v4,rows,g,b⟩ ⟨C⟩
      .exact zAx
      .rw[V.out];simp only[go_sem,H,I,AM]
      .simp only[go_sem,H,I,AM];rw[v.out];rfl
      .refine .inr ⟨fun e=>ag.out (by rw[BI e];rfl),W,by rw[As],?_⟩;simp only[go_sem,M,bs,b8,b',AM]
      .exact zCE
    .rw[b4]at a4;have eb:rows.take i=rows:=By AA;have ea: ¬i+1≤i:=AA;have b6:i+1≤BG:=by have:=h.out.be;unfold BG;omega
     have b5: ¬i=0:=fun e=>v (BI (b4.trans e));have d9:=fun t j o=>(Ar (u.out A (BP.2 BJ)) t j o).1;have d':=fun t j o=>(Ar (u.out A (BP.2 BJ)) t j o).2;have dd:Id.is A O=false:=AF fun e=>by rw[e,l.out.n.cp.out]at a0;cases a0
     have dm:Id.is O A=false:=AF fun e=>by rw[←e,l.out.n.cp.out]at a0;cases a0
     have de:Id.is A Y=false:=AF fun e=>by rw[e,l.out.q]at a0;cases a0
     have d0:Id.is Y A=false:=AF fun e=>by rw[←e,l.out.q]at a0;cases a0
     replace v:=AB v;rcases b3 with⟨ag,rfl⟩|⟨ag,W,rfl,M⟩
     .replace ag:=AB ag;refine aw ?_;refine FW (ng:=ng) (nc:=i+1) (nw:=0) (k:=5) ?_ (l.out.n.chan (A:=1::(b+13)::k::ρ) (vq:=.d7) az ?_ ?_ ?_ (fun x q Z=>(l.out.qv x q).2 (BP.2 (.inr (.inr (.inr (.inr (.inr (.inr (.inr Z))))))))) fun x p L h2=>?_) h.out.be fun B R O v1 v2 v3 v4 rows g b C=>Q.out ⟨B,R,O,v1,v2,v3,v4,rows,g,b⟩ ⟨C⟩
      .exact zAx
      .simp only[go_sem,H,I,AM]
      .simp only[go_sem,H,I,AM];rfl
      .exact .inl ⟨by rw[D6.1 ag.out];rfl,rfl⟩
      .exact zBP
     .have b8:=fun t j o=>(Ar (l.out.qv W BJ).1 t j o).1;have b':=fun t j o=>(Ar (l.out.qv W BJ).1 t j o).2;have c3:Id.is W Y=false:=AF fun e=>by rw[e,l.out.q]at M;cases M
      have c4:Id.is Y W=false:=AF fun e=>by rw[←e,l.out.q]at M;cases M
      have c2:Id.is W O=false:=AF fun e=>by rw[e,l.out.n.cp.out]at M;cases M
      have bs:Id.is O W=false:=AF fun e=>by rw[←e,l.out.n.cp.out]at M;cases M
      replace ag:=AB ag;have c0:Id.is A W=false:=Fk a0 M;have ds:Id.is W A=false:=Fk M a0;refine aw ?_;refine FW (ng:=ng) (nc:=i+1) (nw:=0) (k:=5) ?_ (l.out.n.chan (A:=1::(b+13)::k::ρ) (vq:=.f8 W 0 (c.queue.map BD).length) az ?_ ?_ ?_ (fun x q Z=>(l.out.qv x q).2 (BP.2 (.inr (.inr (.inr (.inr (.inr (.inr (.inr Z))))))))) fun x p L h2=>?_) h.out.be fun B R O v1 v2 v3 v4 rows g b C=>Q.out ⟨B,R,O,v1,v2,v3,v4,rows,g,b⟩ ⟨C⟩
      .exact zAx
      .simp only[go_sem,H,I,AM]
      .simp only[go_sem,H,I,AM];rfl
      .refine .inr ⟨fun e=>ag.out (by rw[BI e];rfl),W,by rw[As],?_⟩;simp only[go_sem,M,bs,c0,b8,b',AM]
      .exact zBP
  .clear y;rintro i ⟨B,R,O,v1,v2,v3,v4,rows,g,b⟩ av a' l;dsimp only at*;have a1:g.get B=some (.box (sC s)):=l.out.cp.bx;obtain⟨nc,bl⟩: ∃n,n=s.be.length:=⟨_,rfl⟩;have b1:=av.out;subst b1;clear av;refine aw ?_;refine FW (k:=8) (i:=0) (nw:=0) ?_ l.out.cp h.out.be fun B R O v1 v2 v3 v4 rows g b y=>?_
   .simp only[go_sem]
   clear l a1 a';rw[←bl]at y;replace bl:=AB bl;refine Aj s.waits (S:=fun i (a:M3)=>⟨[(1,.ptr a.B 0),(2,.ptr a.R 0),(3,.ptr a.O 0),(8,nI i)],a.g,a.b,[]⟩)
    (Inv:=fun i cc a=>AH (dZ (k::ρ) (RE s) s ng nc i a.B a.R a.O a.v1 a.v2 a.v3 a.v4 a.rows a.g a.b)) (b0:=⟨B,R,O,v1,v2,v3,v4,rows,g,b⟩) ⟨y⟩ ?_ ?_
   .clear y;rintro i X ⟨B,R,O,v1,v2,v3,v4,rows,g,b⟩ az av a' l Q;dsimp only at*;have y:=l.out.cp;have a1:g.get B=some (.box (sC s)):=y.bx;have a4:=y.out;have ai:=fun k ρ=>Fs X.env (h.out.wait X (AS az)) k ρ;have fa:=B4;have ch:IntKind.i64.wrap ((i:Int)+1)=(i:Int)+1:=wrap_id AA (by have:=h.out.waits;omega);have bk:=y.s2;have u:=l.out.nm;have H:=fun t j o=>(Ar (u O zEX) t j o).1;have I:=fun t j o=>(Ar (u O zEX) t j o).2;have b7:=fun a c d=>(BS (u O zEX) [a,c,d] AG).2;have T:=fun a c d=>(BS (u O zEX) [a,c,d] AG).1;have bc:=fun a c d=>(BS (u B zEX) [a,c,d] AG).2;simp only[DL,Bi]at b7 T bc;have N:AH (s.waits.take (i+1)=s.waits.take i++[X]):=⟨by rw[F6,az];rfl⟩;have P:(s.waits.take i).length=i:=by rw[F1];omega
    replace u:=AB u;replace y:=AB y;rcases bk with⟨v,rfl⟩|⟨v,id,rfl,U⟩
    .have V:i=0:=by rw[D6.1 v]at P;exact P.symm
     replace V:=AB V;have a7:=AH.mk (D6.1 v);clear v P;by_cases J:X.env.length=0
     .simp only[JV,D5 J]at ai;have K:=BI J;replace K:=AB K;refine aw ?_;refine FW (ng:=ng) (nc:=nc) (nw:=i+1) (k:=8) ?_ (l.out.wait (A:=1::(b+28)::k::ρ) ?_ AA ?_ (EN AA) fun x p L h2=>?_) h.out.be fun B R O v1 v2 v3 v4 rows g b C=>Q.out ⟨B,R,O,v1,v2,v3,v4,rows,g,b⟩ ⟨C⟩
      .exact zAx
      .rw[V.out];exact zBz
      .simp only[go_sem,H,I,T,AM];rw[N.out,a7.out];simp only[Bi,CO,BY,Ae,K.out]
      .exact zAT
     .simp only[JV,Co J]at ai;refine aw ?_;refine FW (ng:=ng) (nc:=nc) (nw:=i+1) (k:=8) ?_ (l.out.wait (A:=1::(b+28)::k::ρ) ?_ AA ?_ (EN AA) fun x p L h2=>?_) h.out.be fun B R O v1 v2 v3 v4 rows g b C=>Q.out ⟨B,R,O,v1,v2,v3,v4,rows,g,b⟩ ⟨C⟩
      .exact zAx
      .rw[V.out];exact zBz
      .simp only[go_sem,H,I,T,AM];rw[N.out,a7.out];rfl
      .exact zAT
    .obtain⟨a3,ar⟩: ∃G,G=s.waits.take i:=⟨_,rfl⟩;rw[←ar]at U v P N a4;rw[As,P]at a4;have b5: ¬i=0:=fun e=>v zFP;have cx:List.take i (a3.map Ae)=a3.map Ae:=By (by rw[As];omega);replace ar:=AB ar;have nI:=fun t j o=>(Ar (u.out id (BP.2 BJ)) t j o).1;have cp:=fun t j o=>(Ar (u.out id (BP.2 BJ)) t j o).2;have be:=fun a c d=>(BS (u.out id (BP.2 BJ)) [a,c,d] AG).2;have bi:=fun a c d=>(BS (u.out id (BP.2 BJ)) [a,c,d] AG).1;simp only[DL,Bi]at be bi;have IO:Id.is id O=false:=AF fun e=>by rw[e,y.out.out]at U;cases U
     have c1:Id.is O id=false:=AF fun e=>by rw[←e,y.out.out]at U;cases U
     replace v:=AB v;have b6:i+1≤BG:=by have:=h.out.waits;unfold BG;omega
     by_cases J:X.env.length=0
     .simp only[JV,D5 J]at ai;have K:=BI J;replace K:=AB K;refine aw ?_;refine FW (ng:=ng) (nc:=nc) (nw:=i+1) (k:=8) ?_ (l.out.wait (A:=1::(b+28)::k::ρ) ?_ AA ?_ (EN AA) fun x p L h2=>?_) h.out.be fun B R O v1 v2 v3 v4 rows g b C=>Q.out ⟨B,R,O,v1,v2,v3,v4,rows,g,b⟩ ⟨C⟩
      .exact zAx
      .exact zBz
      .simp only[go_sem,H,I,T,AM];rw[N.out,BE];simp only[CO,BY,Ae,K.out]
      .exact zAM
     .simp only[JV,Co J]at ai;refine aw ?_;refine FW (ng:=ng) (nc:=nc) (nw:=i+1) (k:=8) ?_ (l.out.wait (A:=1::(b+28)::k::ρ) ?_ AA ?_ (EN AA) fun x p L h2=>?_) h.out.be fun B R O v1 v2 v3 v4 rows g b C=>Q.out ⟨B,R,O,v1,v2,v3,v4,rows,g,b⟩ ⟨C⟩
      .exact zAx
      .exact zBz
      .simp only[go_sem,H,I,T,AM];rw[N.out,BE];rfl
      .exact zAM
   .clear y;rintro i ⟨B,R,O,v1,v2,v3,v4,rows,g,b⟩ av a' l;dsimp only at*;have a1:g.get B=some (.box (sC s)):=l.out.cp.bx;have a4:=l.out.cp.out;have d7:=l.out.cp.res;have d3:=(Cc (Lv l.out.cp.s0)).1;have d4:=(Cc (Lv l.out.cp.s1)).1;have d5:=(Cc (Lv l.out.cp.s2)).1;have d6:=(KE l.out.cp.chv).1;have dn:Id.is O R=false:=AF fun e=>l.out.cp.ro e.symm;have dr:Id.is R O=false:=AF l.out.cp.ro;have b1:=av.out;subst b1;clear av;refine aw ?_;rw[bo.out,bl.out]at l;exact⟨v1,v2,v3,v4,rows,_,⟨rfl,rfl⟩,l.out.post _⟩
theorem v7{p:AX}{h:AD}{π:List Nat}{m:Abs.Id}{V:MV}{st:CT}(W:VK p h m V st)(X:Bz π V m)(j:Gq){x:C2}(f4:j.env.length≤10000)(f2:x.args.length≤3)(c7: ∀e∈x.args,e.formed j.env.length=true)(f5:0≤x.n)(f6:x.n<j.env.length)
 (c9:j.env.all (Cl.inB p st.d8.be.length st.d8.ac.length)=true) (a4: ∀(c:Nat) (q:Gp),st.d8.be[c]? =some q→Xk p st.d8 q) (f3:st.ev.length≤1000000):
 ∃o h',KL Tryz.prog cfg (.fn 143) [.ptr m 0,.agg [nI x.op,nI x.n,.d (.bv (x.args.map BQ)),.d (.bv (x.kids.map AR))],nI j.at_,.d (.bv (j.env.map AN))] h π true none=.ok (o,h')∧Je p π m V h (Cv p x j st) o h':=by
 have az:=W.box;have cp:=X m (V.m_mem m);simp only[BZ]at az;have D:=AJ cp;have F:=Ak cp;have fs:=Ds cp;have fv:=JS cp;obtain⟨L,bl⟩: ∃L,L=x.args.map fun e=>e.value j.env:=⟨_,rfl⟩;have b':L.length=x.args.length:=by rw[bl,As]
 obtain⟨R,ej⟩:=get_some (l:=j.env) (i:=x.n.toNat) AA;replace W:=AB W;replace X:=AB X;replace a4:=AB a4;replace c9:=AB c9;replace bl:=AB bl;replace b':=AB b';replace c7:=AB c7;refine BT Tryz.func143 ?_;refine aw ?_;refine Aj x.args (S:=fun i (a:(AV×AD)×Nat)=>⟨[(0,.ptr m 0),(2,nI j.at_),(3,.d (.bv (j.env.map AN))),(5,.ptr (0::0::π) 0),(8,a.1.1),(9,nI i)],a.1.2,a.2+3,[]⟩)
  (Inv:=fun i gv a=>(∀id,Id.under π id=false→a.1.2.get id=h.get id)∧a.1.2.get (0::0::π)=some (.box [nI x.op,nI x.n,.d (.bv (x.args.map BQ)),.d (.bv (x.kids.map AR))])∧AH ((i=0∧a.1.1=.d7)∨ ∃n,n<a.2+3∧a.1.1=.f8 (1::n::π) 0 i∧a.1.2.get (1::n::π)=some (.em 2 ((L.take i).map AN)))) (b0:=((_,_),_)) ⟨?_,?_,⟨.inl ⟨rfl,rfl⟩⟩⟩ ?_ ?_
 .intro id b;exact zCs
 .simp only[go_sem]
 .rintro i c2 ⟨⟨e3,g⟩,b⟩ el c8 av ⟨t,de,J⟩ d0;dsimp only at*;have f8:=c7.out c2 (AS el);have es:AH (L[i]? =some (c2.value j.env)):=⟨by rw[bl.out,D7,el];rfl⟩;have g1:IntKind.i64.wrap ((i:Int)+1)=(i:Int)+1:=wrap_id AA AA;replace t:=AB t;have d2:AH (L.take (i+1)=L.take i++[c2.value j.env]):=⟨by rw[F6,es.out];rfl⟩;rcases J.out with⟨rfl,rfl⟩|⟨n,bx,rfl,bs⟩
  .clear J;have bv:(0:Int)<x.args.length:=av;refine aw ?_;refine d0.out ((_,_),_) ⟨fun id b=>?_,?_,⟨.inr ⟨b+17,AG,rfl,?_⟩⟩⟩
   .exact zEN
   .simp only[go_sem,de]
   .rw[d2.out];simp only[go_sem]
  .clear J;have fr:(L.take i).length=i:=by have:=b'.out;rw[F1];omega
   have b4:List.take i (List.map AN (List.take i L))=List.map AN (List.take i L):=By Aa;have b5: ¬b+16=n:=AA;have b6: ¬b+9=n:=AA;have b7: ¬n=b+16:=AA;have en: ¬n=b+17:=AA;refine ax ?_;refine d0.out ((_,_),_) ⟨fun id b=>?_,?_,⟨.inr ⟨b+17,AG,rfl,?_⟩⟩⟩
   .exact zEN
   .simp only[go_sem,de]
   .rw[d2.out];simp only[go_sem,en,BE]
 .rintro i ⟨⟨e3,g⟩,b⟩ c8 av ⟨t,de,J⟩;dsimp only at*;have M:i=L.length:=by rw[c8.out,b'.out]
  clear c8;have c':Hs j.env x.n=R:=by rw[Hs,ej];rfl
  have f7:List.take L.length L=L:=D3;have f1:L.length≤3:=by have:=b'.out;omega
  have K:=(t m cp).trans az;replace t:=AB t;by_cases em:R.kind=2
  .have O:AH (Cv p x j st=some {st with ev:=st.ev++[⟨5,j.at_,R.n,0,L⟩]}):=⟨by
    simp only[Cv,c',em,F7,bl.out];rfl⟩
   have go:=AH.mk (DZ (st':={st with ev:=st.ev++[⟨5,j.at_,R.n,0,L⟩]}) 3 AA W.out X.out (jr rfl) rfl)
   rcases W.out.sl 3 AA with⟨P,N⟩|⟨E,cs,P,b8⟩
   .rw[P]at K;replace P:=AB P;replace N:=AH.mk (D6.1 N);rcases J.out with⟨rfl,rfl⟩|⟨n,bx,rfl,bs⟩
    .clear J;have bv: ¬(0:Int)<x.args.length:=av;have ac:=BI M.symm;subst ac;clear M;exact zAe
    .clear J;subst M;have b4: ¬b+29=n:=AA;have b5: ¬b+28=n:=AA;have b6: ¬n=b+28:=AA;have b7: ¬n=b+29:=AA;exact zAe
   .simp only[Dm,Av,As]at P b8;rw[P]at K;have dn:=X.out E (V.s_mem m (i:=3) AA (by rw[P];simp[AE]));replace b8:=(t.out E dn).trans b8;have a0:=AJ dn;have a1:=Ak dn;have ag:Id.is E m=false:=Fk b8 K;have a3:Id.is m E=false:=Fk K b8;replace P:=AB P;rcases cs with _|⟨c2,cs⟩
    .rcases J.out with⟨rfl,rfl⟩|⟨n,bx,rfl,bs⟩
     .clear J;have bv: ¬(0:Int)<x.args.length:=av;have ac:=BI M.symm;subst ac;clear M;exact zAa
     .clear J;subst M;have b4: ¬b+29=n:=AA;have b5: ¬b+28=n:=AA;have b6: ¬n=b+28:=AA;have b7: ¬n=b+29:=AA;exact zAa
    .rcases J.out with⟨rfl,rfl⟩|⟨n,bx,rfl,bs⟩
     .clear J;have bv: ¬(0:Int)<x.args.length:=av;have ac:=BI M.symm;subst ac;clear M;exact zAf
     .clear J;subst M;have b4: ¬b+29=n:=AA;have b5: ¬b+28=n:=AA;have b6: ¬n=b+28:=AA;have b7: ¬n=b+29:=AA;exact zAf
  have Z:AH (∀H:AD,(∀id,Id.under π id=false→H.get id=g.get id)→Je p π m V h (some st) (.ret (.ii [])) H):=⟨fun H d1=>⟨rfl,V,E8 W.out X.out fun id b=>(d1 id b).trans (t.out id b),bO fun id b=>(d1 id b).trans (t.out id b)⟩⟩;by_cases df:R.kind=3
  .have d6:=D4.1 c9.out R (AS ej);simp only[Cl.inB,df,Int.reduceEq,F7,FD,AP,Ap]at d6;obtain⟨gz,g0⟩:=d6;obtain⟨q,cx⟩:=get_some (l:=st.d8.be) (i:=R.n.toNat) AA;obtain⟨v,cn,e1⟩:=W.out.be.row _ _ cx;have d9:=AB cn;have bo:=a4.out _ _ cx;obtain⟨e8,e'⟩:=bo.at_;obtain⟨f0,d,ch,d5,fd,d4,d3⟩:=bo.ex;have fi:=bo.g0;have fl:=bo.i0;have fp:=bo.len;obtain⟨sp,eb⟩:=get_some (l:=st.d8.ac) (i:=q.at_.toNat) AA;obtain⟨S,g4,U,c4,g3,ga,gb⟩:=FC (W.out.sl 0 AA) eb;obtain⟨G,cs,T,c3,g2,f9,f'⟩:=FC (W.out.sl 1 AA) d5;have I:=W.out.arr;rcases I with⟨_,I⟩|⟨A,I,bi⟩
   .rw[I]at cn;simp at cn
   have e2:=AL cn;have gw: ∀r:List AV,(V.rows.set R.n.toNat r)[R.n.toNat]? =some r:=fun r=>List.getElem?_set_self e2;have dm:=X.out A (V.v3_mem m zEk);have ds:=X.out S (V.s_mem m (i:=0) AA (by rw[U];simp[AE]));have dq:=X.out G (V.s_mem m (i:=1) AA (by rw[T];simp[AE]));rw[I,U,T]at K;replace bi:=(t.out A dm).trans bi;replace c4:=(t.out S ds).trans c4;replace c3:=(t.out G dq).trans c3;have ai:=AJ dm;have ar:=Ak dm;have e4:=AJ ds;have e5:=Ak ds;have e6:=AJ dq;have e7:=Ak dq;have gi: ¬b=b+17:=AA;have gm: ¬b+17=b:=AA;have gn: ¬b=b+11:=AA;have gr: ¬b+11=b:=AA;have gs: ¬b=b+28:=AA;have gu: ¬b+28=b:=AA;have gg:=AL d4;have gf:=AL d3;have ea:Al st.d8.ac q.at_=sp.dead:=by simp[Al,eb]
   have d7:EE p st.d8 q=ch.many:=by simp[EE,d5,d4,d3]
   have O:AH (Cv p x j st=(MU p st.d8 R.n L).map fun s=>{st with d8:=s}):=⟨by
    simp only[Cv,c',df,F7,bl.out];rfl⟩
   have cl:AH (MU p st.d8 R.n L=if sp.dead=false∧ch.many=L.length then SC st.d8 R.n q L else some st.d8):=⟨by
    rw[MU,cx];simp only[ea,d7]⟩
   clear ea d7 bo;replace az:=AB az;replace U:=AB U;replace T:=AB T;replace I:=AB I;simp only[Az]at cn;simp only[Dm]at c4 c3;have go:=AH.mk (Nd W.out X.out I.out cx d9.out (q.queue++[L]));have c0:AH (sp.dead=true→Cv p x j st=some st):=⟨fun h=>by rw[O.out,cl.out,Co zE2];rfl⟩;have c1:AH (¬ch.many=L.length→Cv p x j st=some st):=⟨fun h=>by rw[O.out,cl.out,Co (fun ex=>h ex.2)];rfl⟩;have b2:AH (sp.dead=false→ch.many=L.length→q.queue.length<12→Cv p x j st=some {st with d8:={st.d8 with be:=st.d8.be.set R.n.toNat {q with queue:=q.queue++[L]}}}):=⟨fun c5 h2 c6=>by rw[O.out,cl.out,D5 ⟨c5,h2⟩,SC,D5 c6];rfl⟩
   have d':AH (sp.dead=false→ch.many=L.length→ ¬q.queue.length<12→Cv p x j st=none):=⟨fun c5 h2 c6=>by rw[O.out,cl.out,D5 ⟨c5,h2⟩,SC,Co c6];rfl⟩;clear O cl;have ad:Id.is A m=false:=Fk bi K;have a2:Id.is m A=false:=Fk K bi;rcases XW e1 with⟨ek,N⟩|⟨Q,zs,rfl,bk⟩
   .replace N:=AH.mk (D6.1 N);rcases J.out with⟨rfl,rfl⟩|⟨n,bx,rfl,bs⟩;all_goals clear J
    .have bv: ¬(0:Int)<x.args.length:=av;have ac:=BI M.symm;subst ac;clear M;exact zAG
    .subst M;have b4: ¬b+84=n:=AA;have b5: ¬n=b+84:=AA;have b6: ¬b+85=n:=AA;have b7: ¬n=b+85:=AA;exact zAG
   .have cc:=V.row_mem m (CS.2 ⟨_,AS d9.out,(by simp[Bq,AE]:Q∈BB (Az q (.f8 Q 0 (q.queue.map BD).length)))⟩);have dr:=X.out Q cc;replace cc:=AB cc;replace bk:=(t.out Q dr).trans bk;have a':=AJ dr;have bc:=Ak dr;have a6:Id.is Q A=false:=Fk bk bi;have a5:Id.is A Q=false:=Fk bi bk;have a7:Id.is Q m=false:=Fk bk K;have b3:Id.is m Q=false:=Fk K bk;rcases J.out with⟨rfl,rfl⟩|⟨n,bx,rfl,bs⟩;all_goals clear J
    .have bv: ¬(0:Int)<x.args.length:=av;have ac:=BI M.symm;subst ac;clear M;exact zAC
    .subst M;have b4: ¬b+84=n:=AA;have b5: ¬n=b+84:=AA;have b6: ¬b+85=n:=AA;have b7: ¬n=b+85:=AA;exact zAC
  .have O:AH (Cv p x j st=some st):=⟨by simp only[Cv,c',em,df,FD]⟩;rcases J.out with⟨rfl,rfl⟩|⟨n,bx,rfl,bs⟩;all_goals clear J
   .have bv: ¬(0:Int)<x.args.length:=av;clear M;exact zD4
   .subst M;exact zD4
def Vj(p:AX)(sz:List Int)(k:Nat):Prop:= ∀(h:AD) (π:List Nat) (m:Abs.Id) (V:MV) (st:CT) (j:Gq),VK p h m V st→Bz π V m→GD p sz st.d8→CP p sz st.d8 j→0≤st.work→st.work≤400→401≤st.work+k→(st.ev.length:Int)≤900000+st.work→
 ∃o h',KL Tryz.prog cfg (.fn 87) [.ptr m 0,nI j.node,nI j.at_,.d (.bv (j.env.map AN))] h π true none=.ok (o,h')∧Je p π m V h (Eb p k j st) o h'
theorem zU(p:AX)(h:AD)(π:List Nat)(m:Abs.Id)(V:MV)(w a b:Int)(l:List Cl)(f:h.get m=some (.box (BZ p true V w)))(c:Id.under π m=false):
 ∃o h',KL Tryz.prog cfg (.fn 87) [.ptr m 0,nI a,nI b,.d (.bv (l.map AN))] h π true none=.ok (o,h')∧o=.ret (.ii [])∧(∃w',h'.get m=some (.box (BZ p true V w')))∧ ∀id,Id.is m id=false→Id.under π id=false→h'.get id=h.get id:=by
 simp only[BZ]at f;have i:=AJ c;have j:=Ak c;refine BT Tryz.func87 ?_;refine aw ?_;refine⟨⟨IntKind.i64.wrap (w+1),rfl⟩,fun id b1 e=>?_⟩;have g:=AJ e;simp only[go_sem,g,b1,AM]
def Sj(p:AX)(π:List Nat)(m:Abs.Id)(V:MV)(h:AD)(b:Nat)(E:List Abs.Id)(g:AD):Option CT→Prop
 |some st=> ∃V',Br (BZ p false) false π m V h b V' st g∧ ∀i∈E,i∉V'.ids m
 |none=>(∃V' w,g.get m=some (.box (BZ p true V' w)))∧(∀id,id∉V.ids m→Id.under π id=false→g.get id=h.get id)∧ ∀i∈E,Id.is m i=false
variable{h:AD}{r:Option CT}
theorem ct{E:List Abs.Id}(e:Sj p π m V h b E g r): ∃f a w,g.get m=some (.box (BZ p f a w)):=by
 cases r with
 |some st=>obtain⟨a,c,_⟩:=e;exact⟨false,a,st.work,c.rep.box⟩
 |none=>obtain⟨⟨a,w,c⟩,_⟩:=e;exact⟨true,a,w,c⟩
variable{b':Nat}
theorem Yu{E:List Abs.Id}(a:Sj p π m V h b E g r)(f:b≤b'):Sj p π m V h b' E g r:=by
 cases r with
 |some st=>obtain⟨c,e,h2⟩:=a;exact⟨c,e.up f,h2⟩
 |none=>exact a
theorem Gb{E:List Abs.Id}(c:Sj p π m V h b E g r):Je p π m V h r (.ret (.ii [])) g:=by
 cases r with
 |some st=>
  obtain⟨e,a,_⟩:=c;exact⟨rfl,e,a.rep,fun id f=>(a.ids id f).imp_right fun⟨n,_,h2,h3⟩=>⟨BM h2,h3⟩,a.frame⟩
 |none=>exact⟨rfl,c.1,c.2.1⟩
structure jI(p:AX)(π:List Nat)(m:Abs.Id)(V:MV)(h:AD)(b n:Nat)(E:List Abs.Id)(g g':AD)(r:Option CT):Prop where
 run:Sj p π m V h (n+1) E g' r
 box: ∀k,k<b→g'.get (0::k::π)=g.get (0::k::π)
 pp: ∀i∈E,g'.get i=g.get i
theorem Jj(R:Vj p sz k){E:List Abs.Id}(v:Bz π V m)(Q:Sj p π m V h b E g r)(j:Gq)(t: ∀st,r=some st→Ke p sz k st∧CP p sz st.d8 j)(H:AD)(n:Nat)(K:b≤n)(s: ∀id,(∀a n,b≤n→Id.is (a::n::π) id=false)→H.get id=g.get id)(l: ∀i∈E,(∀a k,b≤k→Id.is (a::k::π) i=false)∧Id.under (n::π) i=false):
 ∃o g1,KL Tryz.prog cfg (.fn 87) [.ptr m 0,nI j.node,nI j.at_,.d (.bv (j.env.map AN))] H (n::π) true none=.ok (o,g1)∧o=.ret (.ii [])∧jI p π m V h b n E g (gc (n::π) g1) (r.bind (Eb p k j)):=by
 have M:=v m (V.m_mem m);have N:=AI M n;have I: ∀k,k<b→H.get (0::k::π)=g.get (0::k::π):=fun k u=>s _ fun a n K=>AF fun e=>by simp at e;omega
 have U:H.get m=g.get m:=s _ fun a n _=>AJ M a n;cases r with
 |none=>
  obtain⟨⟨x,w,D⟩,h2,q⟩:=Q;obtain⟨o,g1,W,X,⟨w',Y⟩,L⟩:=zU p H (n::π) m x w j.node j.at_ j.env (U.trans D) N;refine⟨o,g1,W,X,⟨⟨x,w',(Ah _ _ _ N).trans Y⟩,fun id a c=>?_,q⟩,fun k u=>?_,fun i f=>?_⟩
  .rw[Ah _ _ _ (AI c n),L id (AF fun e=>a zEu) (AI c n),s id fun a n _=>AJ c a n];exact h2 id a c
  .rw[Ah _ _ _ (BR π AA),L _ (Ak M 0 k) (BR π AA)];exact I k u
  .rw[Ah _ _ _ (l i f).2,L i (q i f) (l i f).2];exact s i (l i f).1
 |some st=>
  obtain⟨x,F,B⟩:=Q;obtain⟨t,T⟩:=t st rfl;have z:=F.loc v s;obtain⟨o,g1,D,h2⟩:=R H (n::π) m x st j z.rep (z.apart v K) t.ol T t.w0 t.w1 t.w2 t.ev;refine⟨o,g1,D,?_⟩;rw[I2];cases O:Eb p k j st with
  |some Z=>
   rw[O]at h2;obtain⟨q,A⟩:=h2;obtain⟨C,y,S⟩:=z.callL v K A;have P:=NR A;refine⟨q,⟨C,y,fun i f=>S i (B i f) (l i f).2⟩,fun k u=>?_,fun i f=>?_⟩
   .rw[Ah _ _ _ (BR π AA),P _ (Dq z v k) (BR π AA)];exact I k u
   .rw[Ah _ _ _ (l i f).2,P i (B i f) (l i f).2];exact s i (l i f).1
  |none=>
   rw[O]at h2;obtain⟨q,⟨C,w,A⟩,y⟩:=h2;refine⟨q,⟨⟨C,w,(Ah _ _ _ N).trans A⟩,fun id a c=>?_,fun i f=>AF fun e=>B i f (by rw[←e];exact x.m_mem m)⟩,fun k u=>?_,fun i f=>?_⟩
   .rw[Ah _ _ _ (AI c n),y id (fun J=>?_) (AI c n),s id fun a n _=>AJ c a n]
    .exact F.frame id a c
    .rcases F.ids id J with J|⟨k,_,q,_⟩
     .exact a J
     .rw[BM q]at c;cases c
   .rw[Ah _ _ _ (BR π AA),y _ (Dq z v k) (BR π AA)];exact I k u
   .rw[Ah _ _ _ (l i f).2,y i (B i f) (l i f).2];exact s i (l i f).1
variable{j:Gq}{d:CG}
theorem Rf{x:C2}{G:A8}(f:BO p sz)(a:FT p sz st.d8 j x d)(b:G=A6 st.d8 d x.n j)(n:Int)(h:0≤n)(i:n≤d.ac.length):
 BU (KL Tryz.prog cfg) 118 [.agg (pC p),.agg [nI x.n,nI j.at_,.d (.bv (G.env.map AN))],nI n] []=.ok (.ret (nI (G.place d n)),[]):=by
 have e:d.own≤G.env.length∧G.env.length≤10000:=by
  rw[b,a.env];have:=a.ok.be;have:=a.ok.ac;obtain⟨_,_,_,_,_,_,k⟩:=JN f a.job;unfold CG.own;omega
 have c:G.f9=x.n:=zFm
 have g:G.at_=j.at_:=zFm
 have:=OJ p G d n (by rw[c];exact a.n0) (by rw[c];exact a.f9) a.ok.be a.ok.ac e.1 e.2 h i
 rwa [c,g]at this
theorem YU{z:AV}{L:List Cl}(h:Ml z π g b v L)(f:b≤b'):Ml z π g b' v L:=by
 exact zCz
theorem Zv{p:AX}{sz:List Int}{k:Nat}(az:BO p sz)(ad:Vj p sz k){h:AD}{π:List Nat}{m:Abs.Id}{V:MV}{st:CT}(F:Bz π V m){j:Gq}{x:C2}{d:CG}(O:FT p sz st.d8 j x d){G:A8}(a0:G=A6 st.d8 d x.n j){R:Option CT}
 {e:CB} {g:AD} {b:Nat} {ev:AV} {r0:Option CT} (bo:e.get 0=.ptr m 0) (bs:e.get 2=nI j.at_) (bv:e.get 5=.ptr (0::0::π) 0) (bx:e.get 8=.ptr (0::10::π) 0) (b1:e.get 9=.ptr (0::18::π) 0) (bc:52≤b) (X:Sj p π m V h b (AE ev) g r0)
 (Q: ∀st',r0=some st'→Ke p sz k st'∧ ∀I∈CH d G 0 d.ac++BL x 0 j.at_ G.env,CP p sz st'.d8 I) (t:R=r0.bind (CF (Eb p k) (CH d G 0 d.ac++BL x 0 j.at_ G.env)))
 (C:g.get (0::0::π)=some (.box [nI x.op,nI x.n,.d (.bv (x.args.map BQ)),.d (.bv (x.kids.map AR))])) (J:g.get (0::10::π)=some (.box [.d (.bv (d.be.map BC)),.d (.bv (d.ac.map Aw)),.d (.bv (d.rules.map BA))])) (A:g.get (0::18::π)=some (.box [nI x.n,nI j.at_,ev])) (q:Ml .emp π g b ev G.env):
 Wp cfg (KL Tryz.prog cfg) ⟨144,π,true,none,false,221⟩ 0 (VC 9 (Tryz.f144.body.get rfl)) ⟨e,g,b,[]⟩ (Ki cfg none [] π true (Je p π m V h R)):=by
 have bk:=F m (V.m_mem m);have c1:=AJ bk;have c2:=Ak bk;have cx:=O.ok.be;have c0:=O.ok.ac;have b7:=AH.mk (Rf az O a0);replace a0:=AB a0;replace F:=AB F;replace O:=AB O;replace X:=AB X;replace Q:=AB Q;replace t:=AB t;obtain⟨N,b3⟩: ∃N,b=N+52:=⟨b-52,AA⟩;subst b3;simp only[Tryz.f144,I3,VC];refine ax ?_;clear bo bs bv bx b1;refine Aj d.ac (S:=fun i (a:AD×Nat)=>⟨[(0,.ptr m 0),(2,nI j.at_),(5,.ptr (0::0::π) 0),(8,.ptr (0::10::π) 0),(9,.ptr (0::18::π) 0),(14,nI i)],a.1,a.2+53,[]⟩)
  (Inv:=fun i bi a=>AH (∃r,Sj p π m V h (a.2+53) (AE ev) a.1 r∧(∀st',r=some st'→Ke p sz k st'∧ ∀I∈CH d G i bi++BL x 0 j.at_ G.env,CP p sz st'.d8 I)∧R=r.bind (CF (Eb p k) (CH d G i bi++BL x 0 j.at_ G.env)))∧a.1.get (0::0::π)=some (.box [nI x.op,nI x.n,.d (.bv (x.args.map BQ)),.d (.bv (x.kids.map AR))])∧a.1.get (0::10::π)=some (.box [.d (.bv (d.be.map BC)),.d (.bv (d.ac.map Aw)),.d (.bv (d.rules.map BA))])∧a.1.get (0::18::π)=some (.box [nI x.n,nI j.at_,ev])∧AH (Ml .emp π a.1 (a.2+53) ev G.env)) (b0:=(_,N)) ⟨⟨r0,Yu X.out AA,Q.out,t.out⟩,C,J,A,⟨YU q AA⟩⟩ ?_ ?_
 .clear X Q t C J A q bc g N;rintro i a7 ⟨g,c⟩ c3 o b4 ⟨B,C,J,A,q⟩ a';dsimp only at*;obtain⟨r,B,u,t⟩:=B.out;obtain⟨cc,bl,w,P⟩:=ct B;simp only[BZ]at P;have c4:IntKind.i64.wrap ((i:Int)+1)=(i:Int)+1:=wrap_id AA AA;have b6:=b7.out ((i:Int)+1) AA AA;have y:=fun i (o:i∈AE ev)=>(⟨fun a k z=>Tr q.out a k z rfl i o,HN q.out (n:=c+53) AA rfl i o⟩:(∀a k,c+53≤k→Id.is (a::k::π) i=false)∧Id.under ((c+53)::π) i=false);have W:AH (∀st',r=some st'→Ke p sz k st'∧CP p sz st'.d8 ⟨a7.node,G.place d ((i:Int)+1),G.env⟩):=⟨fun st' h=>⟨(u st' h).1,(u st' h).2 _ zFi⟩⟩;replace B:=AB B;replace u:=AB u;replace t:=AB t;replace y:=AB y;rcases q.out with⟨ai,v⟩|⟨H,v,a2,ch,b5,b8,a5⟩
  .rw[v]at A;rw[show G.env.map AN=[] by rw[ai];rfl]at b6;refine ax ?_;rw[show(Ao.bv [])=.bv (G.env.map AN) by rw[ai];rfl];exact zAL
  .rw[v]at A;have L:=y.out H (by rw[v];simp[AE]);have cl:=L.1;replace L:=AB L.2;have cn:Id.is m H=false:=Fk P a2;have cp: ∀l,Id.is (0::l) H=false:=fun l=>by obtain⟨b',rfl⟩:=a5;exact AF AG
   refine ax ?_;exact zAL
 .clear X Q t C J A q bc g N;rintro i ⟨g,c⟩ o b4 ⟨B,C,J,A,q⟩;dsimp only at*;obtain⟨r,T,u,t⟩:=B.out;clear B;obtain⟨cc,bl,w,P⟩:=ct T;simp only[BZ]at P;have b2:=o.out;subst b2;clear o;obtain⟨Y,be,_⟩:=O.out.kid;have a4:CH d G d.ac.length []++BL x 0 j.at_ G.env=[⟨Y,j.at_,G.env⟩]:=by rw[BL,be];rfl
  rw[a4]at u t;have ag:R=r.bind (Eb p k ⟨Y,j.at_,G.env⟩):=by
   rw[t];cases r with
   |none=>rfl
   |some s=>exact NJ _ _ _
  rw[be]at C;have W:AH (∀st',r=some st'→Ke p sz k st'∧CP p sz st'.d8 ⟨Y,j.at_,G.env⟩):=⟨fun st' h=>⟨(u st' h).1,(u st' h).2 _ AG⟩⟩;have y:=fun i (o:i∈AE ev)=>(⟨fun a k z=>Tr q.out a k z rfl i o,HN q.out (n:=c+53) AA rfl i o⟩:(∀a k,c+53≤k→Id.is (a::k::π) i=false)∧Id.under ((c+53)::π) i=false);replace y:=AB y;replace T:=AB T;replace u:=AB u;replace t:=AB t;replace ag:=AB ag;replace a4:=AB a4;rcases q.out with⟨ai,v⟩|⟨H,v,a2,ch,b5,b8,a5⟩
  .rw[v]at A;refine ax ?_;rw[show(Ao.bv [])=.bv (G.env.map AN) by rw[ai];rfl];exact zAn
  .rw[v]at A;have L:=y.out H (by rw[v];simp[AE]);have cl:=L.1;replace L:=AB L.2;have cn:Id.is m H=false:=Fk P a2;have cp: ∀l,Id.is (0::l) H=false:=fun l=>by obtain⟨b',rfl⟩:=a5;exact AF AG
   refine ax ?_;exact zAn
theorem eR(S:BO p sz)(a1:Vj p sz k)(A:Bz π V m)(o:Ke p sz k st){x:C2}(l:FT p sz st.d8 j x d){G:A8}(u:G=A6 st.d8 d x.n j)
    {ev:AV} {q:MV} (C:e.get 0=.ptr m 0) (D:e.get 2=nI j.at_) (F:e.get 5=.ptr (0::0::π) 0) (I:e.get 8=.ptr (0::10::π) 0) (J:e.get 9=.ptr (0::18::π) 0) (b4:52≤b) (f:Br (BZ p false) false π m V h b q {st with d8:=B3 st.d8 d G} g) (v: ∀i∈AE ev,i∉q.ids m)
 (a':g.get (0::0::π)=some (.box [nI x.op,nI x.n,.d (.bv (x.args.map BQ)),.d (.bv (x.kids.map AR))])) (bc:g.get (0::10::π)=some (.box [.d (.bv (d.be.map BC)),.d (.bv (d.ac.map Aw)),.d (.bv (d.rules.map BA))])) (be:g.get (0::18::π)=some (.box [nI x.n,nI j.at_,ev])) (a6:Ml .emp π g b ev G.env):
 Wp cfg (KL Tryz.prog cfg) ⟨144,π,true,none,false,221⟩ 0 (VC 8 (Tryz.f144.body.get rfl)) ⟨e,g,b,[]⟩ (Ki cfg none [] π true (Je p π m V h (IA (Eb p k) (FK p x j st)))):=by
 have az:=A m (V.m_mem m);have b3:=AJ az;have a3:=Ak az;have B:=l.node;have a5:=l.f9;have b0:=l.ok.be;have b2:=l.ok.ac;obtain⟨t,ac⟩: ∃n,n=st.d8.be.length:=⟨_,rfl⟩;obtain⟨s,Z⟩: ∃n,n=st.d8.ac.length:=⟨_,rfl⟩;obtain⟨ng,ad⟩: ∃n,n=st.d8.ce.length:=⟨_,rfl⟩;have O:(B3 st.d8 d G).be.length=t+d.be.length:=by simp[B3,Fa,ac]
 have P:(B3 st.d8 d G).ac.length=s+d.ac.length:=by simp[B3,Eo,Z]
 have Q:(B3 st.d8 d G).ce.length=ng+1:=by simp[B3,ad]
 have K:FK p x j st=if t+d.be.length≤60∧s+d.ac.length≤24∧ng+1≤40 then some ({st with d8:=B3 st.d8 d G},CH d G 0 d.ac++BL x 0 j.at_ G.env)else none:=by
  simp only[FK,a5,←u,O,P,Q]
 have av:=o.ol.small;simp only[BX.small,AP,Ap]at av;obtain⟨b6,b7,b8,b'⟩:=av;have a4:=f.rep.box;simp only[BZ]at a4;have z:=Js f.rep.arr;rw[f.rep.be.len,O]at z;have w:=Ek (f.rep.sl 0 AA);simp only[Av,As,P]at w;have y:=Ek (f.rep.sl 1 AA);simp only[Av,As,Q]at y;clear O P Q;have b5:=AH.mk (Rf S l u);replace K:=AB K;replace u:=AB u;replace A:=AB A;replace l:=AB l;replace o:=AB o;replace f:=AB f;replace v:=AB v;replace ac:=AB ac;replace Z:=AB Z;replace ad:=AB ad;refine R2 1 fun a2 T=>?_;have L:AH (∀(e:CB) (H:AD) (r:Bool),r=decide (¬(t+d.be.length≤60∧s+d.ac.length≤24∧ng+1≤40))→e.get 0=.ptr m 0→e.get 2=(nI j.at_)→e.get 5=.ptr (0::0::π) 0→e.get 8=.ptr (0::10::π) 0→e.get 9=.ptr (0::18::π) 0→H.get m=some (.box (BZ p r q st.work))→(∀id,Id.is m id=false→H.get id=g.get id)→Wp cfg (KL Tryz.prog cfg) ⟨144,π,true,none,false,221⟩ 0 a2 ⟨e,H,b+35,[]⟩ (Ki cfg none [] π true (Je p π m V h (IA (Eb p k) (FK p x j st))))):=⟨fun e H r R bi bk bl bo x9 a0 N=>by
  rw[T];have U:=fun k=>N (0::k::π) (a3 0 k);refine Zv S a1 A.out (r0:=if r=true then none else some {st with d8:=B3 st.d8 d G}) (ev:=ev) l.out u.out bi bk bl bo x9 AA ?_ ?_ ?_ ((U 0).trans a') ((U 10).trans bc) ((U 18).trans be) (YU (Ld a6 fun i X=>N i (AF fun e=>v.out i X (by rw[←e];exact q.m_mem m))) AA)
  .cases r with
   |true=>
    rw[D5 rfl];exact⟨⟨q,st.work,a0⟩,fun id a c=>(N id (AF fun e=>a zEu)).trans (f.out.frame id a c),fun i X=>AF fun e=>v.out i X (by rw[←e];exact q.m_mem m)⟩
   |false=>
    rw[Co AG];refine⟨q,(f.out.loc (H:=H) A.out fun id _=>?_).up AA,v.out⟩;by_cases ai:id=m
    .rw[ai,a0];exact f.out.rep.box.symm
    .exact N id (AF fun e=>ai e.symm)
  .intro st' M;cases r with
   |true=>rw[D5 rfl]at M;cases M
   |false=>
    rw[Co AG]at M;cases M;have a7:t+d.be.length≤60∧s+d.ac.length≤24∧ng+1≤40:=Decidable.of_not_not (of_decide_eq_false R.symm);have ar:=Th (st':={st with d8:=B3 st.d8 d G}) S o.out.ol l.out.job B l.out.op (by rw[K.out,D5 a7])
    exact⟨⟨ar.ol,o.out.w0,o.out.w1,o.out.w2,o.out.ev⟩,ar.jobs⟩
  .rw[K.out];cases r with
   |true=>rw[Co (of_decide_eq_true R.symm)];rfl
   |false=>rw[D5 (Decidable.of_not_not (of_decide_eq_false R.symm))];rfl⟩
 replace T:=AB T;have ag: ¬(t+d.be.length≤60∧s+d.ac.length≤24∧ng+1≤40)∨(t+d.be.length≤60∧s+d.ac.length≤24∧ng+1≤40):=AA;replace ag:=AB ag;by_cases bx:(60:Int)<(t+d.be.length:Nat)
 .exact zAO
 by_cases bs:(24:Int)<(s+d.ac.length:Nat)
 .exact zAO
 by_cases bv:(40:Int)<(ng+1:Nat)
 .exact zAO
 .simp only[Tryz.f144,I3,VC,RA]
  (repeat' (first|simp only[go_sem, *,↓z,↓w,↓y,AM]|(refine sx ?_ ?_<;>intro W)|refine sy AA fun x B Y=>?_|simp(disch:=first|assumption|omega) only[AU]))
  refine L.out _ _ false ?_ C D F I J ?_ fun id b1=>?_
  .exact(Ci AA).symm
  .simp only[go_sem,BZ]
  .exact zDg
theorem eT{p:AX}{sz:List Int}{k:Nat}(e7:BO p sz)(fv:Vj p sz k){h:AD}{π:List Nat}{m:Abs.Id}{V:MV}{st:CT}(eb:VK p h m V st)(a3:Bz π V m)(cn:Ke p sz k st){j:Gq}{x:C2}{d:CG}(b6:FT p sz st.d8 j x d){G:A8}(cl:G=A6 st.d8 d x.n j)
 {e:CB} {g:AD} {b:Nat} {ev:AV} (f3:e.get 0=.ptr m 0) (f4:e.get 2=nI j.at_) (f5:e.get 5=.ptr (0::0::π) 0) (f6:e.get 8=.ptr (0::10::π) 0) (f7:e.get 9=.ptr (0::18::π) 0) (fi:32≤b) (df: ∀id,Id.under π id=false→g.get id=h.get id)
 (ad:g.get (0::0::π)=some (.box [nI x.op,nI x.n,.d (.bv (x.args.map BQ)),.d (.bv (x.kids.map AR))])) (ag:g.get (0::10::π)=some (.box [.d (.bv (d.be.map BC)),.d (.bv (d.ac.map Aw)),.d (.bv (d.rules.map BA))])) (W:g.get (0::18::π)=some (.box [nI x.n,nI j.at_,ev])) (b8:Ma .emp π g b ev G.env):
 Wp cfg (KL Tryz.prog cfg) ⟨144,π,true,none,false,221⟩ 0 (VC 5 (Tryz.f144.body.get rfl)) ⟨e,g,b,[]⟩ (Ki cfg none [] π true (Je p π m V h (IA (Eb p k) (FK p x j st)))):=by
 have fr:=a3 m (V.m_mem m);have gz:=AJ fr;have w:=Ak fr;have gv:=b6.ok.be;have gw:=b6.ok.ac;have O:G.f9=x.n:=by rw[cl];rfl
 have M:G.at_=j.at_:=by rw[cl];rfl
 have fl:=cn.ol.small;simp only[BX.small,AP,Ap]at fl;obtain⟨g5,g6,g8,g9⟩:=fl;obtain⟨ng,d2⟩: ∃n,n=st.d8.ce.length:=⟨_,rfl⟩;obtain⟨g4,ex⟩: ∃n,n=st.d8.be.length:=⟨_,rfl⟩;obtain⟨gb,d1⟩: ∃n,n=st.d8.ac.length:=⟨_,rfl⟩;have g7:ng≤40:=AA;obtain⟨b5,c2⟩: ∃l,l=Fm d G ng 0 d.be:=⟨_,rfl⟩;have ej: ∀(t:Nat) c,d.be[t]? =some c→b5[t]? =some ⟨ng,t,G.place d c.at_,[]⟩:=fun t c a5=>by rw[c2,JR,a5];simp
 have fp:=AH.mk (Rf e7 b6 cl);have y:AH (Br (BZ p false) false π m V h b V st g):=⟨(Ie eb a3 df).up AA⟩;refine R2 3 fun f0 es=>?_;have cs:AH (∀(e:CB) (H:AD) (c:Nat),e.get 0=.ptr m 0→e.get 2=(nI j.at_)→e.get 5=.ptr (0::0::π) 0→e.get 8=.ptr (0::10::π) 0→e.get 9=.ptr (0::18::π) 0→(∃a1,Br (BZ p false) false π m V h (c+52) a1 {st with d8:=B3 st.d8 d G} H∧ ∀i∈AE ev,i∉a1.ids m)→H.get (0::0::π)=some (.box [nI x.op,nI x.n,.d (.bv (x.args.map BQ)),.d (.bv (x.kids.map AR))])→H.get (0::10::π)=some (.box [.d (.bv (d.be.map BC)),.d (.bv (d.ac.map Aw)),.d (.bv (d.rules.map BA))])→H.get (0::18::π)=some (.box [nI x.n,nI j.at_,ev])→Ml .emp π H (c+52) ev G.env→Wp cfg (KL Tryz.prog cfg) ⟨144,π,true,none,false,221⟩ 0 f0 ⟨e,H,c+52,[]⟩ (Ki cfg none [] π true (Je p π m V h (IA (Eb p k) (FK p x j st))))):=⟨fun e H c fs gi gm gn x9 e1 gr gs gu f'=>by
  obtain⟨a1,e1,ga⟩:=e1;rw[es];exact eR e7 fv a3 cn b6 cl fs gi gm gn x9 AA e1 ga gr gs gu f'⟩
 replace es:=AB es;replace eb:=AB eb;replace a3:=AB a3;replace b6:=AB b6;replace cn:=AB cn;replace cl:=AB cl;replace d2:=AB d2;replace ex:=AB ex;replace d1:=AB d1;replace c2:=AB c2;replace ej:=AB ej;replace df:=AB df;obtain⟨N,f9⟩: ∃N,b=N+32:=⟨b-32,AA⟩;subst f9;simp only[Tryz.f144,I3,VC,RA];refine aw ?_;clear f3 f4 f5 f6 f7;refine Aj d.be (S:=fun i (a:AD×Nat)=>⟨[(0,.ptr m 0),(2,nI j.at_),(5,.ptr (0::0::π) 0),(8,.ptr (0::10::π) 0),(9,.ptr (0::18::π) 0),(12,nI i)],a.1,a.2+33,[]⟩)
  (Inv:=fun i gf a=>AH (∃P,Br (BZ p false) false π m V h (a.2+33) P {st with d8:={st.d8 with be:=st.d8.be++b5.take i}} a.1∧ ∀i∈AE ev,i∉P.ids m)∧a.1.get (0::0::π)=some (.box [nI x.op,nI x.n,.d (.bv (x.args.map BQ)),.d (.bv (x.kids.map AR))])∧a.1.get (0::10::π)=some (.box [.d (.bv (d.be.map BC)),.d (.bv (d.ac.map Aw)),.d (.bv (d.rules.map BA))])∧a.1.get (0::18::π)=some (.box [nI x.n,nI j.at_,ev])∧AH (Ma .emp π a.1 (a.2+33) ev G.env)) (b0:=(_,N)) ⟨⟨V,?_,bT b8 a3.out⟩,ad,ag,W,⟨Jt b8 AA⟩⟩ ?_ ?_
 .rw[Rt,CI];exact y.out.up AA
 .clear y b8 df ad ag W fi g N;rintro i b2 ⟨g,c⟩ de K ds ⟨y,ad,ag,W,a4⟩ b3;dsimp only at*;obtain⟨P,y,a'⟩:=y.out;have bx:=IX a4.out (c+73);have d3:=b6.out.ok.chan b2 (AS de);have gg:IntKind.i64.wrap ((i:Int)+1)=(i:Int)+1:=wrap_id AA AA;have R:=y.rep.box;have e0:=fp.out b2.at_ d3.1 d3.2.1;simp only[BZ]at R;have c7:=Ek (y.rep.sl 1 AA);simp only[Av,As,←d2.out]at c7;have bc:=y.rep.arr;have e6:AH (∀A,P.v3=.f8 A 0 P.rows.length→(∀a n,c+33≤n→Id.is (a::n::π) A=false)∧(∀a n,c+33≤n→Id.is A (a::n::π)=false)∧Id.is A m=false∧Id.is m A=false∧ ∀k,Id.is A (0::k::π)=false):=⟨fun A ea=>by
   have K:=y.ids A (P.v3_mem m (by rw[ea];simp[AE]));have Z:=HA y.rep.arr (id:=A) (by rw[ea];simp[AE]);exact⟨C1 (b':=0) a3.out K,EU a3.out K,AF fun e=>(by rw[e,R]at Z;cases Z),AF fun e=>(by rw[←e,R]at Z;cases Z),fun k=>AF fun e=>Dq y a3.out k (by rw[←e];exact P.v3_mem m (by rw[ea];simp[AE]))⟩⟩
  have g3:P.rows.length≤1000:=by
   have:=y.rep.be.len;simp only[CE,F1]at this;omega
  have a7:AH (∀H:AD,H.get m=some (.box (BZ p false {P with v3:=.f8 (1::(c+65)::π) 0 (P.rows.length+1)} st.work))→H.get (1::(c+65)::π)=some (.arr 4 (P.rows++[Az ⟨ng,i,G.place d b2.at_,[]⟩ .d7]))→(∀id,Id.is m id=false→(∀Y∈AE P.v3,Id.is Y id=false)→DS (c+33) (c+73) π id=false→H.get id=g.get id)→ ∃a1,Br (BZ p false) false π m V h (c+73) a1 {st with d8:={st.d8 with be:=st.d8.be++b5.take (i+1)}} H∧ ∀i∈AE ev,i∉a1.ids m):=⟨fun H c0 f1 c1=>by
   obtain⟨a1,dm,dn⟩:=y.step (b':=c+73) AA (Zk y.rep (y.apartB a3.out) (q:=⟨ng,i,G.place d b2.at_,[]⟩) rfl (1::(c+65)::π) H c0 f1 ⟨CM (c+65) [1] AA AA,_,rfl⟩ c1);rw[F6,ej.out i b2 de,←Dl];exact⟨a1,dm,fun i K=>dn i (a' i K) (bx i K)⟩⟩
  replace bx:=AB bx;replace a':=AB a';replace y:=AB y;replace a4:=a4.out;rcases a4 with⟨Q,rfl⟩|⟨id,rfl,Z,n,c9,av,a2⟩
  .rw[Q,BY]at e0;replace Q:=AB Q;rcases bc with⟨bc,c'⟩|⟨A,bc,d9⟩
   .rw[bc]at R
    (repeat' (first|simp only[go_sem, *,↓c7,D3,AM]|(refine sx ?_ ?_<;>intro a5)|refine sy AA fun x bl bk=>?_|simp(disch:=first|assumption|omega) only[AU]))
    refine b3.out (_,_) ⟨⟨a7.out _ ?_ ?_ fun Y b1 X T=>?_⟩,?_,?_,?_,⟨.inl ⟨Q.out,rfl⟩⟩⟩
    .rw[c'];simp only[go_sem,BZ,AM];first|done|rfl
    .rw[c'];simp only[go_sem,w,Az,AM];first|done|rfl
    .exact zCe
    .simp only[go_sem,ad,w,AM]
    .simp only[go_sem,ag,w,AM]
    .simp only[go_sem,W,w,AM]
   .obtain⟨f,o,r,s,u⟩:=e6.out A bc;rw[bc]at R
    (repeat' (first|simp only[go_sem, *,↓c7,D3,AM]|(refine sx ?_ ?_<;>intro a5)|refine sy AA fun x bl bk=>?_|simp(disch:=first|assumption|omega) only[AU]))
    refine b3.out (_,_) ⟨⟨a7.out _ ?_ ?_ fun Y b1 X T=>?_⟩,?_,?_,?_,⟨.inl ⟨Q.out,rfl⟩⟩⟩
    .exact zCu
    .simp only[go_sem,w,Az,AM,f,o,r,s,u];first|done|rfl
    .exact zC9
    .exact zDz
    .exact zD0
    .exact zEA
  .obtain⟨B,C,D,F⟩:=Cm c9 av a2;have J:Id.is m id=false:=Fk R Z;have I:Id.is id m=false:=Fk Z R;replace av:=AB av;replace a2:=AB a2;rcases bc with⟨bc,c'⟩|⟨A,bc,d9⟩
   .rw[bc]at R
    (repeat' (first|simp only[go_sem, *,↓c7,D3,AM]|(refine sx ?_ ?_<;>intro a5)|refine sy AA fun x bl bk=>?_|simp(disch:=first|assumption|omega) only[AU]))
    refine b3.out (_,_) ⟨⟨a7.out _ ?_ ?_ fun Y b1 X T=>?_⟩,?_,?_,?_,⟨.inr ⟨id,rfl,?_,n,AA,av.out,a2.out⟩⟩⟩
    .rw[c'];simp only[go_sem,BZ,AM,B,C,D,F,J,I];first|done|rfl
    .rw[c'];simp only[go_sem,w,Az,AM,B,C,D,F,J,I];first|done|rfl
    .exact zCe
    .simp only[go_sem,ad,w,AM,B,C,D,F,J,I]
    .simp only[go_sem,ag,w,AM,B,C,D,F,J,I]
    .simp only[go_sem,W,w,AM,B,C,D,F,J,I]
    .simp only[go_sem,Z,AM,B,C,D,F,J,I]
   .obtain⟨f,o,r,s,u⟩:=e6.out A bc;rw[bc]at R;have ar:Id.is A id=false:=Fk d9 Z;have az:Id.is id A=false:=Fk Z d9
    (repeat' (first|simp only[go_sem, *,↓c7,D3,AM]|(refine sx ?_ ?_<;>intro a5)|refine sy AA fun x bl bk=>?_|simp(disch:=first|assumption|omega) only[AU]))
    refine b3.out (_,_) ⟨⟨a7.out _ ?_ ?_ fun Y b1 X T=>?_⟩,?_,?_,?_,⟨.inr ⟨id,rfl,?_,n,AA,av.out,a2.out⟩⟩⟩
    .simp only[go_sem,BZ,AM,B,C,D,F,J,I,f,o,r,s,u,ar,az];first|done|rfl
    .simp only[go_sem,w,Az,AM,B,C,D,F,J,I,f,o,r,s,u,ar,az];first|done|rfl
    .exact zC9
    .simp only[go_sem,ad,w,AM,B,C,D,F,J,I,f,o,r,s,u,ar,az]
    .simp only[go_sem,ag,w,AM,B,C,D,F,J,I,f,o,r,s,u,ar,az]
    .simp only[go_sem,W,w,AM,B,C,D,F,J,I,f,o,r,s,u,ar,az]
    .simp only[go_sem,Z,AM,B,C,D,F,J,I,f,o,r,s,u,ar,az]
 .clear y b8 df ad ag W fi g N;rintro i ⟨g,c⟩ K ds ⟨y,ad,ag,W,a4⟩;dsimp only at*;have d':=K.out;subst d';clear K;have dr:b5.length=d.be.length:=by rw[c2.out,Fa]
  rw[←dr,D3]at y;obtain⟨d5,c4,c5⟩:=y.out;clear y;replace c5:=AB c5;replace c4:=AB c4;have b8:=a4;clear a4;refine aw ?_;obtain⟨cc,c3⟩: ∃l,l=DY d G d.ac:=⟨_,rfl⟩;have ek: ∀(t:Nat) c,d.ac[t]? =some c→cc[t]? =some ⟨G.place d c.rc,false⟩:=fun t c a5=>by rw[c3,DY,D7,a5];rfl
  have el:cc.length=d.ac.length:=by rw[c3,Eo]
  have g2:1≤gb:=by rw[d1.out];exact cn.out.ol.tree.pos
  replace c3:=AB c3;replace ek:=AB ek;replace dr:=AB dr;replace el:=AB el;refine Aj d.ac (S:=fun i (a:AD×Nat)=>⟨[(0,.ptr m 0),(2,nI j.at_),(5,.ptr (0::0::π) 0),(8,.ptr (0::10::π) 0),(9,.ptr (0::18::π) 0),(13,nI i)],a.1,a.2+34,[]⟩)
   (Inv:=fun i gf a=>AH (∃P,Br (BZ p false) false π m V h (a.2+34) P {st with d8:={st.d8 with be:=st.d8.be++b5,ac:=st.d8.ac++cc.take i}} a.1∧ ∀i∈AE ev,i∉P.ids m)∧a.1.get (0::0::π)=some (.box [nI x.op,nI x.n,.d (.bv (x.args.map BQ)),.d (.bv (x.kids.map AR))])∧a.1.get (0::10::π)=some (.box [.d (.bv (d.be.map BC)),.d (.bv (d.ac.map Aw)),.d (.bv (d.rules.map BA))])∧a.1.get (0::18::π)=some (.box [nI x.n,nI j.at_,ev])∧AH (Ma .emp π a.1 (a.2+34) ev G.env)) (b0:=(_,c+5)) ⟨⟨d5,?_,c5.out⟩,ad,ag,W,⟨Jt b8.out AA⟩⟩ ?_ ?_
  .rw[Rt,CI];exact c4.out.up AA
  .clear c4 c5 b8 ad ag W g c d5;rintro i b2 ⟨g,c⟩ de K ds ⟨y,ad,ag,W,a4⟩ b3;dsimp only at*;obtain⟨P,y,a'⟩:=y.out;have bx:=IX a4.out (c+67);have d3:=Kb b6.out.ok.spot i b2 de;have gg:IntKind.i64.wrap ((i:Int)+1)=(i:Int)+1:=wrap_id AA AA;have R:=y.rep.box;have e0:=fp.out b2.rc d3.1 AA;simp only[BZ]at R;have L:=y.rep.sl 0 AA;obtain⟨b4,cp⟩: ∃l,l=st.d8.ac++cc.take i:=⟨_,rfl⟩;have g0:b4.length≤100:=by rw[cp];simp;omega
   simp only[Dm,Av,←cp]at L;have f8:b4≠ []:=by
    intro e;have h2:b4.length=0:=zFh
    rw[cp,CE]at h2;have:=cn.out.ol.tree.pos;omega
   rcases L with⟨_,L⟩|⟨S,bi,L,dq⟩
   .exact absurd (D6.1 L) f8
   have a7:AH (∀(v:AV) (H:AD),H.get m=some (.box (BZ p false (P.ip 0 v) st.work))→Kg H 2 v ((b4++[(⟨G.place d b2.rc,false⟩:Bn)]).map Au)→(AE v=AE (P.s 0)∨ ∀id∈AE v,DS (c+34) (c+67) π id=true∧ ∃l,id=1::l)→(∀id,Id.is m id=false→(∀Y∈AE (P.s 0),Id.is Y id=false)→DS (c+34) (c+67) π id=false→H.get id=g.get id)→ ∃a1,Br (BZ p false) false π m V h (c+67) a1 {st with d8:={st.d8 with be:=st.d8.be++b5,ac:=st.d8.ac++cc.take (i+1)}} H∧ ∀i∈AE ev,i∉a1.ids m):=⟨fun v H c0 d6 d7 c1=>by
    obtain⟨a1,dm,dn⟩:=y.step (b':=c+67) AA (DZ (st':={st with d8:={st.d8 with be:=st.d8.be++b5,ac:=b4++[⟨G.place d b2.rc,false⟩]}}) 0 AA y.rep (y.apartB a3.out) (Wj rfl rfl rfl) rfl v H c0 d6 d7 c1)
    rw[F6,ek.out i b2 de,←Dl,←cp];exact⟨a1,dm,fun i K=>dn i (a' i K) (bx i K)⟩⟩
   replace bx:=AB bx;replace a':=AB a';rw[As]at L;have fd:=y.ids S (P.s_mem m (i:=0) AA (by rw[L];simp[AE]));have f:=fun a n c8=>C1 (b':=0) a3.out fd a n c8;have o:=fun a n c8=>EU a3.out fd a n c8;have r:Id.is S m=false:=Fk dq R;have s:Id.is m S=false:=Fk R dq;have u: ∀k,Id.is S (0::k::π)=false:=fun k=>AF fun e=>Dq y a3.out k zFI;rw[L]at R;replace cp:=AB cp;replace y:=AB y;replace a4:=a4.out;rcases a4 with⟨Q,rfl⟩|⟨id,rfl,Z,n,c9,av,a2⟩
   .rw[Q,BY]at e0;replace Q:=AB Q;rcases bi with _|⟨z,bi⟩
    ·(repeat' (first|simp only[go_sem, *,D3,AM]|(refine sx ?_ ?_<;>intro a5)|refine sy AA fun x bl bk=>?_|simp(disch:=first|assumption|omega) only[AU]))
     refine b3.out (_,_) ⟨⟨a7.out (.f8 (1::(c+59)::π) 0 (b4.length+1)) _ ?_ (Aq [] AG ?_) (.inr fun Y a6=>?_) fun Y b1 X T=>?_⟩,?_,?_,?_,⟨.inl ⟨Q.out,rfl⟩⟩⟩
     .exact zCu
     .simp only[go_sem,w,BE,BY,AM,f,o,r,s,u];first|done|rfl
     .exact zDX
     .exact zAV
     .exact zDz
     .exact zD0
     .exact zEA
    ·(repeat' (first|simp only[go_sem, *,D3,AM]|(refine sx ?_ ?_<;>intro a5)|refine sy AA fun x bl bk=>?_|simp(disch:=first|assumption|omega) only[AU]))
     refine b3.out (_,_) ⟨⟨a7.out (.f8 S 0 (b4.length+1)) _ ?_ (Aq bi AG ?_) (.inl (by rw[L];rfl)) fun Y b1 X T=>?_⟩,?_,?_,?_,⟨.inl ⟨Q.out,rfl⟩⟩⟩
     .exact zCu
     .simp only[go_sem,w,BE,BY,AM,f,o,r,s,u];first|done|rfl
     .exact zAV
     .exact zDz
     .exact zD0
     .exact zEA
   .obtain⟨B,C,D,F⟩:=Cm c9 av a2;have J:Id.is m id=false:=Fk R Z;have I:Id.is id m=false:=Fk Z R;have ar:Id.is S id=false:=AF fun e=>a'.out id BJ zFI;have az:Id.is id S=false:=AF fun e=>by rw[e,is_self]at ar;cases ar
    replace av:=AB av;replace a2:=AB a2;rcases bi with _|⟨z,bi⟩
    ·(repeat' (first|simp only[go_sem, *,D3,AM]|(refine sx ?_ ?_<;>intro a5)|refine sy AA fun x bl bk=>?_|simp(disch:=first|assumption|omega) only[AU]))
     refine b3.out (_,_) ⟨⟨a7.out (.f8 (1::(c+59)::π) 0 (b4.length+1)) _ ?_ (Aq [] AG ?_) (.inr fun Y a6=>?_) fun Y b1 X T=>?_⟩,?_,?_,?_,⟨.inr ⟨id,rfl,?_,n,AA,av.out,a2.out⟩⟩⟩
     .exact zDe
     .exact zDL
     .exact zDX
     .exact zAV
     .simp only[go_sem,ad,w,AM,f,o,r,s,u,B,C,D,F,J,I,ar,az]
     .simp only[go_sem,ag,w,AM,f,o,r,s,u,B,C,D,F,J,I,ar,az]
     .simp only[go_sem,W,w,AM,f,o,r,s,u,B,C,D,F,J,I,ar,az]
     .simp only[go_sem,Z,AM,f,o,r,s,u,B,C,D,F,J,I,ar,az]
    ·(repeat' (first|simp only[go_sem, *,D3,AM]|(refine sx ?_ ?_<;>intro a5)|refine sy AA fun x bl bk=>?_|simp(disch:=first|assumption|omega) only[AU]))
     refine b3.out (_,_) ⟨⟨a7.out (.f8 S 0 (b4.length+1)) _ ?_ (Aq bi AG ?_) (.inl (by rw[L];rfl)) fun Y b1 X T=>?_⟩,?_,?_,?_,⟨.inr ⟨id,rfl,?_,n,AA,av.out,a2.out⟩⟩⟩
     .exact zDe
     .exact zDL
     .exact zAV
     .simp only[go_sem,ad,w,AM,f,o,r,s,u,B,C,D,F,J,I,ar,az]
     .simp only[go_sem,ag,w,AM,f,o,r,s,u,B,C,D,F,J,I,ar,az]
     .simp only[go_sem,W,w,AM,f,o,r,s,u,B,C,D,F,J,I,ar,az]
     .simp only[go_sem,Z,AM,f,o,r,s,u,B,C,D,F,J,I,ar,az]
  .clear c4 c5 b8 ad ag W g c d5 ds;rintro i ⟨g,c⟩ K ds ⟨y,ad,ag,W,a4⟩;dsimp only at*;have d':=K.out;subst d';clear K;have em:=el.out;rw[←em,D3]at y;obtain⟨P,e8,a'⟩:=y.out;clear y;have y:=e8;clear e8;have bx:=IX a4.out (c+52);have R:=y.rep.box;simp only[BZ]at R;have b7:=Js y.rep.arr;rw[y.rep.be.len]at b7;simp only[CE,←ex.out,dr.out]at b7;have ch:=Ek (y.rep.sl 0 AA);simp only[Av,As,CE,←d1.out,em]at ch;have L:=y.rep.sl 1 AA;simp only[Dm,Av]at L;clear em;have a7:AH (∀(g1:AD) (v:AV) (H:AD),(∀i∈P.ids m,g1.get i=g.get i)→(∀i,Id.under π i=false→g1.get i=g.get i)→H.get m=some (.box (BZ p false (P.ip 1 v) st.work))→Kg H 3 v ((st.d8.ce++[G]).map BF)→(AE v=AE (P.s 1)∨ ∀id∈AE v,DS (c+34) (c+52) π id=true∧ ∃l,id=1::l)→(∀id,Id.is m id=false→(∀Y∈AE (P.s 1),Id.is Y id=false)→DS (c+34) (c+52) π id=false→H.get id=g1.get id)→ ∃a1,Br (BZ p false) false π m V h (c+52) a1 {st with d8:=B3 st.d8 d G} H∧ ∀i∈AE ev,i∉a1.ids m):=⟨fun g1 v H b1 X c0 d6 d7 c1=>by
    have en:Br (BZ p false) false π m V h (c+34) P {st with d8:={st.d8 with be:=st.d8.be++b5,ac:=st.d8.ac++cc}} g1:=⟨Bx y.rep b1,y.ids,fun id f2 e5=>(X id e5).trans (y.frame id f2 e5)⟩
    obtain⟨a1,dm,dn⟩:=en.step (b':=c+52) AA (DZ (st':={st with d8:={st.d8 with be:=st.d8.be++b5,ac:=st.d8.ac++cc,ce:=st.d8.ce++[G]}}) 1 AA en.rep (en.apartB a3.out) (hX rfl rfl rfl) rfl v H c0 d6 d7 c1)
    refine⟨a1,?_,fun i K=>dn i (a' i K) (bx i K)⟩;rw[B3,←d2.out,←c2.out,←c3.out];exact dm⟩
   have d4:AH (∀S,P.s 1=.f8 S 0 st.d8.ce.length→(∀a n,c+34≤n→Id.is (a::n::π) S=false)∧(∀a n,c+34≤n→Id.is S (a::n::π)=false)∧Id.is S m=false∧Id.is m S=false∧(∀k,Id.is S (0::k::π)=false)∧(∀i∈AE ev,Id.is S i=false∧Id.is i S=false)):=⟨fun S e'=>by
    have d0:S∈P.ids m:=P.s_mem m (i:=1) AA (by rw[e'];simp[AE]);have K:=y.ids S d0;obtain⟨fs,Z⟩:=H7 (y.rep.sl 1 AA) (id:=S) (by rw[e'];simp[AE]);exact⟨fun a n c8=>C1 (b':=0) a3.out K a n c8,EU a3.out K,AF fun e=>(by rw[e,R]at Z;cases Z),AF fun e=>(by rw[←e,R]at Z;cases Z),fun k=>AF fun e=>Dq y a3.out k (by rw[←e];exact d0),fun i K=>⟨AF fun e=>a' i K (by rw[←e];exact d0),AF fun e=>a' i K (by rw[e];exact d0)⟩⟩⟩
   have e4:AH (∀i∈P.ids m,∀cx∈AE ev,Id.is cx i=false):=⟨fun i K cx c6=>AF fun e=>a' cx c6 (by rw[e];exact K)⟩;have e3:AH (∀i,Id.under π i=false→ ∀cx∈AE ev,Id.is cx i=false):=⟨fun i K cx c6=>AF fun e=>by
    rcases a4.out with⟨_,rfl⟩|⟨id,rfl,_,n,_,av,_⟩
    .simp[AE]at c6
    .simp only[AE,Ac]at c6;subst c6;rw[←e,BM av]at K;cases K⟩
   replace bx:=AB bx;replace a':=AB a';replace y:=AB y;replace a4:=a4.out;rcases a4 with⟨Q,ai⟩|⟨id,ai,Z,n,c9,av,a2⟩
   .rw[ai]at W;rcases L with⟨L,e2⟩|⟨S,bi,L,dq⟩
    .have dd:=AH.mk (D6.1 e2);rw[L]at R
     (repeat' (first|simp only[go_sem, *,↓b7,↓ch,AM]|(refine sx ?_ ?_<;>intro a5)|refine sy AA fun x bl bk=>?_|simp(disch:=first|assumption|omega) only[AU]))
     refine cs.out _ _ _ rfl rfl rfl rfl rfl (a7.out g (.f8 (1::(c+47)::π) 0 1) _ (fun _ _=>rfl) (fun _ _=>rfl) ?_ (Aq [] ?_ ?_) (.inr fun Y a6=>?_) fun Y b1 X T=>?_) ?_ ?_ ?_ ?_
     .simp only[go_sem,BZ,AM,O,M,Q];first|done|rfl
     .rw[dd.out];rfl
     .rw[dd.out];simp only[go_sem,w,BE,BY,AM,O,M,Q];first|done|rfl
     .exact zBE
     .exact zCe
     .simp only[go_sem,ad,w,AM,O,M,Q]
     .simp only[go_sem,ag,w,AM,O,M,Q]
     .rw[ai];simp only[go_sem,W,w,AM,O,M,Q]
     .exact .inl ⟨Q,ai⟩
    .rw[As]at L;rcases bi with _|⟨z,bi⟩
     .obtain⟨f,o,r,s,u,bs⟩:=d4.out S L;replace bs:=AB bs;rw[L]at R
      (repeat' (first|simp only[go_sem, *,↓b7,↓ch,AM]|(refine sx ?_ ?_<;>intro a5)|refine sy AA fun x bl bk=>?_|simp(disch:=first|assumption|omega) only[AU]))
      refine cs.out _ _ _ rfl rfl rfl rfl rfl (a7.out g (.f8 (1::(c+47)::π) 0 (st.d8.ce.length+1)) _ (fun _ _=>rfl) (fun _ _=>rfl) ?_ (Aq [] ?_ ?_) (.inr fun Y a6=>?_) fun Y b1 X T=>?_) ?_ ?_ ?_ ?_
      .simp only[go_sem,BZ,AM,O,M,f,o,r,s,u,Q];first|done|rfl
      .simp
      .exact zEB
      .exact zBE
      .exact zAV
      .simp only[go_sem,ad,w,AM,O,M,f,o,r,s,u,Q]
      .simp only[go_sem,ag,w,AM,O,M,f,o,r,s,u,Q]
      .rw[ai];simp only[go_sem,W,w,AM,O,M,f,o,r,s,u,Q]
      .exact .inl ⟨Q,ai⟩
     .obtain⟨f,o,r,s,u,bs⟩:=d4.out S L;replace bs:=AB bs;rw[L]at R
      (repeat' (first|simp only[go_sem, *,↓b7,↓ch,AM]|(refine sx ?_ ?_<;>intro a5)|refine sy AA fun x bl bk=>?_|simp(disch:=first|assumption|omega) only[AU]))
      refine cs.out _ _ _ rfl rfl rfl rfl rfl (a7.out g (.f8 S 0 (st.d8.ce.length+1)) _ (fun _ _=>rfl) (fun _ _=>rfl) ?_ (Aq bi ?_ ?_) (.inl (by rw[L];rfl)) fun Y b1 X T=>?_) ?_ ?_ ?_ ?_
      .simp only[go_sem,BZ,AM,O,M,f,o,r,s,u,Q];first|done|rfl
      .simp
      .exact zEB
      .exact zAV
      .simp only[go_sem,ad,w,AM,O,M,f,o,r,s,u,Q]
      .simp only[go_sem,ag,w,AM,O,M,f,o,r,s,u,Q]
      .rw[ai];simp only[go_sem,W,w,AM,O,M,f,o,r,s,u,Q]
      .exact .inl ⟨Q,ai⟩
   .rw[ai]at W;obtain⟨B,C,D,F⟩:=Cm c9 av a2;have J:Id.is m id=false:=Fk R Z;have I:Id.is id m=false:=Fk Z R;replace av:=AB av;replace a2:=AB a2;rcases L with⟨L,e2⟩|⟨S,bi,L,dq⟩
    .have dd:=AH.mk (D6.1 e2);rw[L]at R
     (repeat' (first|simp only[go_sem, *,↓b7,↓ch,AM]|(refine sx ?_ ?_<;>intro a5)|refine sy AA fun x bl bk=>?_|simp(disch:=first|assumption|omega) only[AU]))
     refine cs.out _ _ _ rfl rfl rfl rfl rfl (a7.out (g.put id (.i7 2 (G.env.map AN))) (.f8 (1::(c+47)::π) 0 1) _ (fun i K=>by rw[get_put,e4.out i K id zEi];simp) (fun i K=>by rw[get_put,e3.out i K id zEi];simp) ?_ (Aq [] ?_ ?_) (.inr fun Y a6=>?_) fun Y b1 X T=>?_) ?_ ?_ ?_ ?_
     .simp only[go_sem,BZ,AM,O,M,B,C,D,F,J,I];first|done|rfl
     .rw[dd.out];rfl
     .rw[dd.out];simp only[go_sem,w,BE,BY,AM,O,M,B,C,D,F,J,I];first|done|rfl
     .exact zBE
     .exact zCe
     .simp only[go_sem,ad,w,AM,O,M,B,C,D,F,J,I]
     .simp only[go_sem,ag,w,AM,O,M,B,C,D,F,J,I]
     .rw[ai];simp only[go_sem,W,w,AM,O,M,B,C,D,F,J,I]
     .refine .inr ⟨id,ai,?_,n,AA,av.out,a2.out⟩;simp only[go_sem,w,AM,O,M,B,C,D,F,J,I]
    .rw[As]at L;rcases bi with _|⟨z,bi⟩
     .obtain⟨f,o,r,s,u,bs⟩:=d4.out S L;obtain⟨bv,bo⟩:=bs id zEi;replace bs:=AB bs;rw[L]at R
      (repeat' (first|simp only[go_sem, *,↓b7,↓ch,AM]|(refine sx ?_ ?_<;>intro a5)|refine sy AA fun x bl bk=>?_|simp(disch:=first|assumption|omega) only[AU]))
      refine cs.out _ _ _ rfl rfl rfl rfl rfl (a7.out (g.put id (.i7 2 (G.env.map AN))) (.f8 (1::(c+47)::π) 0 (st.d8.ce.length+1)) _ (fun i K=>by rw[get_put,e4.out i K id zEi];simp) (fun i K=>by rw[get_put,e3.out i K id zEi];simp) ?_ (Aq [] ?_ ?_) (.inr fun Y a6=>?_) fun Y b1 X T=>?_) ?_ ?_ ?_ ?_
      .exact zDN
      .simp
      .exact zDA
      .exact zBE
      .exact zAV
      .exact zEL
      .exact zEM
      .exact zDq
      .exact zCa
     .obtain⟨f,o,r,s,u,bs⟩:=d4.out S L;obtain⟨bv,bo⟩:=bs id zEi;replace bs:=AB bs;rw[L]at R
      (repeat' (first|simp only[go_sem, *,↓b7,↓ch,AM]|(refine sx ?_ ?_<;>intro a5)|refine sy AA fun x bl bk=>?_|simp(disch:=first|assumption|omega) only[AU]))
      refine cs.out _ _ _ rfl rfl rfl rfl rfl (a7.out (g.put id (.i7 2 (G.env.map AN))) (.f8 S 0 (st.d8.ce.length+1)) _ (fun i K=>by rw[get_put,e4.out i K id zEi];simp) (fun i K=>by rw[get_put,e3.out i K id zEi];simp) ?_ (Aq bi ?_ ?_) (.inl (by rw[L];rfl)) fun Y b1 X T=>?_) ?_ ?_ ?_ ?_
      .exact zDN
      .simp
      .exact zDA
      .exact zAV
      .exact zEL
      .exact zEM
      .exact zDq
      .exact zCa
theorem xj{p:AX}{sz:List Int}{k:Nat}(a7:BO p sz)(a4:Vj p sz k){h:AD}{π:List Nat}{m:Abs.Id}{V:MV}{st:CT}(y:VK p h m V st)(Z:Bz π V m)(U:Ke p sz k st){j:Gq}{x:C2}(c1:j.env.length≤10000){d:CG}(z:FT p sz st.d8 j x d):
 ∃o h',KL Tryz.prog cfg (.fn 144) [.ptr m 0,.agg [nI x.op,nI x.n,.d (.bv (x.args.map BQ)),.d (.bv (x.kids.map AR))],nI j.at_,.d (.bv (j.env.map AN))] h π true none=.ok (o,h')∧Je p π m V h (IA (Eb p k) (FK p x j st)) o h':=by
 have C:=y.box;have K:=Z m (V.m_mem m);simp only[BZ]at C;have cl:=AJ K;have cn:=Ak K;have cp:=Ds K;have cs:=JS K;have bc:=z.f9;have cx:=z.n0;have c0:=AL bc;have cc:=z.ok.be;have ch:=z.ok.ac;have ar:=Fs j.env AA;have a3:=U.ol.small;simp only[BX.small,AP,Ap]at a3;obtain⟨c2,c4,c5,c6⟩:=a3;replace y:=AB y;replace Z:=AB Z;replace z:=AB z;replace U:=AB U;have J:=Js y.out.arr;have I:=Ek (y.out.sl 0 AA);rw[y.out.be.len]at J;simp only[Av,As]at I;obtain⟨s,Y⟩: ∃n,n=st.d8.be.length:=⟨_,rfl⟩;obtain⟨w,X⟩: ∃n,n=st.d8.ac.length:=⟨_,rfl⟩;rw[←Y]at J;rw[←X]at I;have bv:s≤60:=AA;have c3:w≤24:=AA;replace Y:=AB Y;replace X:=AB X;by_cases ai:j.env.length=0;all_goals
  first
  |simp only[JV,D5 ai]at ar
  |simp only[JV,Co ai]at ar
  have fa:=B4;refine BT Tryz.func144 ?_;refine R2 5 fun a5 av=>?_;have be:AH (∀(e:CB) (H:AD) (c:Nat),e.get 0=.ptr m 0→e.get 2=(nI j.at_)→e.get 5=.ptr (0::0::π) 0→e.get 8=.ptr (0::10::π) 0→e.get 9=.ptr (0::18::π) 0→(∀id,Id.under π id=false→H.get id=h.get id)→H.get (0::0::π)=some (.box [nI x.op,nI x.n,.d (.bv (x.args.map BQ)),.d (.bv (x.kids.map AR))])→H.get (0::10::π)=some (.box [.d (.bv (d.be.map BC)),.d (.bv (d.ac.map Aw)),.d (.bv (d.rules.map BA))])→(∃ev,H.get (0::18::π)=some (.box [nI x.n,nI j.at_,ev])∧Ma .emp π H (c+32) ev (j.env++DE s d.be.length++Gd w d.ac.length))→Wp cfg (KL Tryz.prog cfg) ⟨144,π,true,none,false,221⟩ 0 a5 ⟨e,H,c+32,[]⟩ (Ki cfg none [] π true (Je p π m V h (IA (Eb p k) (FK p x j st))))):=⟨fun e H c b2 b3 b4 b5 x9 l b7 b8 bi=>by
   obtain⟨ev,b',B⟩:=bi;rw[av];refine eT a7 a4 y.out Z.out U.out z.out rfl b2 b3 b4 b5 x9 AA l b7 b8 b' ?_;have:(A6 st.d8 d x.n j).env=j.env++DE s d.be.length++Gd w d.ac.length:=by rw[Y.out,X.out,A6,FO,Dl];rfl
   rw[this];exact B⟩
  replace av:=AB av;simp only[Tryz.f144,I3,RA];refine ax ?_;clear ar;refine Aj d.be (S:=fun i (a:AD×Nat)=>⟨[(0,.ptr m 0),(2,nI j.at_),(5,.ptr (0::0::π) 0),(8,.ptr (0::10::π) 0),(9,.ptr (0::18::π) 0),(10,nI i)],a.1,a.2+21,[]⟩)
   (Inv:=fun i bs a=>AH (∀id,Id.under π id=false→a.1.get id=h.get id)∧a.1.get (0::0::π)=some (.box [nI x.op,nI x.n,.d (.bv (x.args.map BQ)),.d (.bv (x.kids.map AR))])∧a.1.get (0::10::π)=some (.box [.d (.bv (d.be.map BC)),.d (.bv (d.ac.map Aw)),.d (.bv (d.rules.map BA))])∧AH (∃ev,a.1.get (0::18::π)=some (.box [nI x.n,nI j.at_,ev])∧Ma .emp π a.1 (a.2+21) ev (j.env++DE s i))) (b0:=(_,0)) ⟨⟨fun id b=>?_⟩,?_,?_,⟨?_⟩⟩ ?_ ?_
  .have r:=AJ b;have T:=AJ (AI b 16) 1 3;simp only[go_sem,r,T,AM]
  .simp only[go_sem]
  .simp only[go_sem]
  .first
   |(refine⟨.emp,?_,.inl ⟨by simp[DE,BI ai],rfl⟩⟩
     simp only[go_sem]
     done)
   |(refine⟨.f8 (1::3::16::π) 0 j.env.length,?_,.inr ⟨_,by simp[DE],?_,16,AA,under_iff.2 ⟨[1,3],rfl⟩,_,rfl⟩⟩
     .simp only[go_sem]
     .simp only[DE,List.range'_zero,BY,CI];simp only[go_sem])
  .rintro i b6 ⟨g,c⟩ bl A W ⟨l,u,v,q⟩ M;dsimp only at*;obtain⟨ev,bo,q⟩:=q.out;have a6:=(l.out m K).trans C;have bx:IntKind.i64.wrap ((i:Int)+1)=(i:Int)+1:=wrap_id AA AA;have b1:IntKind.i64.wrap ((s:Int)+(i:Int))=(s:Int)+(i:Int):=wrap_id AA AA;obtain⟨L,t⟩: ∃L,L=j.env++DE s i:=⟨_,rfl⟩;have P:AH (j.env++DE s (i+1)=L++[⟨3,(s:Int)+(i:Int)⟩]):=⟨by rw[R8,←Dl,←t];simp⟩;rw[←t]at q;have a':L.length≤20000:=by rw[t];simp[DE];omega
   replace t:=AB t;rcases q with⟨a2,rfl⟩|⟨id,rfl,bk,n,Q,D,B⟩
   ·(repeat' (first|simp only[go_sem, *,↓J,↓I]|(refine sx ?_ ?_<;>intro az)|refine sy AA fun x a1 C=>?_|simp(disch:=first|assumption|omega) only[AU]))
    refine M.out (_,_) ⟨⟨fun id f=>?_⟩,?_,?_,⟨.f8 (1::(c+38)::π) 0 1,?_,?_⟩⟩
    .exact zD1
    .simp only[go_sem,u]
    .simp only[go_sem,v]
    .simp only[go_sem]
    .rw[P.out,a2];exact zCj
   .obtain⟨ac,ad,N,O⟩:=Cm Q D B;have a0:=AH.mk (BM D);clear B D Q
    (repeat' (first|simp only[go_sem, *,↓J,↓I,AM]|(refine sx ?_ ?_<;>intro az)|refine sy AA fun x a1 C=>?_|simp(disch:=first|assumption|omega) only[AU]))
    refine M.out (_,_) ⟨⟨fun R f=>?_⟩,?_,?_,⟨.f8 (1::(c+38)::π) 0 (L.length+1),?_,?_⟩⟩
    .exact zCL
    .simp only[go_sem,u,N,O,AM]
    .simp only[go_sem,v,N,O,AM]
    .simp only[go_sem]
    .exact zED
  .clear bv;rintro i ⟨g,c⟩ A W ⟨l,u,v,q⟩;dsimp only at*;have ag:=A.out;subst ag;clear A;replace J:=AB J;refine aw ?_;refine Aj d.ac (S:=fun i (a:AD×Nat)=>⟨[(0,.ptr m 0),(2,nI j.at_),(5,.ptr (0::0::π) 0),(8,.ptr (0::10::π) 0),(9,.ptr (0::18::π) 0),(11,nI i)],a.1,a.2+27,[]⟩)
    (Inv:=fun i bs a=>AH (∀id,Id.under π id=false→a.1.get id=h.get id)∧a.1.get (0::0::π)=some (.box [nI x.op,nI x.n,.d (.bv (x.args.map BQ)),.d (.bv (x.kids.map AR))])∧a.1.get (0::10::π)=some (.box [.d (.bv (d.be.map BC)),.d (.bv (d.ac.map Aw)),.d (.bv (d.rules.map BA))])∧AH (∃ev,a.1.get (0::18::π)=some (.box [nI x.n,nI j.at_,ev])∧Ma .emp π a.1 (a.2+27) ev (j.env++DE s d.be.length++Gd w i))) (b0:=(_,c)) ⟨l,u,v,⟨by obtain⟨ev,r,F⟩:=q.out;exact⟨ev,r,by simpa[Gd]using Jt F AA⟩⟩⟩ ?_ ?_
   .clear q l u v g c;rintro i b6 ⟨g,c⟩ bl A W ⟨l,u,v,q⟩ M;dsimp only at*;obtain⟨ev,bo,q⟩:=q.out;have a6:=(l.out m K).trans C;have bx:IntKind.i64.wrap ((i:Int)+1)=(i:Int)+1:=wrap_id AA AA;have b1:IntKind.i64.wrap ((w:Int)+(i:Int))=(w:Int)+(i:Int):=wrap_id AA AA;obtain⟨L,t⟩: ∃L,L=j.env++DE s d.be.length++Gd w i:=⟨_,rfl⟩;have P:AH (j.env++DE s d.be.length++Gd w (i+1)=L++[⟨4,(w:Int)+(i:Int)⟩]):=⟨by rw[Se,←Dl,←t];simp⟩;rw[←t]at q;have a':L.length≤20000:=by rw[t];simp[DE,Gd];omega
    replace t:=AB t;rcases q with⟨a2,rfl⟩|⟨id,rfl,bk,n,Q,D,B⟩
    ·(repeat' (first|simp only[go_sem, *,↓I]|(refine sx ?_ ?_<;>intro az)|refine sy AA fun x a1 C=>?_|simp(disch:=first|assumption|omega) only[AU]))
     refine M.out (_,_) ⟨⟨fun id f=>?_⟩,?_,?_,⟨.f8 (1::(c+44)::π) 0 1,?_,?_⟩⟩
     .exact zD1
     .simp only[go_sem,u]
     .simp only[go_sem,v]
     .simp only[go_sem]
     .rw[P.out,a2];exact zCj
    .obtain⟨ac,ad,N,O⟩:=Cm Q D B;have a0:=AH.mk (BM D);clear B D Q
     (repeat' (first|simp only[go_sem, *,↓I,AM]|(refine sx ?_ ?_<;>intro az)|refine sy AA fun x a1 C=>?_|simp(disch:=first|assumption|omega) only[AU]))
     refine M.out (_,_) ⟨⟨fun R f=>?_⟩,?_,?_,⟨.f8 (1::(c+44)::π) 0 (L.length+1),?_,?_⟩⟩
     .exact zCL
     .simp only[go_sem,u,N,O,AM]
     .simp only[go_sem,v,N,O,AM]
     .simp only[go_sem]
     .exact zED
   .clear q l u v g c W;rintro i ⟨g,c⟩ A W ⟨l,u,v,q⟩;dsimp only at*;have ag:=A.out;subst ag;clear A;refine aw ?_;exact be.out _ _ _ rfl rfl rfl rfl rfl l.out u v (by obtain⟨ev,r,F⟩:=q.out;exact⟨ev,r,Jt F AA⟩)
theorem Yt{t:MV}{g1:AD}{o:Ax}(v:Bz π V m)(l:Br (BZ p false) false π m V h b t st H)(x:b≤n)(u:Je p (n::π) m t H r o g1):o=.ret (.ii [])∧Sj p π m V h (n+1) [] (gc (n::π) g1) r:=by
 have y:=AI (v m (V.m_mem m)) n;cases r with
 |some A=>
  obtain⟨e,g⟩:=u;obtain⟨f,j,z⟩:=l.callL v x g;exact⟨e,f,j,fun i s=>by cases s⟩
 |none=>
  obtain⟨e,⟨f,w,g⟩,j⟩:=u;refine⟨e,⟨f,w,(Ah _ _ _ y).trans g⟩,fun id a c=>?_,fun i s=>by cases s⟩;rw[Ah _ _ _ (AI c n),j id (fun q=>?_) (AI c n)]
  .exact l.frame id a c
  .rcases l.ids id q with q|⟨k,_,e,_⟩
   .exact a q
   .rw[BM e]at c;cases c
theorem Tk{p:AX}{sz:List Int}(a5:BO p sz): ∀k,Vj p sz k
 |0=>fun h π m V st j a6 S a7 bc el em en d6=>AA
 |k+1=>fun h π m V st j a6 S a7 bc el em en d6=>by
  have b7:=Tk a5 k;obtain⟨x,l,b5,c4,bl,az,e4⟩:=JN a5 bc;have ds:=c4;simp only[DB,AP,Ap,D4]at c4;obtain⟨b2,b4,dd,b'⟩:=c4;have e5:=bc.n0;have e':=AL b5;have av:=a6.box;have cn:=S m (V.m_mem m);simp only[BZ]at av;have t:=AJ cn;have z:=Ak cn;have fd:IntKind.i64.wrap (st.work+1)=st.work+1:=wrap_id AA AA;obtain⟨u,Z⟩: ∃s,s={st with work:=st.work+1}:=⟨_,rfl⟩
  have d1:=a5.small;simp only[AX.small,AP,Ap]at d1;obtain⟨fi,fl,fp⟩:=d1;have dn:AH (Eb p (k+1) j st=if st.work<400 then IA (Eb p k) (JH p j u)else none):=⟨by rw[Z];rfl⟩;have bo:AH (∀H:AD,H.get m=some (.box (BZ p false V (st.work+1)))→(∀id,Id.is m id=false→Id.under π id=false→H.get id=h.get id)→Br (BZ p false) false π m V h 0 V u H):=⟨fun H a4 bs=>by
   have:=RV (st':=u) a6 S (by rw[Z];exact a4) (by rw[Z];exact⟨rfl,rfl⟩) fun id b1 Q=>bs id (AF fun e=>b1 e.symm) Q;exact⟨this.1,fun id cc=>.inl cc,this.2.frame⟩⟩
  have ar:AH (st.work<400→Ke p sz k u):=⟨fun h=>by rw[Z];exact⟨a7,AZ,AZ,AZ,AZ⟩⟩;have bx:AH (CP p sz u.d8 j):=⟨by rw[Z];exact bc⟩;have c6:AH (u.d8=st.d8):=⟨by rw[Z]⟩;have d7:AH (u.ev.length≤1000000):=⟨by rw[Z];dsimp only;omega⟩;have e7:AH (u.work=st.work+1):=⟨by rw[Z]⟩;replace Z:=AB Z;replace a6:=AB a6;replace S:=AB S;replace a7:=AB a7;replace bc:=AB bc;replace b':=AB b';replace ds:=AB ds;replace az:=AB az;replace bl:=AB bl;by_cases c7:st.work<400
  .have ek:st.work+1≤400:=AA;have e6: ¬400<st.work+1:=AA;rw[dn.out,D5 c7];have a3:AH (JH p j u=if x.op=2 then(Cv p x j u).map fun st=>(st,[])else if x.op=3 then some (u,BL x 0 j.at_ j.env++BL x 1 j.at_ j.env)else if x.op=4 then FK p x j u else if x.op=5 then some (u,BL x (QJ x j.env) j.at_ j.env)else if DV x.op=true then(FH j u).map fun st=>(st,[])else some (u,[])):=⟨by rw[JH,b5]⟩;have ar:=ar.out c7;replace ar:=AB ar;have c':=AB dd;clear dd;rcases cD b2 with F|F|F|F|F|F|F|F
   .rw[a3.out];simp only[F,Int.reduceEq,F7,FD,DV,decide_false,Bool.or_self,AM,IA,CF];refine BT Tryz.func87 ?_;refine aw ?_;exact Gb (b:=0) (E:=[]) ⟨V,bo.out _ zEn (fun id b1 Q=>by
     have f:=AJ Q;simp only[go_sem,f,b1,AM]),fun i Y=>by cases Y⟩
   .rw[a3.out];simp only[F,Int.reduceEq,F7,FD,P1];have dr:0≤x.n∧x.n<j.env.length:=by simpa[W8,F]using b4
    have d4:x.args.length≤3:=by simpa[E0,F]using c'.out
    have b8: ∀e∈x.args,e.formed j.env.length=true:=fun e d5=>by
     have:=b'.out e d5;exact zCW
    have c2:AH (∀H n,Br (BZ p false) false π m V h 0 V u H→ ∃o h',KL Tryz.prog cfg (.fn 143) [.ptr m 0,.agg [nI 2,nI x.n,.d (.bv (x.args.map BQ)),.d (.bv (x.kids.map AR))],nI j.at_,.d (.bv (j.env.map AN))] H (n::π) true none=.ok (o,h')∧(o=.ret (.ii [])∧Sj p π m V h (n+1) [] (gc (n::π) h') (Cv p x j u))):=⟨fun H n X=>by
     obtain⟨o,g1,f,c8⟩:=v7 (st:=u) X.rep (X.apart S.out (n:=n) (IT _)) j AA d4 b8 dr.1 dr.2 (by rw[c6.out];exact bc.out.of) (fun c q az=>by rw[c6.out]at az⊢;exact Pw a5 a7.out az) d7.out;rw[F]at f;exact⟨o,g1,f,Yt S.out X (IT _) c8⟩⟩
    clear b8;exact zAu
   .rw[a3.out];simp only[F,Int.reduceEq,F7,FD];have b3:x.kids.length=2:=by simpa[Dh,F]using b2.symm
    obtain⟨R,T,ag⟩:=Qw b3;have cl:CP p sz u.d8 ⟨R,j.at_,j.env⟩:=LA bx.out AA bl.out az.out 0 _ zFk;have c3:CP p sz u.d8 ⟨T,j.at_,j.env⟩:=LA bx.out AA bl.out az.out 1 _ zFk;have c5:IA (Eb p k) (some (u,BL x 0 j.at_ j.env++BL x 1 j.at_ j.env))=((some u).bind (Eb p k ⟨R,j.at_,j.env⟩)).bind (Eb p k ⟨T,j.at_,j.env⟩):=by
     simp only[BL,ag,F4,GS,DL,Bi,IA,CF,I2];cases Eb p k ⟨R,j.at_,j.env⟩ u with
     |none=>rfl
     |some s=>
      simp only[I2];cases Eb p k ⟨T,j.at_,j.env⟩ s<;>rfl
    rw[c5];have de:AH (∀H n,36≤n→Br (BZ p false) false π m V h 0 V u H→ ∃o g1,KL Tryz.prog cfg (.fn 87) [.ptr m 0,nI R,nI j.at_,.d (.bv (j.env.map AN))] H (n::π) true none=.ok (o,g1)∧o=.ret (.ii [])∧jI p π m V h 36 n [] H (gc (n::π) g1) ((some u).bind (Eb p k ⟨R,j.at_,j.env⟩))):=⟨fun H n b4 X=>Jj b7 S.out (r:=some u) (E:=[]) ⟨V,X.up AA,fun i Y=>by cases Y⟩ ⟨R,j.at_,j.env⟩ (fun st' e=>by cases e;exact⟨ar.out,cl⟩) H n b4 (fun _ _=>rfl) fun i Y=>by cases Y⟩;have df:AH (∀H n b,b≤n→36≤b→Sj p π m V h b [] H ((some u).bind (Eb p k ⟨R,j.at_,j.env⟩))→ ∃o g1,KL Tryz.prog cfg (.fn 87) [.ptr m 0,nI T,nI j.at_,.d (.bv (j.env.map AN))] H (n::π) true none=.ok (o,g1)∧o=.ret (.ii [])∧jI p π m V h b n [] H (gc (n::π) g1) (((some u).bind (Eb p k ⟨R,j.at_,j.env⟩)).bind (Eb p k ⟨T,j.at_,j.env⟩))):=⟨fun H n b b4 e3 X=>Jj b7 S.out X ⟨T,j.at_,j.env⟩ (fun st' e=>by
     have dq:=JI a5 k _ _ _ ar.out.ol cl e;exact⟨ar.out.post dq,MJ c3 dq.ext⟩) H n b4 (fun _ _=>rfl) fun i Y=>by cases Y⟩
    replace cl:=AB cl;replace c3:=AB c3;replace c5:=AB c5;obtain⟨e0,cp,d3,ex⟩:=x;dsimp only at ag F b3 b5⊢;subst ag;subst F;refine BT Tryz.func87 ?_;refine aw ?_;refine Ad (de.out _ _ AA (bo.out _ zEn (fun id b1 Q=>by
     have f:=AJ Q;simp only[go_sem,f,b1,AM]))) (fun b6 g1 ac=>?_)
    obtain⟨ad,O⟩:=ac;subst ad;have e2:=(O.box 35 AA).trans (show _=some (.box [nI 3,nI cp,.d (.bv (d3.map BQ)),.d (.bv ([R,T].map AR))]) by simp only[go_sem]);have ea:=AB O.run;clear O;refine aw ?_;refine Ad (df.out _ _ _ ?_ ?_ ea.out) (fun b6 g1 ac=>?_)
    .omega
    .omega
    obtain⟨ad,O⟩:=ac;subst ad;replace O:=AB O;refine aw ?_;exact Gb O.out.run
   .rw[a3.out];simp only[F,Int.reduceEq,F7,FD];obtain⟨d,c0⟩:=eU a5 (s:=u.d8) (by rw[c6.out];exact a7.out) bx.out b5 F;have c2:AH (∀H n,Br (BZ p false) false π m V h 0 V u H→ ∃o h',KL Tryz.prog cfg (.fn 144) [.ptr m 0,.agg [nI 4,nI x.n,.d (.bv (x.args.map BQ)),.d (.bv (x.kids.map AR))],nI j.at_,.d (.bv (j.env.map AN))] H (n::π) true none=.ok (o,h')∧(o=.ret (.ii [])∧Sj p π m V h (n+1) [] (gc (n::π) h') (IA (Eb p k) (FK p x j u)))):=⟨fun H n X=>by
     obtain⟨o,g1,f,c8⟩:=xj a5 b7 X.rep (X.apart S.out (n:=n) (IT _)) ar.out AA c0;rw[F]at f;exact⟨o,g1,f,Yt S.out X (IT _) c8⟩⟩
    replace c0:=AB c0;exact zAu
   .rw[a3.out];simp only[F,Int.reduceEq,F7,FD];have b3:x.kids.length=2:=by simpa[Dh,F]using b2.symm
    obtain⟨R,T,ag⟩:=Qw b3;have c9:x.args.length=1:=by simpa[E0,F]using c'.out
    obtain⟨be,c1⟩: ∃e,x.args=[e]:=by
     match hxa:x.args,c9 with
     |[e],_=>exact⟨e,rfl⟩
    have b8:be.formed j.env.length=true:=by
     have:=b'.out be (by rw[c1];simp);exact zCW
    have d9:AH (CP p sz u.d8 ⟨R,j.at_,j.env⟩):=⟨LA bx.out AA bl.out az.out 0 _ zFk⟩;have d':AH (CP p sz u.d8 ⟨T,j.at_,j.env⟩):=⟨LA bx.out AA bl.out az.out 1 _ zFk⟩;have dm:AH (∀(c:Int),CP p sz u.d8 ⟨c,j.at_,j.env⟩→ ∀H n,Br (BZ p false) false π m V h 0 V u H→ ∃o g1,KL Tryz.prog cfg (.fn 87) [.ptr m 0,nI c,nI j.at_,.d (.bv (j.env.map AN))] H (n::π) true none=.ok (o,g1)∧o=.ret (.ii [])∧jI p π m V h 0 n [] H (gc (n::π) g1) (Eb p k ⟨c,j.at_,j.env⟩ u)):=⟨fun c a' H n X=>Jj b7 S.out (r:=some u) (E:=[]) ⟨V,X,fun i Y=>by cases Y⟩ ⟨c,j.at_,j.env⟩ (fun st' e=>by cases e;exact⟨ar.out,a'⟩) H n (IT _) (fun _ _=>rfl) fun i Y=>by cases Y⟩;obtain⟨v,w⟩: ∃v,v=be.value j.env:=⟨_,rfl⟩;have ej:=qO j.env be b8;rw[←w]at ej;obtain⟨e0,cp,d3,ex⟩:=x;dsimp only at ag F b3 b5 c9 c1 a3⊢;subst ag;subst F;subst c1;have ch:AH (QJ ⟨5,cp,[be],[R,T]⟩ j.env=if v.kind=1∧v.n≠0 then 0 else 1):=⟨by simp only[QJ,F4,w]⟩;have d0:AH (∀i,IA (Eb p k) (some (u,BL ⟨5,cp,[be],[R,T]⟩ i j.at_ j.env))=match [R,T][i]? with|some c=>Eb p k ⟨c,j.at_,j.env⟩ u|none=>some u):=⟨fun i=>by
     simp only[IA,BL];cases [R,T][i]? with
     |none=>rfl
     |some c=>exact NJ _ _ _⟩
    replace w:=AB w;by_cases a':v.kind=1∧v.n≠0
    .rw[ch.out,D5 a',d0.out];clear ch;obtain⟨de,df⟩:=a';refine BT Tryz.func87 ?_;refine aw ?_;refine Ad (dm.out R d9.out _ _ (bo.out _ zEn (fun id b1 Q=>by
     have f:=AJ Q;simp only[go_sem,f,b1,AM]))) (fun b6 g1 ac=>?_)
     exact zBm
    .rw[ch.out,Co a',d0.out];clear ch;have P:(if v.kind=1 then v.n else 0)=0:=by
      split
      .rename_i b2;by_cases bk:v.n=0
       .exact bk
       .exact absurd ⟨b2,bk⟩ a'
      .rfl
     clear a';refine BT Tryz.func87 ?_;refine aw ?_;refine Ad (dm.out T d'.out _ _ (bo.out _ zEn (fun id b1 Q=>by
     have f:=AJ Q;simp only[go_sem,f,b1,AM]))) (fun b6 g1 ac=>?_)
     exact zBm
   all_goals
    rw[a3.out];simp only[F,Int.reduceEq,F7,FD,P1,DV,decide_true,decide_false,Bool.true_or,T2,Bool.or_self,AM];have eb:=Z.out;clear a3;subst eb;have a2:=Fs j.env AA;have fa:=B4;have A:=fun n=>AJ (AI cn n) 1 3;have B:=fun n=>Ak (AI cn n) 1 3;have go:=AH.mk (DZ (st':={st with work:=st.work+1,d8:={st.d8 with waits:=st.d8.waits++[⟨j.at_,j.node,j.env⟩]}}) 2 AA a6.out S.out (Wk rfl rfl rfl) rfl)
    have e8:st.d8.waits.length≤40:=by
     have:=a7.out.small;simp only[BX.small,AP,Ap]at this;omega
    have U:AH (∀(N n:Nat) (H:AD),st.d8.waits.length<40→n=st.d8.waits.length+1→H.get m=some (.box (BZ p false (V.ip 2 (.f8 (1::N::π) 0 n)) (st.work+1)))→H.get (1::N::π)=some (.em 3 ((st.d8.waits++[(⟨j.at_,j.node,j.env⟩:GI)]).map Ae))→(∀id,Id.is m id=false→(∀i∈AE (V.s 2),Id.is i id=false)→Id.under π id=false→H.get id=h.get id)→Je p π m V h (FH j {d8:=st.d8,ev:=st.ev,work:=st.work+1}) (.ret (.ii [])) H):=⟨fun N n H a2 h2 a4 bs bv=>by
     rw[FH,D5 a2];exact⟨rfl,go.out _ H a4 (.inl (Aq [] (by rw[h2];simp[Av]) (by rw[CI];exact bs))) (.inr fun id cc=>by
      simp only[AE,Ac]at cc;subst cc;exact⟨Ay [1,N],_,rfl⟩) bv⟩⟩
    have cx:AH (∀{W:Abs.Id} (ai:List (List Ao)) (H:AD),st.d8.waits.length<40→V.s 2=.f8 W 0 st.d8.waits.length→H.get m=some (.box (BZ p false (V.ip 2 (.f8 W 0 (st.d8.waits.length+1))) (st.work+1)))→H.get W=some (.em 3 ((st.d8.waits++[(⟨j.at_,j.node,j.env⟩:GI)]).map Ae++ai))→(∀id,Id.is m id=false→(∀i∈AE (V.s 2),Id.is i id=false)→Id.under π id=false→H.get id=h.get id)→Je p π m V h (FH j {d8:=st.d8,ev:=st.ev,work:=st.work+1}) (.ret (.ii [])) H):=⟨fun{W} ai H a2 h2 a4 bs bv=>by
     rw[FH,D5 a2];exact⟨rfl,go.out _ H a4 (.inl (Aq ai (by simp[Av]) bs)) (.inl (by rw[h2];rfl)) bv⟩⟩
    have a1:AH (∀(cs:MV) (H:AD),¬st.d8.waits.length<40→H.get m=some (.box (BZ p true cs (st.work+1)))→(∀id,Id.is m id=false→(∀i∈AE (V.s 2),Id.is i id=false)→Id.under π id=false→H.get id=h.get id)→Je p π m V h (FH j {d8:=st.d8,ev:=st.ev,work:=st.work+1}) (.ret (.ii [])) H):=⟨fun cs H a2 a4 bv=>by
     rw[FH,Co a2];exact⟨rfl,⟨cs,_,a4⟩,fun id b0 Q=>bv id (AF fun e=>b0 zEu) (fun i Y=>AF fun e=>b0 (by rw[←e];exact V.s_mem m (i:=2) AA Y)) Q⟩⟩
    by_cases bk:j.env.length=0;all_goals
     first
     |(simp only[JV,D5 bk]at a2;rw[BI bk]at U cx)
     |simp only[JV,Co bk]at a2
    all_goals rcases XW (a6.out.sl 2 AA)with⟨d2,P⟩|⟨W,ai,w,bi⟩
    all_goals try simp only[Dm,Av,As]at w
    .exact zAF
    .exact zAA
    .exact zAF
    .exact zAA
  .have ek:400<st.work+1:=AA;rw[dn.out,Co c7];refine BT Tryz.func87 ?_;refine aw ?_;refine⟨rfl,⟨V,st.work+1,by simp only[go_sem,BZ]⟩,fun id b0 Q=>?_⟩;have b1:Id.is m id=false:=AF fun e=>b0 zEu;have f:=AJ Q;simp only[go_sem,f,b1,AM]
theorem xp{p:AX}{sz:List Int}(ds:BO p sz){h:AD}{π:List Nat}{m:Abs.Id}{V:MV}{st:CT}(a3:VK p h m V st)(y:Bz π V m)(U:GD p sz st.d8){at_:Int}(a4:E7 st.d8.ac at_):
 ∃o h',KL Tryz.prog cfg (.fn 164) [.ptr m 0,nI at_] h π true none=.ok (o,h')∧Je p π m V h (some ⟨O0 st.d8 at_,st.ev,st.work⟩) o h':=by
 have ag:=a3.box;simp only[BZ]at ag;have c2:=y m (V.m_mem m);have ex:=AJ c2;have c':=Ak c2;have c0:=U.small;simp only[BX.small,AP,Ap]at c0;obtain⟨fs,fv,f0,f1⟩:=c0;have c6:=a4.1;have b4:=a4.2;have ch:AH (Br (BZ p false) false π m V h 0 V st h):=⟨Ie a3 y fun id b=>rfl⟩;replace a3:=AB a3;replace y:=AB y;replace U:=AB U;replace a4:=AB a4;refine BT Tryz.func164 ?_;refine ax ?_;refine rounds (S:=fun(a:Nat×AD×Nat)=>⟨[(0,.ptr m 0),(1,nI at_),(4,nI a.1)],a.2.1,a.2.2+1,[]⟩)
  (Inv:=fun a=>a.1≤st.d8.ac.length∧AH (∃f,Br (BZ p false) false π m V h (a.2.2+1) f ⟨{st.d8 with ac:=Kh st.d8.ac at_ a.1},st.ev,st.work⟩ a.2.1)) (m:=fun a=>st.d8.ac.length-a.1) (a:=(0,h,0)) ⟨IT _,⟨V,by rw[WG];exact ch.out.up AA⟩⟩ ?_
 clear ag ch;rintro⟨i,g,b⟩ ⟨hil,e⟩ IH;dsimp only at*;obtain⟨f,e⟩:=e.out;obtain⟨D,r⟩: ∃D,D=Kh st.d8.ac at_ i:=⟨_,rfl⟩;have s:D.length=st.d8.ac.length:=by rw[r];exact M9 _ _ AA
 have j:=e.rep.box;simp only[BZ]at j;have Q:=Ek (e.rep.sl 0 AA);simp only[Av,As,←r,s]at Q;by_cases d2:i<st.d8.ac.length
 .have d3:(i:Int)<st.d8.ac.length:=AA;obtain⟨x,av⟩:=get_some d2;have cc:D[i]? =some x:=by rw[r];exact jY av
  have a2: ∀i,Bf D i=Bf st.d8.ac i:=fun k=>by rw[r];exact Zx _ _ AA k
  have Z:AH (Kh st.d8.ac at_ (i+1)=D.set i {x with dead:=x.dead||C3 st.d8.ac i at_}):=⟨by rw[r];exact WE av⟩
  have bi:=XT a2 s U.out.tree;have be:=Sb a2 s (i:Int) at_;rw[←r]at e;replace r:=AB r;obtain⟨S,X,I,P,c3,bx,c1⟩:=FC (e.rep.sl 0 AA) cc;simp only[Dm]at P;have bv:=Wu D (.bv (st.d8.ce.map BF)) (.bv (st.d8.be.map DA)) (.bv (st.d8.waits.map Ae)) (i:Int) at_ AA bi ⟨AA,AA⟩ c6;rw[be]at bv;have d':IntKind.i64.wrap ((i:Int)+1)=(i:Int)+1:=wrap_id AA AA;obtain⟨ej,en⟩:=Cc (e.rep.sl 0 AA);obtain⟨ek,c7⟩:=Cc (e.rep.sl 1 AA);obtain⟨el,c8⟩:=U6 (e.rep.sl 2 AA);obtain⟨em,c9⟩:=KE e.rep.arr;have dd:=KK (e.rep.sl 0 AA);have de:=KK (e.rep.sl 1 AA);have df:=QE (e.rep.sl 2 AA);have dm:=UA e.rep.arr e.rep.be;simp only[Av]at dd de df dm;replace a2:=AB a2;replace bi:=AB bi;replace be:=AB be;replace e:=AB e;have dr:=AB s;have e1:(i:Int)<D.length:=AA;cases K:C3 st.d8.ac i at_ with
  |true=>
   rw[K]at bv Z;rw[T2]at Z;replace s:=AB s;clear Q;refine ax ?_;have d0:Id.is S m=false:=Fk P j;have d5:(D.set i {x with dead:=true}).map Au++X=(D.map Au++X).set i [.int .i64 x.rc,.bool true]:=by
    rw[Ro _ _ (by simpa using bx),JP];rfl
   obtain⟨Y,bk,_⟩:=e.out.step (b':=b+28) AA (DZ (N:=DS (b+1) (b+28) π) (st:=⟨{st.d8 with ac:=D},st.ev,st.work⟩) (st':=⟨{st.d8 with ac:=Kh st.d8.ac at_ (i+1)},st.ev,st.work⟩) 0 AA e.out.rep (e.out.apartB y.out) (Wj rfl rfl rfl) rfl (.f8 S 0 D.length) (g.put S (.em 2 ((D.map Au++X).set i [.int .i64 x.rc,.bool true]))) (by rw[get_put,d0];exact j.trans (by rw[←I];rfl)) (Aq X (by simp only[Av,As];rw[M9 _ _ AA];exact dr.out) (by rw[get_put,is_self,←d5,←Z.out];rfl)) (.inl (by rw[I])) fun id b1 a0 b6=>by rw[get_put,a0 S zEk];rfl)
   exact IH.out (i+1,_,b+27) AZ ⟨AZ,⟨Y,bk⟩⟩
  |false=>
   rw[K,Bool.or_false]at Z;rw[K]at bv;replace s:=AB s;clear Q;refine ax ?_;refine IH.out (i+1,g,b+18) AZ ⟨AZ,⟨f,?_⟩⟩;have:Kh st.d8.ac at_ (i+1)=D:=by
    rw[Z.out];exact Qo cc
   dsimp only;rw[this];exact e.out.up AA
 .have K:i=st.d8.ac.length:=AA;have d3: ¬(i:Int)<st.d8.ac.length:=AA;rw[r,K,Ti]at s;rw[K,Ti]at e;clear r D;obtain⟨D,r⟩: ∃D,D=MA st.d8.ac at_:=⟨_,rfl⟩;rw[je,←r];rw[←r]at e s;replace r:=AB r;replace K:=AB K;replace e:=AB e;replace s:=AB s
  (repeat' (first|simp only[go_sem, *,↓Q,AM]|(refine sx ?_ ?_<;>intro cp)|refine sy AA fun x av ag=>?_|simp(disch:=first|assumption|omega) only[AU]))
  refine Aj st.d8.waits (S:=fun k (a:(AD×AV)×Nat)=>⟨[(0,.ptr m 0),(5,a.1.2),(6,nI k)],a.1.1,a.2+11,[]⟩)
   (Inv:=fun k d9 a=>b≤a.2∧AH (Br (BZ p false) false π m V h (b+11) f ⟨{st.d8 with ac:=D},st.ev,st.work⟩ a.1.1)∧AH ((a.1.2=.d7∧(st.d8.waits.take k).filter (fun w=> !Al D w.at_)=[])∨ ∃n,b+11≤n∧n<a.2+11∧a.1.2=.f8 (1::n::π) 0 ((st.d8.waits.take k).filter fun w=> !Al D w.at_).length∧a.1.1.get (1::n::π)=some (.em 3 (((st.d8.waits.take k).filter fun w=> !Al D w.at_).map Ae)))) (b0:=((g,.d7),b)) ⟨Es _,⟨e.out.up AA⟩,⟨.inl ⟨rfl,rfl⟩⟩⟩ ?_ ?_
  .clear e Q j;rintro k w ⟨⟨g,v⟩,c⟩ a6 ad L ⟨bl,e,u⟩ O;dsimp only at*;have j:=e.out.rep.box;simp only[BZ]at j;have b8:=s.out;have a7:=U.out.wait w (AS a6);simp only[Ca,AP,Ap]at a7;obtain⟨f3,d'⟩:=a7.1;obtain⟨sp,ar⟩:=get_some (l:=D) (i:=w.at_.toNat) AA;obtain⟨S,X,I,P,c3,bx,c1⟩:=FC (e.out.rep.sl 0 AA) ar;obtain⟨W,zs,cn,dq,f4,e8,e'⟩:=FC (ij (e.out.rep.sl 2 AA) a6) a6;simp only[Dm]at P dq;rw[I,cn]at j;have e3:(k:Int)<st.d8.waits.length:=L;have ea:IntKind.i64.wrap ((k:Int)+1)=(k:Int)+1:=wrap_id AA AA;have J:Al D w.at_=sp.dead:=by rw[Al,ar];rfl
   obtain⟨F,z⟩: ∃F,F=(st.d8.waits.take k).filter fun w=> !Al D w.at_:=⟨_,rfl⟩;have B:(st.d8.waits.take (k+1)).filter (fun w=> !Al D w.at_)=if sp.dead=true then F else F++[w]:=by
    rw[F6,a6,List.filter_append,z,Option.toList_some,Rw,J];cases sp.dead<;>simp
   rw[←z]at u;have e0:F.length≤40:=by
    rw[z];exact IP (List.length_filter_le _ _) zFK
   have fd:=C1 (b':=0) y.out (e.out.ids m (f.m_mem m));have fi:=C1 (b':=0) y.out (e.out.ids S (f.s_mem m (i:=0) AA zEk));have fl:=C1 (b':=0) y.out (e.out.ids W (f.s_mem m (i:=2) AA zEx));replace J:=AB J;replace z:=AB z;replace b8:=AB b8;replace a7:=AB a7;cases ai:sp.dead with
   |true=>
    rw[ai,D5 rfl]at B;refine ax ?_;refine O.out ((_,_),c+29) ⟨AZ,e,⟨?_⟩⟩;dsimp only;rw[B];rcases u.out with h|⟨n,az,b2,d7⟩
    .exact .inl h
    .exact .inr ⟨n,az,AA,d7⟩
   |false=>
    rw[ai,Co AG]at B;replace B:=AB B;rcases u.out with⟨rfl,M⟩|⟨n,az,b2,rfl,bc⟩
    .replace M:=AB M;refine ax ?_;refine O.out ((_,_),c+41) ⟨AZ,⟨e.out.loc y.out fun id t=>?_⟩,⟨.inr ⟨c+47,AA,AZ,?_,?_⟩⟩⟩
     .have a':=t 1 (c+46) AA;have b3:=t 1 (c+47) AA;simp only[go_sem,a',b3,AM]
     .rw[B.out,M.out];rfl
     .rw[B.out,M.out];simp only[go_sem];first|done|rfl
    .have f2:List.take F.length (F.map Ae)=F.map Ae:=By AG;have c7: ¬c+46=n:=AA;have c8: ¬n=c+46:=AA;have es: ¬c+47=n:=AA;have c9: ¬n=c+47:=AA;refine ax ?_;refine O.out ((_,_),c+41) ⟨AZ,⟨e.out.loc y.out fun id t=>?_⟩,⟨.inr ⟨c+47,AA,AZ,?_,?_⟩⟩⟩
     .have a':=t 1 (c+46) AA;have b3:=t 1 (c+47) AA;have d8:=t 1 n AA;simp only[go_sem,a',b3,d8,AM]
     .rw[B.out,CE];rfl
     .rw[B.out,BE];simp only[go_sem];first|done|rfl
  .clear e Q j;rintro k ⟨⟨g,v⟩,c⟩ ad L ⟨bl,e,u⟩;dsimp only at*;rw[ad.out,D3]at u;obtain⟨F,z⟩: ∃F,F=st.d8.waits.filter fun w=> !Al D w.at_:=⟨_,rfl⟩;rw[←z]at u⊢;have j:=e.out.rep.box;simp only[BZ]at j;have a5:=zG (e.out.rep.sl 2 AA);simp only[Av,As]at a5;have C:=Js e.out.rep.arr;rw[e.out.rep.be.len]at C;dsimp only at C;have d4: ¬(k:Int)<st.d8.waits.length:=L;have d6:v.isCell=true∧v.cells=[v]:=by rcases u.out with⟨rfl,_⟩|⟨n,_,_,rfl,_⟩<;>exact⟨rfl,rfl⟩
   obtain⟨v0,v1⟩:=d6;replace z:=AB z;have bs:AH (∀H:AD,H.get m=some (.box (BZ p false (f.ip 2 v) st.work))→(∀id,Id.is m id=false→H.get id=g.get id)→ ∃Y,Br (BZ p false) false π m V h (c+26) Y ⟨⟨D,st.d8.ce,L9 D st.d8.be 0,F⟩,st.ev,st.work⟩ H):=⟨fun H b4 b5=>by
    rw[WB];obtain⟨Y,bk,_⟩:=e.out.step (b':=c+26) AA (DZ (N:=DS (b+11) (c+26) π) (st:=⟨{st.d8 with ac:=D},st.ev,st.work⟩) (st':=⟨{st.d8 with ac:=D,waits:=F},st.ev,st.work⟩) 2 AA e.out.rep (e.out.apartB y.out) (Wk rfl rfl rfl) rfl v H b4 (by
     refine Or.inl ?_;rcases u.out with⟨rfl,M⟩|⟨n,az,b2,rfl,bc⟩
     .exact .inl ⟨rfl,by show F.map Ae=[];rw[M];rfl⟩
     .exact Aq [] (by simp[Av]) (by rw[b5 _ (c' 1 n),bc,CI];rfl)) (.inr fun id t=>by
     rcases u.out with⟨rfl,M⟩|⟨n,az,b2,rfl,bc⟩
     .simp[AE]at t
     .simp only[AE,Ac]at t;subst t;exact⟨CM n [1] az AA,_,rfl⟩) fun id b1 a0 b6=>b5 id b1)
    exact⟨Y,bk⟩⟩
   replace u:=AB u
   (repeat' (first|simp only[go_sem, *,↓a5,↓C,AM]|(refine sx ?_ ?_<;>intro cp)|refine sy AA fun x av ag=>?_|simp(disch:=first|assumption|omega) only[AU]))
   refine Aj st.d8.be (S:=fun k (a:AD×Nat)=>⟨[(0,.ptr m 0),(7,nI k)],a.1,a.2+26,[]⟩)
    (Inv:=fun k d9 a=>AH (∃f,Br (BZ p false) false π m V h (a.2+26) f ⟨⟨D,st.d8.ce,L9 D st.d8.be k,F⟩,st.ev,st.work⟩ a.1)) (b0:=(_,c)) ⟨bs.out _ ?_ fun id b1=>?_⟩ ?_ ?_
   .simp only[go_sem,BZ];first|done|rfl
   .exact zDg
   .clear bs e u v0 v1 a5 C j bl g v c f;rintro k q ⟨g,c⟩ R ad L e O;dsimp only at*;obtain⟨f,e⟩:=e.out;have j:=e.rep.box;simp only[BZ]at j;have cx:=(Pw ds U.out R).at_;have fp:=cx.1;have a':=cx.2;obtain⟨fr,T,e4⟩:=e.rep.be.row _ _ (N2 (l:=D) R);rcases e.rep.arr with⟨_,a1⟩|⟨A,a1,dn⟩
    .rw[a1]at T;simp at T
    have e7:=AL T;have e5:f.rows.length=st.d8.be.length:=by
     have:=e.rep.be.len;simp only at this;rw[this,Zt _ _ (by have:=AL R;omega)]
    have b7:=s.out;obtain⟨sp,ar⟩:=get_some (l:=D) (i:=q.at_.toNat) AA;obtain⟨S,X,I,P,c3,bx,c1⟩:=FC (e.rep.sl 0 AA) ar;simp only[Dm]at P;rw[I,a1]at j;have ea:IntKind.i64.wrap ((k:Int)+1)=(k:Int)+1:=wrap_id AA AA;have e2:(k:Int)<st.d8.be.length:=L;have cs:AH (L9 D st.d8.be (k+1)=(L9 D st.d8.be k).set k (Oe D q)):=⟨V9 R⟩;have J:Al D q.at_=sp.dead:=by rw[Al,ar];rfl
    have d1:=AB fun h'=>Nd (N:=DS (c+26) (c+63) π) e.rep (e.apartB y.out) a1 (N2 (l:=D) R) T [] .d7 h';have e6:=AB T;simp only[Az]at T;replace b7:=AB b7;replace e:=AB e;replace J:=AB J;cases ai:sp.dead with
    |true=>
     refine ax ?_;have bo:Oe D q={q with queue:=[]}:=by rw[Oe,J.out,ai,D5 rfl]
     have c4:Id.is A m=false:=Fk dn j;obtain⟨c5,cl,_⟩:=e.out.step (b':=c+63) AA (d1.out (g.put A (.arr 4 (f.rows.set k [nI q.group,nI q.index,nI q.at_,.d7]))) (by rw[get_put,c4];exact e.out.rep.box) (by rw[get_put,is_self];rfl) (.inl (.inl ⟨rfl,rfl⟩)) (.inr fun id t=>by simp[AE]at t) fun id b1 a0 b6 eb=>by rw[get_put,a0];rfl);refine O.out (_,c+37) ⟨c5,?_⟩;dsimp only at cl⊢;rw[cs.out,bo];exact cl
    |false=>
     refine ax ?_;have bo:Oe D q=q:=by rw[Oe,J.out,ai,Co AG]
     refine O.out (_,c+28) ⟨f,?_⟩;dsimp only;rw[cs.out,bo,Qo (N2 (l:=D) R)];exact e.out.up AA
   .clear bs e u v0 v1 a5 C j bl g v c f;rintro k ⟨g,c⟩ ad L e;dsimp only at*;obtain⟨f,e⟩:=e.out;rw[ad.out,Zs]at e;have j:=e.rep.box;simp only[BZ]at j;have C:=Js e.rep.arr;rw[e.rep.be.len]at C;simp only[As]at C;have d4: ¬(k:Int)<st.d8.be.length:=L;replace e:=AB e
    (repeat' (first|simp only[go_sem, *,↓C,AM]|(refine sx ?_ ?_<;>intro cp)|refine sy AA fun x av ag=>?_|simp(disch:=first|assumption|omega) only[AU]))
    exact⟨rfl,f,e.out.rep,fun id t=>(e.out.ids id t).imp_right fun⟨n,_,h2,h3⟩=>⟨BM h2,h3⟩,e.out.frame⟩
theorem dP{p:AX}{sz:List Int}(b4:BO p sz){h:AD}{π:List Nat}{m:Abs.Id}{V:MV}{st:CT}(P:Bz π V m)(bx:GD p sz st.d8){i:Nat}{w:GI}(bl:st.d8.waits[i]? =some w)(h2:qr p st.d8 w=true)(e1:st.ev.length≤400000){q:BX}(J:q={st.d8 with waits:=CW st.d8.waits i})
 {e:CB} {g:AD} {b:Nat} {U:MV} (es:e.get 0=.ptr m 0) (ex:e.get 4=.ptr (0::8::π) 0) (e0:30≤b) (X:Br (BZ p false) false π m V h b U ⟨q,st.ev,0⟩ g)
 (e4:g.get (0::8::π)=some (.box [nI w.at_,nI w.node,.d (.bv (w.env.map AN))])):
 Wp cfg (KL Tryz.prog cfg) ⟨105,π,true,none,false,139⟩ 0 (VC 2 (Tryz.f105.body.get rfl)) ⟨e,g,b,[]⟩ (Ki cfg none [] π true (Je p π m V h (IK p st.d8 st.ev ⟨i,0,0,[]⟩))):=by
 have d7:=P m (V.m_mem m);have F:=AJ d7;have I:=Ak d7;have b2:=bx.small;simp only[BX.small,AP,Ap]at b2;obtain⟨e6,e7,e8,e'⟩:=b2;have c3:=bx.wait w (AS bl);obtain⟨bs,Y⟩:=Ob b4 c3;have c2:GD p sz q:=by
  rw[J];exact OZ bx zFo fun v a'=>bx.wait v (N4 a')
 have a4:=Y.node;have e2:=Y.n0;have e3:=AL a4;have d1:=Y.op;have a5:=X.rep.box;simp only[BZ]at a5;obtain⟨N,el⟩: ∃N,b=N+30:=⟨b-30,AA⟩;subst el;replace P:=AB P;replace X:=AB X;replace bx:=AB bx;replace Y:=AB Y;replace c3:=AB c3;replace J:=AB J;have dq:AH (∀(H:AD) (n:Nat) (E:GK),(∃W,Br (BZ p false) false π m V h n W ⟨q,st.ev++[E],0⟩ H)→ ∃o g1,KL Tryz.prog cfg (.fn 164) [.ptr m 0,nI w.at_] H (n::π) true none=.ok (o,g1)∧o=.ret (.ii [])∧Je p π m V h (some ⟨O0 q w.at_,st.ev++[E],0⟩) (.ret (.ii [])) (gc (n::π) g1)):=⟨fun H n E a6=>by
  obtain⟨W,a6⟩:=a6;obtain⟨o,g1,Q,R⟩:=xp (st:=⟨q,st.ev++[E],0⟩) b4 a6.rep (a6.apart P.out (n:=n) (Es _)) c2 (at_:=w.at_) (by rw[J.out];exact Y.out.at_);obtain⟨T,D⟩:=Yt P.out a6 (Es _) R;exact⟨o,g1,Q,T,Gb D⟩⟩
 have c0:AH (∀(u:Int) (b6:BX),GD p sz b6→CP p sz b6 ⟨u,w.at_,w.env⟩→ ∀(H:AD) (n:Nat) (E:GK),(∃W,Br (BZ p false) false π m V h n W ⟨b6,st.ev++[E],0⟩ H)→ ∃o g1,KL Tryz.prog cfg (.fn 87) [.ptr m 0,nI u,nI w.at_,.d (.bv (w.env.map AN))] H (n::π) true none=.ok (o,g1)∧o=.ret (.ii [])∧Je p π m V h (Eb p 401 ⟨u,w.at_,w.env⟩ ⟨b6,st.ev++[E],0⟩) (.ret (.ii [])) (gc (n::π) g1)):=⟨fun u b6 d' ea H n E a6=>by
  obtain⟨W,a6⟩:=a6;obtain⟨o,g1,Q,R,T⟩:=Jj (Tk b4 401) P.out (r:=some ⟨b6,st.ev++[E],0⟩) (E:=[]) ⟨W,a6,fun i K=>by cases K⟩ ⟨u,w.at_,w.env⟩ (fun st' e=>by cases e;exact⟨⟨d',AZ,AZ,AZ,Aa⟩,ea⟩) H n (Es _) (fun _ _=>rfl) fun i K=>by cases K
  exact⟨o,g1,Q,R,Gb T.run⟩⟩
 have b7:AH (∀(E:GK) (c:Nat),N+30≤c→ ∀H:AD,(∃L,H.get m=some (.box (BZ p false (U.ip 3 L) 0))∧Kg H 5 L ((st.ev++[E]).map G4)∧(AE L=AE (U.s 3)∨ ∀id∈AE L,DS (N+30) c π id=true∧ ∃l,id=1::l))→(∀id,Id.is m id=false→(∀de∈AE (U.s 3),Id.is de id=false)→DS (N+30) c π id=false→H.get id=g.get id)→ ∃W,Br (BZ p false) false π m V h c W ⟨q,st.ev++[E],0⟩ H):=⟨fun E c c9 H ⟨L,A1,A2,A3⟩ A4=>by
  obtain⟨W,b3,_⟩:=X.out.step (b':=c) c9 (DZ (st':=⟨q,st.ev++[E],0⟩) 3 AA X.out.rep (X.out.apartB P.out) (jr rfl) rfl L H A1 A2 A3 A4);exact⟨W,b3⟩⟩
 have a1:AH (∀sp,st.d8.ac[w.at_.toNat]? =some sp→ ∀n:Int,∃S ai,U.s 0=.f8 S 0 st.d8.ac.length∧g.get S=some (.em 2 (st.d8.ac.map Au++ai))∧(st.d8.ac.map Au++ai)[w.at_.toNat]? =some (Au sp)∧w.at_.toNat<st.d8.ac.length∧w.at_.toNat<st.d8.ac.length+ai.length∧(∀a n,N+30≤n→Id.is (a::n::π) S=false)∧(∀a n,N+30≤n→Id.is S (a::n::π)=false)∧(∀k,Id.is S (0::k::π)=false)∧Id.is S m=false∧Id.is m S=false∧(∀i∈AE (U.s 3),Id.is S i=false∧Id.is i S=false)∧
  ∀(E:GK) (c:Nat),N+30≤c→ ∀H:AD,(∃L,H.get m=some (.box (BZ p false (U.ip 3 L) 0))∧Kg H 5 L ((st.ev++[E]).map G4)∧(AE L=AE (U.s 3)∨ ∀id∈AE L,DS (N+30) c π id=true∧ ∃l,id=1::l))→H.get S=some (.em 2 ((st.d8.ac.map Au++ai).set w.at_.toNat [.int .i64 n,.bool sp.dead]))→(∀id,Id.is m id=false→Id.is S id=false→(∀de∈AE (U.s 3),Id.is de id=false)→DS (N+30) c π id=false→H.get id=g.get id)→ ∃W,Br (BZ p false) false π m V h c W ⟨{q with ac:=FG q.ac w.at_ n},st.ev++[E],0⟩ H):=⟨fun sp b5 n=>by
  have b2:q.ac=st.d8.ac:=by rw[J.out]
  obtain⟨S,ai,cs,a2,c5,cl,c4⟩:=FC (X.out.rep.sl 0 AA) (show q.ac[w.at_.toNat]? =some sp by rw[b2];exact b5);simp only[Dm,b2]at a2 c5 cl c4 cs;have c8:=U.s_mem m (i:=0) AA (id:=S) (by rw[cs];simp[AE]);have d6:=X.out.ids S c8;have Z:Id.is S m=false:=Fk a2 a5;have av:Id.is m S=false:=Fk a5 a2;have M: ∀i∈AE (U.s 3),g.get i≠some (.em 2 (st.d8.ac.map Au++ai)):=fun i K=>by
   rcases X.out.rep.sl 3 AA with⟨a',_⟩|⟨E,bk,a',b8⟩
   .rw[a']at K;simp[AE]at K
   .rw[a']at K;simp only[AE,Ac]at K;rw[K,b8];simp[Dm]
  refine⟨S,ai,cs,a2,c5,cl,c4,fun a n dd=>C1 (b':=0) P.out d6 a n dd,fun a n dd=>EU P.out d6 a n dd,fun k=>AF fun e=>Dq X.out P.out k (by rw[←e];exact c8),Z,av,fun i K=>⟨AF fun e=>M i K (by rw[←e];exact a2),AF fun e=>M i K (by rw[e];exact a2)⟩,fun E c c9 H ⟨L,A1,A2,A3⟩ A5 A4=>?_⟩;have em: ∀i∈AE L,Id.is S i=false:=fun i K=>AF fun e=>by
   rcases A3 with a|a
   .rw[a,←e]at K;exact M _ K a2
   .have:=(a i K).1;rw[←e,X.out.apartB P.out S c8]at this;cases this
  have dn:(H.put S (.em 2 (st.d8.ac.map Au++ai))).get m=some (.box (BZ p false (U.ip 3 L) 0)):=by
   rw[get_put,Z];exact A1
  obtain⟨W,b3⟩:=b7.out E c c9 (H.put S (.em 2 (st.d8.ac.map Au++ai))) ⟨L,dn,by
   rcases A2 with a|⟨i,x,a,d⟩
   .exact .inl a
   .exact .inr ⟨i,x,a,by rw[get_put,em i (by rw[a];simp[AE])];exact d⟩,A3⟩ fun id b1 O f=>by
    cases t:Id.is S id with
    |true=>
     have:S=id:=Decidable.byContradiction fun h=>by rw[AF h]at t;cases t
     rw[get_put,t,←this];exact a2.symm
    |false=>rw[get_put,t];exact A4 id b1 t O f
  have c6:W.s 0=.f8 S 0 st.d8.ac.length:=by
   have:=Obj.box.inj (Is (dn.symm.trans b3.rep.box));simp only[BZ,Mt]at this;rw[←cs];exact this.2.2.2.2.1.symm
  obtain⟨d9,en,_⟩:=b3.step (b':=c) (Es _) (DZ (st':=⟨{q with ac:=FG q.ac w.at_ n},st.ev++[E],0⟩) 0 AA b3.rep (b3.apartB P.out) (Wj rfl rfl rfl) rfl (.f8 S 0 st.d8.ac.length) H (by
   have e:=b3.rep.box;rw[get_put,Z]at e;rw[show H.get m=_ from e];simp only[BZ,c6];rfl) (Aq ai (by rw[Av,As,JQ,b2]) (by
    rw[A5,Av,Ro _ _ (by simpa using cl)];have:FG q.ac w.at_ n=st.d8.ac.set w.at_.toNat {sp with rc:=n}:=by rw[FG,b2];simp only[b5]
    rw[this,JP];rfl)) (.inl (by rw[c6])) fun id b1 O f=>by rw[get_put,O S (by rw[c6];simp[AE])];rfl)
  exact⟨d9,en⟩⟩
 have dr:AH (∀u,bs.kids=[u]→CP p sz q ⟨u,w.at_,w.env⟩):=⟨fun u y=>by
  have:=Nw b4 c3.out a4 0;rw[show BL bs 0 w.at_ w.env=[⟨u,w.at_,w.env⟩] by rw[BL,y];rfl]at this;rw[J.out];exact J2 (this _ AG) _⟩
 have cp:AH (∀(u:Int) (v:Cl),bs.op=6→bs.kids=[u]→Hs w.env bs.n=v→GD p sz {q with ac:=FG q.ac w.at_ v.n}∧CP p sz {q with ac:=FG q.ac w.at_ v.n} ⟨u,w.at_,w.env⟩):=⟨fun u v cp y ag=>by
  obtain⟨L,_,d4,ch⟩:=Y.out.val AA;rw[ag]at d4;subst d4;have a3:=h2;rw[qr,a4]at a3;simp only[cp,Int.reduceEq,FD,F7,ag]at a3;have d0:v.kind=4:=by
   by_cases ds:v.kind=4
   .exact ds
   .rw[Co ds]at a3;cases a3
  rw[D5 d0]at a3;obtain⟨d8,_⟩:=ch d0;simp only[AP,Ap,HW]at a3;have d2:0<w.at_:=by have:=Y.out.at_.1;omega
  refine⟨Ln c2 d2 (by rw[J.out];exact Y.out.at_) (by rw[J.out];exact d8) (by rw[J.out];exact a3.2.1) (by rw[J.out];exact a3.2.2),?_⟩;have:=Nw b4 ((Ln bx.out d2 Y.out.at_ d8 a3.2.1 a3.2.2).wait w (AS bl)) a4 0;rw[show BL bs 0 w.at_ w.env=[⟨u,w.at_,w.env⟩] by rw[BL,y];rfl]at this;rw[J.out];exact J2 (this _ AG) (CW st.d8.waits i)⟩
 have val:=fun c7: ¬bs.op=7=>Y.out.val c7;have y:=fun c7: ¬bs.op=7=>dQ b4 Y.out c7;have c1:=Y.out.n;have cx:=Y.out.at_;have d3:=AB c2;clear c2;rcases X.out.rep.sl 3 AA with⟨j,bo⟩|⟨E,bk,j,b8⟩
 .have z:=trivial;have C:=trivial;have A:=trivial;have B:=trivial;have ek:=trivial;rw[j]at a5;replace j:=AB j;replace bo:AH (st.ev=[]):=⟨D6.1 bo⟩;simp only[Tryz.f105,I3,VC];rcases d1 with ad|ad|ad
  .obtain⟨v,a',ag,ch⟩:=val AA;obtain⟨u,y⟩:=y AA;obtain⟨df,dm⟩:=c1 AA;have eb:=cx.1;have ej:=cx.2;obtain⟨sp,b5⟩:=get_some (l:=st.d8.ac) (i:=w.at_.toNat) AA;obtain⟨S,ai,cc,a2,c5,cl,c4,bc,be,bv,Z,av,bi,a1⟩:=a1.out _ b5 v.n;have ar:=trivial;have M:=trivial;try replace ar:=(bi E zEq).1
   try replace M:=(bi E zEq).2
   replace bi:=AB bi;replace a1:=AB a1;have a7:=cp.out u v ad y ag;rw[U9 bl a4 ad y ag,show({st.d8 with waits:=CW st.d8.waits i,ac:=FG st.d8.ac w.at_ v.n}:BX)={q with ac:=FG q.ac w.at_ v.n} by rw[J.out]]
   rw[cc]at a5;replace a7:=AB a7;refine aw ?_;refine Ad (c0.out _ _ a7.out.1 a7.out.2 _ _ ⟨2,w.at_,v.n,0,[]⟩ (a1.out _ _ AA _ ?_ ?_ fun id b1 b0 O f=>?_)) (fun cn g1 az=>?_)
   .apply Exists.intro;refine⟨?_,?_,?_⟩
    .exact zC0
    .first
     |(refine Aq [] (by simp[bo.out]) ?_
       simp only[CI,BE,CO,BY,bo.out];simp only[go_sem,bv,bc,be,Z,av,M,ar,F,I,A,B,z,C,AM,Bi]
       done)
     |(refine Aq bk AG ?_
       simp only[BE,CO,BY,Dl,DL,Bi];simp only[go_sem,bv,bc,be,Z,av,M,ar,F,I,A,B,z,C,AM]
       done)
    .exact zDG
   .simp only[go_sem,bc,be,Z,av,M,ar]
   .exact zBH
   obtain⟨a0,s⟩:=az;subst a0;replace s:=AB s;refine aw ?_;exact s.out
  .rw[PZ bl a4 ad,←J.out];refine aw ?_;refine Ad (dq.out _ _ ⟨3,w.at_,0,0,[]⟩ (b7.out _ _ AA _ ?_ fun id b1 O f=>?_)) (fun cn g1 az=>?_)
   .apply Exists.intro;refine⟨?_,?_,?_⟩
    .exact zB5
    .exact zA5
    .exact zDH
   .exact zCk
   obtain⟨a0,s⟩:=az;subst a0;replace s:=AB s;refine aw ?_;exact s.out
  .obtain⟨v,a',ag,ch⟩:=val AA;obtain⟨u,y⟩:=y AA;obtain⟨df,dm⟩:=c1 AA;rw[Pa bl a4 ad y ag,←J.out];have c':=dr.out _ y;refine aw ?_;refine Ad (c0.out _ _ d3.out c' _ _ ⟨4,w.at_,v.n,0,[]⟩ (b7.out _ _ AA _ ?_ fun id b1 O f=>?_)) (fun cn g1 az=>?_)
   .apply Exists.intro;refine⟨?_,?_,?_⟩
    .exact zB5
    .exact zA5
    .exact zDI
   .exact zCl
   obtain⟨a0,s⟩:=az;subst a0;replace s:=AB s;refine aw ?_;exact s.out
 .have d5:=X.out.ids E (U.s_mem m (i:=3) AA (by rw[j];simp[AE]));have ek: ∀k,Id.is E (0::k::π)=false:=fun k=>AF fun e=>Dq X.out P.out k (by rw[←e];exact U.s_mem m (i:=3) AA (by rw[j];simp[AE]));have A:=C1 (b':=0) P.out d5;have B:=EU P.out d5;have z:Id.is E m=false:=Fk b8 a5;have C:Id.is m E=false:=Fk a5 b8;simp only[Dm,Av,As]at b8 j;rw[j]at a5;replace j:=AB j;rcases bk with _|⟨e5,bk⟩;all_goals
   simp only[Tryz.f105,I3,VC];rcases d1 with ad|ad|ad
   .obtain⟨v,a',ag,ch⟩:=val AA;obtain⟨u,y⟩:=y AA;obtain⟨df,dm⟩:=c1 AA;have eb:=cx.1;have ej:=cx.2;obtain⟨sp,b5⟩:=get_some (l:=st.d8.ac) (i:=w.at_.toNat) AA;obtain⟨S,ai,cc,a2,c5,cl,c4,bc,be,bv,Z,av,bi,a1⟩:=a1.out _ b5 v.n;have ar:=trivial;have M:=trivial;try replace ar:=(bi E zEq).1
    try replace M:=(bi E zEq).2
    replace bi:=AB bi;replace a1:=AB a1;have a7:=cp.out u v ad y ag;rw[U9 bl a4 ad y ag,show({st.d8 with waits:=CW st.d8.waits i,ac:=FG st.d8.ac w.at_ v.n}:BX)={q with ac:=FG q.ac w.at_ v.n} by rw[J.out]]
    rw[cc]at a5;replace a7:=AB a7;refine aw ?_;refine Ad (c0.out _ _ a7.out.1 a7.out.2 _ _ ⟨2,w.at_,v.n,0,[]⟩ (a1.out _ _ AA _ ?_ ?_ fun id b1 b0 O f=>?_)) (fun cn g1 az=>?_)
    .apply Exists.intro;refine⟨?_,?_,?_⟩
     .exact zC0
     .first
      |(refine Aq [] AG ?_
        simp only[CI,BE,CO,BY];simp only[go_sem,bv,bc,be,Z,av,M,ar,F,I,A,B,z,C,AM,Bi]
        done)
      |(refine Aq bk AG ?_
        simp only[BE,CO,BY,Dl,DL,Bi];simp only[go_sem,bv,bc,be,Z,av,M,ar,F,I,A,B,z,C,AM]
        done)
     .exact zDG
    .simp only[go_sem,bc,be,Z,av,M,ar]
    .exact zBH
    obtain⟨a0,s⟩:=az;subst a0;replace s:=AB s;refine aw ?_;exact s.out
   .rw[PZ bl a4 ad,←J.out];refine aw ?_;refine Ad (dq.out _ _ ⟨3,w.at_,0,0,[]⟩ (b7.out _ _ AA _ ?_ fun id b1 O f=>?_)) (fun cn g1 az=>?_)
    .apply Exists.intro;refine⟨?_,?_,?_⟩
     .exact zB5
     .exact zBB
     .exact zDH
    .exact zCk
    obtain⟨a0,s⟩:=az;subst a0;replace s:=AB s;refine aw ?_;exact s.out
   .obtain⟨v,a',ag,ch⟩:=val AA;obtain⟨u,y⟩:=y AA;obtain⟨df,dm⟩:=c1 AA;rw[Pa bl a4 ad y ag,←J.out];have c':=dr.out _ y;refine aw ?_;refine Ad (c0.out _ _ d3.out c' _ _ ⟨4,w.at_,v.n,0,[]⟩ (b7.out _ _ AA _ ?_ fun id b1 O f=>?_)) (fun cn g1 az=>?_)
    .apply Exists.intro;refine⟨?_,?_,?_⟩
     .exact zB5
     .exact zBB
     .exact zDI
    .exact zCl
    obtain⟨a0,s⟩:=az;subst a0;replace s:=AB s;refine aw ?_;exact s.out
theorem K0(a:List Cl)(g:a.length≤1000000):BU (KL Tryz.prog cfg) 57 [.d (.bv (a.map AN)),.d (.bv (a.map AN))] []=.ok (.ret (.d (.bool (true))),[]):=by
 refine A7 Tryz.func57 ?_;refine aw ?_;refine Aj a (S:=fun i (_:Unit)=>⟨[(0,.d (.bv (a.map AN))),(1,.d (.bv (a.map AN))),(5,nI i)],[],0,[]⟩)
  (Inv:=fun i k _=>True) (b0:=()) trivial ?_ ?_
 .rintro i m _ j e f c b;have h:i<a.length:=AA;have l:IntKind.i64.wrap ((i:Int)+1)=(i:Int)+1:=wrap_id AA AA;refine aw ?_;exact b.out () trivial
 .rintro i _ e f c;exact au
theorem Yv(a:List (List Cl))(k:a.length≤1000000)(b: ∀m∈a,m.length≤1000000):BU (KL Tryz.prog cfg) 37 [.d (.bv (a.map BD)),.d (.bv (a.map BD))] []=.ok (.ret (.d (.bool (true))),[]):=by
 replace b:=AB b;refine A7 Tryz.func37 ?_;refine aw ?_;refine Aj a (S:=fun i (_:Unit)=>⟨[(0,.d (.bv (a.map BD))),(1,.d (.bv (a.map BD))),(5,nI i)],[],0,[]⟩)
  (Inv:=fun i o _=>True) (b0:=()) trivial ?_ ?_
 .rintro i c _ j g h f e;have l:i<a.length:=AA;have p:IntKind.i64.wrap ((i:Int)+1)=(i:Int)+1:=wrap_id AA AA;have n:=K0 c (b.out c (AS j));refine aw ?_;exact e.out () trivial
 .rintro i _ g h f;exact au
structure BX.fits(s:BX):Prop where
 ac:s.ac.length≤1000000
 ce:s.ce.length≤1000000
 be:s.be.length≤1000000
 waits:s.waits.length≤1000000
 envs: ∀g∈s.ce,g.env.length≤1000000
 ques: ∀q∈s.be,q.queue.length≤1000000∧ ∀m∈q.queue,m.length≤1000000
 wenv: ∀w∈s.waits,w.env.length≤1000000
theorem zn(s:BX)(h:s.fits):BU (KL Tryz.prog cfg) 23 [sA s,sA s] []=.ok (.ret (.d (.bool (true))),[]):=by
 obtain⟨q,h2,r,t,k,j,l⟩:=h;replace k:=AB k;replace j:=AB j;replace l:=AB l;refine A7 Tryz.func23 ?_;refine aw ?_;refine Aj s.ac (S:=fun i (_:Unit)=>⟨[(2,.ptr [0,0] 0),(3,.ptr [0,1] 0),(5,nI i)],[([0,0],.box [.d (.bv (s.ac.map Au)),.d (.bv (s.ce.map BF)),.d (.bv (s.be.map DA)),.d (.bv (s.waits.map Ae))]),([0,1],.box [.d (.bv (s.ac.map Au)),.d (.bv (s.ce.map BF)),.d (.bv (s.be.map DA)),.d (.bv (s.waits.map Ae))])],2,[]⟩)
  (Inv:=fun i n _=>True) (b0:=()) trivial ?_ ?_
 .rintro i a _ g b f e c;have m:i<s.ac.length:=AA;have u:(a.dead==a.dead)=true:=AG;have o:IntKind.i64.wrap ((i:Int)+1)=(i:Int)+1:=wrap_id AA AA;refine aw ?_;exact c.out () trivial
 rintro i _ b f e;clear b;refine aw ?_;refine Aj s.ce (S:=fun i (_:Unit)=>⟨[(2,.ptr [0,0] 0),(3,.ptr [0,1] 0),(6,nI i)],[([0,0],.box [.d (.bv (s.ac.map Au)),.d (.bv (s.ce.map BF)),.d (.bv (s.be.map DA)),.d (.bv (s.waits.map Ae))]),([0,1],.box [.d (.bv (s.ac.map Au)),.d (.bv (s.ce.map BF)),.d (.bv (s.be.map DA)),.d (.bv (s.waits.map Ae))])],2,[]⟩)
  (Inv:=fun i n _=>True) (b0:=()) trivial ?_ ?_
 .rintro i a _ g b f e c;have m:i<s.ce.length:=AA;have o:IntKind.i64.wrap ((i:Int)+1)=(i:Int)+1:=wrap_id AA AA;have p:=K0 a.env (k.out a (AS g));refine aw ?_;exact c.out () trivial
 rintro i _ b f e;clear b;refine aw ?_;refine Aj s.be (S:=fun i (_:Unit)=>⟨[(2,.ptr [0,0] 0),(3,.ptr [0,1] 0),(7,nI i)],[([0,0],.box [.d (.bv (s.ac.map Au)),.d (.bv (s.ce.map BF)),.d (.bv (s.be.map DA)),.d (.bv (s.waits.map Ae))]),([0,1],.box [.d (.bv (s.ac.map Au)),.d (.bv (s.ce.map BF)),.d (.bv (s.be.map DA)),.d (.bv (s.waits.map Ae))])],2,[]⟩)
  (Inv:=fun i n _=>True) (b0:=()) trivial ?_ ?_
 .rintro i a _ g b f e c;have m:i<s.be.length:=AA;have o:IntKind.i64.wrap ((i:Int)+1)=(i:Int)+1:=wrap_id AA AA;have p:=Yv a.queue (j.out a (AS g)).1 (j.out a (AS g)).2;refine aw ?_;exact c.out () trivial
 rintro i _ b f e;clear b;refine aw ?_;refine Aj s.waits (S:=fun i (_:Unit)=>⟨[(2,.ptr [0,0] 0),(3,.ptr [0,1] 0),(8,nI i)],[([0,0],.box [.d (.bv (s.ac.map Au)),.d (.bv (s.ce.map BF)),.d (.bv (s.be.map DA)),.d (.bv (s.waits.map Ae))]),([0,1],.box [.d (.bv (s.ac.map Au)),.d (.bv (s.ce.map BF)),.d (.bv (s.be.map DA)),.d (.bv (s.waits.map Ae))])],2,[]⟩)
  (Inv:=fun i n _=>True) (b0:=()) trivial ?_ ?_
 .rintro i a _ g b f e c;have m:i<s.waits.length:=AA;have o:IntKind.i64.wrap ((i:Int)+1)=(i:Int)+1:=wrap_id AA AA;have p:=K0 a.env (l.out a (AS g));refine aw ?_;exact c.out () trivial
 rintro i _ b f e;clear b;exact au
theorem Vg(l:List GK)(m:l.length≤1000000)(a: ∀e∈l,e.of.length≤1000000):BU (KL Tryz.prog cfg) 24 [.d (.bv (l.map G4)),.d (.bv (l.map G4))] []=.ok (.ret (.d (.bool (true))),[]):=by
 replace a:=AB a;refine A7 Tryz.func24 ?_;refine aw ?_;refine Aj l (S:=fun i (_:Unit)=>⟨[(0,.d (.bv (l.map G4))),(1,.d (.bv (l.map G4))),(5,nI i)],[],0,[]⟩)
  (Inv:=fun i n _=>True) (b0:=()) trivial ?_ ?_
 .rintro i c _ j b h g f;have k:i<l.length:=AA;have o:IntKind.i64.wrap ((i:Int)+1)=(i:Int)+1:=wrap_id AA AA;have a:=K0 c.of (a.out c (AS j));refine aw ?_;exact f.out () trivial
 .rintro i _ b h g;clear b;exact au
theorem qV:HI.fits:=⟨AK,AK,AK,AK,by simp[HI],by simp[HI],by simp[HI]⟩
theorem wO(h:CV p s=0)(f:x∈CD p s)(e:DG p s x=some st):CV p st.d8=0∧st.ev≠ []∧st.ev.length≤401:=by
 obtain⟨l,a⟩:=S0 h;obtain⟨b,h2,c⟩:=Xb a.formed a.ol (Oa.1 f) e;refine⟨?_,h2,c⟩;rw[CV,a.looks];simp[il b]
def dW(e:GK):Prop:=e.of.length≤5000
theorem QL{f:Gq→CT→Option CT}(b: ∀j st st',f j st=some st'→(∀e∈st.ev,dW e)→ ∀e∈st'.ev,dW e): ∀(a:List Gq) (st st':CT),CF f a st=some st'→(∀e∈st.ev,dW e)→ ∀e∈st'.ev,dW e
 |[],st,st',h,hb=>by
  rw[CF]at h;cases h;exact hb
 |j::a,st,st',h,hb=>by
  rw[CF]at h;obtain⟨c,g,h2⟩:=IN.1 h;exact QL b a c st' h2 (b j st c g hb)
theorem v8(f:BO p sz){x:C2}{i:Nat}(m:p.nodes[i]? =some x)(k:x.op=2){st':CT}(h:Cv p x j st=some st')(b: ∀e∈st.ev,dW e): ∀e∈st'.ev,dW e:=by
 obtain⟨s,l,_,_,_,c,_⟩:=f.node i x m;simp only[DB,AP]at c;have g:=c.2.2.1;rw[E0,D5 k,Ap]at g;simp only[Cv]at h;split at h
 .cases h;intro e a;rcases EL.1 a with a|a
  .exact b e a
  .rw[Ac.1 a];show(x.args.map _).length≤5000;rw[As];omega
 split at h
 .obtain⟨s,_,rfl⟩:=Be.1 h;exact b
 .cases h;exact b
theorem ly(c:BO p sz){r:CT×List Gq}(h:JH p j st=some r)(b: ∀e∈st.ev,dW e): ∀e∈r.1.ev,dW e:=by
 unfold JH at h;split at h
 .rename_i x g;split at h
  .rename_i f;obtain⟨s,a,rfl⟩:=Be.1 h;exact v8 c g f a b
  split at h
  .cases h;exact b
  split at h
  .unfold FK at h;split at h
   .dsimp only at h;split at h
    .cases h;exact b
    .cases h
   .cases h
  split at h
  .cases h;exact b
  split at h
  .obtain⟨s,a,rfl⟩:=Be.1 h;unfold FH at a;split at a
   .cases a;exact b
   .cases a
  .cases h;exact b
 .cases h
theorem Su(b:BO p sz): ∀(k:Nat) (j:Gq) (st st':CT),Eb p k j st=some st'→(∀e∈st.ev,dW e)→ ∀e∈st'.ev,dW e
 |0,j,st,st',h,_=>by cases h
 |k+1,j,st,st',h,hb=>by
  rw[Eb]at h;split at h
  .cases a:JH p j {st with work:=st.work+1}with
   |none=>rw[a]at h;cases h
   |some r=>
    rw[a]at h;have:=ly b a hb;exact QL (Su b k) r.2 r.1 st' h this
  .cases h
theorem wQ(j:BO p sz)(B:GD p sz s)(h:Mq p s x)(f:DG p s x=some st): ∀e∈st.ev,dW e:=by
 have one: ∀a:GK,dW a→ ∀e∈ [a],dW e:=fun a y e z=>by rw[Ac.1 z];exact y
 have nil: ∀a b c d:Int,dW ⟨a,b,c,d,[]⟩:=fun _ _ _ _=>IT _;cases h with
 | @wait i w l h2=>
   rw[DG,Co AZ,Qy]at f;simp only[F8,l]at f;split at f
   .unfold Nv at f;dsimp only at f;split at f
    .cases f;exact one _ (nil _ _ _ _)
    split at f
    .exact QL (Su j 401) _ _ _ f (one _ (nil _ _ _ _))
    .exact QL (Su j 401) _ _ _ f (one _ (nil _ _ _ _))
   .cases f
 | @rt i k g d r t l h2 m u v=>
   obtain⟨_,A⟩:=Ql j B l h2 m u v;obtain⟨_,_,_,_,_,_,n⟩:=JN j A;dsimp only at n;rw[CE]at n;have o:s.ce[((i:Nat):Int).toNat]? =some g:=l;have q:d.rules[((k:Nat):Int).toNat]? =some r:=m;rw[DG,D5 AZ,cZ]at f;simp only[o,(FX h2).2,q,Qg]at f;exact Su j 401 _ _ _ f (one _ (by show(CC d g r.eq t s).1.length≤5000;omega))
end Go.Proofs
