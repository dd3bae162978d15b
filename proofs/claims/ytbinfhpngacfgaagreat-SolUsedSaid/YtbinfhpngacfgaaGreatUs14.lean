/- P -/
import Derived.Test.YtbinfhpngacfgaaGreatUs13
set_option linter.all false
set_option maxRecDepth 99999
set_option maxHeartbeats 0
open List renaming replicate->TL,map->V5,take->WA,length->U
open Go.IntKind renaming i64->TC
open Option renaming some->J,none->I
open Bool renaming true->X,false->Z
namespace Go
variable{p:Prop}
def zCO(h:p:=by simp[CV,Ab,AE]):p:=h
def zCS(h:p:=by simp[KP]):p:=h
def zCa(h:p:=by first|assumption|(show D.many=0;assumption)):p:=h
def zCb(h:p:=by rw[R];simp[AE]):p:=h
def zCc(h:p:=by rw[q.1];simp[AE]):p:=h
def zCh(h:p:=by simp only[go_sem,BS,n,AM]):p:=h
def zCu(h:p:=by rw[l.1];simp[AE]):p:=h
def zCz(h:p:=by rw[l.1];rfl):p:=h
def zC6(h:p:=by rw[BV];omega):p:=h
def zC7(h:p:=by rw[<-j];exact q.s_mem m (i:=0) z (by rw[k];simp[AE])):p:=h
def zDB(h:p:=by simp[Ab,c]):p:=h
def zDJ(h:p:=by grind [Cl,Ab]):p:=h
def zDK(h:p:=by first|assumption|(show¬D.many=0;assumption)):p:=h
def zDM(h:p:=by first|assumption|omega|(rw[M.1];decide)):p:=h
def zDP(h:p:=by simp[Bj,a3]):p:=h
end Go
namespace Go
variable{p:Prop}
def zAB(h:p:=by
 simp only[IU,BQ]at b1;have be:=ag.1 W (V.s_mem m (i:=2) z (by rw[q];simp[AE]));rw[q]at a';have F:=AN be;have K:=Aw be;have L:=λa=>AN (AL be a) 1 3;have M:=λa=>Aw (AL be a) 1 3;have C:AJ W m=false:=RY b1 a';have O:AJ m W=false:=RY a' b1;replace q:=AB q;by_cases el:(40:Int)<(U st.eq.waits+1:Nat);all_goals rcases a4 with _|⟨er,a4⟩
 all_goals
  refine Ba func87 ?_;refine ax ?_;all_goals
   first
   |refine ar.1 61 (U st.eq.waits+1) _ z rfl (by
    simp only[go_sem,n,t,w,x,L,M,F,K,C,O,AM];first|done|rfl) (by
    simp only[Ap,Bv,Ce];simp only[go_sem,n,t,w,x,L,M,F,K,C,O,AM,DL];first|done|rfl) (λk j r f=>by
    have g:=AN f;have l:=λa=>AN (AL f a) 1 3;have B:=r W zCc;simp only[go_sem,g,l,j,B,AM])
   |refine ar.1 63 (U st.eq.waits+1) _ z rfl (by
    simp only[go_sem,n,t,w,x,L,M,F,K,C,O,AM];first|done|rfl) (by
    simp only[Ap,Bv,Ce];simp only[go_sem,n,t,w,x,L,M,F,K,C,O,AM,DL];first|done|rfl) (λk j r f=>by
    have g:=AN f;have l:=λa=>AN (AL f a) 1 3;have B:=r W zCc;simp only[go_sem,g,l,j,B,AM])
   |refine ar.1 65 (U st.eq.waits+1) _ z rfl (by
    simp only[go_sem,n,t,w,x,L,M,F,K,C,O,AM];first|done|rfl) (by
    simp only[Ap,Bv,Ce];simp only[go_sem,n,t,w,x,L,M,F,K,C,O,AM,DL];first|done|rfl) (λk j r f=>by
    have g:=AN f;have l:=λa=>AN (AL f a) 1 3;have B:=r W zCc;simp only[go_sem,g,l,j,B,AM])
   |refine c1.1 a4 _ z q.1 (by
    simp only[go_sem,n,t,w,x,L,M,F,K,C,O,AM];first|done|rfl) (by
    simp only[Ap,Bv,Ce,F1,F6,DL];simp only[go_sem,n,t,w,x,L,M,F,K,C,O,AM];first|done|rfl) (λk j r f=>by
    have g:=AN f;have l:=λa=>AN (AL f a) 1 3;have B:=r W zCc;simp only[go_sem,g,l,j,B,AM])
   |refine bh.1 (V.nl 2 (.ii (1::61::c) 0 (U st.eq.waits+1))) _ z (by
    simp only[go_sem,n,t,w,x,L,M,F,K,C,O,AM];first|done|rfl) (λk j r f=>by
    have g:=AN f;have l:=λa=>AN (AL f a) 1 3;have B:=r W zCc;simp only[go_sem,g,l,j,B,AM])
   |refine bh.1 (V.nl 2 (.ii (1::63::c) 0 (U st.eq.waits+1))) _ z (by
    simp only[go_sem,n,t,w,x,L,M,F,K,C,O,AM];first|done|rfl) (λk j r f=>by
    have g:=AN f;have l:=λa=>AN (AL f a) 1 3;have B:=r W zCc;simp only[go_sem,g,l,j,B,AM])
   |refine bh.1 (V.nl 2 (.ii (1::65::c) 0 (U st.eq.waits+1))) _ z (by
    simp only[go_sem,n,t,w,x,L,M,F,K,C,O,AM];first|done|rfl) (λk j r f=>by
    have g:=AN f;have l:=λa=>AN (AL f a) 1 3;have B:=r W zCc;simp only[go_sem,g,l,j,B,AM])
   |refine bh.1 (V.nl 2 (.ii W 0 (U st.eq.waits+1))) _ z (by
    simp only[go_sem,n,t,w,x,L,M,F,K,C,O,AM];first|done|rfl) (λk j r f=>by
    have g:=AN f;have l:=λa=>AN (AL f a) 1 3;have B:=r W zCc;simp only[go_sem,g,l,j,B,AM])):p:=h
def zAC(h:p:=by
 by_cases ek:(12:Int)<=(U w.queue);all_goals rcases b6 with _|⟨es,b6⟩
 all_goals
  (repeat' (first|simp only[*,go_sem,AM]|(refine sx ?_ ?_<;>intro be)|refine sy z λe c9 a4=>?_|simp(disch:=first|assumption|omega) only[Ae]))
  all_goals
   first
   |(rw[cu.1 CM];exact ai.1 _ (λc b=>by have a:=AN b;simp only[go_sem,a,AM]))
   |(rw[cv.1 zDK];exact ai.1 _ (λc b=>by have a:=AN b;simp only[go_sem,a,AM]))
   |(rw[b4.1 CM zCa zDM];refine⟨rfl,?_⟩;refine go.1 (.ii (1::(b+85)::C) 0 (U w.queue+1)) _ ?_ ?_ (SJ (BM [] ?_ ?_)) (.inr λp m=>?_) λp k o l q=>?_;all_goals (first|(simp only[AE,AS]at m;subst m;exact⟨Ao [1,b+85],_,rfl⟩)|(have a:=AN q;have h:=j.1 p q;have ad:=l Q Ay;simp only[go_sem,a,h,k,o,ad,AM];done)|(simp;done)|(simp only[go_sem,s,t,a1,a2,az,a',F,BS,Y.1,W.1,x.1,B7,Ap,Ce,AM,bl,bn,bi,bh,bk,b5];first|done|rfl));done)
   |(rw[b4.1 CM zCa (by first|assumption|omega)];refine⟨rfl,?_⟩;refine go.1 (.ii Q 0 (U w.queue+1)) _ ?_ ?_ (SJ (BM b6 ?_ ?_)) (.inl rfl) λp k o l q=>?_;all_goals (first|(simp only[AE,AS]at m;subst m;exact⟨Ao [1,b+85],_,rfl⟩)|(have a:=AN q;have h:=j.1 p q;have ad:=l Q Ay;simp only[go_sem,a,h,k,o,ad,AM];done)|(simp;done)|(simp only[go_sem,s,t,a1,a2,az,a',F,BS,Y.1,W.1,x.1,B7,Ap,Ce,AM,bl,bn,bi,bh,bk,b5];first|done|rfl));done)
   |(rw[d5.1 CM zCa (by first|assumption|omega)];exact⟨rfl,⟨V,st.work,by simp only[go_sem,s,t,a1,a2,az,a',F,BS,Y.1,W.1,x.1,B7,Ap,Ce,AM,bl,bn,bi,bh,bk,b5];first|done|rfl⟩,λp b0 q=>by(have k:AJ n p=false:=AI λO=>b0 (by rw[<-O];exact V.m_mem n);have o:AJ A p=false:=AI λO=>b0 (by rw[<-O];exact V.v3_mem n (by rw[x.1];simp[AE]));have ad:AJ Q p=false:=AI λO=>b0 (by rw[<-O];exact ch.1);have a:=AN q;have h:=j.1 p q;simp only[go_sem,a,h,k,o,ad,AM])⟩)):p:=h
def zAE(h:p:=by
 replace Q:=AR.mk (D6.1 Q);rcases d3 with q|q;all_goals
  rw[q]at a';refine Ba func87 ?_;refine ax ?_;first
  |refine ar.1 61 1 _ (by rw[Q.1];decide) (by rw[Q.1];rfl) (by
   simp only[go_sem,n,t,w,x,AM];first|done|rfl) (by
   simp only[Ap,Bv,Ce,Q.1];simp only[go_sem,n,t,w,x,AM,DL];first|done|rfl) (λk j r f=>by
   have g:=AN f;have l:=λa=>AN (AL f a) 1 3;simp only[go_sem,g,l,j,AM])
  |refine ar.1 63 1 _ (by rw[Q.1];decide) (by rw[Q.1];rfl) (by
   simp only[go_sem,n,t,w,x,AM];first|done|rfl) (by
   simp only[Ap,Bv,Ce,Q.1];simp only[go_sem,n,t,w,x,AM,DL];first|done|rfl) (λk j r f=>by
   have g:=AN f;have l:=λa=>AN (AL f a) 1 3;simp only[go_sem,g,l,j,AM])
  |refine ar.1 65 1 _ (by rw[Q.1];decide) (by rw[Q.1];rfl) (by
   simp only[go_sem,n,t,w,x,AM];first|done|rfl) (by
   simp only[Ap,Bv,Ce,Q.1];simp only[go_sem,n,t,w,x,AM,DL];first|done|rfl) (λk j r f=>by
   have g:=AN f;have l:=λa=>AN (AL f a) 1 3;simp only[go_sem,g,l,j,AM])):p:=h
def zAF(h:p:=by
 rcases d9 with rfl|rfl;all_goals
  (repeat' (first|simp only[*,go_sem,AM]|(refine sx ?_ ?_<;>intro be)|refine sy z λe c9 a4=>?_|simp(disch:=first|assumption|omega) only[Ae]))
  all_goals
   first
   |(rw[cu.1 CM];exact ai.1 _ (λc b=>by have a:=AN b;simp only[go_sem,a,AM]))
   |(rw[cv.1 zDK];exact ai.1 _ (λc b=>by have a:=AN b;simp only[go_sem,a,AM]))
   |(rw[b4.1 CM zCa zDM];refine⟨rfl,?_⟩;refine go.1 (.ii (1::(b+85)::C) 0 1) _ ?_ ?_ (SJ (BM [] ?_ ?_)) (.inr λp m=>?_) λp k o l q=>?_;all_goals (first|(simp only[AE,AS]at m;subst m;exact⟨Ao [1,b+85],_,rfl⟩)|(have a:=AN q;have h:=j.1 p q;simp only[go_sem,a,h,k,o,AM];done)|(simp[M.1];done)|(simp only[go_sem,s,t,a1,a2,az,a',F,BS,Y.1,W.1,x.1,B7,Ap,Ce,AM,M.1];first|done|rfl));done)):p:=h
def zAG(h:p:=by
 replace l:=AB l;refine ax ?_;have bx:(ag++(⟨i.take (c+1)++e.ac.drop (c+1),e.rules,e.args⟩:Av)::AW).length<=12:=by rw[D1,II,W.1,a'.1,I8];have:=ac.1;omega
 refine FR [(4,.ptr bh 0),(5,.ii T 0 (U T1)),(7,nI a),(25,nI (U T1)),(26,nI a),(33,.ii cd 0 (U M)),(34,nI (U d.ac)),(35,nI (c+1))] rfl l.1 a1 bx (λr g=>?_) zCO (λr g=>by grind [CV]) λk ad ai L ar av x w a6=>?_
 .simp[CV,AE]at g;rcases g with h|h|h
  .exact .inl h
  .grind [AE]
  .exact .inr (Ac.2 (.inr (BI.2 ⟨_,AP A,by simp[Ab,AE,h]⟩)))
 obtain⟨b3,bv⟩:=a6 T Ay;have N:(cm.map (Dn k))[a]?=J [ren k (.ii cd 0 (U M)),ren k dd,ren k cn]:=by rw[BY,A];rfl
 simp only[Bv,Ce,ren,av,bv]at x w N⊢;exact dq.1 ((ad,ai,b3,_),(_,_,_),(L,ar)) ⟨x,w,N⟩):p:=h
def zAH(h:p:=by
 refine Fk (Kg ar F.1 B.1 ⟨bn.node,G.place d ((a:Int)+1),G.env⟩ Y.1 _ (t+75) z (λbk a4=>?_) λa k=>⟨λf e x=>(w.1 a k).1 f e x,Jj l.1 z rfl a k⟩) (λbl a5 M=>?_)
 .grind
 obtain⟨P,j⟩:=M;subst P;have a1:=(j.box 0 z).trans D;have a2:=(j.box 10 z).trans L;have a3:=(j.box 18 z).trans A;replace j:=AB j;refine ax ?_;refine bo.1 (_,_) ⟨⟨_,fj j.1.run z,λcx a'=>?_,?_⟩,a1,a2,?_,⟨ey (Ud l.1 j.1.pm) z⟩⟩
 .obtain⟨i,rfl,bh⟩:=He.1 a';obtain⟨ag,ai⟩:=s.1 i rfl;have W:=HV bc e _ _ _ ag.wd (ai _ (by rw[DH];simp)) bh;exact⟨ag.post W,λK cc=>Qo (ai K (by grind [DH])) W.ext⟩
 .rw[q.1];cases r<;>rfl
 .exact a3.trans (by rw[v])):p:=h
def zAI(h:p:=by have T:=(A7 n 1 (b+27) z).1;have aa:=(A7 n 1 (b+28) z).1;have ac:=AI (λf:O=j=>D f.symm);have P:=(CJ n [1,3,b+25] AG).1;simp only[F6,DL]at P;have a':=AI (λf:x=j=>K (by rw[<-f];simp[AE]));exact BZ):p:=h
def zAL(h:p:=by
 simp[Tryz.f144,MH,Rm]
 (repeat' (first|simp only[*,go_sem,↓C,↓A,↓B,AM]|(refine sx ?_ ?_<;>intro ar)|refine sy z λe F az=>?_|simp(disch:=first|assumption|omega) only[Ae]))
 refine R.1 _ _ X ?_ L M N O P ?_ λf T=>?_
 .grind
 .simp only[go_sem,BS]
 exact BZ):p:=h
def zAN(h:p:=by
 refine BH func45 ?_
 (repeat' (first|simp only[*,go_sem,AM,Hn]|(refine sx ?_ ?_<;>intro m)|refine sy z λo n e=>?_|simp(disch:=first|assumption|omega) only[Ae]))):p:=h
def zAP(h:p:=by
 refine ax ?_;rw[P.1];refine⟨rfl,go.1 (.ii (1::(b+29)::C) 0 (U st.ev+1)) _ ?_ (BM [] (by simp[BQ]) ?_) (.inr λc m=>?_) λc k o l=>?_⟩
 .simp only[go_sem,s,t,a5,a6,a0,bc,AM];first|done|rfl
 .simp only[IU,BQ,CS,Ap,Bv,Ce];simp only[go_sem,s,t,a5,a6,a0,bc,AM,DL]
 .simp only[AE,AS]at m;subst m;exact⟨Ao [1,b+29],_,rfl⟩
 .have a:=AN l;have h:=j.1 c l;simp only[go_sem,a,h,k,o E (by rw[R.1];simp[AE]),AM]):p:=h
def zAT(h:p:=by
 refine aw ?_;rw[P.1];refine⟨rfl,go.1 (.ii (1::(b+29)::C) 0 1) _ ?_ (BM [] (by simp[BQ,M.1]) ?_) (.inr λc m=>?_) λc k o l=>?_⟩
 .simp only[go_sem,s,t];first|done|rfl
 .simp only[IU,BQ,CS,Ap,Bv,Ce,M.1];simp only[go_sem,s,t,DL]
 .simp only[AE,AS]at m;subst m;exact⟨Ao [1,b+29],_,rfl⟩
 .have a:=AN l;have h:=j.1 c l;simp only[go_sem,a,h,k,AM]):p:=h
def zAU(h:p:=by
 refine ax ?_;rw[P.1];refine⟨rfl,go.1 (.ii E 0 (U st.ev+1)) _ ?_ (BM cq (by simp[BQ]) ?_) (.inl (by rw[R.1];rfl)) λc k o l=>?_⟩
 .simp only[go_sem,s,t,a5,a6,a0,bc,AM];first|done|rfl
 .simp only[IU,BQ,Ap,Bv,Ce,F1,F6,DL];simp only[go_sem,s,t,a5,a6,a0,bc,AM]
 .have a:=AN l;have h:=j.1 c l;simp only[go_sem,a,h,k,o E (by rw[R.1];simp[AE]),AM]):p:=h
def zAV(h:p:=by have a3:=Ax s;have bs:=D B2 (by rw[k];simp[AE]);exact BZ):p:=h
def zAd(h:p:=by
 refine Ak (Kg ar F.1 T.1 ⟨ac,o.at_,G.env⟩ Y.1 _ (t+66) z (λbk a4=>?_) λa k=>⟨λf e x=>(w.1 a k).1 f e x,Jj l.1 z rfl a k⟩) (λbl a5 M=>?_)
 .grind
 obtain⟨P,j⟩:=M;subst P;replace j:=AB j;refine ax ?_;rw[az.1];exact Gw j.1.run):p:=h
def zAe(h:p:=by
 refine Ba func87 ?_;refine aw ?_;refine Ak (c5.1 _ _ (b4.1 _ zCh (λk j ac=>by have g:=AN ac;simp only[go_sem,g,j,AM]))) (λch Y a1=>?_)
 obtain⟨a2,P⟩:=a1;subst a2;replace P:=AB P;refine aw ?_;exact Gw P.1):p:=h
def zAg(h:p:=by have av:=e.out.n.nm j o;have T:=(A7 av 1 (b+23) z).1;have aa:=(A7 av 1 (b+24) z).1;have ac:=AI (λf:Y=j=>e.out.yn (f▸o));have P:=(CJ av [1,3,b+21] AG).1;simp only[F6,DL]at P;have a':=AI (λf:x=j=>(e.out.qv x Ay).2 (f▸o));exact BZ):p:=h
def zAm(h:p:=by simp only[go_sem];rfl):p:=h
def zAt(h:p:=by
 first
 |(refine BM [] (by simp[bh.1]) ?_
   simp only[CS,Ap,Bv,Ce,bh.1];exact BZ)
 |(refine BM a' AG ?_
   simp only[Ap,Bv,Ce,F1,F6,DL];simp only[go_sem,R,T,O,P,L,Q,AM]
   done)):p:=h
def zAu(h:p:=by simp only[AE,AS]at o;subst o;exactλV=>Ek z (e.out.n.nm _ V)):p:=h
def zAv(h:p:=by simp only[AE,AS]at T;subst T;exact⟨DV (e+47) [1] z z,_,rfl⟩):p:=h
def zA7(h:p:=by have T:=(A7 n 1 (b+27) z).1;have aa:=(A7 n 1 (b+28) z).1;have ac:=AI (λf:O=j=>D f.symm);have P:=(CJ n [1,3,b+25] AG).1;simp only[F6,DL]at P;exact BZ):p:=h
def zA9(h:p:=by have T:=(A7 n 1 (b+12) z).1;have aa:=(A7 n 1 (b+13) z).1;have ac:=AI (λf:O=j=>D f.symm);have a':=AI (λf:A=j=>K (by rw[<-f];simp[AE]));exact BZ):p:=h
def zBC(h:p:=by simp[AE]at r;subst r;exact⟨DV (N+63) [1] z z,_,rfl⟩):p:=h
def zBD(h:p:=by simp[AE]at r;subst r;exact⟨DV (N+56) [1] z z,_,rfl⟩):p:=h
def zBE(h:p:=by simp[AE]at r;subst r;exact⟨DV (N+65) [1] z z,_,rfl⟩):p:=h
def zBJ(h:p:=by obtain⟨a2,P⟩:=a1;subst a2;replace P:=AB P;refine aw ?_;exact Gw P.1.run):p:=h
def zBQ(h:p:=by have n:=a5.is;have v:=AI λl=>a6 (Eq.symm l);have W:AJ x j=false:=AI λl=>c3 (by simp[AE,l]);rw[q];simp only[go_sem,n,v,W,AM]):p:=h
def zBU(h:p:=by
 have b2:=trivial;try replace b2:=ag E zCu
 exact BZ):p:=h
def zBW(h:p:=by simp only[go_sem,R,T,O,P,L,Q,AM];first|done|rfl):p:=h
def zBZ(h:p:=by
 first
 |(refine BM [] AG ?_
   simp;simp only[go_sem,R,T,O,P,L,Q,AM,DL]
   done)
 |(refine BM a' AG ?_
   simp;exact BZ)):p:=h
def zBe(h:p:=by have ac:=AI (λf:O=j=>D f.symm);exact BZ):p:=h
def zBi(h:p:=by
 have r:=AN k;have M:AJ i aa=false:=AI λs=>by rw[<-s,a3.1]at k;cases k
 simp only[go_sem,r,M,l.1 aa k,AM]):p:=h
def zBr(h:p:=by
 rcases k.arr with r|⟨r,AW,rfl,P⟩
 .exact .inl r
 .exact .inr ⟨r,AW,rfl,by grind [Bl,AE]⟩):p:=h
def zCA(h:p:=by simp only[go_sem,b8,cd,ch,av,b1,ad,bl,R,T,O,P,L,Q,AM];first|done|rfl|(rw[<-b'];rfl)):p:=h
def zCB(h:p:=by refine aw ?_;rw[P.1];refine ai.1 _ λc b=>?_;have a:=AN b;simp only[go_sem,a,AM]):p:=h
def zCE(h:p:=by refine .inr ⟨a,R,?_,r,z,M.1,O.1⟩;exact BZ):p:=h
def zCF(h:p:=by simp[AE]at k;subst k;exact⟨P2 bc [1,H+14],λm=>P2 (b7.1 _ m) [1,H+14] rfl⟩):p:=h
def zCH(h:p:=by have n:=a5.is;have v:=AI λl=>a6 (Eq.symm l);rw[q];simp only[go_sem,n,v,AM]):p:=h
def zCI(h:p:=by simp only[go_sem,a5,Ap,Ce,AM,bi,bh,t,w,x,B,C,q9,q10,f1,f2,f3,f4,ar,ai]<;>rfl):p:=h
end Go
namespace Go.Proofs
open Abs Tryz
variable{p:Aa}{f:Al}
theorem AB4{c:List Av}(g:Ar p f)(b:WU p c):Nu c:=by have k:=g.small;simp[Aa.small]at k;refine⟨by rw[b.len];omega,λn l=>?_⟩;obtain⟨d,h⟩:=Ci l;have⟨x,hx⟩:=g_ (l:=p.defs) (i:=d) (by rw[<-b.len];exact l_ h);have⟨s1,s2,s3,s4⟩:=b.each d x n hx h;have a:=(Bd g hx).ok;have:=a.ac;have:=a.rules;refine⟨z,z,z,λm j=>?_⟩;obtain⟨e,i⟩:=Ci j;have⟨ch,hch⟩:=g_ (l:=x.ac) (i:=e) zCN;have:=s4 e ch m hch i;have:=(a.chan ch (AP hch)).2.2.2;omega
@[go_sem] theorem AMx:cfg.ge 84 14=[(7,14),(9,14),(10,14)]:=zCM
variable{e:Al}
def wh(i:Ar p f)(j:Ml p e){b:Nat}{d:Bc}(k:p.defs[b]?=J d):∃h a g,e[b]?=J h/\0<=h/\p.nodes[h.toNat]?=J a/\a.op=4/\a.n=(b:Int)/\f[h.toNat]?=J g/\0<=g/\g<=5000:=by have⟨c,a,hx,ho,hn⟩:=i.used b (l_ k);have⟨g,l,e,h0,h1,_⟩:=i.node c a hx;have n:=(FI i hx ho).1;have m:a.n=(b:Int):=z;have:=j.at_ (c:Int) a (ID c) hx ho;rw[hn]at this;exact⟨c,a,g,this,ID c,hx,ho,m,e,h0,h1⟩
theorem ADg(a:Nat)(b:CN)(c:S)(f:Nat)(e:u)(ci:Option u)(h:Bool)(g:Nat):Ff cfg ⟨84,e,Z,ci,h,g⟩ a ⟨b,c,f,[]⟩=Ij cfg 84 e a b c:=zC8
attribute [go_sem 2000] ADg
theorem ADh(a:Nat)(b:CN)(c:S)(f:Nat)(e:u)(ci:Option u)(h:Bool)(g:Nat):Ff cfg ⟨86,e,Z,ci,h,g⟩ a ⟨b,c,f,[]⟩=Ij cfg 86 e a b c:=zC8
attribute [go_sem 2000] ADh
theorem aV{D:List BG}{r:S}{B:u}{V:TV}{q:u}(j:Ar p f)(s:FY p)(F:gy p D)(L:U D=U p.nodes)(K:DY p f D e r B V)(Q:Sa q B V){i:Int}{o:CF}(n:0<=i)(k:p.nodes[i.toNat]?=J o)(l:o.op=4)(g:Int):
 ∃v x,kT (.fn 136) [.ptr B 0,nI i,nI g] r q X (J q)=.ok (v,x)/\v=.ret (nI (qI p D i g)):=by
 have Y:=l_ k;have⟨d,hdd,a,b,c⟩:=(Ky j k).defn l;have M:=(Bd j hdd).ok;have R:=(FI j k l).1;have t:=s.dep i n z;have N:=fw (D:=D) j g t;have W:=AHN s n z;have P:=j.small;simp[Aa.small]at P;have w:qI p D i g=VI (λh=>Fs p D (U p.nodes) h g) (d.be.map Dy.node) (Fs p D (U p.nodes) (Dx o 0) g):=by rw[qI,Fs,k];dsimp only;rw[Co z,Co z,Co z,D3 l,XQ,hdd]
 have O:qI p D i g<=(E7 p (U p.nodes+1) i).length:=N;rw[w]at O⊢;exact iy (f:=λh=>Fs p D (U p.nodes) h g) K Q n k (Wj j k (.inr (.inr (.inr (.inr l)))) (k:=0) (by simp[l])) R hdd (by have:=M.be;omega) (λh=>Ni p D (U p.nodes) h g) z λh m H T A C=>by
  have e:h∈Ht p i:=by
   rcases m with rfl|m
   .exact a
   .exact b h m
  refine xq j F L g (U p.nodes) (t.2.2 h e) ?_ H T A C;grind [E7,X6]
theorem jv{p:Au×y}(h:Iv p=X):∃n x B0,p=(.int .i64 n,.agg [nI x,nI B0]):=by grind [Iv]
def nu(b:u->Option u)(a:u):u:=(b a).getD []
theorem KD{c:u->Option u}{a b:u}(e:c a=J b):nu c a=b:=by rw[nu,e];rfl
section
variable{p:Aa}{f:Al}{D:List BG}{j:Al}{h i:S}{B:u}{V:TV}{l:u}{e:CN}{a:u->Option u}{n:Nat}
variable{g:S}{v:y}{c:List (List Au)}
theorem jI(h:gU g v c):(v=.d (.co c))\/v=.d8\/v=.emp\/∃a b,v=.ii a 0 b:=by
 rcases h with rfl|(⟨rfl,_⟩|⟨a,e,rfl,_⟩)|⟨rfl,_⟩
 .exact .inl rfl
 .exact .inr (.inl rfl)
 .grind
 grind
variable{s:Nat}
def xg(j:QA l h e a i n)(m:UF h s v c)(o:∀p∈AE v,∃b,a p=J b):UF i s (ren a v) c:=by
 rcases m with(⟨rfl,f⟩|⟨g,q,rfl,k⟩)|⟨rfl,f⟩
 .exact .inl (.inl ⟨rfl,f⟩)
 .have⟨b,hz⟩:=o g Ay;refine .inl (.inr ⟨b,q,by simp[ren,hz],?_⟩);have:=j.get g b _ hz k;simpa[EO]using this
 .exact .inr ⟨rfl,f⟩
def eF(f:QA l h e a i n)(b:gU h v c)(g:∀j∈AE v,∃k,a j=J k):gU i (ren a v) c:=by
 rcases b with rfl|b
 .exact .inl rfl
 .exact .inr (xg f b g)
def MY(g:(∃e,v=.d e)\/v=.d8\/v=.emp\/∃b c,v=.ii b 0 c)(h:∀i∈AE v,∃f,a i=J f):AE (ren a v)=(AE v).map (nu a):=by
 rcases g with⟨e,rfl⟩|rfl|rfl|⟨b,c,rfl⟩
 .rfl
 .rfl
 .rfl
 .have⟨f,hz⟩:=h b Ay;simp[ren,hz,AE,nu]
theorem AIq{b:Au×y}(c:Iv b=X):(b.1,ren a b.2)=b:=by grind [jv,ren,Dn]
theorem DY.ren(b:DY p f D j h B V)(m:QA l h e a i n)(o:∀s∈V.ids B,∃w,a s=J w):DY p f D j i (nu a B) ⟨nu a V.N,V.ms.map (nu a),Abs.ren a V.hv⟩:=by
 have⟨zB,hB⟩:=o B zCR;have⟨zN,hN⟩:=o V.N zCR;have r:∀k∈V.ms,a k=J (nu a k):=λk r=>by have⟨w,hz⟩:=o k (by simp[TV.ids,r]);rw[KD hz,hz]
 refine⟨?_,?_,by rw[BV];exact b.len,λv k g=>?_,xg m b.heads λs x=>o s (by simp[TV.ids,x])⟩
 .rw[KD hB,KD hN];have:=m.get B zB _ hB b.box;exact BZ
 .rw[KD hN];have:=m.get V.N zN _ hN b.arr;grind [EO,List.map_congr_left,Dn,Abs.ren]
 .rw[BY]at g;rcases hk2:V.ms[v]? with _|t
  .rw[hk2]at g;cases g
  .rw[hk2]at g;cases g;have⟨c,h1,h2⟩:=b.maps v t hk2;refine⟨c,?_,h2⟩;have:=m.get t _ _ (r t (AP hk2)) h1;rw[this,EO];refine congrArg (λC=>J (Abs.Obj.map C)) ?_;have key:c.map (λq=>(q.1,Abs.ren a q.2))=c.map id:=Ms λq A=>AIq (EM.1 h2.ent q A);rw[key,List.map_id]
def DY.renIds(e:DY p f D j h B V)(i:∀c∈V.ids B,∃k,a c=J k):TV.ids ⟨nu a V.N,V.ms.map (nu a),Abs.ren a V.hv⟩ (nu a B)=(V.ids B).map (nu a):=by simp only[TV.ids,Bv,Ap];rw[MY ?_ λc g=>i c (by simp[TV.ids,g])];rcases e.heads with(⟨b,_⟩|⟨l,m,b,_⟩)|⟨b,_⟩<;>rw[b]<;>simp
variable{r:List y}
def AKR{p:Av}(n:Zc g r p)(i:∀b∈Ab r,∃s,a b=J s):Ab (Dn a r)=(Ab r).map (nu a):=by obtain⟨w,j,t,rfl,k,l,m⟩:=n;have f:∀{v:y} {c:List (List Au)},gU g v c->(∃q,v=y.d q)\/v=.d8\/v=.emp\/∃id j,v=.ii id 0 j:=λo=>(jI o).imp (λh=>⟨_,h⟩) id;simp only[Dn,Ab,Ap,Ce];rw[MY (f k) λb e=>i b (by simp[Ab,e]),MY (f l) λb e=>i b (by simp[Ab,e]),MY (f m) λb e=>i b (by simp[Ab,e])]
variable{b:List (List y)}{T:List Av}
theorem La.renIds(g:La h v b T)(j:∀c∈AE v++b.flatMap Ab,∃m,a c=J m):AE (Abs.ren a v)++(b.map (Dn a)).flatMap Ab=(AE v++b.flatMap Ab).map (nu a):=by
 rw[Ap,MY ?_ λc f=>j c (Ac.2 (.inl f))]
 .congr 1;have key:∀e:List (List y),(∀r∈e,Ab (Dn a r)=(Ab r).map (nu a))->(e.map (Dn a)).flatMap Ab=(e.flatMap Ab).map (nu a):=by intro e;induction e with|nil=>intro _;rfl|cons r e o=>grind
  refine key b λr i=>?_;obtain⟨c,f⟩:=Ci i;have⟨Bn,hu⟩:=g_ (l:=T) (i:=c) (by rw[<-g.len];exact l_ f);exact AKR (g.each c r Bn f hu) λl k=>j l (Ac.2 (.inr (BI.2 ⟨r,i,k⟩)))
 .rcases g.arr with⟨rfl,_⟩|⟨n,rfl,_⟩<;>simp
theorem La.ren{v:y}{b:List (List y)}{T:List Av}(k:La h v b T)(j:QA l h e a i n)(o:∀p∈AE v++b.flatMap Ab,∃g,a p=J g):La i (Abs.ren a v) (b.map (Dn a)) T:=by
 refine⟨?_,by rw[BV];exact k.len,λp r M m H=>?_,?_⟩
 .rcases k.arr with⟨rfl,rfl⟩|⟨t,rfl,F⟩
  .exact zB8
  .have⟨g,hz⟩:=o t Ay;refine .inr ⟨g,by simp[Abs.ren,hz],?_⟩;have:=j.get t g _ hz F;rw[this,EO]
 .rw[BY]at m;rcases hr2:b[p]? with _|w
  .rw[hr2]at m;cases m
  .rw[hr2]at m;cases m;have q:=λf c=>o f (Ac.2 (.inr (BI.2 ⟨w,AP hr2,c⟩)));obtain⟨O,P,N,rfl,B,C,D⟩:=k.each p w M hr2 H;exact⟨_,_,_,rfl,eF j B λf c=>q f zDB,eF j C λf c=>q f zDB,eF j D λf c=>q f zDB⟩
 .rw[k.renIds o];refine K5 k.nd λx K A L s=>?_;have⟨g,hz⟩:=o x K;have⟨z2,hz2⟩:=o A L;rw[KD hz,KD hz2]at s;subst s;exact j.inj x A g hz hz2
variable{i:u}
def xf(f:UF g s v c)(a:i∈AE v):Cl (g.get i)=[]:=by
 rcases f with(⟨rfl,b⟩|⟨h,j,rfl,e⟩)|⟨rfl,b⟩
 .cases a
 .rw[AE,AS]at a;rw[a,e];rfl
 .cases a
theorem AIU(a:gU g v c)(b:i∈AE v):Cl (g.get i)=[]:=by
 rcases a with rfl|a
 .cases b
 .exact xf a b
def xe(b:UF g s v c):(AE v).length<=1:=by rcases b with(⟨rfl,a⟩|⟨f,h,rfl,e⟩)|⟨rfl,a⟩<;>simp[AE]
theorem AIT(a:gU g v c):(AE v).length<=1:=by
 rcases a with rfl|a
 .simp[AE]
 .exact xe a
theorem AI6{k:Nat}:∀{l:List (List y)},(∀r∈l,(Ab r).length<=k)->(l.flatMap Ab).length<=k*U l
 :=by intro x;induction x<;>grind [Nat.mul_add]
def La.row(c:La g v b T)(f:r∈b):∃a,Zc g r a:=by obtain⟨i,e⟩:=Ci f;have⟨a,hu⟩:=g_ (l:=T) (i:=i) (by rw[<-c.len];exact l_ e);exact⟨a,c.each i r a e hu⟩
structure dp(p:Aa)(sz:Al)(D:List BG)(hs:Al)(g:S)(B:u)(V:TV)(tv:y)(rows:List (List y))(T:List Av):Prop:=
 rep:DY p sz D hs g B V
 tab:La g tv rows T
 dis:∀i∈V.ids B,i∉AE tv++rows.flatMap Ab
 fin:∀(i:Nat) r Bn x,rows[i]?=J r->T[i]?=J Bn->r[0]?=J (.d x)->∀k∈Bn.ac,k=1
theorem FR{K:Af}{a3:Fr}{a2 az av:Nat}{R:Code}{Q:DZ->St->Prop}{x:y}{b:List (List y)}{T:List Av}{E:CN}{H:S}(e:CN)(be:Lq E (cfg.live a2 av)=e) (h:dp p f D j H B V x b T) (bs:U p.nodes<=60) (bo:U T<=12) (bv:∀q∈CV e,q=B\/q∈AE x++b.flatMap Ab) (a4:B∈CV e) (a5:∀q∈AE x,q∈CV e)(bi:∀a W ai g ar,a B=J W->dp p f D j g W ai (ren a x) (b.map (Dn a)) T->(∀i∈ai.ids W++(AE (ren a x)++(b.map (Dn a)).flatMap Ab),∃F ad,ad<ar/\i=F::ad::l)->(∀i∈AE x++b.flatMap Ab,∃s,a i=J s)->WH cfg K a3 az R ⟨e.map λO=>(O.1,ren a O.2),g,ar,[]⟩ Q):WH cfg K a3 az R (Ij cfg a2 l av E H) Q:=by
 rw[GL,be];have t:=h.rep;have v:=h.tab;have b2:(AE x).length<=1:=by rcases v.arr with⟨rfl,_⟩|⟨C,rfl,_⟩<;>simp[AE]
 have b1:(b.flatMap Ab).length<=3*U b:=AI6 λr w=>by obtain⟨P,a0,N,F,rfl,M,ag,bl⟩:=v.row w;grind [AIT,Ab]
 have b3:(V.ids B).length<=63:=by have a4:=xe t.heads;have a5:=t.len;simp only[TV.ids,II,D1];omega
 have bx:=v.len;have⟨a,g',n,hc,hnM,hRen⟩:=J6 l H e (V.ids B++(AE x++b.flatMap Ab)) zCN (λq k=>by
  grind [TV.ids]) (λq k s m=>by
  rcases Ac.1 k with k|k
  .refine Ac.2 (.inl ?_);simp[TV.ids]at k⊢;rcases k with rfl|rfl|k|k
   .rw[t.box]at m;grind [Cl,Ab,AE]
   .rw[t.arr]at m;grind [Cl,Ab,AE]
   .obtain⟨N,bh⟩:=Ci k;have⟨c,M,ag⟩:=t.maps N q bh;rw[M]at m;simp only[Cl,BI]at m;obtain⟨O,bk,m⟩:=m;obtain⟨F,R,q,rfl⟩:=jv (EM.1 ag.ent O bk);simp[AE,Ab]at m
   .rw[xf t.heads k]at m;cases m
  .refine Ac.2 (.inr ?_);rcases Ac.1 k with k|k
   .rcases v.arr with⟨rfl,_⟩|⟨C,rfl,aa⟩
    .cases k
    .rw[AE,AS]at k;rw[k,aa]at m;exact Ac.2 (.inr m)
   .have⟨r,w,k⟩:=BI.1 k;obtain⟨P,a0,N,F,rfl,M,ag,bl⟩:=v.row w;grind [Ab,AIU])
 have⟨zB,hB⟩:=hRen.env B a4;have Y:=hRen.deep B zB hB;rw[t.box]at Y;have⟨zN,hN⟩:=Y V.N (by simp[Cl,Ab,AE]);have bc:=hRen.deep V.N zN hN;rw[t.arr]at bc;have L:∀i∈V.ids B,∃s,a i=J s:=λi o=>by
  simp[TV.ids]at o;rcases o with rfl|rfl|o|o
  .exact⟨_,hB⟩
  .exact⟨_,hN⟩
  .exact bc i (by grind [Cl,Ab,AE])
  .exact Y i zDJ
 have A:∀i∈AE x++b.flatMap Ab,∃s,a i=J s:=λi o=>by
  rcases v.arr with⟨rfl,rfl⟩|⟨C,rfl,aa⟩
  .simp[AE]at o
  .have⟨s,m⟩:=hRen.env C (a5 C Ay);have a1:=hRen.deep C s m;rw[aa]at a1;rcases Ac.1 o with o|o
   .grind [AE]
   .exact a1 i o
 rw[hc];refine bi a zB ⟨nu a V.N,V.ms.map (nu a),ren a V.hv⟩ g' n hB ?_ (λi o=>?_) A
 .rw[<-KD hB];refine⟨t.ren hRen L,v.ren hRen A,λi o a6=>?_,λi r P R w a' ac=>?_⟩
  .rw[t.renIds L]at o;rw[v.renIds A]at a6;obtain⟨q,k,rfl⟩:=Ex.1 o;have⟨y2,hy2,e2⟩:=Ex.1 a6;have⟨s,m⟩:=L q k;have⟨z2,hz2⟩:=A y2 hy2;rw[KD m,KD hz2]at e2;subst e2;exact h.dis q k (hRen.inj _ _ _ m hz2▸hy2)
  .rw[BY]at w;rcases hr2:b[i]? with _|bn
   .rw[hr2]at w;cases w
   .rw[hr2]at w;cases w;obtain⟨a0,N,F,rfl,M,_,_⟩:=v.each i bn P hr2 a';simp[Dn]at ac;rcases jI M with rfl|rfl|rfl|⟨C,b0,rfl⟩
    .exact h.fin i _ P _ hr2 a' rfl
    .cases ac
    .cases ac
    grind [ren]
 .rw[<-KD hB,t.renIds L,v.renIds A,<-Ap]at o;obtain⟨q,k,rfl⟩:=Ex.1 o;obtain⟨s,m⟩:∃s,a q=J s:=(Ac.1 k).elim (L q) (A q);have⟨ad,hj,e2⟩:=hRen.name q s m;grind [KD]
theorem wZ{e:u}:∀{c:List (List y)},(c.flatMap Ab).Nodup->∀{i b:Nat} {r s:List y},c[i]?=J r->c[b]?=J s->e∈Ab r->e∈Ab s->i=b
 |[],_,i,b,r,s,hi,_,_,_=>by simp at hi|a::c,h,i,b,r,s,hi,hj,hx,hy=>by
  rw[F0,D0]at h;obtain⟨g,f,j⟩:=h;rcases i with _|i
  .grind
  .rw[Hw]at hi;rcases b with _|b
   .grind
   .rw[Hw]at hj;rw[wZ f hi hj hx hy]
theorem dp.put{g:S}{Q:y}{b:List (List y)}{T:List Av}(h:dp p f D j g B V Q b T){d:Nat}{q:Av}{K F:y}{o:u}{C:Nat}(n:b[d]?=J [.ii o 0 C,K,F])(O:T[d]?=J q){x:List (List Au)}{l:Al}(ar:C=U q.ac)(ai:U l=U q.ac):dp p f D j (g.put o (.f9 1 (l.map AX++x))) B V Q b (T.set d ⟨l,q.rules,q.args⟩):=by
 have M:o∈Ab [y.ii o 0 C,K,F]:=by simp[Ab,AE]
 have Y:=BI.2 ⟨_,AP n,M⟩;have N:=h.tab.nd;rw[D0]at N;obtain⟨a0,P,a1⟩:=N;have W:∀(i:Nat) r,b[i]?=J r->i≠d->∀w∈Ab r,(g.put o (.f9 1 (l.map AX++x))).get w=g.get w:=λi r a aa w t=>BW _ _ λe=>aa (wZ P a n t (e▸M));refine⟨h.rep.mono λi a=>BW _ _ λe=>h.dis i a (e▸Ac.2 (.inr Y)),⟨?_,by rw[LC];exact h.tab.len,λi r v a m=>?_,h.tab.nd⟩,h.dis,λi r v ad a m ac=>?_⟩
 .rcases h.tab.arr with L|⟨av,L,ag⟩
  .exact .inl L
  grind [BW,AE]
 .rw[F7]at m;by_cases s:d=i
  .subst s;rw[D3 rfl,D3 (l_ O)]at m;cases m;rw[n]at a;cases a;have⟨c,k,R,e,_,q2,q3⟩:=h.tab.each d _ q n O;cases e;have H:(Ab [y.ii o 0 C,K,F]).Nodup:=by
    have:∀{A:List (List y)},(A.flatMap Ab).Nodup->∀r∈A,(Ab r).Nodup:=by intro A;induction A with|nil=>intro _ r n;cases n|cons R A az=>grind
    exact this P _ (AP n)
   simp[Ab,AE]at H;refine⟨_,_,_,rfl,.inr (.inl (.inr ⟨o,x,by grind,by rw[p_,is_self];rfl⟩)),q2.mono λw t=>BW _ _ λe=>H.1.1 (e▸t),q3.mono λw t=>BW _ _ λe=>H.1.2 (e▸t)⟩
  .rw[Co s]at m;exact(h.tab.each i r v a m).mono (W i r a λe=>s e.symm)
 .rw[F7]at m;by_cases s:d=i
  .grind
  .rw[Co s]at m;exact h.fin i r v ad a m ac
theorem DY.app{h:S}(b:DY p f D j g B V):DY p f D j (g++h) B V:=⟨Dp b.box,Dp b.arr,b.len,λn l i=>by
 have⟨c,a,e⟩:=b.maps n l i;grind [Dp],by
 rcases b.heads with(a|⟨k,m,a,e⟩)|a
 .exact .inl (.inl a)
 .exact .inl (.inr ⟨k,m,a,Dp e⟩)
 .exact .inr a⟩
variable{a:S}
def dp.call{G:S}{e:Nat}(o:DY p f D j G B V)(h:Sa (e::l) B V)(n:La a v b T)(k:∀i∈AE v++b.flatMap Ab,∃g,Kn (e::l) g i)(s:∀i,AD (e::l) i=Z->a.get i=G.get i)(q:∀(i:Nat) r Bn x,b[i]?=J r->T[i]?=J Bn->r[0]?=J (.d x)->∀e∈Bn.ac,e=1):dp p f D j (gc (e::l) a) B V v b T:=by
 refine⟨o.mono λi c=>(An _ _ _ (h i c)).trans (s i (h i c)),n.mono λi c=>?_,λi c m=>?_,q⟩
 .have⟨g,hb⟩:=k i c;obtain⟨_,t,rfl⟩:=hb;exact E1 _ _ _
 .have⟨g,hb⟩:=k i m;have:=h i c;rw[hb.up]at this;cases this
def dp.pm{G:S}{k:Nat}(h:dp p f D j G B V v b T)(e:∀i∈V.ids B++(AE v++b.flatMap Ab),AD (k::l) i=Z)(g:∀i,AD (k::l) i=Z->a.get i=G.get i):dp p f D j (gc (k::l) a) B V v b T:=⟨h.rep.mono λi c=>(An _ _ _ (e i (Ac.2 (.inl c)))).trans (g i (e i (Ac.2 (.inl c)))),h.tab.mono λi c=>(An _ _ _ (e i (Ac.2 (.inr c)))).trans (g i (e i (Ac.2 (.inr c)))),h.dis,h.fin⟩
theorem Fj{a k:Nat}(h:∃c b,b<a/\i=c::b::l)(e:a<=k):AD (k::l) i=false:=by grind [Bw,under_iff]
def fx(p:Aa)(f:Al)(D:List BG)(j:Al):Nat->List Av->List Av
 |0,T=>T|k+1,T=>if Cy G2 T (Gb p f D j T)=X then T else fx p f D j k (Gb p f D j T)
theorem xr(b:Ar p f):∀{a:Nat} {T:List Av},Sb p f D j T->pq T<a->Sb p f D j (fx p f D j a T)/\Cy G2 (fx p f D j a T) (Gb p f D j (fx p f D j a T))=X
 |0,T,_,h=>z|a+1,T,hT,h=>by
  rw[fx];split
  .grind
  .rename_i c;have:=pr b hT zC4;exact xr b (pt b hT) z
end
variable{p:Aa}
def AGE{b:Nat}{e:Av}(a:(Kl p)[b]?=J e):∀c∈e.ac,c=1:=λc f=>by
 rw[Kl,BY]at a;rcases hd:p.defs[b]? with _|d
 .rw[hd]at a;cases a
 .rw[hd]at a;cases a;exact(I0.1 f).2
theorem iJ{p:Aa}{n:Bo}(ef:∀df∈p.free,df.size<=maxLen)(cc:looks p=J n):∃ds,Bk kT 84 [pA p] []=.ok (.ret (.kw [De ds,nI 0]),[])/\DQ p n.em (DW p n.em) ds/\UE p n.em (DW p n.em) ds/\WU p ds:=by
 have o:=EZ cc;have b9:=OM cc;have cx:=Qg b9 n.em;have bs:=cg p ef;have f':O7 p=0:=by rw[O7,cc]
 rw[f']at bs;have gl:=o.small;simp[Aa.small]at gl;obtain⟨_,a1,f9⟩:=gl;obtain⟨⟨h9,F⟩,cq,B,V,q,gu,d7,c0,a2⟩:=xV ef cc 7 [];dsimp only at gu d7;subst gu;obtain⟨dr,c3⟩:∃dr,dr=fx p n.em (DW p n.em) q (pq (Kl p)+1) (Kl p):=⟨_,rfl⟩;obtain⟨c',dc⟩:=xr o (dF (D:=DW p n.em) (hs:=q) o) (Nat.lt_succ_self (pq (Kl p)));rw[<-c3]at c' dc;refine⟨JJ p n.em (DW p n.em) q dr,?_,AKf o c0 c' dc⟩;generalize n.em=sz at*;generalize DW p sz=D at*;clear f';replace o:=AB o;replace b9:=AB b9;replace cx:=AB cx;replace d7:=AB d7;replace c0:=AB c0;replace a2:=AB a2;replace c3:=AB c3;replace c':=AB c';replace dc:=AB dc;replace ef:=AB ef;replace cc:=AB cc;refine BH func84 ?_
 (repeat' (first|simp only[*,go_sem,AM,qE]|(refine sx ?_ ?_<;>intro bs)|refine sy z λC b2 gi=>?_|simp(disch:=first|assumption|omega) only[Ae]))
 have cu:∀f,7<f->Sa [f] B V:=λf v a t=>by cases b2:AD [f] a with|false=>rfl|true=>have:=Bw (a2.1 a t) b2;omega
 have Y:=d7.1.app (h:=[([0,0],Obj.box (pC p))]);replace cu:=AB cu;replace Y:=AB Y;refine Ak (AHM o.1 Y.1 (cu.1 10 z)) (λfs ex b4=>?_);obtain⟨f0,hv,rfl,d6,H,e9⟩:=b4;have d8:=dp.call (T:=Kl p) Y.1 (cu.1 10 z) d6 H e9 λa ek e C aa a2 b2 f v=>AGE a2 f v;have hq:∀b5,S7 b5 f0=b5:=λb5=>by rcases d6.arr with⟨rfl,_⟩|⟨R,rfl,_⟩<;>rfl
 rw[Gu,hq];generalize gc [10] ex=G at*;replace d8:=AB d8;replace d6:=AB d6;replace H:=AB H;replace e9:=AB e9;refine ax ?_;refine FR [(4,.ptr B 0),(5,f0)] rfl d8.1 a1 (by grind [Kl]) (λr g=>by grind [CV,AE]) zCO (λr g=>by simp[CV,Ab,g]) λg1 g2 g4 hc b0 f6 d9 d3 _=>?_;simp[ren,f6];have eg:Sb p sz D q (Kl p):=dF o.1;replace eg:=AB eg;replace d9:=AB d9;replace d3:=AB d3;clear d8 Y cq cu;refine rounds (B2:=λ(b:(u×TV×y×List (List y))×(S×Nat)×List Av)=>⟨[(4,.ptr b.1.1 0),(5,b.1.2.2.1)],b.2.1.1,b.2.1.2,[]⟩)
  (Inv:=λb=>AR (dp p sz D q b.2.1.1 b.1.1 b.1.2.1 b.1.2.2.1 b.1.2.2.2 b.2.2/\(∀a∈b.1.2.1.ids b.1.1++(AE b.1.2.2.1++b.1.2.2.2.flatMap Ab),∃C ch,ch<b.2.1.2/\a=C::ch::[])/\Sb p sz D q b.2.2/\∃f,pq b.2.2<f/\fx p sz D q f b.2.2=dr))
  (m:=λb=>pq b.2.2) ((g2,g4,ren g1 f0,hv.map (Dn g1)),(hc,b0),Kl p) ⟨d9.1,d3.1,eg.1,_,Nat.lt_succ_self _,c3.1.symm⟩ ?_
 rintro⟨⟨B1,V1,tv1,rows1⟩,⟨ex,b1⟩,T1⟩ bi dn;obtain⟨az,H,P,ej,bc,b'⟩:=bi.1;dsimp only at az H P bc b';have d':=λf (v:b1<=f)=>vh (p:=p) (sz:=sz) (D:=D) (hs:=q) (g:=ex) (B:=B1) (V:=V1) (ρ:=[f]) (tv:=tv1) (T:=T1) (W:=AE tv1++rows1.flatMap Ab) ⟨o.1,b9.1,cx.1,az.rep,λa t=>Fj (H a (Ac.2 (.inl t))) v,P.shp,.inr ⟨rows1,az.tab,rfl⟩,λa t=>Fj (H a (Ac.2 (.inr t))) v,az.dis,c0.1⟩;replace d':=AB d';replace az:=AB az;replace H:=AB H;replace P:=AB P;replace bc:=AB bc;replace b':=AB b';clear eg d9 d3 f6;refine ax ?_;refine Ak (d'.1 (b1+2) z) (λfs hd b4=>?_);obtain⟨fr,hw,rfl,c4,d4,ec,c8⟩:=b4;have c6:=dp.call (T:=Gb p sz D q T1) az.1.rep (λa t=>Fj (H.1 a (Ac.2 (.inl t))) (show b1<=b1+2 by omega)) c4 d4 c8 λa ek e C aa _ b2=>absurd b2 (ec ek (AP aa) C);have bl:=az.1.pm (k:=b1+2) (λa t=>Fj (H.1 a t) z) c8;have gk:∀b5,S7 b5 fr=b5:=λb5=>by rcases c4.arr with⟨rfl,_⟩|⟨R,rfl,_⟩<;>rfl
 rw[Gu,gk];generalize gc [b1+2] hd=G at*;have ha:=QO bl.tab;have hb:=QO c6.tab;have hl:=mJ (QI P.1.shp (QZ (D:=D) o.1 q T1)) (AB4 o.1 P.1.shp);replace c4:=AB c4;replace d4:=AB d4;replace ec:=AB ec;replace c8:=AB c8;replace c6:=AB c6;replace bl:=AB bl;clear d'
 (repeat' (first|simp only[*,go_sem,AM]|(refine sx ?_ ?_<;>intro bs)|refine sy z λC b2 gi=>?_|simp(disch:=first|assumption|omega) only[Ae]))
 rotate_left
 .refine FR [(4,.ptr B1 0),(5,fr)] rfl c6.1 a1 (by rw[XH];exact f9) (λr g=>by grind [CV,AE]) zCO (λr g=>by simp[CV,Ab,g]) λdm en er e0 es e1 bn bk _=>?_;simp[ren,e1];have a0:=b'.1;have gf:=bc.1;have c7:Cy G2 T1 (Gb p sz D q T1)=false:=CM;obtain⟨cl,rfl⟩:∃cl,ej=cl+1:=⟨ej-1,z⟩;rw[fx,Co (by rw[c7];simp)]at a0;have hm:=pr o.1 P.1 c7;exact dn.1 ((en,er,ren dm fr,hw.map (Dn dm)),(e0,es),Gb p sz D q T1) hm ⟨bn,bk,pt o.1 P.1,cl,AZ,a0⟩
 .have c7:Cy G2 T1 (Gb p sz D q T1)=true:=CM;have a0:=b'.1;have gf:=bc.1;obtain⟨cl,rfl⟩:∃cl,ej=cl+1:=⟨ej-1,z⟩;rw[fx,D3 c7]at a0;clear bc b' bi dn hl hb c6 c4 d4 ec c7 az c3 c' dc gf;subst a0;rw[show∀(Q:DZ->St->Prop) n,KU 1 Q (DZ.exit 0) n=Q (.exit 0) n fromλ_ _=>rfl,YY,show∀(Q:DZ->St->Prop) n,KU 0 Q (DZ.exit 0) n=Q .normal n fromλ_ _=>rfl];have gh:∀cs:Abs.G,JY cs .slice tv1=J (U T1):=λcs=>by
   rcases bl.1.tab.arr with⟨rfl,F⟩|⟨R,rfl,_⟩
   .have:=bl.1.tab.len;rw[F]at this;rw[<-this];rfl
   .rfl
  unfold JY at gh;refine ax ?_;have ac:U T1<=12:=by rw[P.1.shp.len];exact f9
  replace ac:=AB ac;refine FR [(4,.ptr B1 0),(5,tv1),(25,nI (U T1)),(26,nI 0)] rfl bl.1 a1 ac.1 (λr g=>by grind [CV,AE]) zCO (λr g=>by simp[CV,Ab,g]) λdm en er e0 es e1 bn bk _=>?_;simp[ren,e1];clear ha gh bl H bs c8 gk;replace bn:=AB bn;replace bk:=AB bk;obtain⟨O,c1⟩:∃O,O=JJ p sz D q T1:=⟨_,rfl⟩;rw[<-c1];have d5:U O=U T1:=by rw[c1,JJ,Yp]
  replace c1:=AB c1;replace d5:=AB d5;refine Ah T1 (B2:=λa (b:(u×TV×y×List (List y))×(S×Nat))=>⟨[(4,.ptr b.1.1 0),(5,b.1.2.2.1),(25,nI (U T1)),(26,nI a)],b.2.1,b.2.2,[]⟩)
   (Inv:=λa hu b=>AR (dp p sz D q b.2.1 b.1.1 b.1.2.1 b.1.2.2.1 b.1.2.2.2 (O.take a++T1.drop a)/\∀ch∈b.1.2.1.ids b.1.1++(AE b.1.2.2.1++b.1.2.2.2.flatMap Ab),∃C f,f<b.2.2/\ch=C::f::[])) (b0:=((en,er,ren dm tv1,rows1.map (Dn dm)),(e0,es))) ⟨bn.1,bk.1⟩ ?_ ?_
  .rintro a e ⟨⟨f1,g5,gw,de⟩,⟨f4,g7⟩⟩ a2 t gd bi dn;obtain⟨s,a4⟩:=bi.1;dsimp only at s a4;have ih:TC.wrap ((a:Int)+1)=(a:Int)+1:=w_ z (by have:=ac.1;omega);obtain⟨d,e8⟩:=g_ (l:=p.defs) (i:=a) (by rw[<-P.1.shp.len];exact t);obtain⟨h',ia,ib,gv⟩:=P.1.shp.each a d e e8 a2;have et:=(Bd o.1 e8).ok;have hx:=et.ac;obtain⟨fp,C,df,eb,gs,hn,ho,gn,gp,ip,it⟩:=wh o.1 c0.1 e8;obtain⟨i,cv⟩:∃i,i=Vs p sz D fp 0 e.ac:=⟨_,rfl⟩;have d2:U i=U e.ac:=by rw[cv,cP]
   have e4:O[a]?=J ⟨i,e.rules,e.args⟩:=by rw[c1.1,JJ,Ly,a2,I9,eb,cv];rfl
   have e5:O.take (a+1)=O.take a++[⟨i,e.rules,e.args⟩]:=by rw[FD,e4];rfl
   have b8:(O.take a).length=a:=by rw[F5,d5.1];omega
   rw[EJ a2]at s;have ea:(O.take a++e::T1.drop (a+1))[a]?=J e:=by rw[EL z,b8,IT];rfl
   obtain⟨ek,aa⟩:=g_ (l:=de) (i:=a) (by rw[s.tab.len];exact l_ ea);obtain⟨cp,gq,f3,rfl,K,fv,fz⟩:=s.tab.each a ek e aa ea;have gr:=l_ aa;have fc:(O.take a++e::T1.drop (a+1)).length=U T1:=by rw[D1,II,b8,I8];omega
   obtain⟨R,rfl,ga⟩:∃R,gw=.ii R 0 (U T1)/\S.get f4 R=J (.arr 3 de):=by
    rcases s.tab.arr with⟨_,F⟩|⟨R,hf,hg⟩
    .rw[F]at aa;simp at aa
    grind
   have gg:∀cs:Abs.G,JY cs .slice cp=J (U e.ac):=λcs=>by
    rcases K with rfl|(⟨rfl,F⟩|⟨hs,gz,rfl,_⟩)|⟨rfl,F⟩
    .exact BZ
    .rw[<-BV (f:=AX),F];rfl
    .exact BZ
    .rw[<-BV (f:=AX),F];rfl
   have hi:y.isCell cp=true:=by rcases K with rfl|(⟨rfl,F⟩|⟨hs,gz,rfl,_⟩)|⟨rfl,F⟩<;>rfl
   unfold JY at gg;replace s:=AB s;replace a4:=AB a4;replace K:=AB K;replace fv:=AB fv;replace fz:=AB fz;replace e4:=AB e4;replace e5:=AB e5;replace b8:=AB b8;replace cv:=AB cv;replace d2:=AB d2;replace ea:=AB ea;replace fc:=AB fc;replace et:=AB et;replace gv:=AB gv;replace gn:=AB gn;clear bn bk;refine ax ?_;refine FR [(4,.ptr f1 0),(5,.ii R 0 (U T1)),(7,nI a),(25,nI (U T1)),(26,nI a),(33,cp),(34,nI (U d.ac)),(35,nI 0)] rfl s.1 a1 (by rw[fc.1];exact ac.1) (λr g=>?_) zCO (λr g=>by grind [CV]) λbe g3 g6 he g8 f7 bo b7 f8=>?_
   .simp[CV,AE]at g;rcases g with h|h|h
    .exact .inl h
    .grind [AE]
    .exact .inr (Ac.2 (.inr (BI.2 ⟨_,AP aa,by simp[Ab,h]⟩)))
   obtain⟨ht,gb⟩:=f8 R Ay;have fi:(de.map (Dn be))[a]?=J [ren be cp,ren be gq,ren be f3]:=by rw[BY,aa];rfl
   simp only[Bv,Ce,ren,f7,gb]at bo b7⊢;generalize de.map (Dn be)=rows4 at*;generalize ren be cp=cc4 at*;generalize ren be gq=kk4 at*;generalize ren be f3=aa4 at*;replace bo:=AB bo;replace b7:=AB b7;clear gg hi ga f8 s a4 K fv fz gr aa gb f7 bi gd;obtain⟨ag,c2⟩:∃ag,ag=O.take a:=⟨_,rfl⟩;obtain⟨AW,a'⟩:∃AW,AW=T1.drop (a+1):=⟨_,rfl⟩;rw[<-c2,<-a']at bo;have W:U ag=a:=by rw[c2];exact b8.1
   replace c2:=AB c2;replace a':=AB a';replace W:=AB W;refine CR e.ac (U d.ac:Int) (B2:=λm c (b:(u×TV×u×List (List y))×(y×y×y)×(S×Nat))=>⟨[(4,.ptr b.1.1 0),(5,.ii b.1.2.2.1 0 (U T1)),(7,nI a),(25,nI (U T1)),(26,nI a),(33,b.2.1.1),(34,nI m),(35,nI c)],b.2.2.1,b.2.2.2,[]⟩)
    (Inv:=λc hu b=>AR (dp p sz D q b.2.2.1 b.1.1 b.1.2.1 (.ii b.1.2.2.1 0 (U T1)) b.1.2.2.2 (ag++⟨i.take c++e.ac.drop c,e.rules,e.args⟩::AW)/\(∀ch∈b.1.2.1.ids b.1.1++(AE (.ii b.1.2.2.1 0 (U T1))++b.1.2.2.2.flatMap Ab),∃C f,f<b.2.2.2/\ch=C::f::[])/\b.1.2.2.2[a]?=J [b.2.1.1,b.2.1.2.1,b.2.1.2.2])) (b0:=((g3,g6,ht,rows4),(cc4,kk4,aa4),(he,g8))) z ⟨bo.1,b7.1,fi⟩ ?_ ?_
   .rintro c f ⟨⟨bh,f2,T,cm⟩,⟨g9,dd,cn⟩,⟨f5,dx⟩⟩ v h0 hj e2 dq;obtain⟨j,a5,A⟩:=e2.1;dsimp only at j a5 A;have im:TC.wrap ((c:Int)+1)=(c:Int)+1:=w_ z z;have c5:(ag++(⟨i.take c++e.ac.drop c,e.rules,e.args⟩:Av)::AW)[a]?=J ⟨i.take c++e.ac.drop c,e.rules,e.args⟩:=by rw[EL (by rw[W.1];exact D4 _),W.1,IT];rfl
    obtain⟨_,_,_,g',K,_,_⟩:=j.tab.each a _ _ A c5;cases g';have d1:(i.take c).length=c:=by rw[F5,d2.1];omega
    have e3:(i.take c++e.ac.drop c)[c]?=J f:=by rw[EL z,d1,IT,EJ v];rfl
    have h6:=l_ e3;have b6:i[c]?=J (if f=3/\qI p D fp (df+(c:Int))=1 then 2 else f):=by rw[cv.1,cM,v,I9,RI,gp];rfl
    have ga:S.get f5 T=J (.arr 3 cm):=by
     rcases j.tab.arr with⟨F,_⟩|⟨R,hf,hg⟩
     .cases F
     .grind
    have gr:=l_ A;have c9:=λC=>j.fin a _ _ C A c5;have hh:=j.rep.box;obtain⟨h4,h5,fl,h3,hk⟩:=Tr j.rep.heads eb;rw[fl]at hh;have lhs:=l_ eb;have hz:(a:Int)<U q:=z;have h7:=l_ hk;have Y:=λ(f:Nat) (v:dx<=f)=>(show Sa [f] bh f2 fromλa t=>Fj (a5 a (Ac.2 (.inl t))) v);have fd:=λ(f:Nat) (v:dx<=f)=>VK j.rep (Y f v) (ID a) eb gs gp (c:=(c:Int)) ⟨z,z⟩;have e6:=λ(f:Nat) (v:dx<=f)=>aV o.1 b9.1 (eJ o.1 b9.1 cx.1) cx.1.len j.rep (Y f v) gs hn ho (df+(c:Int));have dj:i[c]?=J f->i.take c++e.ac.drop c=i.take (c+1)++e.ac.drop (c+1):=λh=>by grind [List.take_add_one,EJ]
    have el:i[c]?=J 2->(i.take c++e.ac.drop c).set c 2=i.take (c+1)++e.ac.drop (c+1):=λh=>by rw[FD,h,EJ v,MP _ _ z,d1,IT];simp
    generalize i.take c++e.ac.drop c=M at*;replace j:=AB j;replace a5:=AB a5;replace fl:=AB fl;replace c5:=AB c5;replace d1:=AB d1;replace b6:=AB b6;replace Y:=AB Y;replace fd:=AB fd;replace e6:=AB e6;replace dj:=AB dj;replace el:=AB el;clear bo b7 fi;rcases eE K e3 with rfl|⟨cd,g0,rfl,h2,hr⟩
    .have bc:=c9 _ rfl f (AP e3);subst bc;replace K:=AB K;replace c9:=AB c9;have l:=j.1;have a3:i[c]?=J 1:=by have:=b6.1;rw[Co z]at this;exact this
     rw[dj.1 a3]at l;replace l:=AB l;refine ax ?_;have bx:(ag++(⟨i.take (c+1)++e.ac.drop (c+1),e.rules,e.args⟩:Av)::AW).length<=12:=by rw[D1,II,W.1,a'.1,I8];have:=ac.1;omega
     refine FR [(4,.ptr bh 0),(5,.ii T 0 (U T1)),(7,nI a),(25,nI (U T1)),(26,nI a),(33,.d (.co (M.map AX))),(34,nI (U d.ac)),(35,nI (c+1))] rfl l.1 a1 bx (λr g=>?_) zCO (λr g=>by grind [CV]) λk ad ai L ar av x w a6=>?_
     .simp[CV,AE]at g;grind [AE]
     obtain⟨b3,bv⟩:=a6 T Ay;have N:(cm.map (Dn k))[a]?=J [ren k (.d (.co (M.map AX))),ren k dd,ren k cn]:=by rw[BY,A];rfl
     simp only[Bv,Ce,ren,av,bv]at x w N⊢;exact dq.1 ((ad,ai,b3,_),(_,_,_),(L,ar)) ⟨x,w,N⟩
    .have h8:=l_ hr;obtain⟨em,fo⟩:∃em,g0=M.map AX++em:=by
      rcases K with h|((⟨h,_⟩|⟨R,gz,h,h1⟩)|⟨h,_⟩)
      .cases h
      .cases h
      .grind
      .cases h
     have hp:g0.set c [.int .i64 2]=(M.set c 2).map AX++em:=by rw[fo,List.set_append_left _ _ zCN,I2];rfl
     replace fo:=AB fo;replace K:=AB K;replace c9:=AB c9
     (repeat' (first|simp only[*,go_sem,AM]|(refine sx ?_ ?_<;>intro bs)|refine sy z λC b2 gi=>?_|simp(disch:=first|assumption|omega) only[Ae]))
     .refine DB (fd.1 _ z) (λfs L b4=>?_);subst b4;refine ax ?_;refine DB (e6.1 _ z) (λfs L b4=>?_);subst b4;have a0:f=3:=CM;by_cases gm:qI p D fp (df+(c:Int))=1
      .have l:=j.1.put (x:=em) (l:=M.set c 2) A c5.1 rfl (by rw[LC]);have a3:i[c]?=J 2:=by have:=b6.1;rw[D3 ⟨a0,gm⟩]at this;exact this
       rw[el.1 a3,MP _ _ (by rw[W.1];exact D4 _),W.1,IT,List.set_cons_zero]at l;dsimp only at l;rw[el.1 a3]at hp;exact zAG
      .have l:=j.1;have a3:i[c]?=J f:=by have:=b6.1;rw[Co λcq=>gm cq.2]at this;exact this
       rw[dj.1 a3]at l;exact zAG
     .have a0:¬f=3:=CM;have l:=j.1;have a3:i[c]?=J f:=by have:=b6.1;rw[Co λcq=>a0 cq.1]at this;exact this
      rw[dj.1 a3]at l;have bx:(ag++(⟨i.take (c+1)++e.ac.drop (c+1),e.rules,e.args⟩:Av)::AW).length<=12:=by rw[D1,II,W.1,a'.1,I8];have:=ac.1;omega
      refine FR [(4,.ptr bh 0),(5,.ii T 0 (U T1)),(7,nI a),(25,nI (U T1)),(26,nI a),(33,.ii cd 0 (U M)),(34,nI (U d.ac)),(35,nI (c+1))] rfl l a1 bx (λr g=>?_) zCO (λr g=>by grind [CV]) λk ad ai L ar av x w a6=>?_
      .simp[CV,AE]at g;rcases g with h|h|h
       .exact .inl h
       .grind [AE]
       .exact .inr (Ac.2 (.inr (BI.2 ⟨_,AP A,by simp[Ab,AE,h]⟩)))
      obtain⟨b3,bv⟩:=a6 T Ay;have N:(cm.map (Dn k))[a]?=J [ren k (.ii cd 0 (U M)),ren k dd,ren k cn]:=by rw[BY,A];rfl
      simp only[Bv,Ce,ren,av,bv]at x w N⊢;exact dq.1 ((ad,ai,b3,_),(_,_,_),(L,ar)) ⟨x,w,N⟩
   .rintro c ⟨⟨bh,f2,T,cm⟩,⟨g9,dd,cn⟩,⟨f5,dx⟩⟩ bs hj e2;obtain⟨j,a5,A⟩:=e2.1;dsimp only at j a5 A;have e7:=bs.1;rw[e7,T0,CS,<-d2.1,F3,c2.1,a'.1]at j;have d0:O.take a++⟨i,e.rules,e.args⟩::T1.drop (a+1)=O.take (a+1)++T1.drop (a+1):=by rw[e5.1,F1];rfl
    rw[d0]at j;replace j:=AB j;replace a5:=AB a5;replace e7:=AB e7;replace d0:=AB d0;clear bo b7 fi;refine ax ?_;refine FR [(4,.ptr bh 0),(5,.ii T 0 (U T1)),(25,nI (U T1)),(26,nI (a+1))] rfl j.1 a1 ?_ (λr g=>?_) zCO (λr g=>by simp[CV,Ab,g]) λk ad ai L ar av x w a6=>?_
    .rw[<-d0.1,D1,II,b8.1,I8];have:=ac.1;omega
    .grind [CV,AE]
    simp only[Bv,Ce,ren,av]at x w⊢;refine dn.1 ((ad,ai,_,_),(L,ar)) ⟨x,w⟩
  .rintro a ⟨⟨f1,g5,gw,de⟩,⟨f4,g7⟩⟩ t gd bi;obtain⟨s,a4⟩:=bi.1;dsimp only at s a4;have e':=t.1;rw[e',T0,CS,<-d5.1,F3]at s;have hy:=QO s.tab;replace s:=AB s;replace a4:=AB a4;replace e':=AB e';clear bn bk;exact af
def UH(p:Aa)(c:Al)(D:List BG)(a:Int):Nat->Al->Bool
 |_,[]=>X|b,k::l=>if k=2/\¬qI p D a (RI c a+(b:Int))=1 then Z else UH p c D a (b+1) l
def PJ(p:Aa)(b:Al)(D:List BG)(a:Al):Nat->List Av->Bool
 |_,[]=>X|i,Bn::l=>if UH p b D ((a[i]?).getD 0) 0 Bn.ac=X then PJ p b D a (i+1) l else Z
def UI(p:Aa)(c:Al)(D:List BG)(b:Al)(a:List Av):y:=if S0 p a=X then(if Cy bQ a (Gb p c D b a)=X then .kw [.d (.bool (PJ p c D b 0 a)),nI 0]else .kw [.d (.bool (Z)),nI 0])else .kw [.d (.bool (Z)),nI 2]
variable{sz:Al}{D:List BG}
theorem AC3{h:Int}:∀{l:Al} {c:Nat},UH p sz D h c l=X->∀(i:Nat),l[i]?=J 2->qI p D h (RI sz h+((c+i:Nat):Int))=1
 :=by intro x;induction x<;>grind [UH]
variable{a:Al}
theorem Z8:∀{e:List Av} {f:Nat},PJ p sz D a f e=X->∀(b:Nat) Bn,e[b]?=J Bn->UH p sz D ((a[f+b]?).getD 0) 0 Bn.ac=X
 |[],_,_,b,Bn,hi=>by simp at hi|v::e,f,c,b,Bn,hi=>by
  rw[PJ]at c;split at c
  .rcases b with _|b
   .grind
   .rw[Hw]at hi;have:=Z8 c b Bn hi;grind
  .cases c
theorem AC4{p:Aa}{sz:Al}{D:List BG}{a:Al}{c:List Av}(m:Ml p a)(i:PJ p sz D a 0 c=X):UE p sz D c:=λq h d e j o n s r b=>by
 rcases hu:c[h.n.toNat]? with _|g
 .grind [Bx]
 .rw[Bx,hu]at b;rcases hv:g.ac[e]? with _|t
  .simp[hv]at b
  .simp[hv]at b;subst b;have f:=Z8 i _ g hu;have l:=m.at_ q h j o n;rw[I9,l,F9]at f;have k:=AC3 f e hv
   rwa [I9]at k
def AKp{c:S}{B:u}{V:TV}(f:DY p sz D a c B V):dp p sz D a c B V .d8 [] []:=⟨f,⟨.inl ⟨rfl,rfl⟩,rfl,λe h i b=>by simp at b,Ay⟩,λe _ g=>by simp[AE]at g,λe h i j b=>by simp at b⟩
def qJ{p:Aa}{bc:Bo}(a':∀C∈p.free,C.size<=maxLen)(N:looks p=J bc){b:List Av}(ag:Nu b):∃a,Ml p a/\Bk kT 86 [pA p,De b] []=.ok (.ret (UI p bc.em (DW p bc.em) a b),[]):=by
 have q:=EZ N;have L:=OM N;have W:=Qg L bc.em;have b9:=cg p a';have cx:O7 p=0:=by rw[O7,N]
 rw[cx]at b9;have c1:=q.small;simp[Aa.small]at c1;obtain⟨_,a6,d9⟩:=c1;have⟨⟨o0,h0⟩,a0,B,V,a,r1,ac,Y,O⟩:=xV a' N 7 [];dsimp only at r1 ac;subst r1;refine⟨a,Y,?_⟩;generalize bc.em=sz at*;generalize DW p sz=D at*;clear cx;have⟨R,f⟩:=Cv (UI p sz D a b);rw[<-f];replace q:=AB q;refine B4 ?_ L W ac Y O f a' N ag;clear L W ac Y O f a' N ag;intro L W ac Y O f a' N ag;refine BH func86 ?_;refine ax ?_;have T:∀e,7<e->Sa [e] B V:=λe v c s=>by
  rcases b6:AD [e] c with _|_
  .rfl
  .have:=Bw (O.1 c s) b6;omega
 have l:=ac.1.app (h:=[([0,0],Obj.box (pC p))]);generalize h0++[([0,0],Obj.box (pC p))]=H at*;replace T:=AB T;replace l:=AB l;clear a0;refine GI (AI4 q.1 l.1 (T.1 11 z) ag.1) (λcd d6 P=>?_);subst P;by_cases a5:S0 p b=X
 .rw[UI]at f;have f:=f.1;rw[D3 a5]at f;have K:=kD a5;have a4:=λe (v:7<e)=>vh (p:=p) (sz:=sz) (D:=D) (hs:=a) (g:=H) (B:=B) (V:=V) (ρ:=[e]) (tv:=De b) (T:=b) (W:=[]) ⟨q.1,L.1,W.1,l.1,T.1 e v,K,.inl ⟨rfl,rfl⟩,λc s=>(by cases s),λc _ s=>(by cases s),Y.1⟩;refine Nm ?_ a4 K f;clear a4 K f;intro a4 K f;refine ax ?_;refine Ak (a4.1 _ z) (λcd df P=>?_);obtain⟨d3,eb,rfl,a2,bl,b2,bx⟩:=P;have ad:=dp.call (T:=Gb p sz D a b) l.1 (T.1 16 z) a2 bl bx λc d4 m Q d1 _ b6=>absurd b6 (b2 d4 (AP d1) Q);have c0:∀cm,S7 cm d3=cm:=λcm=>by rcases a2.arr with⟨rfl,_⟩|⟨d',rfl,_⟩<;>rfl
  rw[Gu,c0];generalize gc [16] df=G at*;have dd:=QO ad.tab;have d0:=mL (QI K.1 (QZ (D:=D) q.1 a b)) ag.1;have a3:=AKp ad.rep;refine cX ?_ a2 bl b2 bx ad a3;clear a2 bl b2 bx ad a3;intro a2 bl b2 bx ad a3;clear a4;by_cases b1:Cy bQ b (Gb p sz D a b)=X
  .have f:=f.1;rw[D3 b1]at f;replace f:=AB f;refine ax ?_;refine FR [(1,De b),(6,.ptr B 0),(26,nI (U b)),(27,nI 0)] rfl a3.1 a6 AG zCO zCO Ay λeg c4 c7 de b0 cs bo bk _=>?_;simp only[Bv,Ce,ren,cs]at bo bk⊢;have⟨A0,bi⟩:=Cv (PJ p sz D a 0 b);rw[<-bi]at f;have dq:=f.1;subst dq;have cv:=AB K.1.len;replace bi:=AB bi;clear a3 ad cs d0 dd f T l ac O c0;refine Ah b (B2:=λc (h:(u×TV)×(S×Nat))=>⟨[(1,De b),(6,.ptr h.1.1 0),(26,nI (U b)),(27,nI c)],h.2.1,h.2.2,[]⟩)
    (Inv:=λc ch h=>AR (dp p sz D a h.2.1 h.1.1 h.1.2 .d8 [] []/\(∀k∈h.1.2.ids h.1.1,∃Q e,e<h.2.2/\k=Q::e::[])/\A0=PJ p sz D a c ch)) (b0:=((c4,c7),(de,b0))) ⟨bo,λk t=>bk k (Ac.2 (.inl t)),bi.1⟩ ?_ ?_
   .rintro c m ⟨⟨cn,c8⟩,⟨dj,c'⟩⟩ O s dx b7 c6;have⟨M,aa,w⟩:=b7.1;dsimp only at M aa;have ec:TC.wrap ((c:Int)+1)=(c:Int)+1:=w_ z (by have:=cv.1;omega);have⟨d,hd⟩:=g_ (l:=p.defs) (i:=c) (by rw[<-cv.1];exact s);have⟨s1,s2,s3,cl⟩:=K.1.each c d m hd O;have bh:=(Bd q.1 hd).ok;have d5:=bh.ac;have⟨n,Q,C,hn,n0,hnx,ho,cc,hz,z0,z1⟩:=wh q.1 Y.1 hd;rw[PJ,hn,F9]at w;have b4:RI sz n=C:=by rw[RI,hz];rfl
    refine mE ?_ M aa w b4 bh cl cc;clear M aa w b4 bh cl cc;intro M aa w b4 bh cl cc;clear bo bk;refine ax (FR [(1,De b),(6,.ptr cn 0),(7,nI c),(26,nI (U b)),(27,nI c),(34,.d (.co (m.ac.map AX))),(35,nI (U d.ac)),(36,nI 0)] rfl M.1 a6 AG zCO zCO Ay λej c5 c9 dm dc cu bs bn _=>?_);simp only[Bv,Ce,ren,cu]at bs bn⊢;clear cu;refine CR m.ac (U d.ac:Int) (B2:=λd2 g (h:(u×TV)×(S×Nat))=>⟨[(1,De b),(6,.ptr h.1.1 0),(7,nI c),(26,nI (U b)),(27,nI c),(34,.d (.co (m.ac.map AX))),(35,nI d2),(36,nI g)],h.2.1,h.2.2,[]⟩)
     (Inv:=λg ch h=>AR (dp p sz D a h.2.1 h.1.1 h.1.2 .d8 [] []/\(∀k∈h.1.2.ids h.1.1,∃Q e,e<h.2.2/\k=Q::e::[])/\A0=if UH p sz D n g ch=X then PJ p sz D a (c+1) (b.drop (c+1))else Z)) (b0:=((c5,c9),(dm,dc))) z ⟨bs,λk t=>bn k (Ac.2 (.inl t)),w.1⟩ ?_ ?_
    .rintro g e ⟨⟨ai,cq⟩,⟨dn,be⟩⟩ v d8 ds b8 cp;have⟨i,r,j⟩:=b8.1;dsimp only at i r;have ef:TC.wrap ((g:Int)+1)=(g:Int)+1:=w_ z z;rw[UH,b4.1]at j;have dr:=i.rep.box;have⟨hid2,hxs,b5,hgh,hhx⟩:=Tr i.rep.heads hn;rw[b5]at dr;have lhs:=l_ hn;have d7:(c:Int)<U a:=z;have ea:=l_ hhx;have l:=λ(e:Nat) (v:be<=e)=>(show Sa [e] ai cq fromλc s=>Fj (r c s) v);have b3:=λ(e:Nat) (v:be<=e)=>VK i.rep (l e v) (ID c) hn n0 hz (c:=(g:Int)) ⟨z,z⟩;have bv:=λ(e:Nat) (v:be<=e)=>aV q.1 L.1 (eJ q.1 L.1 W.1) W.1.len i.rep (l e v) n0 hnx ho (C+(g:Int));refine mE ?_ i r j b5 l b3 bv;clear i r j b5 l b3 bv;intro i r j b5 l b3 bv;clear bs bn
     (repeat' (first|simp only[*,go_sem,AM]|(refine sx ?_ ?_<;>intro b9)|refine sy z λQ b6 ag=>?_|simp(disch:=first|assumption|omega) only[Ae]))
     .refine DB (b3.1 _ z) (λcd F P=>?_);subst P;refine ax ?_;refine DB (bv.1 _ z) (λcd F P=>?_);subst P;have b':e=2:=CM;by_cases c2:qI p D n (C+(g:Int))=1
      .have o:=j.1;rw[show(if e=2/\¬qI p D n (C+(g:Int))=1 then Z else UH p sz D n (g+1) (m.ac.drop (g+1)))=UH p sz D n (g+1) (m.ac.drop (g+1))from Co λa0=>a0.2 c2]at o;replace o:=AB o;refine ax ?_;refine FR [(1,De b),(6,.ptr ai 0),(7,nI c),(26,nI (U b)),(27,nI c),(34,.d (.co (m.ac.map AX))),(35,nI (U d.ac)),(36,nI (g+1))] rfl i.1 a6 AG zCO zCO Ay λc3 ar av F az a1 A x _=>?_;simp only[Bv,Ce,ren,a1]at A x⊢;exact cp.1 ((ar,av),(F,az)) ⟨A,λk t=>x k (Ac.2 (.inl t)),o.1⟩
      .have o:=j.1;rw[show(if e=2/\¬qI p D n (C+(g:Int))=1 then Z else UH p sz D n (g+1) (m.ac.drop (g+1)))=Z from D3 ⟨b',c2⟩,Co AG]at o;subst o;exact af
     .have b':¬e=2:=CM;have o:=j.1;rw[show(if e=2/\¬qI p D n (C+(g:Int))=1 then Z else UH p sz D n (g+1) (m.ac.drop (g+1)))=UH p sz D n (g+1) (m.ac.drop (g+1))from Co λa0=>b' a0.1]at o;refine FR [(1,De b),(6,.ptr ai 0),(7,nI c),(26,nI (U b)),(27,nI c),(34,.d (.co (m.ac.map AX))),(35,nI (U d.ac)),(36,nI (g+1))] rfl i.1 a6 AG zCO zCO Ay λc3 ar av F az a1 A x _=>?_;simp only[Bv,Ce,ren,a1]at A x⊢;exact cp.1 ((ar,av),(F,az)) ⟨A,λk t=>x k (Ac.2 (.inl t)),o⟩
    .rintro g ⟨⟨ai,cq⟩,⟨dn,be⟩⟩ b9 ds b8;have⟨i,r,j⟩:=b8.1;dsimp only at i r;rw[UH,D3 rfl]at j;refine Nm ?_ i r j;clear i r j;intro i r j;clear bs bn;refine ax (FR [(1,De b),(6,.ptr ai 0),(26,nI (U b)),(27,nI (c+1))] rfl i.1 a6 AG zCO zCO Ay λc3 ar av F az a1 A x _=>?_);simp only[Bv,Ce,ren,a1]at A x⊢;exact c6.1 ((ar,av),(F,az)) ⟨A,λk t=>x k (Ac.2 (.inl t)),j.1⟩
   .rintro c ⟨⟨cn,c8⟩,⟨dj,c'⟩⟩ s dx b7;have⟨M,aa,w⟩:=b7.1;rw[PJ]at w;subst w;clear M aa bo bk;exact af
  .have f:=f.1;rw[Co b1]at f;subst f;have b1:Cy bQ b (Gb p sz D a b)=false:=by simpa using b1
   exact af
 .have f:=f.1;rw[UI,Co a5]at f;subst f;have a5:S0 p b=false:=by simpa using a5
  exact af
def pT:∀{ds:List Bc} {us:List Av},U ds=U us->(∀(b:Nat) d a,ds[b]?=J d->us[b]?=J a->(U d.ac)=U a.ac/\(U d.rules)=U a.rules)->QG ds us=X
 |[],[],_,_=>rfl|[],_::_,h,_=>by simp at h|_::_,[],h,_=>by simp at h|d::ds,a::us,h,he=>by have⟨h1,h2⟩:=he 0 d a rfl rfl;have f:=pT (ds:=ds) (us:=us) zCV λb d a c e=>he (b+1) d a zC4 zC3;simp[QG,pS,h1,h2,f]
variable{T:List Av}
def cr(h:WU p T):ur p T=true:=by have⟨h1,h2⟩:=uu h;rw[ur,pT h1 h2,F8 h1];rfl
def Hn(T:List Av):List Au:=[.co (T.map jr)]
def Z2{b:Bo}(k:∀s∈p.free,s.size<=maxLen)(g:looks p=J b)(e:Nu T):∃L:List (List Av),Bk kT 45 [pA p,De T] []=.ok (.ret (.kw [.d (.co (L.map Hn)),.d (.bool (X))]),[])/\(U L)<=2/\∀c∈L,DQ p b.em (DW p b.em) c/\UE p b.em (DW p b.em) c/\WU p c:=by
 have h:=EZ g;have q:=h.small;simp[Aa.small]at q;obtain⟨_,x,w⟩:=q;have⟨T1,hT1,a1,a2,a3⟩:=iJ k g;have⟨a,hH,hA⟩:=qJ k g e;have t:=ck p T1 z;have v:=ck p T z;rw[cr a3]at t;have one:∀c∈ [T1],DQ p b.em (DW p b.em) c/\UE p b.em (DW p b.em) c/\WU p c:=λc l=>by rw[AS]at l;rw[l];exact⟨a1,a2,a3⟩
 by_cases f:S0 p T=X
 .have i:=kD f;rw[cr i]at v;rw[UI,D3 f]at hA;by_cases j:Cy bQ T (Gb p b.em (DW p b.em) a T)=X
  .rw[D3 j]at hA;rcases ha:PJ p b.em (DW p b.em) a 0 T with _|_
   .rw[ha]at hA;refine⟨[T1],?_,AG,one⟩;clear one a1 a2 a3 i f j ha hH h e k g;exact zAN
   .rw[ha]at hA;have r:∀c∈ [T1,T],DQ p b.em (DW p b.em) c/\UE p b.em (DW p b.em) c/\WU p c:=λc l=>by
     simp at l;rcases l with rfl|rfl
     .exact⟨a1,a2,a3⟩
     .exact⟨AIA h hH i j,AC4 hH ha,i⟩
    refine⟨[T1,T],?_,AG,r⟩;clear one r a1 a2 a3 i f j ha hH h e k g;exact zAN
  .rw[Co j]at hA;refine⟨[T1],?_,AG,one⟩;clear one a1 a2 a3 i f j hH h e k g;exact zAN
 .rw[UI,Co f]at hA;refine⟨[T1],?_,AG,one⟩;clear one a1 a2 a3 f hH h e k g;exact zAN
structure Dw(g:S)(B:u)(s:BP)(jp:Al)(f8:List Al)(cv rv:y)(vs:List y):Prop:=
 box:g.get B=J (.box [.d (.co (s.be.map CZ)),.d (.co (s.bv.map CY)),.d (.co (s.ac.map Fg)),.d (.co (s.waits.map Bf)),cv,rv])
 jp:(cv=.d8/\jp=[])\/∃id,cv=.ii id 0 (U jp)/\g.get id=J (.f9 1 (jp.map AX))
 rx:(rv=.d8/\vs=[])\/∃id,rv=.ii id 0 (U f8)/\g.get id=J (.arr 1 (vs.map λv=>[v]))
 len:U vs=U f8
 each:∀(j:Nat) v l,vs[j]?=J v->f8[j]?=J l->CU g v l
 nd:(B::(AE cv++(AE rv++Ab vs))).Nodup
structure vd(s:BP)(jp:Al)(f8:List Al)(T:List Av):Prop:=
 jp:∀(C:Nat) n,jp[C]?=J n->∃q gq Bn k,s.ac[C]?=J q/\0<=q.group/\s.bv[q.group.toNat]?=J gq/\0<=gq.ip/\T[gq.ip.toNat]?=J Bn/\0<=q.index/\Bn.ac[q.index.toNat]?=J k/\n<=bw k
 rx:∀(j:Nat) l,f8[j]?=J l->∃gq Bn,s.bv[j]?=J gq/\0<=gq.ip/\T[gq.ip.toNat]?=J Bn/\∀(i:Nat) n,l[i]?=J n->∃k,Bn.rules[i]?=J k/\n<=bw k
section
variable{p:Aa}{g:S}{B:u}{s:BP}{jp:Al}{b:List Al}{e f:y}{c:List y}{ρ:u}{T:List Av}
theorem AFD(j:Dw g B s jp b e f c)(v:∀h∈B::(AE e++(AE f++Ab c)),AD ρ h=Z)(D:vd s jp b T)(b9:U jp<=1000000)(cx:U b<=1000000)(b8:∀o∈b,U o<=1000000):
 ∃av bl,kT (.fn 49) [.ptr B 0,pA p,De T] g ρ X (J ρ)=.ok (av,bl)/\av=.ret (.d (.bool (X))):=by
 have A:=v B AG;have a6:=AN A;have b':=Aw A;have M:=j.box;have ag:∀g:Abs.G,JY g .slice e=J (U jp):=λg=>by rcases j.jp with⟨rfl,rfl⟩|⟨i,rfl,q⟩<;>rfl
 unfold JY at ag;refine Nm ?_ j v D;clear j v D;intro j v D;refine Ba func49 ?_;refine ax (GK λW bn=>?_);have b1:∀a,AD ρ a=Z->W.get a=g.get a:=λa r=>by have L:=AN r;exact BZ
 clear bn ag;refine Ah jp (B2:=λh (k:S×Nat)=>⟨[(0,.ptr B 0),(2,De T),(17,e),(18,nI (U jp)),(19,nI h)],k.1,k.2,[]⟩)
  (Inv:=λh az k=>AR (∀a,AD ρ a=Z->k.1.get a=g.get a)) (b0:=(W,8)) ⟨b1⟩ ?_ ?_
 .rintro h K ⟨G,aa⟩ F Q bv P a2;have m:=P.1;dsimp only at m;have b7:TC.wrap ((h:Int)+1)=(h:Int)+1:=w_ z z;obtain⟨i,rfl,q⟩:∃i,e=.ii i 0 (U jp)/\g.get i=J (.f9 1 (jp.map AX)):=by
   rcases j.1.jp with⟨_,rfl⟩|j
   .simp at F
   .exact j
  have V:=v.1 i Ay;have bi:=(m B A).trans M;have bk:=(m i V).trans q;have⟨L,gq,Bn,x,l1,l2,l3,l4,l5,H,l7,l8⟩:=D.1.jp h K F;have cu:=l_ l1;have b3:=l_ l3;have b4:=l_ l5;have b5:=l_ l7;have a':L.group<U s.bv:=z;have bc:gq.ip<U T:=z;have be:L.index<U Bn.ac:=z;have bh:¬bw x<K:=z;have cv:∀k x,AJ (k::(aa+x)::ρ) B=false:=λk x=>a6 _ _;replace m:=AB m;refine ax (a2.1 (_,_) ⟨λa r=>?_⟩);have L:=AN r;simp only[go_sem,L,AM];exact m.1 a r
 .rintro h ⟨G,aa⟩ Q bv P;have m:=P.1;dsimp only at m;have bi:=(m B A).trans M;have b0:∀g:Abs.G,JY g .slice f=J (U b):=λg=>by
   have ac:=j.1.len;rcases j.1.rx with⟨rfl,rfl⟩|⟨i,rfl,q⟩
   .rw[<-ac];rfl
   .rfl
  unfold JY at b0;replace m:=AB m;refine ax ?_;refine Ah b (B2:=λh (k:S×Nat)=>⟨[(0,.ptr B 0),(2,De T),(64,f),(65,nI (U b)),(66,nI h)],k.1,k.2,[]⟩)
   (Inv:=λh az k=>AR (∀a,AD ρ a=Z->k.1.get a=g.get a)) (b0:=(G,_)) ⟨m.1⟩ ?_ ?_
  .rintro a o ⟨Y,a4⟩ R r bx ad a3;have t:=ad.1;dsimp only at t;have b7:TC.wrap ((a:Int)+1)=(a:Int)+1:=w_ z z;obtain⟨i,rfl,q⟩:∃i,f=.ii i 0 (U b)/\g.get i=J (.arr 1 (c.map λl=>[l])):=by
    rcases j.1.rx with⟨_,ac⟩|j
    .have:=j.1.len;grind
    .exact j
   have⟨l,hv⟩:=g_ (l:=c) (i:=a) (by rw[j.1.len];exact r);have w:=j.1.each a l o hv R;have V:=v.1 i Ay;have N:∀h∈AE l,AD ρ h=false:=λh Q=>v.1 h (by simp[AE,DS (AP hv) Q]);have cd:=(t B A).trans M;have bk:=(t i V).trans q;have⟨gq,Bn,l3,l4,l5,H⟩:=D.1.rx a o R;have b3:=l_ l3;have b4:=l_ l5;have a':(a:Int)<U s.bv:=z;have bc:gq.ip<U T:=z;have b2:=l_ hv;have cn:(c.map λl=>[l])[a]?=J [l]:=by rw[BY,hv];rfl
   have cs:a<(c.map λl=>[l]).length:=by simpa using b2
   have ai:∀g:Abs.G,JY g .slice l=J (U o):=λg=>by rcases w with⟨rfl|rfl,rfl⟩|⟨i,rfl,q⟩<;>rfl
   have cp:y.isCell l=true:=by rcases w with⟨rfl|rfl,rfl⟩|⟨i,rfl,q⟩<;>rfl
   have cq:=b8 o (AP R);unfold JY at ai;refine mY ?_ t w N H;clear t w N H;intro t w N H;refine ax ?_;clear ai;refine Ah o (B2:=λh (k:S×Nat)=>⟨[(0,.ptr B 0),(2,De T),(10,nI a),(64,.ii i 0 (U b)),(65,nI (U b)),(66,nI a),(71,l),(72,nI (U o)),(73,nI h)],k.1,k.2,[]⟩)
    (Inv:=λh az k=>AR (∀a,AD ρ a=Z->k.1.get a=g.get a)) (b0:=(Y,_)) ⟨t.1⟩ ?_ ?_
   .rintro C K ⟨a1,a5⟩ F cm bo O a0;have n:=O.1;dsimp only at n;have c0:TC.wrap ((C:Int)+1)=(C:Int)+1:=w_ z z;obtain⟨ar,rfl,bs⟩:∃i,l=.ii i 0 (U o)/\g.get i=J (.f9 1 (o.map AX)):=by
     rcases w.1 with⟨_,rfl⟩|j
     .simp at F
     .exact j
    have b6:=N.1 ar Ay;have ch:=(n B A).trans M;have cc:=(n ar b6).trans bs;have⟨x,l7,l8⟩:=H.1 C K F;have b5:=l_ l7;have be:(C:Int)<U Bn.rules:=z;have bh:¬bw x<K:=z;replace n:=AB n;exact ax (a0.1 (_,_) ⟨n.1⟩)
   .rintro C ⟨a1,a5⟩ cl bo O;have n:=O.1;dsimp only at n;replace n:=AB n;exact ax (a3.1 (_,_) ⟨n.1⟩)
  .rintro a ⟨Y,a4⟩ r bx ad;exact af
end
theorem ZK{e:Type}{f:e->List Au}{a:List e}{g:G}{sz b:Nat}(h:∀c,(f c).length=sz)(i:b<=(U a)):GR g .slice sz (.d (.co (a.map f))) (J (nI (b:Int))) I I=J (.d (.co ((a.drop b).map f))):=by
 have j:Qh sz (a.map f)=true:=by clear i;induction a with|nil=>rfl|cons c a k=>simp[Qh,h]
 grind [GR,Fu,Jg,Kb,Kr,ZJ,List.map_drop,List.take_of_length_le]
section
variable{p:Aa}{i:Al}{g:S}{B:u}{s:BP}{jp:Al}{e:List Al}{h f:y}{c:List y}{b:u}
def ACr(g:S)(B:u)(s:BP)(b:u)(h f:y)(c:List y)(jp:Al)(e:List Al)(m:BC)(j:S):Prop:=m=.ret (.kw [])/\∃i k l,Dw j B s jp e i k l/\(∀a∈AE i++(AE k++Ab l),a∈AE h++(AE f++Ab c)\/(AD b a=X/\∃n,a=1::n))/\∀a,AD b a=Z->a∉B::(AE h++(AE f++Ab c))->j.get a=g.get a
theorem Dw.setC{G g:S}(j:Dw G B s jp e h f c){b:y}{i:Al}(o:g.get B=J (.box [.d (.co (s.be.map CZ)),.d (.co (s.bv.map CY)),.d (.co (s.ac.map Fg)),.d (.co (s.waits.map Bf)),b,f]))(p:(b=.d8/\i=[])\/∃k,b=.ii k 0 (U i)/\g.get k=J (.f9 1 (i.map AX)))(pm:∀a∈AE f++Ab c,g.get a=G.get a)(fresh:∀a∈AE b,a≠B/\a∉AE f++Ab c):Dw g B s i e b f c:=by
 have m:=j.nd;rw[Ii,D0]at m;obtain⟨A,C,D,F⟩:=m;refine⟨o,p,?_,j.len,λt w v n r=>(j.each t w v n r).mono λa q=>pm a (Ac.2 (.inr (DS (AP n) q))),?_⟩
 .rcases j.rx with l|⟨k,l,x⟩
  .exact .inl l
  grind [AE]
 grind [AE]
theorem P2{i:u}(h:AD b i=Z)(l:u):l++b≠i:=by grind [under_iff]
theorem Dw.mono{G:S}(a:Dw g B s jp e h f c)(j:∀i∈B::(AE h++(AE f++Ab c)),G.get i=g.get i):Dw G B s jp e h f c:=by
 refine⟨by rw[j B AG];exact a.box,?_,?_,a.len,λp r q k n=>(a.each p r q k n).mono λi m=>j i (by simp[DS (AP k) m]),a.nd⟩
 .rcases a.jp with b|⟨o,b,l⟩
  .exact .inl b
  grind [AE]
 .rcases a.rx with b|⟨o,b,l⟩
  .exact .inl b
  grind [AE]
theorem AAW(v:y):∀l:List y,Ab (l++[v])=Ab l++AE v
 :=by intro x;induction x<;>grind [Ab]
theorem Dw.setR{G j:S}(g:Dw G B s jp e h f c){l:u}{a:y}{b:Al}(C:j.get B=J (.box [.d (.co (s.be.map CZ)),.d (.co (s.bv.map CY)),.d (.co (s.ac.map Fg)),.d (.co (s.waits.map Bf)),h,.ii l 0 (U e+1)]))(A:j.get l=J (.arr 1 ((c++[a]).map λa=>[a])))(N:CU j a b)(pm:∀i∈AE h++Ab c,j.get i=G.get i)(w:l∉B::(AE h++(Ab c++AE a)))(x:∀i∈AE a,i∉B::(AE h++Ab c))(V:(AE a).Nodup):Dw j B s jp (e++[b]) h (.ii l 0 (U e+1)) (c++[a]):=by
 have q:=g.nd;rw[Ii,D0]at q;obtain⟨K,O,r,P⟩:=q;rw[D0]at r;obtain⟨Q,R,T⟩:=r;have v:∀b:List y,Ab (b++[a])=Ab b++AE a:=λb=>by induction b with|nil=>simp[Ab]|cons W b F=>simp[Ab,F]
 simp at w x K;refine⟨C,?_,.inr ⟨l,AG,A⟩,by simp[g.len],λn L H k m=>?_,?_⟩
 .rcases g.jp with o|⟨i,o,M⟩
  .exact .inl o
  grind [AE]
 .by_cases p:n<U c
  .rw[D8 p]at k;rw[D8 (by rw[<-g.len];exact p)]at m;exact(g.each n L H k m).mono λi D=>pm i (Ac.2 (.inr (DS (AP k) D)))
  .have:=l_ k;rw[D1,I3]at this;have t:n=U c:=z;subst t;rw[EL (D4 _),IT]at k;rw[EL (by rw[g.len];exact D4 _),g.len,IT]at m;grind
 .rw[v];simp only[AE];rw[Ii,D0];grind
theorem my(b1:Ar p i)(a:E0 p i s)(w:Dw g B s jp e h f c)(ai:∀o∈B::(AE h++(AE f++Ab c)),AD b o=Z)(d6:U jp<=(U s.ac))(cd:U e<=(U s.bv)):
 ∃ds c7,kT (.fn 47) [.ptr B 0,pA p] g b X I=.ok (ds,c7)/\ACr g B s b h f c (jp++Mb s (U jp)) (e++IC p s (U e)) ds c7:=by
 have bc:=ai B AG;have e9:=AN bc;have ad:=Aw bc;have ea:=w.box;have df:=a.small;simp[BP.small]at df;obtain⟨f1,f2,f3,f4⟩:=df;have a0:∀g:Abs.G,JY g .slice h=J (U jp):=λg=>by rcases w.jp with⟨rfl,rfl⟩|⟨x,rfl,bk⟩<;>rfl
 have eb:y.isCell h=true:=by rcases w.jp with⟨rfl,rfl⟩|⟨x,rfl,bk⟩<;>rfl
 unfold JY at a0;refine mY ?_ w ai a b1;clear w ai a b1;intro w ai a b1;have dx:=λg=>ZK (g:=g) (f:=Fg) (sz:=4) (λ_=>rfl) d6;have d0:=λg=>ZK (g:=g) (f:=CY) (sz:=3) (λ_=>rfl) cd;refine Ba func47 ?_
 (repeat' (first|simp only[*,go_sem,AM]|(refine sx ?_ ?_<;>intro az)|refine sy z λa4 a3 L=>?_|simp(disch:=first|assumption|omega) only[Ae]))
 refine GK λb' ch=>?_;have dn:∀j,AD b j=Z->b'.get j=g.get j:=λj k=>by have n:=AN k;rw[ch];simp only[go_sem,n,AM]
 have e4:b'.get (0::0::b)=J (.box (pC p)):=by rw[ch];simp only[go_sem]
 clear ch a0 eb dx;have fi:=w.1.mono λo M=>dn o (ai.1 o M);have⟨NC,b2⟩:=Cv (Mb s (U jp));rw[<-b2];have cp:U NC=(s.ac.drop (U jp)).length:=by rw[b2,Mb,BV]
 have d7:∀(o:Nat) n,(s.ac.drop (U jp))[o]?=J n->NC[o]?=J (U n.queue:Int):=λo n a1=>by grind [Mb]
 have fp:(s.ac.drop (U jp)).length<=60:=by rw[I8];omega
 replace b2:=AB b2;replace cp:=AB cp;generalize s.ac.drop (U jp)=DC at*;refine Ah DC (B2:=λo (r:S×Nat)=>⟨[(0,.ptr B 0),(3,.ptr (0::0::b) 0),(18,.d (.co (DC.map Fg))),(19,nI (U DC)),(20,nI o)],r.1,r.2,[]⟩)
  (Inv:=λo e6 r=>AR (14<=r.2/\(∃Y,Dw r.1 B s (jp++NC.take o) e Y f c/\(∀j∈AE Y,j∈AE h\/∃t,t<r.2/\j=1::t::b))/\(∀j,AD b j=Z->j≠B->j∉AE h->r.1.get j=g.get j)/\r.1.get (0::0::b)=J (.box (pC p)))) (b0:=(b',14)) ⟨D4 _,⟨h,by grind,λj k=>.inl k⟩,λj k _ _=>dn j k,e4⟩ ?_ ?_
 .rintro o n ⟨G,H⟩ a1 M eg cm c6;have⟨hb14,⟨Y,F,R⟩,aa,hp1⟩:=cm.1;dsimp only at hb14 F R aa hp1;have e7:TC.wrap ((o:Int)+1)=(o:Int)+1:=w_ z z;have ag:NC.take (o+1)=NC.take o++[(U n.queue:Int)]:=by rw[FD,d7 o n a1];rfl
  have cs:=F.box;generalize a0:jp++NC.take o=cl at*;have bi:jp++NC.take (o+1)=cl++[(U n.queue:Int)]:=by rw[ag,<-F1,a0]
  refine mY ?_ a0 ag bi aa;clear a0 ag bi aa;intro a0 ag bi aa;have e3:∀O,¬H+O=0:=λO=>z;have b7:AR (∀j∈AE f++Ab c,AD b j=Z):=⟨λj k=>ai.1 j (By _ (Ac.2 (.inr k)))⟩;have dd:AR (∀j∈AE h,AD b j=Z):=⟨λj k=>ai.1 j (By _ (Ac.2 (.inl k)))⟩;have c8:AR (∀j∈AE f++Ab c,j≠B):=⟨λj k l=>by have:=w.1.nd;grind⟩
  rcases F.jp with⟨rfl,be⟩|⟨x,rfl,bk⟩
  .replace F:=AB F
   (repeat' (first|simp only[*,go_sem,AM,D2,DO,BA]|(refine sx ?_ ?_<;>intro az)|refine sy z λa4 a3 L=>?_|simp(disch:=first|assumption|omega) only[Ae]))
   refine GK λD q=>?_;refine c6.1 (_,_) ⟨AZ,⟨.ii (1::(H+14)::b) 0 1,?_,λj k=>.inr ⟨H+14,AZ,by simpa[AE]using k⟩⟩,λj V v W=>?_,?_⟩
   .rw[bi.1,be];refine F.1.setC ?_ (.inr ⟨_,rfl,?_⟩) (λj k=>?_) (λj k=>?_)
    .rw[q];simp only[go_sem]
    .rw[q];simp only[go_sem,ad,AM]
    .have n:=AN (b7.1 j k);have v:=AI λl=>c8.1 j k (Eq.symm l);rw[q];simp only[go_sem,n,v,AM]
    .exact zCF
   .have n:=AN V;have c4:=AI λl=>v (Eq.symm l);rw[q];simp only[go_sem,n,c4,AM];exact aa.1 j V v W
   .rw[q];simp only[go_sem,ad,hp1,AM]
  .have cv:=F.nd;rw[Ii]at cv;have dm:x≠B:=λl=>cv.1 (by simp[AE,l]);have et:=AI dm;have ex:=AI λl=>dm (Eq.symm l);have b9:x∉AE f++Ab c:=λm=>(D0.1 cv.2).2.2 x Ay x m rfl;have e1:∀r O,AJ (r::(H+O)::b) x=false:=λr O=>by
    rcases R x Ay with m|⟨t,L,rfl⟩
    .exact AN (dd.1 x m) _ _
    grind [AI]
   have dr:∀r O,AJ x (r::(H+O)::b)=false:=λr O=>by grind [AI]
   have e2:AJ x (0::0::b)=false:=by
    rcases R x Ay with m|⟨t,L,rfl⟩
    .exact Aw (dd.1 x m) _ _
    .exact AI AG
   have cu:(cl.map AX).length=U cl:=by rw[BV]
   have dj:(cl.map AX).take (U cl)=cl.map AX:=Bi AG;replace F:=AB F;have⟨N,bh⟩:=Cv (U cl);rw[<-bh]at cu dj cs;have fd:N+1<=200:=by rw[bh,<-a0.1,D1,F5];omega
   replace bh:=AB bh;generalize ar:cl.map AX=es at*;refine Nm ?_ ar b9 R;clear ar b9 R;intro ar b9 R
   (repeat' (first|simp only[*,go_sem,AM,D2,DO,BA]|(refine sx ?_ ?_<;>intro az)|refine sy z λa4 a3 L=>?_|simp(disch:=first|assumption|omega) only[Ae]))
   refine GK λD q=>?_;refine c6.1 (_,_) ⟨AZ,⟨.ii (1::(H+14)::b) 0 (N+1),?_,λj k=>.inr ⟨H+14,AZ,by simpa[AE]using k⟩⟩,λj V v W=>?_,?_⟩
   .rw[bi.1];refine F.1.setC ?_ (.inr ⟨_,by rw[D1,bh.1];rfl,?_⟩) (λj k=>?_) (λj k=>?_)
    .rw[q];simp only[go_sem]
    .rw[q,Ap,ar.1];simp only[go_sem,ad,AM]
    .have n:=AN (b7.1 j k);have v:=AI λl=>c8.1 j k (Eq.symm l);have W:AJ x j=false:=AI λl=>b9.1 (l▸k);rw[q];simp only[go_sem,n,v,W,AM]
    .exact zCF
   .have n:=AN V;have c4:=AI λl=>v (Eq.symm l);have e5:AJ x j=false:=AI λl=>by
     rcases R.1 x Ay with m|⟨t,L,m⟩
     .exact W (l▸m)
     .exact P2 V [1,t] (by rw[<-l,m];rfl)
    rw[q];simp only[go_sem,n,c4,e5,AM];exact aa.1 j V v W
   .rw[q];simp only[go_sem,ad,hp1,e2,AM]
 .rintro o ⟨G,H⟩ M eg cm;have⟨hb14,⟨Y,F,R⟩,aa,hp1⟩:=cm.1;dsimp only at hb14 F R aa hp1;have b5:=M.1;rw[b5,<-cp.1,F3]at F;have cs:=F.box;have a2:∀g:Abs.G,JY g .slice f=J (U e):=λg=>by
   have cd:=w.1.len;rcases w.1.rx with⟨rfl,rfl⟩|⟨x,rfl,bk⟩
   .rw[<-cd];rfl
   .rfl
  have em:y.isCell f=true:=by rcases w.1.rx with⟨rfl,rfl⟩|⟨x,rfl,bk⟩<;>rfl
  unfold JY at a2;refine mY ?_ F R aa b5;clear F R aa b5;intro F R aa b5
  (repeat' (first|simp only[*,go_sem,AM]|(refine sx ?_ ?_<;>intro az)|refine sy z λa4 a3 L=>?_|simp(disch:=first|assumption|omega) only[Ae]))
  clear a2 em d0 ea cs;have⟨NR,b3⟩:=Cv (IC p s (U e));rw[<-b3];have cq:U NR=(s.bv.drop (U e)).length:=by rw[b3,IC,BV]
  have d8:∀(o:Nat) n,(s.bv.drop (U e))[o]?=J n->NR[o]?=J (TL (HG p n) (0:Int)):=λo n a1=>by grind [IC]
  have ef:∀n∈s.bv.drop (U e),n∈s.bv:=λn a1=>RX a1;have fr:(s.bv.drop (U e)).length<=40:=by rw[I8];omega
  replace b3:=AB b3;replace cq:=AB cq;generalize s.bv.drop (U e)=DG at*;have d9:Dw G B s (jp++NC) (e++NR.take 0) Y f c:=by rw[Lw,CS];exact F.1
  refine Ah DG (B2:=λo (r:S×Nat)=>⟨[(0,.ptr B 0),(3,.ptr (0::0::b) 0),(47,.d (.co (DG.map CY))),(48,nI (U DG)),(49,nI o)],r.1,r.2,[]⟩)
   (Inv:=λo e6 r=>AR (H+14<=r.2/\(∃P K,Dw r.1 B s (jp++NC) (e++NR.take o) Y P K/\(∀j∈AE P++Ab K,j∈AE f++Ab c\/∃t,t<r.2/\H+14<=t/\j=1::t::b))/\(∀j,AD b j=Z->j≠B->j∉AE h++(AE f++Ab c)->r.1.get j=g.get j)/\r.1.get (0::0::b)=J (.box (pC p)))) (b0:=(G,H+14)) ⟨D4 _,⟨f,c,d9,λj k=>.inl k⟩,λj V v W=>aa.1 j V v λm=>W (Ac.2 (.inl m)),hp1⟩ ?_ ?_
  .clear hp1;rintro av n ⟨c5,A⟩ a1 c' ej cn bl;have⟨hb2,⟨P,K,C,T⟩,ac,hp2⟩:=cn.1;dsimp only at hb2 C T ac hp2;have e7:TC.wrap ((av:Int)+1)=(av:Int)+1:=w_ z z;have ag:NR.take (av+1)=NR.take av++[TL (HG p n) (0:Int)]:=by rw[FD,d8 av n a1];rfl
   have fl:=C.box;obtain⟨e0,ek⟩:=Ci (ef n (AP a1));have⟨d,b4⟩:=a.1.grp e0 n ek;have ec:=b4.ip;have⟨q0,hd3⟩:=Cf ec;have e8:=(Bd b1.1 hd3).ok.rules;have fs:=l_ hd3;have fc:n.ip<U p.defs:=z;have bs:HG p n=U d.rules:=by rw[HG,hd3];rfl
   rw[bs]at ag;generalize a2:e++NR.take av=rl at*;have b8:e++NR.take (av+1)=rl++[TL (U d.rules) (0:Int)]:=by rw[ag,<-F1,a2]
   have fo:U rl+1<=200:=by rw[<-a2,D1,F5];omega
   refine mE ?_ a2 ag b8 ac T bs b4;clear a2 ag b8 ac T bs b4;intro a2 ag b8 ac T bs b4;have e3:∀O,¬A+O=0:=λO=>z;have de:AR (∀j∈AE Y++(AE P++Ab K),KS b A j):=⟨λj k=>by
    rcases Ac.1 k with k|k
    .rcases R.1 j k with m|⟨t,L,rfl⟩
     .exact OX (ai.1 j (By _ (Ac.2 (.inl m)))) _
     .intro r O el l;simp at l;omega
    .rcases T.1 j k with m|⟨t,L,_,rfl⟩
     .exact OX (ai.1 j (By _ (Ac.2 (.inr m)))) _
     .intro r O el l;simp at l;omega⟩
   have c9:AR (∀j∈AE Y++(AE P++Ab K),j≠B):=⟨λj k l=>by have:=C.nd;grind⟩
   have cx:=C.nd;rw[Ii,D0,D0]at cx;have bv:AR (∀(D:S) (Q:y) (bn:Nat),D.get B=J (.box [.d (.co (s.be.map CZ)),.d (.co (s.bv.map CY)),.d (.co (s.ac.map Fg)),.d (.co (s.waits.map Bf)),Y,.ii (1::(A+20)::b) 0 (U rl+1)])->D.get (1::(A+20)::b)=J (.arr 1 ((K++[Q]).map λQ=>[Q]))->CU D Q (TL (U d.rules) (0:Int))->(AE Q).Nodup->(∀o∈AE Q,o=1::(A+18)::b)->(∀j,KS b A j->j≠B->j∉AE P->D.get j=c5.get j)->A+20<bn->
    H+14<=bn/\(∃P K,Dw D B s (jp++NC) (e++NR.take (av+1)) Y P K/\(∀j∈AE P++Ab K,j∈AE f++Ab c\/∃t,t<bn/\H+14<=t/\j=1::t::b))/\(∀j,AD b j=Z->j≠B->j∉AE h++(AE f++Ab c)->D.get j=g.get j)/\D.get (0::0::b)=J (.box (pC p))):=⟨λD Q bn d1 d2 d3 d4 d5 cc e'=>by
    have a':∀j∈AE Y++Ab K,KS b A j/\j≠B/\j∉AE P:=λj k=>by
     have dc:j∈AE Y++(AE P++Ab K):=zCN
     refine⟨de.1 j dc,c9.1 j dc,λm=>?_⟩;grind
    have d':=C.setR d1 d2 d3 (λj k=>cc j (a' j k).1 (a' j k).2.1 (a' j k).2.2) ?_ ?_ d4;refine⟨z,⟨_,_,by rw[b8.1];exact d',λj k=>?_⟩,λj V v W=>(cc j (OX V _) v λm=>?_).trans (ac.1 j V v W),(cc _ (λr t L l=>?_) (P2 bc [0,0]) λm=>?_).trans hp2⟩
    .simp[AAW,AE]at k;rcases k with rfl|w|w
     .grind
     .rcases T.1 j (Ac.2 (.inr w))with m|⟨t,fv,fz,f0⟩
      .exact .inl m
      grind
     grind
    .rcases T.1 j (Ac.2 (.inl m))with m|⟨t,_,_,m⟩
     .grind
     .exact P2 V [1,t] m.symm
    .simp at l;omega
    .rcases T.1 _ (Ac.2 (.inl m))with m|⟨t,_,_,m⟩
     .have:=ai.1 _ (By _ (Ac.2 (.inr m)));grind [Ao]
     .simp at m
    .intro M;simp at M;rcases M with w|w|w|w
     .grind
     .exact(a' _ (Ac.2 (.inl w))).1 1 (A+20) z rfl
     .exact(a' _ (Ac.2 (.inr w))).1 1 (A+20) z rfl
     grind
    .intro o M m;rw[d5 o M]at m;rcases Cs.1 m with w|w
     .exact P2 bc [1,A+18] w
     .exact(a' _ w).1 1 (A+18) z rfl⟩
   have b0:∀j,j∈AE P->j≠B:=λj k=>c9.1 j zCN;have c0:∀j,j∈AE P->KS b A j:=λj k=>de.1 j zCN;have bx:∀dq:Nat,∀o∈AE (y.ii (1::(A+18)::b) 0 dq),o=1::(A+18)::b:=λdq o M=>by simpa[AE]using M
   replace cx:=AB cx;replace bx:=AB bx;rcases C.rx with⟨rfl,be⟩|⟨x,rfl,bk⟩
   .have bo:U rl=0:=by rw[<-C.len,be];rfl
    replace C:=AB C;replace bo:=AB bo;clear b0 c0;by_cases c1:U d.rules=0
    .skip
     (repeat' (first|simp only[*,go_sem,AM,D2,DO,BA]|(refine sx ?_ ?_<;>intro az)|refine sy z λa4 a3 L=>?_|simp(disch:=first|assumption|omega) only[Ae,Dd]))
     refine GK λD q=>bl.1 (_,_) ⟨bv.1 D .emp _ ?_ ?_ (.inl ⟨.inr rfl,by rw[c1];rfl⟩) Ay (λo M=>by cases M) (λj a5 a6 _=>?_) z⟩
     .rw[q,bo.1];simp only[go_sem]
     .rw[q];simp only[go_sem,ad,be,AM]
     .exact zCH
    .have en:0<U d.rules:=z;have er:(0:Int)<U d.rules:=z
     (repeat' (first|simp only[*,go_sem,AM,D2,DO,BA]|(refine sx ?_ ?_<;>intro az)|refine sy z λa4 a3 L=>?_|simp(disch:=first|assumption|omega) only[Ae,Dd]))
     refine GK λD q=>bl.1 (_,_) ⟨bv.1 D (.ii (1::(A+18)::b) 0 (U d.rules)) _ ?_ ?_ (.inr ⟨_,by rw[HU],?_⟩) Ay (bx.1 _) (λj a5 a6 _=>?_) z⟩
     .rw[q,bo.1];simp only[go_sem]
     .rw[q];simp only[go_sem,ad,be,AM]
     .rw[q];simp only[go_sem,ad,DO,BA,AM]
     .exact zCH
   .have c2:=c0 x Ay;have e1:=c2.is;have dr:=λr O=>AI λl=>c2 r (A+O) z l;have et:=AI (b0 x Ay);have ex:=AI λl=>b0 x Ay (Eq.symm l);have cu:(K.map λQ=>[Q]).length=U rl:=by rw[BV,C.len]
    have dj:(K.map λQ=>[Q]).take (U rl)=K.map λQ=>[Q]:=Bi (by rw[cu];exact D4 _);generalize ar:(K.map λQ=>[Q])=es at*;replace ar:=AB ar;replace C:=AB C;clear c2 b0 c0;by_cases c1:U d.rules=0
    .skip
     (repeat' (first|simp only[*,go_sem,AM,D2,DO,BA]|(refine sx ?_ ?_<;>intro az)|refine sy z λa4 a3 L=>?_|simp(disch:=first|assumption|omega) only[Ae,Dd]))
     refine GK λD q=>bl.1 (_,_) ⟨bv.1 D .emp _ ?_ ?_ (.inl ⟨.inr rfl,by rw[c1];rfl⟩) Ay (λo M=>by cases M) (λj a5 a6 c3=>?_) z⟩
     .rw[q];simp only[go_sem]
     .rw[q,Ap,ar.1];simp only[go_sem,ad,AM]
     .exact zBQ
    .have en:0<U d.rules:=z;have er:(0:Int)<U d.rules:=z
     (repeat' (first|simp only[*,go_sem,AM,D2,DO,BA]|(refine sx ?_ ?_<;>intro az)|refine sy z λa4 a3 L=>?_|simp(disch:=first|assumption|omega) only[Ae,Dd]))
     refine GK λD q=>bl.1 (_,_) ⟨bv.1 D (.ii (1::(A+18)::b) 0 (U d.rules)) _ ?_ ?_ (.inr ⟨_,by rw[HU],?_⟩) Ay (bx.1 _) (λj a5 a6 c3=>?_) z⟩
     .rw[q];simp only[go_sem]
     .rw[q,Ap,ar.1];simp only[go_sem,ad,AM]
     .rw[q];simp only[go_sem,ad,dr,DO,BA,AM]
     .exact zBQ
  .rintro av ⟨c5,A⟩ c' ej cn;have⟨hb2,⟨P,K,C,T⟩,ac,hp2⟩:=cn.1;dsimp only at hb2 C T ac hp2;have b6:=c'.1;rw[b6,<-cq.1,F3]at C;refine mY ?_ C T ac b6;clear C T ac b6;intro C T ac b6;clear hp1 hp2
   (repeat' (first|simp only[*,go_sem,AM]|(refine sx ?_ ?_<;>intro az)|refine sy z λa4 a3 L=>?_|simp(disch:=first|assumption|omega) only[Ae]))
   refine⟨rfl,Y,P,K,C.1,λj k=>?_,λj V v=>ac.1 j V (λl=>v (by simp[l])) λm=>v (By _ m)⟩;rcases Ac.1 k with k|k
   .rcases R.1 j k with m|⟨t,L,rfl⟩
    .grind
    .exact .inr ⟨Ao [1,t],_,rfl⟩
   .rcases T.1 j k with m|⟨t,L,_,rfl⟩
    .grind
    .exact .inr ⟨Ao [1,t],_,rfl⟩
end
def sf:Au->Bool
 |.int .i64 _=>X|_=>Z
structure qY(es:List (Au×y))(f:Nat->Nat):Prop:=
 get:∀k:Nat,Bs es (.int .i64 k)=J (if f k=0 then I else J (nI (f k)))
 key:es.all (λq=>sf q.1)=X
def mc:qY [] λ_=>0:=⟨λk=>rfl,rfl⟩
def Vk(a e:Int)(h:y):∀{f:List (Au×y)},f.all (λo=>sf o.1)=X->Bs (CW f (.int .i64 e) h) (.int .i64 a)=if e=a then J (J h)else Bs f (.int .i64 a)
 |[],_=>by
  rw[CW,Bs,Bs];simp only[Et,IP];by_cases b:e=a
  .simp[b]
  .simp[b,beq_eq_false_iff_ne.2 b];rw[Bs]
 |(k,w)::f,b=>by
  rw[EX,As]at b;obtain⟨i,l⟩:=b;have m:=Vk a e h l;cases k with
  |int n g=>
   cases n with
   |i64=>
    rw[CW];simp only[Et,IP];by_cases j:g=e
    .subst j;simp only[beq_self_eq_true,Bs,Et,IP];by_cases c:g=a
     .simp[c]
     .simp[c,beq_eq_false_iff_ne.2 c]
    .simp only[beq_eq_false_iff_ne.2 j,Bs,Et,IP];by_cases c:g=a
     .simp[c];intro p;omega
     .simp only[beq_eq_false_iff_ne.2 c];exact m
   |_=>simp[sf]at i
  |_=>simp[sf]at i
theorem AFh{c:Int}{e:y}:∀{b:List (Au×y)},b.all (λa=>sf a.1)=X->(CW b (.int .i64 c) e).all (λa=>sf a.1)=X
 :=by intro f;induction f<;>grind [CW,sf]
theorem qY.set{f:List (Au×y)}{c g:Nat->Nat}(e:qY f c){b:Nat}{h:Int}(k:h=((c b+1:Nat):Int))(j:∀a,g a=c a+if b=a then 1 else 0):qY (CW f (.int .i64 (b:Int)) (nI h)) g:=by
 refine⟨λa=>?_,AFh e.key⟩;rw[Vk _ _ _ e.key,j a];by_cases i:b=a
 .grind
 .rw[Co z,Co i,e.get a];rfl
theorem yx(d:Bc)(g:Az)(C:Nat)(c:Int):∀l:Al,JW d g C (l++[c])=JW d g C l+if (g.own d X c).toNat=C then 1 else 0
 :=by intro x;induction x<;>grind [JW]
theorem jW(d:Bc)(g:Az)(C:Nat):∀l:Al,JW d g C l<=(U l)
 :=by intro x;induction x<;>grind [JW]
section
variable{p:Aa}{g:S}{B:u}{s:BP}{jp:Al}{f:List Al}{b e:y}{c:List y}
theorem Dw.incR(h:Dw g B s jp f b e c){n:Nat}{v l':Al}{j:u}{H:Nat}(x:f[n]?=J v)(p:c[n]?=J (.ii j 0 H))(i:U l'=U v):Dw (g.put j (.f9 1 (l'.map AX))) B s jp (f.set n l') b e c:=by
 have A:=h.nd;have w:j∈Ab c:=DS (AP p) Ay;rw[Ii,D0]at A;obtain⟨L,Q,C,M⟩:=A;rw[D0]at C;obtain⟨R,N,T⟩:=C;have q:∀k,k≠j->(g.put j (.f9 1 (l'.map AX))).get k=g.get k:=λk l=>BW _ _ λi=>l i;refine⟨?_,?_,?_,by rw[LC];exact h.len,λk O K l o=>?_,h.nd⟩
 .rw[q B λi=>L (Ac.2 (.inr (Ac.2 (.inr (i▸w)))))];exact h.box
 .rcases h.jp with a|⟨m,a,r⟩
  .exact .inl a
  .refine .inr ⟨m,a,?_⟩;rw[q m λi=>M m (by rw[a];simp[AE]) j (Ac.2 (.inr w)) i];exact r
 .rw[LC];rcases h.rx with a|⟨m,a,r⟩
  .exact .inl a
  grind [AE]
 .by_cases t:n=k
  .subst t;rw[F7,D3 rfl,D3 (l_ x)]at o;cases o;rw[p]at l;cases l;rcases h.each n _ v p x with⟨a|a,_⟩|⟨m,a,r⟩
   .cases a
   .cases a
   .cases a;exact .inr ⟨j,by rw[i],by rw[p_,is_self];rfl⟩
  .rw[F7,Co t]at o;exact(h.each k O K l o).mono λP F=>q P λD=>t (YH N p l Ay (D▸F))
theorem Dw.incC(a:Dw g B s jp f b e c){h:u}{C:Nat}(x:b=.ii h 0 C){m:Al}(j:U m=U jp):Dw (g.put h (.f9 1 (m.map AX))) B s m f b e c:=by
 have p:=a.nd;have o:h∈AE b:=by rw[x];simp[AE]
 rw[Ii,D0]at p;obtain⟨F,L,M,H⟩:=p;have n:∀i,i≠h->(g.put h (.f9 1 (m.map AX))).get i=g.get i:=λi l=>BW _ _ λj=>l j;refine⟨?_,?_,?_,a.len,λi K D l w=>?_,a.nd⟩
 .rw[n B λj=>F (Ac.2 (.inl (j▸o)))];exact a.box
 .rcases a.jp with⟨k,_⟩|⟨r,k,v⟩
  .grind
  grind [p_,is_self]
 .rcases a.rx with k|⟨r,k,v⟩
  .exact .inl k
  grind [AE]
 .exact(a.each i K D l w).mono λq A=>n q λt=>H h o q (Ac.2 (.inr (DS (AP l) A))) t.symm
theorem Dw.setS{G:S}{i:BP}(a:Dw g B s jp f b e c)(m:G.get B=J (.box [.d (.co (i.be.map CZ)),.d (.co (i.bv.map CY)),.d (.co (i.ac.map Fg)),.d (.co (i.waits.map Bf)),b,e]))(n:∀j∈AE b++(AE e++Ab c),G.get j=g.get j):Dw G B i jp f b e c:=by
 refine⟨m,?_,?_,a.len,λr v t k p=>(a.each r v t k p).mono λj o=>n j (by simp[DS (AP k) o]),a.nd⟩
 .rcases a.jp with h|⟨q,h,l⟩
  .exact .inl h
  grind [AE]
 .rcases a.rx with h|⟨q,h,l⟩
  .exact .inl h
  grind [AE]
end
theorem yj(a:Nat)(b:CN)(c:S)(f:Nat)(e:u)(ci:Option u)(h:Bool)(g:Nat):Ff cfg ⟨104,e,Z,ci,h,g⟩ a ⟨b,c,f,[]⟩=Ij cfg 104 e a b c:=zC8
attribute [go_sem 2000] yj
def PH(e:S)(f:Nat)(c:y)(a:List (List Au)):Prop:=(a=[]/\c=.d8)\/(a≠ []/\∃b,c=.ii b 0 (U a)/\e.get b=J (.f9 f a))
variable{g:S}{k:Nat}{v:y}{j:List (List Au)}
def Nj(a:PH g k v j):PF g k v j:=by
 rcases a with⟨rfl,rfl⟩|⟨_,c,rfl,b⟩
 .exact zB8
 .exact .inr ⟨c,[],rfl,by rw[b,CS]⟩
theorem FT(b:PH g k v j){a:u}(c:a∈AE v):v=.ii a 0 (U j)/\g.get a=J (.f9 k j):=by
 rcases b with⟨rfl,rfl⟩|⟨_,f,rfl,e⟩
 .cases c
 grind [AE]
def UA(a:PH g k v j):(AE v).length<=1:=by rcases a with⟨rfl,rfl⟩|⟨_,c,rfl,b⟩<;>simp[AE]
variable{H:S}
theorem Fo(b:PH g k v j)(f:∀a∈AE v,H.get a=g.get a):PH H k v j:=by
 rcases b with b|⟨c,a,rfl,e⟩
 .exact .inl b
 .exact .inr ⟨c,a,rfl,by grind [AE]⟩
theorem UB{o:u}{e:S}{f:CN}{c:u->Option u}{n:Nat}(i:QA o H f c e n)(g:PH H k v j)(m:∀a∈AE v,∃b,c a=J b):PH e k (ren c v) j/\∀b∈AE (ren c v),∃a∈AE v,c a=J b:=by
 rcases g with⟨rfl,rfl⟩|⟨h,a,rfl,l⟩
 .exact⟨.inl ⟨rfl,by simp[ren]⟩,by simp[ren,AE]⟩
 .have⟨b,hz⟩:=m a Ay;refine⟨.inr ⟨h,b,by simp[ren,hz],?_⟩,λq p=>⟨a,Ay,?_⟩⟩
  .have:=i.get a b _ hz l;simpa[EO]using this
  grind [ren,AE]
def KP(B a O:u)(v1 c e v4:y)(b:List (List y)):List u:=B::a::O::(AE v1++AE c++AE e++AE v4++b.flatMap Ab)
variable{b:List (List y)}
theorem Bl{B c O:u}{v1 e f v4:y}{a:u}:a∈KP B c O v1 e f v4 b↔a=B\/a=c\/a=O\/a∈AE v1\/a∈AE e\/a∈AE f\/a∈AE v4\/a∈b.flatMap Ab:=by grind [KP]
def hS(g:S)(v:y)(b:List (List y)):Prop:=(b=[]/\v=.d8)\/(b≠ []/\∃A,v=.ii A 0 (U b)/\g.get A=J (.arr 4 b))
def iq(e:hS g v b):CH g v b:=by
 rcases e with⟨a,c⟩|⟨_,A,a,c⟩
 .exact .inl ⟨c,a⟩
 .exact .inr ⟨A,a,c⟩
structure Z3(cs:List Au)(s:BP)(ng nc nw:Nat)(B R O:u)(v1 v2 v3 v4:y)(rows:List (List y))(g:S):Prop:=
 bx:g.get B=J (.box (cs.map .d))
 res:g.get R=J (.box [.d8,.d8,.d8,.d8])
 out:g.get O=J (.box [v1,v2,v3,v4])
 s0:PH g 2 v1 (s.be.map CZ)
 s1:PH g 3 v2 ((s.bv.take ng).map CY)
 arr:hS g v3 rows
 rep:IW g rows (s.ac.take nc)
 s2:PH g 3 v4 ((s.waits.take nw).map Bf)
 gw:∀id∈AE v2,id∉AE v4
 ro:R≠O
 bo:B≠O
structure qN(π:u)(cs:List Au)(s:BP)(ng nc nw:Nat)(B R O:u)(v1 v2 v3 v4:y)(rows:List (List y))(g:S)(b:Nat):Prop:=
 cp:Z3 cs s ng nc nw B R O v1 v2 v3 v4 rows g
 nm:∀id∈KP B R O v1 v2 v3 v4 rows,HP π b id
 own:∀id,AD π id=Z->g.get id=I
structure lH:=
 B:u
 R:u
 O:u
 v1:y
 v2:y
 v3:y
 v4:y
 rows:List (List y)
 g:S
 b:Nat
section
variable{m:List Au}{s:BP}{o l p:Nat}{B R O:u}{v1 i f v4:y}{h:List (List y)}{g H r:S}{t:u}{e:CN}{b:u->Option u}{n:Nat}
theorem Z3.arrg(b:Z3 m s o l p B R O v1 i f v4 h g){a:u}(c:a∈AE f):f=.ii a 0 (U h)/\g.get a=J (.arr 4 h):=by
 rcases b.arr with⟨_,rfl⟩|⟨_,A,rfl,e⟩
 .cases c
 grind [AE]
def Z3.chv(a:Z3 m s o l p B R O v1 i f v4 h g):CH g f h:=iq a.arr
theorem Z3.closed(c:Z3 m s o l p B R O v1 i f v4 h g):∀e∈KP B R O v1 i f v4 h,∀j∈Cl (g.get e),j∈KP B R O v1 i f v4 h:=λe b j a=>by
 rcases Bl.1 b with rfl|rfl|rfl|b|b|b|b|b
 .rw[c.bx]at a;simp[Cl,YJ]at a
 .rw[c.res]at a;simp[Cl,Ab,AE]at a
 .rw[c.out]at a;grind [Cl,Ab,Bl]
 .rw[(FT c.s0 b).2]at a;cases a
 .rw[(FT c.s1 b).2]at a;cases a
 .rw[(c.arrg b).2]at a;grind [Bl,Cl]
 .rw[(FT c.s2 b).2]at a;cases a
 .have⟨q,hq⟩:=Hz c.rep b;rw[hq]at a;cases a
theorem Z3.small(b:Z3 m s o l p B R O v1 i f v4 h g)(a:U s.ac<=60):(KP B R O v1 i f v4 h).length<=67:=by
 have c:=UA b.s0;have e:=UA b.s1;have k:=UA b.s2;have n:=jR b.rep;have q:=b.rep.len;have j:(AE f).length<=1:=by rcases b.arr with⟨_,rfl⟩|⟨_,A,rfl,r⟩<;>simp[AE]
 grind [KP]
theorem Z3.ren(w:Z3 m s o l p B R O v1 i f v4 h H)(g:QA t H e b r n)(a3:B∈CV e)(a':R∈CV e)(a6:O∈CV e):∃D F C,b B=J D/\b R=J F/\b O=J C/\qN t m s o l p D F C (ren b v1) (ren b i) (ren b f) (ren b v4) (h.map (Dn b)) r n/\∀a∈KP D F C (ren b v1) (ren b i) (ren b f) (ren b v4) (h.map (Dn b)),∃x∈KP B R O v1 i f v4 h,b x=J a:=by
 have⟨D,hB'⟩:=g.env B a3;have⟨F,hR'⟩:=g.env R a';have⟨C,hO'⟩:=g.env O a6;have L:∀id∈Ab [v1,i,f,v4],∃a,b id=J a:=λid j=>g.deep O C hO' id (by rw[w.out];exact j);simp[Ab]at L;have⟨a1,b1⟩:=UB g w.s0 λid j=>L id (.inl j);have⟨a2,b2⟩:=UB g w.s1 λid j=>L id (.inr (.inl j));have⟨a4,b4⟩:=UB g w.s2 λid j=>L id (.inr (.inr (.inr j)));have ac:∀id∈h.flatMap Ab,∃a,b id=J a:=by
  rcases w.arr with⟨rfl,_⟩|⟨_,A,rfl,M⟩
  .intro id j;cases j
  .have⟨a,k⟩:=L A Ay;exactλid j=>g.deep A a k id (by rw[M];exact j)
 have⟨a5,b5⟩:=jS g w.rep ac;have ar:hS r (Go.Abs.ren b f) (h.map (Dn b))/\∀a∈AE (Go.Abs.ren b f),∃id∈AE f,b id=J a:=by
  rcases w.arr with⟨rfl,rfl⟩|⟨av,A,rfl,M⟩
  .exact⟨.inl ⟨rfl,by simp[Go.Abs.ren]⟩,by simp[Go.Abs.ren,AE]⟩
  .have⟨a,k⟩:=L A Ay;refine⟨.inr ⟨by simpa using av,a,by simp[Go.Abs.ren,k],?_⟩,λT ad=>⟨A,Ay,?_⟩⟩
   .have:=g.get A a _ k M;simpa[EO]using this
   grind [Go.Abs.ren,AE]
 have bi:∀a∈(h.map (Dn b)).flatMap Ab,∃x∈h.flatMap Ab,b x=J a:=λa k=>by
  have⟨q,hq⟩:=Hz a5 k;have⟨x,hx⟩:=g.only a _ hq;refine⟨x,?_,hx⟩;have⟨r',hr',hz'⟩:=BI.1 k;obtain⟨Y,W,rfl⟩:=Ex.1 hr';refine BI.2 ⟨Y,W,?_⟩;have key:∀K:List y,(∀id∈Ab K,∃a,b id=J a)->(∀v∈K,(∃d,v=.d d)\/v=.d8\/∃id ag,v=.ii id 0 ag)->a∈Ab (Dn b K)->x∈Ab K:=by
   intro K;induction K with
   |nil=>grind [Dn,Ab]
   |cons v K be=>
    intro aa P k;simp[Dn,Ab]at k⊢;rcases k with k|k
    .refine .inl ?_;rcases P v AG with⟨d,rfl⟩|rfl|⟨id,ag,rfl⟩
     .grind [Go.Abs.ren,AE]
     .grind [Go.Abs.ren,AE]
     .have⟨z2,hz2⟩:=aa id (by simp[Ab,AE]);simp[Go.Abs.ren,hz2,AE]at k;subst k;rw[g.inj x id a hx hz2];simp[AE]
    .exact .inr (be (λid j=>aa id (by simp[Ab,j])) (λai V=>P ai (By _ V)) k)
  refine key Y (λid j=>ac id (BI.2 ⟨Y,W,j⟩)) (λv P=>?_) hz';obtain⟨Q,N⟩:=Ci W;have bc:=(BE.1 N).1;have⟨c,hc⟩:=g_ (l:=s.ac.take l) (i:=Q) (by rw[<-w.rep.len];exact bc);have⟨ai,V,hq⟩:=w.rep.row Q c hc;rw[N]at V;cases V;simp[B7]at P;rcases P with rfl|rfl|rfl|rfl
  .exact .inl ⟨_,rfl⟩
  .exact .inl ⟨_,rfl⟩
  .exact .inl ⟨_,rfl⟩
  .rcases hq with⟨_,rfl⟩|⟨_,id,rfl,_⟩
   .exact .inr (.inl rfl)
   grind
 have all:∀a∈KP D F C (Go.Abs.ren b v1) (Go.Abs.ren b i) (Go.Abs.ren b f) (Go.Abs.ren b v4) (h.map (Dn b)),∃x∈KP B R O v1 i f v4 h,b x=J a:=λa k=>by grind [Bl]
 refine⟨D,F,C,hB',hR',hO',⟨⟨?_,?_,?_,a1,a2,ar.1,a5,a4,λid az a0=>?_,λe=>?_,λe=>?_⟩,λid j=>?_,λid bk=>?_⟩,all⟩
 .have:=g.get B D _ hB' w.bx;grind [EO,ot]
 .have:=g.get R F _ hR' w.res;exact BZ
 .have:=g.get O C _ hO' w.out;exact BZ
 .have⟨x,q1,q2⟩:=b2 id az;have⟨T,q3,q4⟩:=b4 id a0;rw[g.inj x T id q2 q4]at q1;exact w.gw T q1 q3
 .rw[e]at hR';exact w.ro (g.inj R O C hR' hO')
 .rw[e]at hB';exact w.bo (g.inj B O C hB' hO')
 .have⟨x,_,hx⟩:=all id j;obtain⟨Q,N,rfl⟩:=g.name x id hx;exact⟨_,Q,N,rfl⟩
 .rcases M:r.get id with _|bh
  .rfl
  .have⟨T,ad⟩:=g.only id bh M;obtain⟨Q,N,rfl⟩:=g.name T id ad;grind [VM]
end
structure APQ:=
 a:lH
 Y:u
 vq:y
section
variable{h:List Au}{s:BP}{i m n o b:Nat}{B R O A Q:u}{v1 f e v4:y}{c:List (List y)}{g H:S}{l:u}
theorem qN.group(w:qN l h s i m n B R O v1 f e v4 c g b)(L:H.get O=J (.box [v1,.ii A 0 (i+1),e,v4]))(Q:i<U s.bv)(K:H.get A=J (.f9 3 ((s.bv.take (i+1)).map CY)))(M:¬HP l b A)(D:∀a,HP l b a->a≠O->a∉AE f->H.get a=g.get a):Z3 h s (i+1) m n B R O v1 (.ii A 0 (i+1)) e v4 c H:=by
 have k:=w.cp;have x:((s.bv.take (i+1)).map CY).length=i+1:=zDL
 have F:∀a∈KP B R O v1 f e v4 c,∀t,g.get a=J t->a≠O->(∀j,t≠ .f9 3 j)->H.get a=g.get a:=λa o t v r C=>D a (w.nm a o) r λp=>by rw[(FT k.s1 p).2]at v;exact C _ (Kw v).symm
 have N:∀a t,g.get a=J t->(∀h,t≠ .box h)->a≠O:=λa t v r p=>by rw[p,k.out]at v;exact r _ (Kw v).symm
 have T:∀a∈KP B R O v1 f e v4 c,a≠A:=λa o p=>M (p▸w.nm a o);refine⟨?_,?_,L,Fo k.s0 λa o=>?_,.inr ⟨λp=>by rw[p]at x;simp at x,A,by rw[x],K⟩,?_,Im k.rep λa o=>?_,Fo k.s2 λa o=>?_,λa r C=>?_,k.ro,k.bo⟩
 .rw[F B zCS _ k.bx k.bo AG];exact k.bx
 .rw[F R zCS _ k.res k.ro AG];exact k.res
 .have:=(FT k.s0 o).2;grind [Bl]
 .exact zBr
 .have⟨q,hq⟩:=Hz k.rep o;grind [Bl]
 .have:=(FT k.s2 o).2;exact D a (w.nm a (Bl.2 (by simp[o]))) (N a _ this AG) λp=>k.gw a p o
 grind [AE,Bl]
theorem qN.wait(w:qN l h s o m i B R O v1 f e v4 c g b)(L:H.get O=J (.box [v1,f,e,.ii A 0 (i+1)]))(Q:i<U s.waits)(K:H.get A=J (.f9 3 ((s.waits.take (i+1)).map Bf)))(M:¬HP l b A)(D:∀a,HP l b a->a≠O->a∉AE v4->H.get a=g.get a):Z3 h s o m (i+1) B R O v1 f e (.ii A 0 (i+1)) c H:=by
 have k:=w.cp;have x:((s.waits.take (i+1)).map Bf).length=i+1:=zDL
 have F:∀a∈KP B R O v1 f e v4 c,∀t,g.get a=J t->a≠O->(∀j,t≠ .f9 3 j)->H.get a=g.get a:=λa n t v r C=>D a (w.nm a n) r λp=>by rw[(FT k.s2 p).2]at v;exact C _ (Kw v).symm
 have N:∀a t,g.get a=J t->(∀h,t≠ .box h)->a≠O:=λa t v r p=>by rw[p,k.out]at v;exact r _ (Kw v).symm
 have T:∀a∈KP B R O v1 f e v4 c,a≠A:=λa n p=>M (p▸w.nm a n);refine⟨?_,?_,L,Fo k.s0 λa n=>?_,Fo k.s1 λa n=>?_,?_,Im k.rep λa n=>?_,.inr ⟨λp=>by rw[p]at x;simp at x,A,by rw[x],K⟩,λa r C=>?_,k.ro,k.bo⟩
 .rw[F B zCS _ k.bx k.bo AG];exact k.bx
 .rw[F R zCS _ k.res k.ro AG];exact k.res
 .have:=(FT k.s0 n).2;grind [Bl]
 .have:=(FT k.s1 n).2;exact D a (w.nm a (Bl.2 (by simp[n]))) (N a _ this AG) λp=>k.gw a n p
 .exact zBr
 .have⟨q,hq⟩:=Hz k.rep n;grind [Bl]
 grind [AE,Bl]
theorem Z3.pm(a:Z3 h s o m n B R O v1 f e v4 c g)(j:∀b∈KP B R O v1 f e v4 c,H.get b=g.get b):Z3 h s o m n B R O v1 f e v4 c H:=by
 refine⟨(j B zCS).trans a.bx,(j R zCS).trans a.res,(j O zCS).trans a.out,Fo a.s0 λb i=>j b (Bl.2 (by simp[i])),Fo a.s1 λb i=>j b (Bl.2 (by simp[i])),?_,Im a.rep λb i=>j b (Bl.2 (.inr (.inr (.inr (.inr (.inr (.inr (.inr i)))))))),Fo a.s2 λb i=>j b (Bl.2 (by simp[i])),a.gw,a.ro,a.bo⟩;rcases a.arr with k|⟨k,AW,rfl,l⟩
 .exact .inl k
 .exact .inr ⟨k,AW,rfl,by grind [Bl,AE]⟩
theorem qN.chan{r:Fc}{vq:y}(x:qN l h s o i n B R O v1 f e v4 c g b)(M:s.ac[i]?=J r)(L:H.get O=J (.box [v1,f,.ii A 0 (i+1),v4]))(K:H.get A=J (.arr 4 (c++[B7 r vq])))(C:lQ H vq r.queue)(N:∀a∈AE vq,a∉c.flatMap Ab)(P:∀a,HP l b a->a≠O->a∉AE e->H.get a=g.get a):Z3 h s o (i+1) n B R O v1 f (.ii A 0 (i+1)) v4 (c++[B7 r vq]) H:=by
 have k:=x.cp;have T:=(BE.1 M).1;have Q:U c=i:=by rw[k.rep.len,F5];omega
 have D:∀a∈KP B R O v1 f e v4 c,∀p,g.get a=J p->a≠O->(∀j,p≠ .arr 4 j)->H.get a=g.get a:=λa m p t w F=>P a (x.nm a m) w λv=>by rw[(k.arrg v).2]at t;exact F _ (Kw t).symm
 have V:∀a p,g.get a=J p->(∀h,p≠ .box h)->a≠O:=λa p t w v=>by rw[v,k.out]at t;exact w _ (Kw t).symm
 refine⟨?_,?_,L,Fo k.s0 λa m=>?_,Fo k.s1 λa m=>?_,.inr ⟨AG,A,by simp[Q],K⟩,?_,Fo k.s2 λa m=>?_,k.gw,k.ro,k.bo⟩
 .rw[D B zCS _ k.bx k.bo AG];exact k.bx
 .rw[D R zCS _ k.res k.ro AG];exact k.res
 .have:=(FT k.s0 m).2;grind [Bl]
 .have:=(FT k.s1 m).2;grind [Bl]
 .rw[show s.ac.take (i+1)=s.ac.take i++[r] by grind [List.take_add_one]];refine jQ (Im k.rep λa m=>?_) C N;have⟨q,C⟩:=Hz k.rep m;grind [Bl]
 .have:=(FT k.s2 m).2;grind [Bl]
structure vk(π:u)(s:BP)(v1 v2 v3 v4:y)(rows:List (List y))(g:S):Prop:=
 s0:PH g 2 v1 (s.be.map CZ)
 s1:PH g 3 v2 (s.bv.map CY)
 arr:hS g v3 rows
 rep:IW g rows s.ac
 s2:PH g 3 v4 (s.waits.map Bf)
 cp:qM π s v1 v2 v3 v4 rows g
theorem qN.post(o:qN l h s (U s.bv) (U s.ac) (U s.waits) B R O v1 f e v4 c g b)(r:List y):vk l s v1 f e v4 c (g.put R (.box r)):=by
 have m:=o.cp;have F:∀x C,g.get x=J C->(∀h,C≠ .box h)->(g.put R (.box r)).get x=g.get x:=λx C L P=>by rw[p_,AI λD=>by rw[<-D,m.res]at L;exact P _ (Kw L).symm];rfl
 have p:∀{k:Nat} {v:y} {j:List (List Au)},PH g k v j->PH (g.put R (.box r)) k v j:=λo=>Fo o λa i=>F a _ (FT o i).2 AG;have N:∀a,a∈KP B R O v1 f e v4 c->AD l a=true:=λa i=>by obtain⟨T,Q,_,rfl⟩:=o.nm a i;exact VM _ _ _
 have n:=m.s1;have t:=m.s2;have w:=m.rep;rw[F3]at n t w;have K:=Im w λa i=>by have⟨q,hq⟩:=Hz w i;exact F a _ hq AG
 have H:hS (g.put R (.box r)) e c:=by
  rcases m.arr with n|⟨M,A,n,t⟩
  .exact .inl n
  .exact .inr ⟨M,A,n,by grind⟩
 refine⟨p m.s0,p n,H,K,p t,Nj (p m.s0),Nj (p n),Nj (p t),iq H,AL6 K,w.diff,m.gw,λa i=>N a (Bl.2 ?_),λa i=>?_⟩
 .grind
 .rw[p_,AI λD=>by grind [KP]];exact o.own a i
end
variable{K:Af}{e:Fr}{f c:Nat}{Q:DZ->St->Prop}{b B R O:u}{cs:List Au}{s:BP}{v1 v2 v3 v4:y}{rows:List (List y)}{H:S}
theorem AL8{q:Nat}{A:Code}{v t w:Nat}{E:CN}(i:CN)(C:Lq E (cfg.live q c)=i) (m:Z3 cs s v t w B R O v1 v2 v3 v4 rows H) (a:U s.ac<=60) (o:∀h,h∈CV i↔h=B\/h=R\/h=O)(D:∀g j l k v1 v2 v3 v4 rows r p,g B=J j->g R=J l->g O=J k->qN b cs s v t w j l k v1 v2 v3 v4 rows r p->WH cfg K e f A ⟨i.map λx=>(x.1,ren g x.2),r,p,[]⟩ Q):WH cfg K e f A (Ij cfg q b c E H) Q:=by
 rw[GL,C];have F:=m.small a;have⟨g,h',n,hc,hnM,hR⟩:=J6 b H i (KP B R O v1 v2 v3 v4 rows) z (λh L=>by grind [Bl]) m.closed
 rw[hc];have⟨j,l,k,q1,q2,q3,q4,_⟩:=m.ren hR ((o B).2 (.inl rfl)) ((o R).2 (.inr (.inl rfl))) ((o O).2 (.inr (.inr rfl)));exact D g _ _ _ _ _ _ _ _ h' n q1 q2 q3 q4
variable{i:Int}
def Fv{j:Code}{ng nc nw:Nat}{E:CN}{k:Nat}(m:Lq E (cfg.live 104 c)=[(1,.ptr B 0),(2,.ptr R 0),(3,.ptr O 0),(k,nI i)]) (l:Z3 cs s ng nc nw B R O v1 v2 v3 v4 rows H) (a:U s.ac<=60)(n:∀B R O v1 v2 v3 v4 rows h g,qN b cs s ng nc nw B R O v1 v2 v3 v4 rows h g->WH cfg K e f j ⟨[(1,.ptr B 0),(2,.ptr R 0),(3,.ptr O 0),(k,nI i)],h,g,[]⟩ Q):WH cfg K e f j (Ij cfg 104 b c E H) Q:=AL8 _ m l a zCf λt _ _ _ _ _ _ _ _ h g o p q r=>by have:=n _ _ _ _ _ _ _ _ h g r;simpa[ren,Dn,o,p,q]using this
structure y4(π:u)(cs:List Au)(s:BP)(ng nc nw:Nat)(c:Fc)(k:Nat)(B R O Y:u)(v1 v2 v3 v4 vq:y)(rows:List (List y))(g:S)(b:Nat):Prop:=
 n:qN π cs s ng nc nw B R O v1 v2 v3 v4 rows g b
 q:g.get Y=J (.box [nI c.group,nI c.index,nI c.at_,vq])
 qs:PH g 1 vq ((c.queue.take k).map Ct)
 qn:HP π b Y
 yn:Y∉KP B R O v1 v2 v3 v4 rows
 qv:∀id∈AE vq,HP π b id/\id∉KP B R O v1 v2 v3 v4 rows
theorem Pc{h:Code}{ng nc nw:Nat}{c:Fc}{m:Nat}{Y:u}{vq:y}{E:CN}{k:Int}(C:Lq E (cfg.live 104 4)=[(1,.ptr B 0),(2,.ptr R 0),(3,.ptr O 0),(5,nI i),(6,.ptr Y 0),(7,nI k)]) (q:Z3 cs s ng nc nw B R O v1 v2 v3 v4 rows H) (M:H.get Y=J (.box [nI c.group,nI c.index,nI c.at_,vq])) (t:PH H 1 vq ((c.queue.take m).map Ct)) (g:Y∉KP B R O v1 v2 v3 v4 rows) (D:∀j∈AE vq,j∉KP B R O v1 v2 v3 v4 rows) (a:U s.ac<=60)(L:∀B R O Y v1 v2 v3 v4 vq rows w v,y4 b cs s ng nc nw c m B R O Y v1 v2 v3 v4 vq rows w v->WH cfg K e f h ⟨[(1,.ptr B 0),(2,.ptr R 0),(3,.ptr O 0),(5,nI i),(6,.ptr Y 0),(7,nI k)],w,v,[]⟩ Q):WH cfg K e f h (Ij cfg 104 b 4 E H) Q:=by
 rw[GL,C];have T:=q.small a;have P:=UA t;have⟨ν,h',n,hc,hnM,hR⟩:=J6 b H [(1,.ptr B 0),(2,.ptr R 0),(3,.ptr O 0),(5,nI i),(6,.ptr Y 0),(7,nI k)] (Y::(AE vq++KP B R O v1 v2 v3 v4 rows)) zCN (by
  intro l g;simp[CV,AE,Ab]at g;grind [Bl]) (by
  intro l g o p;simp at g⊢;rcases g with rfl|g|g
  .grind [Cl,Ab,AE]
  .rw[(FT t g).2]at p;cases p
  .exact .inr (.inr (q.closed l g o p)))
 rw[hc];have⟨B',R',O',q1,q2,q3,q4,q5⟩:=q.ren hR zCf zCf zCf;have⟨Y',hY⟩:=hR.env Y zCf;have⟨a1,b1⟩:=UB hR t λj x=>hR.deep Y Y' hY j zDJ;have A:∀h o,ν h=J o->HP b n o:=λh o p=>by obtain⟨N,F,rfl⟩:=hR.name h o p;exact⟨_,N,F,rfl⟩
 have:=L _ _ _ Y' _ _ _ _ (ren ν vq) _ h' n ⟨q4,by
  have:=hR.get Y Y' _ hY M;grind [EO,Dn,ren],a1,A _ _ hY,λr=>by
  have⟨l,h3,h4⟩:=q5 Y' r;exact g (hR.inj Y l Y' hY h4▸h3),λj x=>by
  have⟨h,h1,h2⟩:=b1 j x;refine⟨A _ _ h2,λr=>?_⟩;have⟨l,h3,h4⟩:=q5 j r;exact D h h1 (hR.inj h l j h2 h4▸h3)⟩
 simpa[ren,Dn,q1,q2,q3,hY]using this
end Go.Proofs
namespace Go.Abs
variable{g:G}{s n:Nat}{c:List (List Au)}
def cw{a:u}(p:g a=J (.f9 s c)){e b f:Option y}{l r:Nat}{m:Option Nat}(t:Fu e b f n=J (l,r,m))(w:r<=(U c))(v:m.getD r<=(U c))(q:0<U c):GR g .slice s (.ii a 0 n) e b f=m.elim (J (.ii a l (r-l))) λm=>if m=l then J .emp else J .undef:=by
 show Oh g s a 0 (Fu e b f n)=_;rw[t];simp only[Oh,p,ee,I9];have i:Nat.beq s s=true:=Nat.beq_refl s;have j:Nat.ble (m.getD r) (U c)=true:=Pm v;have k:Nat.ble r (U c)=true:=Pm w;have o:Nat.blt 0 (U c)=true:=by rw[RD];exact q
 rw[i,j,k,o];rcases m with _|m
 .rfl
 .simp only[Bool.and_self,WX];by_cases h:m=l<;>simp[h]
def slice_lo{b:u}(f:g b=J (.f9 s c)){a:Int}(h:0<=a)(i:a<=n)(e:n<=(U c))(j:0<U c):GR g .slice s (.ii b 0 n) (J (nI a)) I I=J (.ii b a.toNat (n-a.toNat)):=by rw[cw f (l:=a.toNat) (r:=n) (m:=I) (by simp[Fu,Jg,Kb,h,i]) e e j];rfl
def slice_hi{a:u}(e:g a=J (.f9 s c)){b:Int}(f:0<=b)(i:b<=(U c))(h:0<U c):GR g .slice s (.ii a 0 n) I (J (nI b)) I=J (.ii a 0 b.toNat):=by rw[cw e (l:=0) (r:=b.toNat) (m:=I) (by simp[Fu,Jg,Kb,f]) z BL h];rfl
variable{sz:Nat}
def AIH(a:List (List Au))(k:a≠ [])(i:∀b∈a,U b=sz)(m:0<sz)(n:U a<=1000000)(g:G)(e:u)(c:TI)(j:c.mix=Z)(h:c.size=sz):UK g e c .d8 (J (a.map λl=>l.map y.d))=J ⟨.ii (1::e) 0 (U a),[(1::e,.f9 sz a)]⟩:=by rw[UM g e c .d8 a z (λb f=>by rw[h];exact i b f) k zCq,XN,Vp g e c a j z (λb f=>by rw[h];exact i b f) zCq,h]
def il{id:u}(c a:List (List Au))(j:a≠ [])(m:∀e∈a,U e=sz)(p:0<sz)(q:U c+U a<=1000000)(n:Nat)(f:n=U c)(g:G)(b:u)(h:TI)(i:h.size=sz)(k:g id=J (.f9 sz c)):UK g b h (.ii id 0 n) (J (a.map λo=>o.map y.d))=J ⟨.ii (1::b) 0 (n+U a),[(id,.rt 0 []),(1::b,.f9 sz (c++a))]⟩:=by
 have l:C0 c (0+n) a=none:=by unfold C0;rw[Co];have:0<U a:=List.length_pos_iff.2 j;omega
 rw[UM g b h _ a z (λe f=>by rw[i];exact m e f) j zCq,aK,k,aJ,D3 ⟨i.symm,z⟩,ic,Ry,P0,aI,cH,D3 rfl,l,XM,D3 ⟨rfl,by simp[BO];omega⟩,f,F3];rfl
def AL7(g:G)(a:u)(c n:Nat):Option TI->Option C3
 |some b=>Qe g a c n b|none=>I
theorem jV(g:G)(a:u)(c n:Nat)(b:TI):AL7 g a c n (J b)=Qe g a c n b:=rfl
attribute [go_sem] jV
end Go.Abs
namespace Go.Proofs
open Abs Tryz
def BS(a:Aa)(b:Bool)(V:MV)(c:Int):List y:=[.d (.co (a.free.map CB)),.d (.co (a.nodes.map Bg)),.d (.co (a.defs.map Br)),nI a.main,V.s 0,V.s 1,V.v3,V.s 2,V.s 3,nI c,.d (.bool (b))]
abbrev XC(p:Aa):=Gf (BS p Z) Z
def KT(g:Aa)(h:u)(c:u)(V:MV)(f:S):Option C5->BC->S->Prop
 |some j,e,a=>e=.ret (.kw [])/\Ns (BS g Z) Z (AD h) c V f j a|none,e,a=>e=.ret (.kw [])/\(∃i k,a.get c=J (.box (BS g X i k)))/\∀b,b∉V.ids c->AD h b=Z->a.get b=f.get b
def ADE(a:List C4)(i:¬(U a)=0)(l:U a<=1000000):∀(e:G) (c:u) (b:TI),b.mix=Z->b.size=2->UK e c b .emp (J ((a.map A9).map λh=>h.map y.d))=J ⟨.ii (1::c) 0 (U a),[(1::c,.f9 2 (a.map A9))]⟩:=by
 intro e c b k g;have:=WV e c b (a.map A9) k z (λf j=>by obtain⟨h,_,rfl⟩:=Ex.1 j;rw[g];rfl) (λf=>i (by rw[D6.1 f];rfl)) zCq
 rw[this,BV,g]
def KF(b:u)(a:List C4):BC×S:=if (U a)=0 then(.ret .emp,[])else(.ret (.ii (1::3::b) 0 (U a)),[(1::3::b,.f9 2 (a.map A9))])
def GJ(a:List C4)(f:U a<=1000000)(c:Nat)(e:u):Bk kT 145 [.d (.co (a.map A9))] (c::e)=.ok (KF (c::e) a):=by
 by_cases b:U a=0
 .rw[KF,D3 b];obtain rfl:=CI b;refine BH func145 ?_;exact au
 .rw[KF,Co b];have ap:=ADE a b f;have fa:=Gl;refine BH func145 ?_;exact au
def mF(a:HK->C5->Option C5)(b:HK)(c:C5):EY a [b] c=a b c:=by simp only[EY];cases a b c<;>rfl
def Oz(h:y)(i:u)(f:S)(e:Nat)(c:y)(L:List C4):Prop:=(L=[]/\c=h)\/∃a,c=.ii a 0 (U L)/\f.get a=J (.f9 2 (L.map A9))/\∃b,b<e/\AD (b::i) a=X/\∃g,a=1::g
abbrev p3:=Oz .d8
def HL(c n:Nat):List C4:=(List.range' c n).map λ(i:Nat)=>⟨3,(i:Int)⟩
def Mz(c n:Nat):List C4:=(List.range' c n).map λ(i:Nat)=>⟨4,(i:Int)⟩
def jN(c n:Nat):HL c (n+1)=HL c n++[⟨3,((c+n:Nat):Int)⟩]:=by simp[HL,List.range'_1_concat]
def pZ(c n:Nat):Mz c (n+1)=Mz c n++[⟨4,((c+n:Nat):Int)⟩]:=by simp[Mz,List.range'_1_concat]
variable{c v:y}{a:u}{g:S}{b b':Nat}{L:List C4}
def TN(e:Oz c a g b v L)(m:b<=b'):Oz c a g b' v L:=by
 rcases e with e|⟨j,f,h,k,l,i⟩
 .exact .inl e
 .exact .inr ⟨j,f,h,k,z,i⟩
def GA{a:u}{b j:Nat}{f:u}(m:j<b)(l:AD (j::a) f=X)(k:∃g,f=1::g):(∀e c,b<=c->AJ (e::c::a) f=Z)/\(∀e c,b<=c->AJ f (e::c::a)=Z)/\(∀g,AJ (0::g) f=Z)/\(∀g,AJ f (0::g)=Z):=by
 have key:∀e c,b<=c->e::c::a≠f:=λe c h i=>by subst i;have:=Bw l (n':=c) (under_iff.2 ⟨[e],rfl⟩);omega
 obtain⟨n,rfl⟩:=k;exact⟨λe c h=>AI (key e c h),λe c h=>AI λi=>key e c h i.symm,λg=>AI AG,λg=>AI AG⟩
variable{n:Nat}
def Qp{e:Nat}(i:n<b)(h:e=U L)(f:g.get (1::n::a)=J (.f9 2 (L.map A9))):Oz c a g b (.ii (1::n::a) 0 e) L:=.inr ⟨_,by rw[h],f,n,i,under_iff.2 ⟨[1],rfl⟩,_,rfl⟩
def R7{c:y}{a:u}{g:S}{b:Nat}{v:y}{L:List C4}(h:Oz c a g b v L)(b':Nat)(k:AE c=[]:=by rfl):∀f∈AE v,E6 b b' a f=false:=by
 rcases h with⟨_,rfl⟩|⟨l,rfl,_,n,i,j,_⟩
 .intro f e;rw[k]at e;cases e
 .intro f e;simp only[AE,AS]at e;subst e;exact Ta i j
def AFY{c:y}{a:u}{g:S}{b:Nat}{v:y}{L:List C4}(i:Oz c a g b v L){V:MV}{h:u}(k:Di a V h)(m:AE c=[]:=by rfl):∀f∈AE v,f∉V.ids h:=by
 rcases i with⟨_,rfl⟩|⟨p,rfl,_,n,o,j,_⟩
 .intro f e;rw[m]at e;cases e
 .intro f e l;simp only[AE,AS]at e;subst e;have:=k _ l;rw[Bq j]at this;cases this
def RJ(c:y)(a:u)(g:S)(b:Nat)(v:y)(L:List C4):Prop:=(L=[]/\v=c)\/∃e,v=.ii e 0 (U L)/\g.get e=J (.rt 2 (L.map A9))/\∃n,n<b/\AD (n::a) e=X/\∃f,e=1::f
def Ud{f:S}(e:RJ c a g b v L)(l:∀h∈AE v,f.get h=g.get h):RJ c a f b v L:=by
 rcases e with e|⟨i,rfl,j,k⟩
 .exact .inl e
 .exact .inr ⟨i,rfl,by rw[l i Ay];exact j,k⟩
def kB{c:y}{a:u}{g:S}{b:Nat}{v:y}{L:List C4}(k:RJ c a g b v L)(i h:Nat)(p:b<=h)(m:AE c=[]:=by rfl):∀f∈AE v,AJ (i::h::a) f=false:=by
 rcases k with⟨_,rfl⟩|⟨q,rfl,_,n,o,l,_⟩
 .intro f e;rw[m]at e;cases e
 .intro f e;simp only[AE,AS]at e;subst e;refine AI λj=>?_;subst j;have:=Bw l (n':=h) (under_iff.2 ⟨[i],rfl⟩);omega
def Jj{c:y}{a:u}{g:S}{b n:Nat}{v:y}{L:List C4}(h:RJ c a g b v L)(l:b<=n)(j:AE c=[]:=by rfl):∀f∈AE v,AD (n::a) f=false:=by
 rcases h with⟨_,rfl⟩|⟨m,rfl,_,o,k,i,_⟩
 .intro f e;rw[j]at e;cases e
 .intro f e;simp only[AE,AS]at e;subst e;rcases hx:AD (n::a) f with _|_
  .rfl
  .have:=Bw i hx;omega
def AGS{x:CF}(h:DM x.op=J (U x.kids)):x.op=1\/x.op=2\/x.op=3\/x.op=4\/x.op=5\/x.op=6\/x.op=7\/x.op=8:=by
 unfold DM at h;repeat (split at h;· omega)
 cases h
def jo(b:HK->C5->Option C5)(a:Option C5):Rn b (a.map λc=>(c,[]))=a:=zCl
structure dh(B:MV->Int->List y)(cc:Bool)(p:Aa)(sz:Al)(π:u)(m:u)(V:MV)(h:S)(st:C5)(d:Bc)(g:Az)(r:C6)(t:Al)(j b:Nat)(v:y)(H:S)(V':MV)(s':BP)(L:List C4):Prop:=
 run:B8 B cc π m V h b V' ⟨s',st.ev,0⟩ H
 env:p3 π H b v L
 out:∀i∈AE v,i∉V'.ids m
 ne:L=[]->v=.d8
 wd:E0 p sz s'
 all:BX d g r.d7 t st.eq=(L++(BX d g (r.d7.drop j) (t.drop j) s').1,(BX d g (r.d7.drop j) (t.drop j) s').2)
 bv:s'.bv=st.eq.bv
 be:s'.be=st.eq.be
 nc:U s'.ac=U st.eq.ac
 rest:∀(i:Nat) c k,j<=i->r.d7[i]?=J c->t[i]?=J k->0<=k/\∃q,s'.ac[(g.own d X c).toNat]?=J q/\k.toNat<U q.queue/\(U q.queue)<=12/\Ea p s' q=((d.ac[c.toNat]?).map HJ.many).getD 0
 len:U L<=30*j
variable{p:Aa}{k:Al}{q:Fc}{e:Nat}{f:List C4}
def xK{b:BP}{d:Bc}{c:Int}(i:VS d)(o:E0 p k b)(m:b.ac[n]?=J q)(l:q.queue[e]?=J f)(j:Ea p b q=((d.ac[c.toNat]?).map HJ.many).getD 0):U f<=3:=by
 have a:=(o.que _ q m).msgs f (AP l);simp only[P1,As,Dl]at a;rw[j]at a;rcases hc:d.ac[c.toNat]? with _|g
 .rw[hc]at a;simp only[Option.map_none,Option.getD_none]at a;omega
 .rw[hc]at a;have r:=(i.chan g (AP hc)).2.2;have h:=a.1;simp only[Gt,F9]at h;omega
variable{B:MV->Int->List y}{i:Bool}{m:u}{V c:MV}{h H:S}{j:C5}
def B8.oth(l:B8 B i a m V h b c j g){n:u}(r:n∉c.ids m)(s:AD a n=X)(o:∀e,e≠n->H.get e=g.get e):B8 B i a m V h b c j H:=⟨Fi l.rep λe q=>o e λf=>r (f▸q),l.ids,λe p k=>by rw[o e λf=>by rw[f,s]at k;cases k];exact l.frame e p k⟩
def B8.new(o:Di a V m)(l:B8 B i a m V h b c j g)(e n:Nat)(k:b<=n):e::n::a∉c.ids m:=λf=>by have:=GB (b':=0) o (l.ids _ f) e n k;rw[is_self]at this;cases this
def og{d:Bc}{g:Az}{F:C6}{R:Al}{w:Nat}{s:BP}(r:dh B i p k a m V h j d g F R w b v H c s L)(be:Di a V m)(a2:VS d){o:Int}{A:u}{Q:y}(a1:F.d7[w]?=J o)(a5:R[w]?=J (e:Int))(C:s.ac[(g.own d X o).toNat]?=J q)(P:q.queue[e]?=J f)(a':Ea p s q=((d.ac[o.toNat]?).map HJ.many).getD 0)(av:c.v3=.ii A 0 (U c.rows)) (bc:c.rows[(g.own d X o).toNat]?=J (B7 q Q)) (a3:∀l t,w<l->F.d7[l]?=J t->(g.own d X t).toNat≠(g.own d X o).toNat) {b1:Nat} (a0:b1<=b') (K x:y) (M G:S) (D:B8 B i a m V h b1 c ⟨s,j.ev,0⟩ M) (ad:G.get m=M.get m) (ac:G.get A=J (.arr 4 (c.rows.set (g.own d X o).toNat (B7 q x)))) (az:SY i 2 G 1 x ((BF q.queue e).map Ct)) (ag:AE x=AE Q\/∀n∈AE x,E6 b1 b' a n=X/\∃bk,n=1::bk)(ai:∀n,AJ m n=Z->AJ A n=Z->(∀l∈AE Q,AJ l n=Z)->E6 b1 b' a n=Z->G.get n=M.get n) (a4:p3 a G b' K (L++f)) (Y:∀l∈AE K,l∉c.ids m/\E6 b1 b' a l=Z) (bh:L++f=[]->K=.d8):∃N bl aa,dh B i p k a m V h j d g F R (w+1) b' K G N bl aa:=by
 have a6:=l_ P;have⟨N,z1,z2⟩:=D.step (b':=b') a0 (Y1 D.rep (D.apartB be) av C bc (BF q.queue e) x G (ad.trans D.rep.box) ac az ag ai);have⟨t1,t2,t3,t4,t5⟩:=px r.wd C (k:=e) (by simpa using a6);have T:EI s (g.own d X o) e=(f,{s with ac:=s.ac.set (g.own d X o).toNat {q with queue:=BF q.queue e}}):=by rw[EI,C];simp[P]
 rw[T]at t1 t2 t3 t4 t5;have bn:=xK a2 r.wd C P a';refine⟨N,_,L++f,z1,a4,λl O=>z2 l (Y l O).1 (Y l O).2,bh,t1,?_,t2.bv.trans r.bv,t2.be.trans r.be,t2.len.trans r.nc,λl t bi O W ar=>?_,by have:=r.len;rw[D1];omega⟩
 .rw[r.all,Aq a1,Aq a5,BX,T,F1]
 .have⟨f1,q2,f2,f3,f4,f5⟩:=r.rest l t bi z W ar;refine⟨f1,q2,by rw[t5 _ (a3 l t z W)];exact f2,f3,f4,?_⟩;rw[<-f5,Ea,Ea,t2.bv]
def AHF(d:Bc)(g:Az)(a:Al)(b:BP):BX d g [] a b=([],b):=by rw[BX];intro e f h a c;cases c
end Go.Proofs
namespace Go.Abs
end Go.Abs
namespace Go.Proofs
open Abs Tryz
structure qO(h:S)(π:u)(m bx B2:u)(L:List CD):Prop:=
 gb:h.get bx=J (.box [.ptr m 0])
 gm:∃x1 x2 x3 x4 x5 x6 x7 x8 x9 x10 x11 x12,h.get m=J (.box [.ii B2 0 (U L),x1,x2,x3,x4,x5,x6,x7,x8,x9,x10,x11,x12])
 gS:∃B0,h.get B2=J (.f9 2 (L.map CZ++B0))
 ub:AD π bx=Z
 um:AD π m=Z
 uS:AD π B2=Z
def qO.up{i j:S}{h k:u}{g c B2:u}{L:List CD}(a:qO i h g c B2 L)(e:∀b,AD h b=Z->b=c\/b=g\/b=B2->j.get b=i.get b)(f:∀b,AD h b=Z->AD k b=Z):qO j k g c B2 L:=by
 refine⟨(e _ a.ub AG).trans a.gb,?_,?_,f _ a.ub,f _ a.um,f _ a.uS⟩
 .rw[e _ a.um AG];exact a.gm
 .rw[e _ a.uS AG];exact a.gS
end Go.Proofs
namespace Go.Proofs
open Abs Tryz
def pR{e:Type}{a:List e}{b:Nat}{c:e}(f:a[b]?=J c):a.set b c=a:=by obtain⟨g,h⟩:=BE.1 f;rw[<-h];exact List.set_getElem_self g
end Go.Proofs
namespace Go.Abs
end Go.Abs
namespace Go.Proofs
open Abs Tryz
end Go.Proofs
namespace Go.Abs
def oi(b:u)(e:Au)(c:y)(a:List (Au×y)):Option (Option y)->Option C3
 |some _=>J ⟨.undef,[(b,.map (CW a e c))]⟩|none=>I
def xJ(b:u)(a:Au)(c:y):Option Obj->Option C3
 |some (.map es)=>oi b a c es (Bs es a)|_=>I
def n5(b:Au)(a:y)(c:u)(f:Option Obj):Option TI->Option C3
 |some e=>if (Kj e.kind b&&a.inMap)=X then xJ c b a f else I|none=>I
def AAv(e:TypeId->Option TI)(f:G)(a:TI)(b:u)(c:Au)(g:y)(i:a.kind=.map):mapPut e f (J a) (.mp b) (.d c) g=n5 c g b (f b) (e a.key):=by
 unfold mapPut;simp only[RP,i];rcases e a.key with _|j
 .rfl
 .simp only[n5];rcases Kj j.kind c&&g.inMap with _|_
  .rfl
  .simp only[IP];rcases f b with _|k
   .rfl
   .cases k with|map h=>simp only[xJ];cases Bs h c<;>rfl|_=>rfl
theorem tT(b:Au)(a:y)(c:u)(f:Option Obj)(e:TI):n5 b a c f (J e)=if (Kj e.kind b&&a.inMap)=X then xJ c b a f else none:=rfl
theorem ABG(c:u)(b:Au)(e:y)(a:List (Au×y)):xJ c b e (J (.map a))=oi c b e a (Bs a b):=rfl
theorem tS(b:u)(e:Au)(c:y)(a:List (Au×y))(f:Option y):oi b e c a (J f)=J ⟨.undef,[(b,.map (CW a e c))]⟩:=rfl
theorem tE(x:Au)(v:y):CW [] x v=[(x,v)]:=rfl
attribute [go_sem] AAv tT ABG tS tE
end Go.Abs
namespace Go.Proofs
open Abs Tryz
end Go.Proofs
namespace Go.Proofs
open Abs Tryz
def aj(v1 e f v4 g:y)(a:u)(c:List (List y)):MV:=⟨λb=>match b with|0=>v1|1=>e|2=>v4|_=>.d8,f,g,a,c⟩
variable{g:S}{sz:Nat}{v:y}{a:List (List Au)}
def DF(h:PF g sz v a):v.isCell=X/\v.cells=[v]:=by rcases h with⟨rfl,_⟩|⟨_,_,rfl,_⟩<;>exact⟨rfl,rfl⟩
variable{rows:List (List y)}
def Lj(h:CH g v rows):v.isCell=X/\v.cells=[v]:=by rcases h with⟨rfl,_⟩|⟨_,rfl,_⟩<;>exact⟨rfl,rfl⟩
def xZ{f:Type}(a e:List f)(b:Nat)(c:b=U a):Kd (a++e) 0 b=J a:=by subst c;unfold Kd;rw[D3 AG];simp
def kg(b:PF g sz v a):Fq g.get v=J (.co a):=by
 rcases b with⟨rfl,rfl⟩|⟨f,e,rfl,c⟩
 .rfl
 .simp only[Fq,c,xZ a e _ rfl,Gt]
def S5(b:PF g sz v a):Ds g.get v=J (.co a):=by
 have c:=kg b;rcases b with⟨rfl,rfl⟩|⟨f,h,rfl,e⟩
 .rfl
 .simp only[Ds,e];exact c
def AEd(b:PF g sz v a):FA g.get v=J (.d (.co a)):=by
 have c:=S5 b;rcases b with⟨rfl,rfl⟩|⟨f,h,rfl,e⟩
 .rfl
 .simp only[FA,c,Gt]
def QJ(h:UF g sz v a):v.isCell=X/\v.cells=[v]:=by
 rcases h with h|⟨rfl,_⟩
 .exact DF h
 .exact⟨rfl,rfl⟩
def AEi(h:UF g sz v a):Fq g.get v=J (.co a):=by
 rcases h with h|⟨rfl,rfl⟩
 .exact kg h
 .rfl
def S6(h:UF g sz v a):Ds g.get v=J (.co a):=by
 rcases h with h|⟨rfl,rfl⟩
 .exact S5 h
 .rfl
def bL{g:S}:∀{rows:List (List y)} {l:List Fc},U rows=U l->(∀(c:Nat) (a:Fc),l[c]?=J a->∃v,rows[c]?=J (B7 a v)/\UF g 1 v (a.queue.map Ct))->EC g.get rows=J (l.map Fg)
 |[],[],_,_=>rfl|[],_::_,b,_=>by cases b|_::_,[],b,_=>by cases b|r::rows,a::l,b,hr=>by
  have⟨v,h1,h2⟩:=hr 0 a rfl;simp only[Hm,F4]at h1;subst h1;have j:=bL (rows:=rows) (l:=l) (by simpa using b) λc a i=>by have:=hr (c+1) a zCd;simpa using this
  have f:=AEi h2;have h:ER g.get (B7 a v)=J (Fg a):=by simp only[B7,ER,f,show∀e,Fq g.get (.d e)=J e fromλ_=>rfl,Fg]
  simp only[EC,h,j,Bv]
def kn{h:Bool}{a:List Fc}(i:CH g v rows)(c:qL h g rows a):Ds g.get v=J (.co (a.map Fg)):=by
 have b:=bL c.len λm f l=>by obtain⟨v,b,j⟩:=c.row m f l;exact⟨v,b,ZI j⟩
 have e:=c.len;rcases i with⟨rfl,rfl⟩|⟨n,rfl,k⟩
 .rcases a with _|⟨f,a⟩
  .rfl
  .cases e
 .have:=xZ (a.map Fg) [] (U rows) (by rw[BV,e]);rw[CS]at this;simp only[Ds,k,b,this,Gt]
theorem yP{h:Type}{f:h->List Au}(j:∀e,(f e).length=sz)(l:0<sz)(a:List h)(i:¬(U a)=0)(k:U a<=1000000):∀(g:G) (c:u) (b:TI),b.mix=Z->b.size=sz->UK g c b .emp (J ((a.map f).map λe=>e.map y.d))=J ⟨.ii (1::c) 0 (U a),[(1::c,.f9 sz (a.map f))]⟩:=by grind [WV,List.map_eq_nil_iff,BO]
variable{b:Nat}
theorem Ek{c e a:Nat}{f:u}(h:b<=a):¬HP (c::f) b (e::a::c::f):=λg=>by have:=(A7 g e a h).1;grind [is_self]
theorem ADw(r:BP)(t:r.Fits)(cc:¬(U r.be)=0)(k:Nat)(p:u):∃ch,Bk kT 104 [.agg (sC r)] (k::p)=.ok ch/\∃v1 v2 v3 v4 rows g,ch=(.ret (.agg [v1,v2,v3,v4]),g)/\vk (k::p) r v1 v2 v3 v4 rows g:=by
 have ap:=yP (f:=CZ) (sz:=2) (λ_=>rfl) Ad r.be cc t.be;replace t:=AB t;refine W7 func104 ?_;refine aw (Fv (cs:=Xr r) (ng:=0) (nc:=0) (nw:=0) (B:=0::0::k::p) (R:=0::1::k::p) (O:=0::7::k::p) (v1:=.ii (1::5::k::p) 0 (U r.be)) (v2:=.d8) (v3:=.d8) (v4:=.d8) (rows:=[]) (k:=4) (i:=0) ?_ ⟨?_,?_,?_,.inr ⟨λf=>cc (by grind [List.map_eq_nil_iff]),1::5::k::p,by rw[BV],?_⟩,.inl ⟨rfl,rfl⟩,.inl ⟨rfl,rfl⟩,⟨rfl,AG,AG⟩,.inl ⟨rfl,rfl⟩,Ay,AG,AG⟩ t.out.ac λB R O v1 v2 v3 v4 rows g b w=>?_)
 .simp only[go_sem]
 .exact zAm
 .simp only[go_sem]
 .simp only[go_sem]
 .simp only[go_sem]
 refine Ah r.bv (B2:=λi (a:lH)=>⟨[(1,.ptr a.B 0),(2,.ptr a.R 0),(3,.ptr a.O 0),(4,nI i)],a.g,a.b,[]⟩)
  (Inv:=λi b8 a=>AR (qN (k::p) (Xr r) r i 0 0 a.B a.R a.O a.v1 a.v2 a.v3 a.v4 a.rows a.g a.b)) (b0:=⟨B,R,O,v1,v2,v3,v4,rows,g,b⟩) ⟨w⟩ ?_ ?_
 .clear w;rintro i Q ⟨B,R,O,v1,v2,v3,v4,rows,g,b⟩ a3 a0 a6 e H;dsimp only at*;have w:=e.out.cp;have a2:g.get B=J (.box (sC r)):=w.bx;have a4:=w.out;have ag:=λk p=>GJ Q.env (t.out.group Q (AP a3)) k p;have fa:=Gl;have b9:TC.wrap ((i:Int)+1)=(i:Int)+1:=w_ z (by have:=t.out.bv;omega);have bl:=w.s1;have q:=e.out.nm;have ai:=λm h l=>(A7 (q O zCS) m h l).1;have ar:=λm h l=>(A7 (q O zCS) m h l).2;have b7:=λa c d=>(CJ (q O zCS) [a,c,d] AG).2;have a1:=λa c d=>(CJ (q O zCS) [a,c,d] AG).1;have be:=λa c d=>(CJ (q B zCS) [a,c,d] AG).2;simp only[F6,DL]at b7 a1 be;have F:AR (r.bv.take (i+1)=r.bv.take i++[Q]):=⟨by grind [List.take_add_one]⟩;have M:(r.bv.take i).length=i:=by rw[F5];omega
  replace q:=AB q;replace w:=AB w;rcases bl with⟨s,rfl⟩|⟨s,x,rfl,bc⟩
  .have N:i=0:=by rw[D6.1 s]at M;exact M.symm
   replace N:=AB N;have a5:=AR.mk (D6.1 s);clear s M;by_cases C:U Q.env=0
   .simp only[KF,D3 C]at ag;have L:=CI C;replace L:=AB L;refine aw (Fv (ng:=i+1) (nc:=0) (nw:=0) (k:=4) ?_ (e.out.group (A:=1::(b+28)::k::p) ?_ z ?_ (Ek z) λj n D K=>?_) t.out.ac λB R O v1 v2 v3 v4 rows g b v=>H.out ⟨B,R,O,v1,v2,v3,v4,rows,g,b⟩ ⟨v⟩)
    .exact zAm
    .rw[N.out];exact BZ
    .simp only[go_sem,ai,ar,a1,AM];rw[F.out,a5.out];grind [CY]
    .have T:=(A7 n 1 (b+27) z).1;have aa:=(A7 n 1 (b+28) z).1;exact zBe
   .simp only[KF,Co C]at ag;refine aw (Fv (ng:=i+1) (nc:=0) (nw:=0) (k:=4) ?_ (e.out.group (A:=1::(b+28)::k::p) ?_ z ?_ (Ek z) λj n D K=>?_) t.out.ac λB R O v1 v2 v3 v4 rows g b v=>H.out ⟨B,R,O,v1,v2,v3,v4,rows,g,b⟩ ⟨v⟩)
    .exact zAm
    .rw[N.out];exact BZ
    .simp only[go_sem,ai,ar,a1,AM];rw[F.out,a5.out];rfl
    .exact zA7
  .have⟨G1,az⟩:=Cv (r.bv.take i);rw[<-az]at bc s M F a4;rw[BV,M]at a4;have b5:¬i=0:=λf=>s zCN;have cl:WA i (G1.map CY)=G1.map CY:=Bi zC6;replace az:=AB az;have nI:=λm h l=>(A7 (q.out x (Bl.2 Ay)) m h l).1;have cd:=λm h l=>(A7 (q.out x (Bl.2 Ay)) m h l).2;have bh:=λa c d=>(CJ (q.out x (Bl.2 Ay)) [a,c,d] AG).2;have bi:=λa c d=>(CJ (q.out x (Bl.2 Ay)) [a,c,d] AG).1;simp only[F6,DL]at bh bi;have IO:AJ x O=false:=AI λf=>by grind
   have cm:AJ O x=false:=AI λf=>by grind
   replace s:=AB s;have b6:i+1<=BO:=by have:=t.out.bv;unfold BO;omega
   by_cases C:U Q.env=0
   .simp only[KF,D3 C]at ag;have L:=CI C;replace L:=AB L;refine aw (Fv (ng:=i+1) (nc:=0) (nw:=0) (k:=4) ?_ (e.out.group (A:=1::(b+28)::k::p) ?_ z ?_ (Ek z) λj n D K=>?_) t.out.ac λB R O v1 v2 v3 v4 rows g b v=>H.out ⟨B,R,O,v1,v2,v3,v4,rows,g,b⟩ ⟨v⟩)
    .exact zAm
    .exact BZ
    .simp only[go_sem,ai,ar,a1,AM];rw[F.out,Ap];grind [CY]
    .exact zAI
   .simp only[KF,Co C]at ag;refine aw (Fv (ng:=i+1) (nc:=0) (nw:=0) (k:=4) ?_ (e.out.group (A:=1::(b+28)::k::p) ?_ z ?_ (Ek z) λj n D K=>?_) t.out.ac λB R O v1 v2 v3 v4 rows g b v=>H.out ⟨B,R,O,v1,v2,v3,v4,rows,g,b⟩ ⟨v⟩)
    .exact zAm
    .exact BZ
    .simp only[go_sem,ai,ar,a1,AM];rw[F.out,Ap];rfl
    .exact zAI
 .clear w;rintro i ⟨B,R,O,v1,v2,v3,v4,rows,g,b⟩ a0 a6 e;dsimp only at*;have a2:g.get B=J (.box (sC r)):=e.out.cp.bx;obtain rfl:=a0.out;clear a0;refine aw (Fv (k:=5) (i:=0) (nc:=0) (nw:=0) ?_ e.out.cp t.out.ac λB R O v1 v2 v3 v4 rows g b w=>?_)
  .simp only[go_sem]
  clear e a2 a6;have⟨ng,bo⟩:=Cv (U r.bv);rw[<-bo]at w;replace bo:=AB bo;refine Ah r.ac (B2:=λi (a:lH)=>⟨[(1,.ptr a.B 0),(2,.ptr a.R 0),(3,.ptr a.O 0),(5,nI i)],a.g,a.b,[]⟩)
   (Inv:=λi b8 a=>AR (qN (k::p) (Xr r) r ng i 0 a.B a.R a.O a.v1 a.v2 a.v3 a.v4 a.rows a.g a.b)) (b0:=⟨B,R,O,v1,v2,v3,v4,rows,g,b⟩) ⟨w⟩ ?_ ?_
  .clear w;rintro i c ⟨B,R,O,v1,v2,v3,v4,rows,g,b⟩ a3 a0 a6 e H;dsimp only at*;have a2:g.get B=J (.box (sC r)):=e.out.cp.bx;have q:=AB e.out.nm;have c2:=λm h l=>(A7 (q.out B zCS) m h l).1;have c3:=λm h l=>(A7 (q.out B zCS) m h l).2;have⟨hq1,b2⟩:=t.out.chan c (AP a3);replace b2:=AB b2;refine aw ?_;have bx:=λ{j} (o:j∈KP B R O v1 v2 v3 v4 rows)=>e.out.nm j o;refine Pc (c:=c) (m:=0) (i:=i) (k:=0) (ng:=ng) (nc:=i) (nw:=0) (vq:=.d8) (Y:=0::(b+24)::k::p) ?_ (e.out.cp.pm λj o=>?_) ?_ (.inl ⟨AG,rfl⟩) (λo=>Ek z (bx o)) (λj o=>by cases o) t.out.ac λB R O Y v1 v2 v3 v4 vq rows g b w=>?_
   .simp only[go_sem]
   .have T:=(A7 (bx o) 0 (b+24) z).1;exact BZ
   .simp only[go_sem]
   clear bx c2 c3 q a2 e;refine Ah c.queue (B2:=λh (a:APQ)=>⟨[(1,.ptr a.a.B 0),(2,.ptr a.a.R 0),(3,.ptr a.a.O 0),(5,nI i),(6,.ptr a.Y 0),(7,nI h)],a.a.g,a.a.b,[]⟩)
    (Inv:=λh b8 a=>AR (y4 (k::p) (Xr r) r ng i 0 c h a.a.B a.a.R a.a.O a.Y a.a.v1 a.a.v2 a.a.v3 a.a.v4 a.vq a.a.rows a.a.g a.a.b)) (b0:=⟨⟨B,R,O,v1,v2,v3,v4,rows,g,b⟩,Y,vq⟩) ⟨w⟩ ?_ ?_
   .clear w;rintro h Q ⟨⟨B,R,O,v1,v2,v3,v4,rows,g,b⟩,Y,vq⟩ c1 l c0 e H;dsimp only at*;have a2:g.get B=J (.box (sC r)):=e.out.n.cp.bx;have b0:=e.out.q;have ag:=λk p=>GJ Q (b2.out Q (AP c1)) k p;have fa:=Gl;have b9:TC.wrap ((h:Int)+1)=(h:Int)+1:=w_ z z;have bl:=e.out.qs;have q:=e.out.n.nm;have bs:=λm h l=>(A7 e.out.qn m h l).1;have bv:=λm h l=>(A7 e.out.qn m h l).2;have c6:=λa c d=>(CJ e.out.qn [a,c,d] AG).2;have bk:=λa c d=>(CJ e.out.qn [a,c,d] AG).1;have be:=λa c d=>(CJ (q B zCS) [a,c,d] AG).2;simp only[F6,DL]at c6 bk be;have F:AR (c.queue.take (h+1)=c.queue.take h++[Q]):=⟨by grind [List.take_add_one]⟩;have M:(c.queue.take h).length=h:=by rw[F5];omega
    replace q:=AB q;rcases bl with⟨s,rfl⟩|⟨s,x,rfl,bc⟩
    .have N:h=0:=by rw[D6.1 s]at M;exact M.symm
     replace N:=AB N;have a5:=AR.mk (D6.1 s);clear s M;by_cases C:U Q=0
     .simp only[KF,D3 C]at ag;have L:=CI C;replace L:=AB L;refine aw ?_;refine Pc (c:=c) (m:=h+1) (ng:=ng) (nc:=i) (nw:=0) (vq:=.ii (1::(b+24)::k::p) 0 (h+1)) (Y:=Y) ?_ (e.out.n.cp.pm λj o=>?_) ?_ (.inr ⟨by rw[F.out];simp,1::(b+24)::k::p,by grind,?_⟩) e.out.yn (λj o=>?_) t.out.ac λB R O Y v1 v2 v3 v4 vq rows g b v=>H.out ⟨⟨B,R,O,v1,v2,v3,v4,rows,g,b⟩,Y,vq⟩ ⟨v⟩
      .exact zAm
      .have av:=e.out.n.nm j o;have T:=(A7 av 1 (b+23) z).1;have aa:=(A7 av 1 (b+24) z).1;have ac:=AI (λf:Y=j=>e.out.yn (f▸o));exact BZ
      .rw[N.out];exact BZ
      .simp only[go_sem,bs,bv,bk,AM];rw[F.out,a5.out];grind [Ct]
      .exact zAu
     .simp only[KF,Co C]at ag;refine aw ?_;refine Pc (c:=c) (m:=h+1) (ng:=ng) (nc:=i) (nw:=0) (vq:=.ii (1::(b+24)::k::p) 0 (h+1)) (Y:=Y) ?_ (e.out.n.cp.pm λj o=>?_) ?_ (.inr ⟨by rw[F.out];simp,1::(b+24)::k::p,by grind,?_⟩) e.out.yn (λj o=>?_) t.out.ac λB R O Y v1 v2 v3 v4 vq rows g b v=>H.out ⟨⟨B,R,O,v1,v2,v3,v4,rows,g,b⟩,Y,vq⟩ ⟨v⟩
      .exact zAm
      .have av:=e.out.n.nm j o;have T:=(A7 av 1 (b+23) z).1;have aa:=(A7 av 1 (b+24) z).1;have ac:=AI (λf:Y=j=>e.out.yn (f▸o));have P:=(CJ av [1,3,b+21] AG).1;simp only[F6,DL]at P;exact BZ
      .rw[N.out];exact BZ
      .simp only[go_sem,bs,bv,bk,AM];rw[F.out,a5.out];rfl
      .exact zAu
    .have⟨G1,az⟩:=Cv (c.queue.take h);rw[<-az]at bc s M F b0;rw[BV,M]at b0;have b5:¬h=0:=λf=>s zCN;have cl:WA h (G1.map Ct)=G1.map Ct:=Bi zC6;replace az:=AB az;have nI:=λm h l=>(A7 (e.out.qv x Ay).1 m h l).1;have cd:=λm h l=>(A7 (e.out.qv x Ay).1 m h l).2;have bh:=λa c d=>(CJ (e.out.qv x Ay).1 [a,c,d] AG).2;have bi:=λa c d=>(CJ (e.out.qv x Ay).1 [a,c,d] AG).1;simp only[F6,DL]at bh bi;have c':AJ x Y=false:=AI λf=>by grind
     have dn:AJ Y x=false:=AI λf=>by grind
     replace s:=AB s;have b6:h+1<=BO:=zCy
     by_cases C:U Q=0
     .simp only[KF,D3 C]at ag;have L:=CI C;replace L:=AB L;refine aw ?_;refine Pc (c:=c) (m:=h+1) (ng:=ng) (nc:=i) (nw:=0) (vq:=.ii (1::(b+24)::k::p) 0 (h+1)) (Y:=Y) ?_ (e.out.n.cp.pm λj o=>?_) ?_ (.inr ⟨by rw[F.out];simp,1::(b+24)::k::p,by grind,?_⟩) e.out.yn (λj o=>?_) t.out.ac λB R O Y v1 v2 v3 v4 vq rows g b v=>H.out ⟨⟨B,R,O,v1,v2,v3,v4,rows,g,b⟩,Y,vq⟩ ⟨v⟩
      .exact zAm
      .exact zAg
      .exact BZ
      .simp only[go_sem,bs,bv,bk,AM];rw[F.out,Ap];grind [Ct]
      .exact zAu
     .simp only[KF,Co C]at ag;refine aw ?_;refine Pc (c:=c) (m:=h+1) (ng:=ng) (nc:=i) (nw:=0) (vq:=.ii (1::(b+24)::k::p) 0 (h+1)) (Y:=Y) ?_ (e.out.n.cp.pm λj o=>?_) ?_ (.inr ⟨by rw[F.out];simp,1::(b+24)::k::p,by grind,?_⟩) e.out.yn (λj o=>?_) t.out.ac λB R O Y v1 v2 v3 v4 vq rows g b v=>H.out ⟨⟨B,R,O,v1,v2,v3,v4,rows,g,b⟩,Y,vq⟩ ⟨v⟩
      .exact zAm
      .exact zAg
      .exact BZ
      .simp only[go_sem,bs,bv,bk,AM];rw[F.out,Ap];rfl
      .exact zAu
   .clear w;rintro h ⟨⟨B,R,O,v1,v2,v3,v4,rows,g,b⟩,Y,vq⟩ l c0 e;dsimp only at*;have a2:g.get B=J (.box (sC r)):=e.out.n.cp.bx;have a4:=e.out.n.cp.out;have b0:=e.out.q;have q:=AB e.out.n.nm;have ai:=λm h l=>(A7 (q.out O zCS) m h l).1;have ar:=λm h l=>(A7 (q.out O zCS) m h l).2;have dq:AJ Y O=false:=AI λf=>e.out.yn (by rw[f];simp[KP]);have de:AJ O Y=false:=AI λf=>e.out.yn (by rw[<-f];simp[KP]);have b4:U rows=i:=by rw[e.out.n.cp.rep.len,F5];omega
    have b9:TC.wrap ((i:Int)+1)=(i:Int)+1:=w_ z (by have:=t.out.ac;omega);have b3:=e.out.qs;have cx:=l.out;subst cx;rw[F3]at b3;have cv:=e.out.n.cp.arr;rcases cv with⟨s,rfl⟩|⟨s,A,rfl,cu⟩
    .have N:=AR.mk (show i=0 by rw[<-b4,s];rfl);replace s:=AB s;rcases b3 with⟨ad,rfl⟩|⟨ad,W,rfl,b'⟩
     .replace ad:=AB ad;refine aw (Fv (ng:=ng) (nc:=i+1) (nw:=0) (k:=5) ?_ (e.out.n.chan (A:=1::(b+13)::k::p) (vq:=.d8) a3 ?_ ?_ ?_ (λj o V=>(e.out.qv j o).2 (Bl.2 (.inr (.inr (.inr (.inr (.inr (.inr (.inr V))))))))) λj n D K=>?_) t.out.ac λB R O v1 v2 v3 v4 rows g b v=>H.out ⟨B,R,O,v1,v2,v3,v4,rows,g,b⟩ ⟨v⟩)
      .exact zAm
      .rw[N.out];exact BZ
      .simp only[go_sem,ai,ar,AM];rw[s.out];rfl
      .exact .inl ⟨by rw[D6.1 ad.out];rfl,rfl⟩
      .have T:=(A7 n 1 (b+12) z).1;have aa:=(A7 n 1 (b+13) z).1;exact zBe
     .have c4:=λm h l=>(A7 (e.out.qv W Ay).1 m h l).1;have c5:=λm h l=>(A7 (e.out.qv W Ay).1 m h l).2;have cq:AJ W Y=false:=AI λf=>by grind
      have cs:AJ Y W=false:=AI λf=>by grind
      have cp:AJ W O=false:=AI λf=>by grind
      have cn:AJ O W=false:=AI λf=>by grind
      replace ad:=AB ad;refine aw (Fv (ng:=ng) (nc:=i+1) (nw:=0) (k:=5) ?_ (e.out.n.chan (A:=1::(b+13)::k::p) (vq:=.ii W 0 (c.queue.map Ct).length) a3 ?_ ?_ ?_ (λj o V=>(e.out.qv j o).2 (Bl.2 (.inr (.inr (.inr (.inr (.inr (.inr (.inr V))))))))) λj n D K=>?_) t.out.ac λB R O v1 v2 v3 v4 rows g b v=>H.out ⟨B,R,O,v1,v2,v3,v4,rows,g,b⟩ ⟨v⟩)
      .exact zAm
      .rw[N.out];exact BZ
      .simp only[go_sem,ai,ar,AM];rw[s.out];rfl
      .refine .inr ⟨λf=>ad.out zCN,W,by rw[BV],?_⟩;exact BZ
      .have T:=(A7 n 1 (b+12) z).1;have aa:=(A7 n 1 (b+13) z).1;exact zBe
    .rw[b4]at a4;have d5:rows.take i=rows:=Bi z;have d4:¬i+1<=i:=z;have b6:i+1<=BO:=by have:=t.out.ac;unfold BO;omega
     have b5:¬i=0:=λf=>s (CI (b4.trans f));have d2:=λm h l=>(A7 (q.out A (Bl.2 Ay)) m h l).1;have d3:=λm h l=>(A7 (q.out A (Bl.2 Ay)) m h l).2;have c7:AJ A O=false:=AI λf=>by grind
     have dc:AJ O A=false:=AI λf=>by grind
     have c9:AJ A Y=false:=AI λf=>by grind
     have dm:AJ Y A=false:=AI λf=>by grind
     replace s:=AB s;rcases b3 with⟨ad,rfl⟩|⟨ad,W,rfl,b'⟩
     .replace ad:=AB ad;refine aw (Fv (ng:=ng) (nc:=i+1) (nw:=0) (k:=5) ?_ (e.out.n.chan (A:=1::(b+13)::k::p) (vq:=.d8) a3 ?_ ?_ ?_ (λj o V=>(e.out.qv j o).2 (Bl.2 (.inr (.inr (.inr (.inr (.inr (.inr (.inr V))))))))) λj n D K=>?_) t.out.ac λB R O v1 v2 v3 v4 rows g b v=>H.out ⟨B,R,O,v1,v2,v3,v4,rows,g,b⟩ ⟨v⟩)
      .exact zAm
      .exact BZ
      .simp only[go_sem,ai,ar,AM];rfl
      .exact .inl ⟨by rw[D6.1 ad.out];rfl,rfl⟩
      .exact zA9
     .have c4:=λm h l=>(A7 (e.out.qv W Ay).1 m h l).1;have c5:=λm h l=>(A7 (e.out.qv W Ay).1 m h l).2;have cq:AJ W Y=false:=AI λf=>by grind
      have cs:AJ Y W=false:=AI λf=>by grind
      have cp:AJ W O=false:=AI λf=>by grind
      have cn:AJ O W=false:=AI λf=>by grind
      replace ad:=AB ad;have c8:AJ A W=false:=RY cu b';have dj:AJ W A=false:=AI λf=>by grind
      refine aw (Fv (ng:=ng) (nc:=i+1) (nw:=0) (k:=5) ?_ (e.out.n.chan (A:=1::(b+13)::k::p) (vq:=.ii W 0 (c.queue.map Ct).length) a3 ?_ ?_ ?_ (λj o V=>(e.out.qv j o).2 (Bl.2 (.inr (.inr (.inr (.inr (.inr (.inr (.inr V))))))))) λj n D K=>?_) t.out.ac λB R O v1 v2 v3 v4 rows g b v=>H.out ⟨B,R,O,v1,v2,v3,v4,rows,g,b⟩ ⟨v⟩)
      .exact zAm
      .exact BZ
      .simp only[go_sem,ai,ar,AM];rfl
      .refine .inr ⟨λf=>ad.out zCN,W,by rw[BV],?_⟩;exact BZ
      .exact zA9
  .clear w;rintro i ⟨B,R,O,v1,v2,v3,v4,rows,g,b⟩ a0 a6 e;dsimp only at*;have a2:g.get B=J (.box (sC r)):=e.out.cp.bx;have⟨nc,bn⟩:=Cv (U r.ac);have b1:=a0.out;subst b1;clear a0;refine aw (Fv (k:=8) (i:=0) (nw:=0) ?_ e.out.cp t.out.ac λB R O v1 v2 v3 v4 rows g b w=>?_)
   .simp only[go_sem]
   clear e a2 a6;rw[<-bn]at w;replace bn:=AB bn;refine Ah r.waits (B2:=λi (a:lH)=>⟨[(1,.ptr a.B 0),(2,.ptr a.R 0),(3,.ptr a.O 0),(8,nI i)],a.g,a.b,[]⟩)
    (Inv:=λi b8 a=>AR (qN (k::p) (Xr r) r ng nc i a.B a.R a.O a.v1 a.v2 a.v3 a.v4 a.rows a.g a.b)) (b0:=⟨B,R,O,v1,v2,v3,v4,rows,g,b⟩) ⟨w⟩ ?_ ?_
   .clear w;rintro i Q ⟨B,R,O,v1,v2,v3,v4,rows,g,b⟩ a3 a0 a6 e H;dsimp only at*;have w:=e.out.cp;have a2:g.get B=J (.box (sC r)):=w.bx;have a4:=w.out;have ag:=λk p=>GJ Q.env (t.out.wait Q (AP a3)) k p;have fa:=Gl;have b9:TC.wrap ((i:Int)+1)=(i:Int)+1:=w_ z (by have:=t.out.waits;omega);have bl:=w.s2;have q:=e.out.nm;have ai:=λm h l=>(A7 (q O zCS) m h l).1;have ar:=λm h l=>(A7 (q O zCS) m h l).2;have b7:=λa c d=>(CJ (q O zCS) [a,c,d] AG).2;have a1:=λa c d=>(CJ (q O zCS) [a,c,d] AG).1;have be:=λa c d=>(CJ (q B zCS) [a,c,d] AG).2;simp only[F6,DL]at b7 a1 be;have F:AR (r.waits.take (i+1)=r.waits.take i++[Q]):=⟨by grind [List.take_add_one]⟩;have M:(r.waits.take i).length=i:=by rw[F5];omega
    replace q:=AB q;replace w:=AB w;rcases bl with⟨s,rfl⟩|⟨s,x,rfl,bc⟩
    .have N:i=0:=by rw[D6.1 s]at M;exact M.symm
     replace N:=AB N;have a5:=AR.mk (D6.1 s);clear s M;by_cases C:U Q.env=0
     .simp only[KF,D3 C]at ag;have L:=CI C;replace L:=AB L;refine aw (Fv (ng:=ng) (nc:=nc) (nw:=i+1) (k:=8) ?_ (e.out.wait (A:=1::(b+28)::k::p) ?_ z ?_ (Ek z) λj n D K=>?_) t.out.ac λB R O v1 v2 v3 v4 rows g b v=>H.out ⟨B,R,O,v1,v2,v3,v4,rows,g,b⟩ ⟨v⟩)
      .exact zAm
      .rw[N.out];exact BZ
      .simp only[go_sem,ai,ar,a1,AM];rw[F.out,a5.out];grind [Bf]
      .have T:=(A7 n 1 (b+27) z).1;have aa:=(A7 n 1 (b+28) z).1;exact zBe
     .simp only[KF,Co C]at ag;refine aw (Fv (ng:=ng) (nc:=nc) (nw:=i+1) (k:=8) ?_ (e.out.wait (A:=1::(b+28)::k::p) ?_ z ?_ (Ek z) λj n D K=>?_) t.out.ac λB R O v1 v2 v3 v4 rows g b v=>H.out ⟨B,R,O,v1,v2,v3,v4,rows,g,b⟩ ⟨v⟩)
      .exact zAm
      .rw[N.out];exact BZ
      .simp only[go_sem,ai,ar,a1,AM];rw[F.out,a5.out];rfl
      .exact zA7
    .have⟨G1,az⟩:=Cv (r.waits.take i);rw[<-az]at bc s M F a4;rw[BV,M]at a4;have b5:¬i=0:=λf=>s zCN;have cl:WA i (G1.map Bf)=G1.map Bf:=Bi zC6;replace az:=AB az;have nI:=λm h l=>(A7 (q.out x (Bl.2 Ay)) m h l).1;have cd:=λm h l=>(A7 (q.out x (Bl.2 Ay)) m h l).2;have bh:=λa c d=>(CJ (q.out x (Bl.2 Ay)) [a,c,d] AG).2;have bi:=λa c d=>(CJ (q.out x (Bl.2 Ay)) [a,c,d] AG).1;simp only[F6,DL]at bh bi;have IO:AJ x O=false:=AI λf=>by grind
     have cm:AJ O x=false:=AI λf=>by grind
     replace s:=AB s;have b6:i+1<=BO:=by have:=t.out.waits;unfold BO;omega
     by_cases C:U Q.env=0
     .simp only[KF,D3 C]at ag;have L:=CI C;replace L:=AB L;refine aw (Fv (ng:=ng) (nc:=nc) (nw:=i+1) (k:=8) ?_ (e.out.wait (A:=1::(b+28)::k::p) ?_ z ?_ (Ek z) λj n D K=>?_) t.out.ac λB R O v1 v2 v3 v4 rows g b v=>H.out ⟨B,R,O,v1,v2,v3,v4,rows,g,b⟩ ⟨v⟩)
      .exact zAm
      .exact BZ
      .simp only[go_sem,ai,ar,a1,AM];rw[F.out,Ap];grind [Bf]
      .exact zAI
     .simp only[KF,Co C]at ag;refine aw (Fv (ng:=ng) (nc:=nc) (nw:=i+1) (k:=8) ?_ (e.out.wait (A:=1::(b+28)::k::p) ?_ z ?_ (Ek z) λj n D K=>?_) t.out.ac λB R O v1 v2 v3 v4 rows g b v=>H.out ⟨B,R,O,v1,v2,v3,v4,rows,g,b⟩ ⟨v⟩)
      .exact zAm
      .exact BZ
      .simp only[go_sem,ai,ar,a1,AM];rw[F.out,Ap];rfl
      .exact zAI
   .clear w;rintro i ⟨B,R,O,v1,v2,v3,v4,rows,g,b⟩ a0 a6 e;dsimp only at*;have a2:g.get B=J (.box (sC r)):=e.out.cp.bx;have a4:=e.out.cp.out;have d1:=e.out.cp.res;have dr:=(DF (Nj e.out.cp.s0)).1;have ds:=(DF (Nj e.out.cp.s1)).1;have dx:=(DF (Nj e.out.cp.s2)).1;have d0:=(Lj e.out.cp.chv).1;have dd:AJ O R=false:=AI λf=>e.out.cp.ro f.symm;have df:AJ R O=false:=AI e.out.cp.ro;have b1:=a0.out;subst b1;clear a0;refine aw ?_;rw[bo.out,bn.out]at e;exact⟨v1,v2,v3,v4,rows,_,⟨rfl,rfl⟩,e.out.post _⟩
def AGy{N:Aa}{ar:S}{C:u}{n:u}{V:MV}{st:C5}(aa:XC N ar n V st)(ac:Di C V n)(r:HK){e:CF}(fo:U r.env<=10000)(fi:U e.args<=3)(c5:∀O∈e.args,O.formed (U r.env)=X)(fp:0<=e.n)(fr:e.n<U r.env)(c7:r.env.all (C4.inB N (U st.eq.ac) (U st.eq.be))=X) (be:∀(ec:Nat) (w:Fc),st.eq.ac[ec]?=J w->vV N st.eq w) (fl:U st.ev<=1000000):
 ∃eb dq,kT (.fn 143) [.ptr n 0,.agg [nI e.op,nI e.n,.d (.co (e.args.map Bh)),.d (.co (e.kids.map AX))],nI r.at_,.d (.co (r.env.map A9))] ar C X I=.ok (eb,dq)/\KT N C n V ar (Fw N e r st) eb dq:=by
 have a4:=aa.box;have cp:=ac n (V.m_mem n);simp only[BS]at a4;have s:=AN cp;have t:=Aw cp;have e9:=Wu cp;have e':=nV cp;obtain⟨L,bv⟩:∃L,L=e.args.map λO=>O.value r.env:=⟨_,rfl⟩;have cd:U L=U e.args:=by rw[bv,BV]
 obtain⟨T,d8⟩:=g_ (l:=r.env) (i:=e.n.toNat) z;replace aa:=AB aa;replace ac:=AB ac;replace be:=AB be;replace c7:=AB c7;replace bv:=AB bv;replace cd:=AB cd;replace c5:=AB c5;refine Ba func143 ?_;refine aw ?_;refine Ah e.args (B2:=λi (ag:(y×S)×Nat)=>⟨[(0,.ptr n 0),(2,nI r.at_),(3,.d (.co (r.env.map A9))),(5,.ptr (0::0::C) 0),(8,ag.1.1),(9,nI i)],ag.1.2,ag.2+3,[]⟩)
  (Inv:=λi ga ag=>(∀c,AD C c=Z->ag.1.2.get c=ar.get c)/\ag.1.2.get (0::0::C)=J (.box [nI e.op,nI e.n,.d (.co (e.args.map Bh)),.d (.co (e.kids.map AX))])/\AR ((i=0/\ag.1.1=.d8)\/∃f,f<ag.2+3/\ag.1.1=.ii (1::f::C) 0 i/\ag.1.2.get (1::f::C)=J (.f9 2 ((L.take i).map A9)))) (b0:=((_,_),_)) ⟨?_,?_,⟨.inl ⟨rfl,rfl⟩⟩⟩ ?_ ?_
 .intro c b;have a:=AN b;simp only[go_sem,a,AM]
 .simp only[go_sem]
 .rintro i cx ⟨⟨er,g⟩,b⟩ d' c6 a3 ⟨j,c',B⟩ dn;dsimp only at*;have fv:=c5.1 cx (AP d');have eg:AR (L[i]?=J (cx.value r.env)):=⟨by rw[bv.1,BY,d'];rfl⟩;have gg:TC.wrap ((i:Int)+1)=(i:Int)+1:=w_ z z;replace j:=AB j;have ds:AR (L.take (i+1)=L.take i++[cx.value r.env]):=⟨by rw[FD,eg.1];rfl⟩;rcases B.1 with⟨rfl,rfl⟩|⟨f,b3,rfl,b1⟩
  .clear B;have b2:(0:Int)<U e.args:=a3;refine aw ?_;refine dn.1 ((_,_),_) ⟨λc b=>?_,?_,⟨.inr ⟨b+17,AG,rfl,?_⟩⟩⟩
   .have a:=AN b;have h:=j.1 c b;simp only[go_sem,a,h,AM]
   .simp only[go_sem,c']
   .rw[ds.1];simp only[go_sem]
  .clear B;have e8:(L.take i).length=i:=by have:=cd.1;rw[F5];omega
   have b7:WA i (V5 A9 (WA i L))=V5 A9 (WA i L):=Bi BL;have b8:¬b+16=f:=z;have b9:¬b+9=f:=z;have b':¬f=b+16:=z;have ef:¬f=b+17:=z;refine ax ?_;refine dn.1 ((_,_),_) ⟨λc b=>?_,?_,⟨.inr ⟨b+17,AG,rfl,?_⟩⟩⟩
   .have a:=AN b;have h:=j.1 c b;simp only[go_sem,a,h,AM]
   .simp only[go_sem,c']
   .rw[ds.1];simp only[go_sem,ef,Ap]
 .rintro i ⟨⟨er,g⟩,b⟩ c6 a3 ⟨j,c',B⟩;dsimp only at*;have K:i=U L:=by rw[c6.1,cd.1]
  clear c6;have c8:JI r.env e.n=T:=by rw[JI,d8];rfl
  have fs:WA (U L) L=L:=F3;have fd:U L<=3:=by have:=cd.1;omega
  have F:=(j n cp).trans a4;replace j:=AB j;by_cases ea:T.kind=2
  .have P:AR (Fw N e r st=J {st with ev:=st.ev++[⟨5,r.at_,T.n,0,L⟩]}):=⟨by
    simp only[Fw,c8,ea,IP,bv.1];rfl⟩
   have go:=AR.mk (Hc (d9:={st with ev:=st.ev++[⟨5,r.at_,T.n,0,L⟩]}) 3 z aa.1 ac.1 (sg rfl) rfl)
   rcases aa.1.sl 3 z with⟨R,M⟩|⟨E,cq,R,cc⟩
   .rw[R]at F;replace R:=AB R;replace M:=AR.mk (D6.1 M);rcases B.1 with⟨rfl,rfl⟩|⟨f,b3,rfl,b1⟩
    .clear B;have b2:¬(0:Int)<U e.args:=a3;have av:=CI K.symm;subst av;clear K;exact zAT
    .clear B;subst K;have b7:¬b+29=f:=z;have b8:¬b+28=f:=z;have b9:¬f=b+28:=z;have b':¬f=b+29:=z;exact zAT
   .simp only[IU,BQ,BV]at R cc;rw[R]at F;have de:=ac.1 E (V.s_mem n (i:=3) z zCb);replace cc:=(j.1 E de).trans cc;have a5:=AN de;have a6:=Aw de;have a0:AJ E n=false:=RY cc F;have bc:AJ n E=false:=RY F cc;replace R:=AB R;rcases cq with _|⟨cx,cq⟩
    .rcases B.1 with⟨rfl,rfl⟩|⟨f,b3,rfl,b1⟩
     .clear B;have b2:¬(0:Int)<U e.args:=a3;have av:=CI K.symm;subst av;clear K;exact zAP
     .clear B;subst K;have b7:¬b+29=f:=z;have b8:¬b+28=f:=z;have b9:¬f=b+28:=z;have b':¬f=b+29:=z;exact zAP
    .rcases B.1 with⟨rfl,rfl⟩|⟨f,b3,rfl,b1⟩
     .clear B;have b2:¬(0:Int)<U e.args:=a3;have av:=CI K.symm;subst av;clear K;exact zAU
     .clear B;subst K;have b7:¬b+29=f:=z;have b8:¬b+28=f:=z;have b9:¬f=b+28:=z;have b':¬f=b+29:=z;exact zAU
  have ai:AR (∀H:S,(∀c,AD C c=Z->H.get c=g.get c)->KT N C n V ar (J st) (.ret (.kw [])) H):=⟨λH dr=>⟨rfl,V,Yg aa.1 ac.1 λc b=>(dr c b).trans (j.1 c b),AFR λc b=>(dr c b).trans (j.1 c b)⟩⟩;by_cases dc:T.kind=3
  .have d2:=EM.1 c7.1 T (AP d8);simp only[C4.inB,dc,Int.reduceEq,IP,Gs,As,Dl]at d2;obtain⟨gd,gf⟩:=d2;obtain⟨w,cs⟩:=g_ (l:=st.eq.ac) (i:=T.n.toNat) z;obtain⟨v,cm,el⟩:=aa.1.ac.row _ _ cs;have d4:=AB cm;have bx:=be.1 _ _ cs;obtain⟨e2,e3⟩:=bx.at_;obtain⟨fc,d,D,d1,e4,d0,dx⟩:=bx.ex;have e5:=bx.g0;have e6:=bx.i0;have e7:=bx.len;obtain⟨cn,d7⟩:=g_ (l:=st.eq.be) (i:=w.at_.toNat) z;obtain⟨B2,gk,Y,c1,gi,f1,f2⟩:=My (aa.1.sl 0 z) d7;obtain⟨G,cq,W,c0,gh,fz,f0⟩:=My (aa.1.sl 1 z) d1;have x:=aa.1.arr;rcases x with⟨_,x⟩|⟨A,x,bo⟩
   .rw[x]at cm;simp at cm
   have em:=l_ cm;have gb:∀dd:List y,(V.rows.set T.n.toNat dd)[T.n.toNat]?=J dd:=λdd=>List.getElem?_set_self em;have uA:=ac.1 A (V.v3_mem n (by rw[x];simp[AE]));have dm:=ac.1 B2 (V.s_mem n (i:=0) z (by rw[Y];simp[AE]));have df:=ac.1 G (V.s_mem n (i:=1) z (by rw[W];simp[AE]));rw[x,Y,W]at F;replace bo:=(j.1 A uA).trans bo;replace c1:=(j.1 B2 dm).trans c1;replace c0:=(j.1 G df).trans c0;have a1:=AN uA;have a2:=Aw uA;have et:=AN dm;have ex:=Aw dm;have e0:=AN df;have e1:=Aw df;have f5:¬b=b+17:=z;have f6:¬b+17=b:=z;have f7:¬b=b+11:=z;have f8:¬b+11=b:=z;have f9:¬b=b+28:=z;have f':¬b+28=b:=z;have f4:=l_ d0;have f3:=l_ dx;have d6:A8 st.eq.be w.at_=cn.dead:=by simp[A8,d7]
   have d3:Ea N st.eq w=D.many:=by simp[Ea,d1,d0,dx]
   have P:AR (Fw N e r st=(SI N st.eq T.n L).map λen=>{st with eq:=en}):=⟨by
    simp only[Fw,c8,dc,IP,bv.1];rfl⟩
   have cl:AR (SI N st.eq T.n L=if cn.dead=Z/\D.many=U L then ae st.eq T.n w L else J st.eq):=⟨by
    rw[SI,cs];simp only[d6,d3]⟩
   clear d6 d3 bx;replace a4:=AB a4;replace Y:=AB Y;replace W:=AB W;replace x:=AB x;simp only[B7]at cm;simp only[IU]at c1 c0;have go:=AR.mk (Y1 aa.1 ac.1 x.1 cs d4.1 (w.queue++[L]));have cu:AR (cn.dead=X->Fw N e r st=J st):=⟨λar=>by rw[P.1,cl.1,Co (by simp[ar])];rfl⟩;have cv:AR (¬D.many=U L->Fw N e r st=J st):=⟨λar=>by rw[P.1,cl.1,Co (λej=>ar ej.2)];rfl⟩;have b4:AR (cn.dead=Z->D.many=U L->(U w.queue)<12->Fw N e r st=J {st with eq:={st.eq with ac:=st.eq.ac.set T.n.toNat {w with queue:=w.queue++[L]}}}):=⟨λc2 c3 c4=>by rw[P.1,cl.1,D3 ⟨c2,c3⟩,ae,D3 c4];rfl⟩
   have d5:AR (cn.dead=Z->D.many=U L->¬(U w.queue)<12->Fw N e r st=I):=⟨λc2 c3 c4=>by rw[P.1,cl.1,D3 ⟨c2,c3⟩,ae,Co c4];rfl⟩;clear P cl;have az:AJ A n=false:=RY bo F;have a':AJ n A=false:=RY F bo;rcases cy el with⟨d9,M⟩|⟨Q,b6,rfl,bs⟩
   .replace M:=AR.mk (D6.1 M);rcases B.1 with⟨rfl,rfl⟩|⟨f,b3,rfl,b1⟩;all_goals clear B
    .have b2:¬(0:Int)<U e.args:=a3;have av:=CI K.symm;subst av;clear K;exact zAF
    .subst K;have b7:¬b+84=f:=z;have b8:¬f=b+84:=z;have b9:¬b+85=f:=z;have b':¬f=b+85:=z;exact zAF
   .have ch:=V.row_mem n (BI.2 ⟨_,AP d4.1,(by simp[Cz,AE]:Q∈Ab (B7 w (.ii Q 0 (w.queue.map Ct).length)))⟩);have dj:=ac.1 Q ch;replace ch:=AB ch;replace bs:=(j.1 Q dj).trans bs;have bl:=AN dj;have bn:=Aw dj;have bi:AJ Q A=false:=RY bs bo;have bh:AJ A Q=false:=RY bo bs;have bk:AJ Q n=false:=RY bs F;have b5:AJ n Q=false:=RY F bs;rcases B.1 with⟨rfl,rfl⟩|⟨f,b3,rfl,b1⟩;all_goals clear B
    .have b2:¬(0:Int)<U e.args:=a3;have av:=CI K.symm;subst av;clear K;exact zAC
    .subst K;have b7:¬b+84=f:=z;have b8:¬f=b+84:=z;have b9:¬b+85=f:=z;have b':¬f=b+85:=z;exact zAC
  .have P:AR (Fw N e r st=J st):=⟨by simp only[Fw,c8,ea,dc,Gs]⟩;rcases B.1 with⟨rfl,rfl⟩|⟨f,b3,rfl,b1⟩;all_goals clear B
   .have b2:¬(0:Int)<U e.args:=a3;clear K;exact zCB
   .subst K;exact zCB
def Z4(c:Aa)(sz:Al)(i:Nat):Prop:=∀(f:S) (g:u) (e:u) (V:MV) (a:C5) (b:HK),XC c f e V a->Di g V e->E0 c sz a.eq->Cb c sz a.eq b->0<=a.work->a.work<=400->401<=a.work+i->(U a.ev:Int)<=900000+a.work->
 ∃j h,kT (.fn 87) [.ptr e 0,nI b.node,nI b.at_,.d (.co (b.env.map A9))] f g X I=.ok (j,h)/\KT c g e V f (KQ c i b a) j h
def AJ6(i:Aa)(e:S)(g:u)(c:u)(V:MV)(k l b:Int)(p:List C4)(o:e.get c=J (.box (BS i X V k)))(j:AD g c=Z):
 ∃h f,kT (.fn 87) [.ptr c 0,nI l,nI b,.d (.co (p.map A9))] e g X I=.ok (h,f)/\h=.ret (.kw [])/\(∃r,f.get c=J (.box (BS i X V r)))/\∀a,AJ c a=Z->AD g a=Z->f.get a=e.get a:=by
 simp only[BS]at o;have s:=AN j;have t:=Aw j;refine Ba func87 ?_;refine aw ?_;refine⟨⟨TC.wrap (k+1),rfl⟩,λa m n=>?_⟩;have q:=AN n;simp only[go_sem,q,m,AM]
def WG(i:Aa)(j:u)(a:u)(V:MV)(h:S)(b:Nat)(E:List u)(g:S):Option C5->Prop
 |some k=>∃c,B8 (BS i Z) Z j a V h b c k g/\∀f∈E,f∉c.ids a|none=>(∃c l,g.get a=J (.box (BS i X c l)))/\(∀e,e∉V.ids a->AD j e=Z->g.get e=h.get e)/\∀f∈E,AJ a f=Z
variable{p:Aa}{c m:u}{V:MV}{h:S}{r:Option C5}
def pF{E:List u}(i:WG p c m V h b E g r):∃j a f,g.get m=J (.box (BS p j a f)):=by
 rcases r with _|k
 .obtain⟨⟨a,f,e⟩,_⟩:=i;exact⟨X,a,f,e⟩
 .obtain⟨a,e,_⟩:=i;exact⟨Z,a,k.work,e.rep.box⟩
variable{a:Nat}
def fj{E:List u}(e:WG p c m V h b E g r)(k:b<=a):WG p c m V h a E g r:=by
 rcases r with _|l
 .exact e
 .obtain⟨f,i,j⟩:=e;exact⟨f,i.up k,j⟩
def Gw{E:List u}(e:WG p c m V h b E g r):KT p c m V h r (.ret (.kw [])) g:=by
 rcases r with _|l
 .exact⟨rfl,e.1,e.2.1⟩
 .obtain⟨f,a,_⟩:=e;exact⟨rfl,f,a.rep,λj i=>(a.ids j i).imp_right λ⟨k,_,h2,h3⟩=>⟨Bq h2,h3⟩,a.frame⟩
structure vU(p:Aa)(π:u)(m:u)(V:MV)(h:S)(b n:Nat)(E:List u)(g g':S)(r:Option C5):Prop:=
 run:WG p π m V h (n+1) E g' r
 box:∀k,k<b->g'.get (0::k::π)=g.get (0::k::π)
 pm:∀i∈E,g'.get i=g.get i
def Kg{sz:Al}{e:Nat}(ai:Z4 p sz e){E:List u}(B:Di c V m)(ag:WG p c m V h b E g r)(o:HK)(t:∀v,r=J v->WC p sz e v/\Cb p sz v.eq o)(H:S)(f:Nat)(W:b<=f)(s:∀k,(∀j f,b<=f->AJ (j::f::c) k=Z)->H.get k=g.get k)(n:∀a∈E,(∀j e,b<=e->AJ (j::e::c) a=Z)/\AD (f::c) a=Z):
 ∃C w,kT (.fn 87) [.ptr m 0,nI o.node,nI o.at_,.d (.co (o.env.map A9))] H (f::c) X I=.ok (C,w)/\C=.ret (.kw [])/\vU p c m V h b f E g (gc (f::c) w) (r.bind (KQ p e o)):=by
 have Y:=B m (V.m_mem m);have aa:=AL Y f;have R:∀e,e<b->H.get (0::e::c)=g.get (0::e::c):=λe A=>s _ λj f W=>AI λF=>by simp at F;omega
 have ar:H.get m=g.get m:=s _ λj f _=>AN Y j f;rcases r with _|v
 .obtain⟨⟨D,ac,P⟩,x,q⟩:=ag;have⟨C,w,q1,q2,⟨w',q3⟩,q4⟩:=AJ6 p H (f::c) m D ac o.node o.at_ o.env (ar.trans P) aa;refine⟨C,w,q1,q2,⟨⟨D,w',(An _ _ _ aa).trans q3⟩,λk j l=>?_,q⟩,λe A=>?_,λa i=>?_⟩
  .rw[An _ _ _ (AL l f),q4 k (AI λF=>j (by rw[<-F];exact V.m_mem m)) (AL l f),s k λj f _=>AN l j f];exact x k j l
  .rw[An _ _ _ (BK c z),q4 _ (Aw Y 0 e) (BK c z)];exact R e A
  .rw[An _ _ _ (n a i).2,q4 a (q a i) (n a i).2];exact s a (n a i).1
 .obtain⟨D,Q,N⟩:=ag;have⟨t,hj⟩:=t v rfl;have L:=Q.loc B s;have⟨C,w,P,x⟩:=ai H (f::c) m D v o L.rep (L.apart B W) t.wd hj t.w0 t.w1 t.w2 t.ev;refine⟨C,w,P,?_⟩;rw[GO];rcases hd:KQ p e o v with _|av
  .rw[hd]at x;obtain⟨q,⟨O,ac,M⟩,K⟩:=x;refine⟨q,⟨⟨O,ac,(An _ _ _ aa).trans M⟩,λk j l=>?_,λa i=>AI λF=>N a i (by rw[<-F];exact D.m_mem m)⟩,λe A=>?_,λa i=>?_⟩
   .rw[An _ _ _ (AL l f),K k (λT=>?_) (AL l f),s k λj f _=>AN l j f]
    .exact Q.frame k j l
    .rcases Q.ids k T with T|⟨e,_,q,_⟩
     .exact j T
     .rw[Bq q]at l;cases l
   .rw[An _ _ _ (BK c z),K _ (Ig L B e) (BK c z)];exact R e A
   .rw[An _ _ _ (n a i).2,K a (N a i) (n a i).2];exact s a (n a i).1
  .rw[hd]at x;obtain⟨q,M⟩:=x;have⟨O,K,h6⟩:=L.callL B W M;have ad:=m8 M;refine⟨q,⟨O,K,λa i=>h6 a (N a i) (n a i).2⟩,λe A=>?_,λa i=>?_⟩
   .rw[An _ _ _ (BK c z),ad _ (Ig L B e) (BK c z)];exact R e A
   .rw[An _ _ _ (n a i).2,ad a (N a i) (n a i).2];exact s a (n a i).1
variable{st:C5}
def U5{sz:Al}{c:HK}{e:CF}{d:Bc}{G:Az}(i:Ar p sz)(a:GU p sz st.eq c e d)(f:G=Aj st.eq d e.n c)(b:Int)(k:0<=b)(l:b<=(U d.be)):
 Bk kT 118 [.agg (pC p),.agg [nI e.n,nI c.at_,.d (.co (G.env.map A9))],nI b] []=.ok (.ret (nI (G.place d b)),[]):=by
 have h:d.own<=(U G.env)/\(U G.env)<=10000:=by rw[f,a.env];have:=a.ok.ac;have:=a.ok.be;have⟨_,_,_,_,_,_,hjl⟩:=NM i a.job;unfold Bc.own;omega
 have g:G.ip=e.n:=by rw[f];rfl
 have j:G.at_=c.at_:=by rw[f];rfl
 have:=U4 p G d b (by rw[g];exact a.n0) (by rw[g];exact a.ip) a.ok.ac a.ok.be h.1 h.2 k l
 rwa [g,j]at this
def ey{e:y}{L:List C4}(h:RJ e c g b v L)(n:b<=a):RJ e c g a v L:=by
 rcases h with h|⟨k,f,i,l,m,j⟩
 .exact .inl h
 .exact .inr ⟨k,f,i,l,z,j⟩
theorem jf{p:Aa}{sz:Al}{e:Nat}(bc:Ar p sz)(ar:Z4 p sz e){h:S}{c:u}{m:u}{V:MV}{st:C5}(F:Di c V m){o:HK}{n:CF}{d:Bc}(Q:GU p sz st.eq o n d){G:Az}(be:G=Aj st.eq d n.n o){av:Option C5}{C:CN} {g:S} {b:Nat} {ev:y} {r0:Option C5} (b2:C.get 0=.ptr m 0) (b3:C.get 2=nI o.at_) (b4:C.get 5=.ptr (0::0::c) 0) (b5:C.get 8=.ptr (0::10::c) 0) (b6:C.get 9=.ptr (0::18::c) 0) (bs:52<=b) (aa:WG p c m V h b (AE ev) g r0)(R:∀i,r0=J i->WC p sz e i/\∀K∈DH d G 0 d.be++Bj n 0 o.at_ G.env,Cb p sz i.eq K) (q:av=r0.bind (EY (KQ p e) (DH d G 0 d.be++Bj n 0 o.at_ G.env)))(D:g.get (0::0::c)=J (.box [nI n.op,nI n.n,.d (.co (n.args.map Bh)),.d (.co (n.kids.map AX))])) (L:g.get (0::10::c)=J (.box [.d (.co (d.ac.map BR)),.d (.co (d.be.map BD)),.d (.co (d.rules.map BN))])) (A:g.get (0::18::c)=J (.box [nI n.n,nI o.at_,ev])) (l:RJ .emp c g b ev G.env):
 Wp cfg kT ⟨144,c,X,I,Z,221⟩ 0 (MH 9 (Tryz.f144.body.get rfl)) ⟨C,g,b,[]⟩ (MJ cfg I [] c X (KT p c m V h av)):=by
 have b0:=F m (V.m_mem m);have c3:=AN b0;have c4:=Aw b0;have c1:=Q.ok.ac;have c2:=Q.ok.be;have cm:=AR.mk (U5 bc Q be);replace be:=AB be;replace F:=AB F;replace Q:=AB Q;replace aa:=AB aa;replace R:=AB R;replace q:=AB q;obtain⟨N,b8⟩:∃N,b=N+52:=⟨b-52,z⟩;subst b8;simp[Tryz.f144,MH];refine ax ?_;clear b2 b3 b4 b5 b6;refine Ah d.be (B2:=λa (f:S×Nat)=>⟨[(0,.ptr m 0),(2,nI o.at_),(5,.ptr (0::0::c) 0),(8,.ptr (0::10::c) 0),(9,.ptr (0::18::c) 0),(14,nI a)],f.1,f.2+53,[]⟩)
  (Inv:=λa bx f=>AR (∃r,WG p c m V h (f.2+53) (AE ev) f.1 r/\(∀i,r=J i->WC p sz e i/\∀K∈DH d G a bx++Bj n 0 o.at_ G.env,Cb p sz i.eq K)/\av=r.bind (EY (KQ p e) (DH d G a bx++Bj n 0 o.at_ G.env)))/\f.1.get (0::0::c)=J (.box [nI n.op,nI n.n,.d (.co (n.args.map Bh)),.d (.co (n.kids.map AX))])/\f.1.get (0::10::c)=J (.box [.d (.co (d.ac.map BR)),.d (.co (d.be.map BD)),.d (.co (d.rules.map BN))])/\f.1.get (0::18::c)=J (.box [nI n.n,nI o.at_,ev])/\AR (RJ .emp c f.1 (f.2+53) ev G.env)) (b0:=(_,N)) ⟨⟨r0,fj aa.1 z,R.1,q.1⟩,D,L,A,⟨ey l z⟩⟩ ?_ ?_
 .clear aa R q D L A l bs g N;rintro a bn ⟨g,t⟩ c5 k b' ⟨B,D,L,A,l⟩ bo;dsimp only at*;obtain⟨r,B,s,q⟩:=B.1;obtain⟨cp,b1,c0,a6⟩:=pF B;simp[BS]at a6;have c7:TC.wrap ((a:Int)+1)=(a:Int)+1:=w_ z z;have cl:=cm.1 ((a:Int)+1) z z;have w:=λa (k:a∈AE ev)=>(⟨λf e x=>kB l.1 f e x rfl a k,Jj l.1 (n:=t+53) z rfl a k⟩:(∀f e,t+53<=e->AJ (f::e::c) a=Z)/\AD ((t+53)::c) a=Z);have Y:AR (∀i,r=J i->WC p sz e i/\Cb p sz i.eq ⟨bn.node,G.place d ((a:Int)+1),G.env⟩):=⟨λi h=>⟨(s i h).1,(s i h).2 _ (by rw[DH];simp)⟩⟩;replace B:=AB B;replace s:=AB s;replace q:=AB q;replace w:=AB w;rcases l.1 with⟨a0,v⟩|⟨H,v,b9,cq,ch,cn,cd⟩
  .rw[v]at A;rw[show G.env.map A9=[] by rw[a0];rfl]at cl;refine ax ?_;rw[show(Au.co [])=.co (G.env.map A9) by rw[a0];rfl];exact zAH
  .rw[v]at A;have O:=w.1 H (by rw[v];simp[AE]);have cs:=O.1;replace O:=AB O.2;have cu:AJ m H=false:=AI λC=>by grind
   have cv:∀ad,AJ (0::ad) H=false:=λad=>by grind [AI]
   refine ax ?_;exact zAH
 .clear aa R q D L A l bs g N;rintro a ⟨g,t⟩ k b' ⟨B,D,L,A,l⟩;dsimp only at*;obtain⟨r,T,s,q⟩:=B.1;clear B;obtain⟨cp,b1,c0,a6⟩:=pF T;simp[BS]at a6;have b7:=k.1;subst b7;clear k;obtain⟨ac,bv,_⟩:=Q.1.kid;have bi:DH d G (U d.be) []++Bj n 0 o.at_ G.env=[⟨ac,o.at_,G.env⟩]:=by rw[Bj,bv];rfl
  rw[bi]at s q;have az:av=r.bind (KQ p e ⟨ac,o.at_,G.env⟩):=by rw[q];cases r with|none=>rfl|some c6=>exact mF _ _ _
  rw[bv]at D;have Y:AR (∀i,r=J i->WC p sz e i/\Cb p sz i.eq ⟨ac,o.at_,G.env⟩):=⟨λi h=>⟨(s i h).1,(s i h).2 _ AG⟩⟩;have w:=λa (k:a∈AE ev)=>(⟨λf e x=>kB l.1 f e x rfl a k,Jj l.1 (n:=t+53) z rfl a k⟩:(∀f e,t+53<=e->AJ (f::e::c) a=Z)/\AD ((t+53)::c) a=Z);replace w:=AB w;replace T:=AB T;replace s:=AB s;replace q:=AB q;replace az:=AB az;replace bi:=AB bi;rcases l.1 with⟨a0,v⟩|⟨H,v,b9,cq,ch,cn,cd⟩
  .rw[v]at A;refine ax ?_;rw[show(Au.co [])=.co (G.env.map A9) by rw[a0];rfl];exact zAd
  .rw[v]at A;have O:=w.1 H (by rw[v];simp[AE]);have cs:=O.1;replace O:=AB O.2;have cu:AJ m H=false:=AI λC=>by grind
   have cv:∀ad,AJ (0::ad) H=false:=λad=>by grind [AI]
   refine ax ?_;exact zAd
theorem rR{sz:Al}{o:Nat}(ad:Ar p sz)(bi:Z4 p sz o)(D:Di c V m)(l:WC p sz o st){k:HK}{e:CF}{d:Bc}(j:GU p sz st.eq k e d){G:Az}(w:G=Aj st.eq d e.n k){a:CN}   {ev:y} {n:MV} (L:a.get 0=.ptr m 0) (M:a.get 2=nI k.at_) (N:a.get 5=.ptr (0::0::c) 0) (O:a.get 8=.ptr (0::10::c) 0) (P:a.get 9=.ptr (0::18::c) 0) (cn:52<=b) (i:B8 (BS p Z) Z c m V h b n {st with eq:=CA st.eq d G} g) (x:∀r∈AE ev,r∉n.ids m)(b1:g.get (0::0::c)=J (.box [nI e.op,nI e.n,.d (.co (e.args.map Bh)),.d (.co (e.kids.map AX))])) (b2:g.get (0::10::c)=J (.box [.d (.co (d.ac.map BR)),.d (.co (d.be.map BD)),.d (.co (d.rules.map BN))])) (b3:g.get (0::18::c)=J (.box [nI e.n,nI k.at_,ev])) (bv:RJ .emp c g b ev G.env):
 Wp cfg kT ⟨144,c,X,I,Z,221⟩ 0 (MH 8 (Tryz.f144.body.get rfl)) ⟨a,g,b,[]⟩ (MJ cfg I [] c X (KT p c m V h (Rn (KQ p o) (Kh p e k st)))):=by
 have be:=D m (V.m_mem m);have cm:=AN be;have bn:=Aw be;have F:=j.node;have bs:=j.ip;have cd:=j.ok.ac;have ch:=j.ok.be;obtain⟨t,a1⟩:∃K,K=U st.eq.ac:=⟨_,rfl⟩;obtain⟨s,a0⟩:∃K,K=U st.eq.be:=⟨_,rfl⟩;obtain⟨v,a2⟩:∃K,K=U st.eq.bv:=⟨_,rfl⟩;have W:(CA st.eq d G).ac.length=t+U d.ac:=by simp[CA,K3,a1]
 have Y:(CA st.eq d G).be.length=s+U d.be:=by simp[CA,HD,a0]
 have aa:(CA st.eq d G).bv.length=v+1:=by simp[CA,a2]
 have Q:Kh p e k st=if t+U d.ac<=60/\s+U d.be<=24/\v+1<=40 then J ({st with eq:=CA st.eq d G},DH d G 0 d.be++Bj e 0 k.at_ G.env)else none:=by simp[Kh,bs,<-w,W,Y,aa]
 have a':=l.wd.small;simp[BP.small]at a';obtain⟨cq,cs,cu,cv⟩:=a';have bo:=i.rep.box;simp[BS]at bo;have C:=TM i.rep.arr;rw[i.rep.ac.len,W]at C;have A:=OJ (i.rep.sl 0 z);simp[BQ,Y]at A;have B:=OJ (i.rep.sl 1 z);simp[BQ,aa]at B;clear W Y aa;have cp:=AR.mk (U5 ad j w);replace Q:=AB Q;replace w:=AB w;replace D:=AB D;replace j:=AB j;replace l:=AB l;replace i:=AB i;replace x:=AB x;replace a1:=AB a1;replace a0:=AB a0;replace a2:=AB a2;refine QW 1 λbk ag=>?_;have R:AR (∀(a:CN) (H:S) (q:Bool),q=decide (¬(t+U d.ac<=60/\s+U d.be<=24/\v+1<=40))->a.get 0=.ptr m 0->a.get 2=(nI k.at_)->a.get 5=.ptr (0::0::c) 0->a.get 8=.ptr (0::10::c) 0->a.get 9=.ptr (0::18::c) 0->H.get m=J (.box (BS p q n st.work))->(∀f,AJ m f=Z->H.get f=g.get f)->Wp cfg kT ⟨144,c,X,I,Z,221⟩ 0 bk ⟨a,H,b+35,[]⟩ (MJ cfg I [] c X (KT p c m V h (Rn (KQ p o) (Kh p e k st))))):=⟨λa H q ac b4 b5 b6 b7 b8 bh a3=>by
  rw[ag];have ai:=λo=>a3 (0::o::c) (bn 0 o);refine jf ad bi D.1 (r0:=if q=X then I else J {st with eq:=CA st.eq d G}) (ev:=ev) j.1 w.1 b4 b5 b6 b7 b8 z ?_ ?_ ?_ ((ai 0).trans b1) ((ai 10).trans b2) ((ai 18).trans b3) (ey (Ud bv λr av=>a3 r (AI λa=>x.1 r av (by rw[<-a];exact n.m_mem m))) z)
  .cases q with
   |true=>rw[D3 rfl];exact⟨⟨n,st.work,bh⟩,λf a4 bl=>(a3 f (AI λa=>a4 (by rw[<-a];exact V.m_mem m))).trans (i.1.frame f a4 bl),λr av=>AI λa=>x.1 r av (by rw[<-a];exact n.m_mem m)⟩
   |false=>
    rw[Co AG];refine⟨n,(i.1.loc (H:=H) D.1 λf _=>?_).up z,x.1⟩;by_cases b0:f=m
    .rw[b0,bh];exact i.1.rep.box.symm
    grind [AI]
  .intro cl bc;cases q with
   |true=>grind
   |false=>
    rw[Co AG]at bc;cases bc;have bx:=Decidable.of_not_not (of_decide_eq_false ac.symm);have a6:=jh (d9:={st with eq:=CA st.eq d G}) ad l.1.wd j.1.job F j.1.op (by rw[Q.1,D3 bx])
    exact⟨⟨a6.wd,l.1.w0,l.1.w1,l.1.w2,l.1.ev⟩,a6.jobs⟩
  .rw[Q.1];cases q with|true=>rw[Co (of_decide_eq_true ac.symm)];rfl|false=>rw[D3 (Decidable.of_not_not (of_decide_eq_false ac.symm))];rfl⟩
 replace ag:=AB ag;have a5:¬(t+U d.ac<=60/\s+U d.be<=24/\v+1<=40)\/(t+U d.ac<=60/\s+U d.be<=24/\v+1<=40):=z;replace a5:=AB a5;by_cases cc:(60:Int)<(t+U d.ac:Nat)
 .exact zAL
 by_cases b9:(24:Int)<(s+U d.be:Nat)
 .exact zAL
 by_cases b':(40:Int)<(v+1:Nat)
 .exact zAL
 .simp[Tryz.f144,MH,Rm]
  (repeat' (first|simp only[*,go_sem,↓C,↓A,↓B,AM]|(refine sx ?_ ?_<;>intro ar)|refine sy z λe F az=>?_|simp(disch:=first|assumption|omega) only[Ae]))
  refine R.1 _ _ Z ?_ L M N O P ?_ λf T=>?_
  .grind
  .simp only[go_sem,BS]
  exact BZ
theorem rU{p:Aa}{sz:Al}{aa:Nat}(d9:Ar p sz)(ek:Z4 p sz aa){h:S}{c:u}{m:u}{V:MV}{st:C5}(dm:XC p h m V st)(P:Di c V m)(b3:WC p sz aa st){a2:HK}{l:CF}{d:Bc}(bo:GU p sz st.eq a2 l d){G:Az}(b2:G=Aj st.eq d l.n a2){j:CN} {g:S} {b:Nat} {ev:y} (er:j.get 0=.ptr m 0) (es:j.get 2=nI a2.at_) (et:j.get 5=.ptr (0::0::c) 0) (ex:j.get 8=.ptr (0::10::c) 0) (e0:j.get 9=.ptr (0::18::c) 0) (eb:32<=b) (b9:∀a,AD c a=Z->g.get a=h.get a)(bk:g.get (0::0::c)=J (.box [nI l.op,nI l.n,.d (.co (l.args.map Bh)),.d (.co (l.kids.map AX))])) (bl:g.get (0::10::c)=J (.box [.d (.co (d.ac.map BR)),.d (.co (d.be.map BD)),.d (.co (d.rules.map BN))])) (a':g.get (0::18::c)=J (.box [nI l.n,nI a2.at_,ev])) (bx:Oz .emp c g b ev G.env):
 Wp cfg kT ⟨144,c,X,I,Z,221⟩ 0 (MH 5 (Tryz.f144.body.get rfl)) ⟨j,g,b,[]⟩ (MJ cfg I [] c X (KT p c m V h (Rn (KQ p aa) (Kh p l a2 st)))):=by
 have eg:=P m (V.m_mem m);have fr:=AN eg;have a5:=Aw eg;have fo:=bo.ok.ac;have fp:=bo.ok.be;have bi:G.ip=l.n:=by rw[b2];rfl
 have bh:G.at_=a2.at_:=by rw[b2];rfl
 have ec:=b3.wd.small;simp only[BP.small,As,Dl]at ec;obtain⟨f0,f5,f7,f8⟩:=ec;have⟨ng,cx⟩:=Cv (U st.eq.bv);have⟨n3,c8⟩:=Cv (U st.eq.ac);have⟨n0,cu⟩:=Cv (U st.eq.be);have f6:ng<=40:=z;have⟨NC,ch⟩:=Cv (Ev d G ng 0 d.ac);have c3:∀(b0:Nat) e,d.ac[b0]?=J e->NC[b0]?=J ⟨ng,b0,G.place d e.at_,[]⟩:=λb0 e ad=>by grind [IB]
 have ef:=AR.mk (U5 d9 bo b2);have f:AR (B8 (BS p Z) Z c m V h b V st g):=⟨(Q7 dm P b9).up z⟩;refine QW 3 λel dr=>?_;have b7:AR (∀(j:CN) (H:S) (e:Nat),j.get 0=.ptr m 0->j.get 2=(nI a2.at_)->j.get 5=.ptr (0::0::c) 0->j.get 8=.ptr (0::10::c) 0->j.get 9=.ptr (0::18::c) 0->(∃W,B8 (BS p Z) Z c m V h (e+52) W {st with eq:=CA st.eq d G} H/\∀i∈AE ev,i∉W.ids m)->H.get (0::0::c)=J (.box [nI l.op,nI l.n,.d (.co (l.args.map Bh)),.d (.co (l.kids.map AX))])->H.get (0::10::c)=J (.box [.d (.co (d.ac.map BR)),.d (.co (d.be.map BD)),.d (.co (d.rules.map BN))])->H.get (0::18::c)=J (.box [nI l.n,nI a2.at_,ev])->RJ .emp c H (e+52) ev G.env->Wp cfg kT ⟨144,c,X,I,Z,221⟩ 0 el ⟨j,H,e+52,[]⟩ (MJ cfg I [] c X (KT p c m V h (Rn (KQ p aa) (Kh p l a2 st))))):=⟨λj H e ej e8 e9 e' fc d0 fd fi fl e4=>by obtain⟨W,d0,e5⟩:=d0;rw[dr];exact rR d9 ek P b3 bo b2 ej e8 e9 e' fc z d0 e5 fd fi fl e4⟩
 replace dr:=AB dr;replace dm:=AB dm;replace P:=AB P;refine B4 ?_ bo b3 b2 cx c8 cu ch c3 b9;clear bo b3 b2 cx c8 cu ch c3 b9;intro bo b3 b2 cx c8 cu ch c3 b9;obtain⟨N,e3⟩:∃N,b=N+32:=⟨b-32,z⟩;subst e3;simp only[Tryz.f144,Option.get_some,MH,Rm];refine aw ?_;clear er es et ex e0;refine Ah d.ac (B2:=λi (n:S×Nat)=>⟨[(0,.ptr m 0),(2,nI a2.at_),(5,.ptr (0::0::c) 0),(8,.ptr (0::10::c) 0),(9,.ptr (0::18::c) 0),(12,nI i)],n.1,n.2+33,[]⟩)
  (Inv:=λi e6 n=>AR (∃q,B8 (BS p Z) Z c m V h (n.2+33) q {st with eq:={st.eq with ac:=st.eq.ac++NC.take i}} n.1/\∀i∈AE ev,i∉q.ids m)/\n.1.get (0::0::c)=J (.box [nI l.op,nI l.n,.d (.co (l.args.map Bh)),.d (.co (l.kids.map AX))])/\n.1.get (0::10::c)=J (.box [.d (.co (d.ac.map BR)),.d (.co (d.be.map BD)),.d (.co (d.rules.map BN))])/\n.1.get (0::18::c)=J (.box [nI l.n,nI a2.at_,ev])/\AR (Oz .emp c n.1 (n.2+33) ev G.env)) (b0:=(_,N)) ⟨⟨V,?_,AFY bx P.1⟩,bk,bl,a',⟨TN bx z⟩⟩ ?_ ?_
 .rw[Lw,CS];exact f.1.up z
 .clear f bx b9 bk bl a' eb g N;rintro i be ⟨g,e⟩ c2 o c6 ⟨f,bk,bl,a',Q⟩ bn;dsimp only at*;have⟨q,f,ag⟩:=f.1;have bc:=R7 Q.1 (e+73);have c9:=bo.1.ok.chan be (AP c2);have e7:TC.wrap ((i:Int)+1)=(i:Int)+1:=w_ z z;have K:=f.rep.box;have dx:=ef.1 be.at_ c9.1 c9.2.1;simp only[BS]at K;have cq:=OJ (f.rep.sl 1 z);simp only[BQ,BV,<-cx.1]at cq;have av:=f.rep.arr;have d8:AR (∀A,q.v3=.ii A 0 (U q.rows)->(∀n r,e+33<=r->AJ (n::r::c) A=Z)/\(∀n r,e+33<=r->AJ A (n::r::c)=Z)/\AJ A m=Z/\AJ m A=Z/\∀aa,AJ A (0::aa::c)=Z):=⟨λA dj=>by have o:=f.ids A (q.v3_mem m (by rw[dj];simp[AE]));have a6:=Ks f.rep.arr (id:=A) (by rw[dj];simp[AE]);exact⟨GB (b':=0) P.1 o,JG P.1 o,AI λj=>(by rw[j,K]at a6;cases a6),AI λj=>zCN,λaa=>AI λj=>Ig f P.1 aa (by rw[<-j];exact q.v3_mem m (by rw[dj];simp[AE]))⟩⟩
  have fz:U q.rows<=1000:=by have:=f.rep.ac.len;simp only[D1,F5]at this;omega
  have Y:AR (∀H:S,H.get m=J (.box (BS p Z {q with v3:=.ii (1::(e+65)::c) 0 (U q.rows+1)} st.work))->H.get (1::(e+65)::c)=J (.arr 4 (q.rows++[B7 ⟨ng,i,G.place d be.at_,[]⟩ .d8]))->(∀a,AJ m a=Z->(∀F∈AE q.v3,AJ F a=Z)->E6 (e+33) (e+73) c a=Z->H.get a=g.get a)->∃W,B8 (BS p Z) Z c m V h (e+73) W {st with eq:={st.eq with ac:=st.eq.ac++NC.take (i+1)}} H/\∀i∈AE ev,i∉W.ids m):=⟨λH b' em cc=>by have⟨W,z1,z2⟩:=f.step (b':=e+73) z (ADr f.rep (f.apartB P.1) (q:=⟨ng,i,G.place d be.at_,[]⟩) rfl (1::(e+65)::c) H b' em ⟨DV (e+65) [1] z z,_,rfl⟩ cc);rw[FD,c3.1 i be c2,<-F1];grind⟩
  refine Nm ?_ bc ag f;clear bc ag f;intro bc ag f;replace Q:=Q.1;rcases Q with⟨L,rfl⟩|⟨a,rfl,a6,r,cv,M,O⟩
  .rw[L,Ce]at dx;replace L:=AB L;rcases av with⟨av,c0⟩|⟨A,av,d7⟩
   .rw[av]at K
    (repeat' (first|simp only[*,go_sem,↓cq,F3,AM]|(refine sx ?_ ?_<;>intro ad)|refine sy z λl a1 a0=>?_|simp(disch:=first|assumption|omega) only[Ae]))
    refine bn.1 (_,_) ⟨⟨Y.1 _ ?_ ?_ λF ac D s=>?_⟩,?_,?_,?_,⟨.inl ⟨L.1,rfl⟩⟩⟩
    .rw[c0];simp only[go_sem,BS,AM]<;>rfl
    .rw[c0];simp only[go_sem,a5,B7,AM]<;>rfl
    .have a3:=Ax s;exact BZ
    .exact BZ
    .exact BZ
    exact BZ
   .have⟨t,w,x,B,C⟩:=d8.1 A av;rw[av]at K
    (repeat' (first|simp only[*,go_sem,↓cq,F3,AM]|(refine sx ?_ ?_<;>intro ad)|refine sy z λl a1 a0=>?_|simp(disch:=first|assumption|omega) only[Ae]))
    refine bn.1 (_,_) ⟨⟨Y.1 _ ?_ ?_ λF ac D s=>?_⟩,?_,?_,?_,⟨.inl ⟨L.1,rfl⟩⟩⟩
    .simp only[go_sem,BS,AM,t,w,x,B,C]<;>rfl
    .simp only[go_sem,a5,B7,AM,t,w,x,B,C]<;>rfl
    .have a3:=Ax s;have bs:=D A (by rw[av];simp[AE]);exact BZ
    .exact BZ
    .exact BZ
    exact BZ
  .have⟨f1,f2,f3,f4⟩:=GA cv M O;have ar:AJ m a=false:=AI λj=>by grind
   have ai:AJ a m=false:=RY a6 K;replace M:=AB M;replace O:=AB O;rcases av with⟨av,c0⟩|⟨A,av,d7⟩
   .rw[av]at K
    (repeat' (first|simp only[*,go_sem,↓cq,F3,AM]|(refine sx ?_ ?_<;>intro ad)|refine sy z λl a1 a0=>?_|simp(disch:=first|assumption|omega) only[Ae]))
    refine bn.1 (_,_) ⟨⟨Y.1 _ ?_ ?_ λF ac D s=>?_⟩,?_,?_,?_,⟨.inr ⟨a,rfl,?_,r,z,M.1,O.1⟩⟩⟩
    .rw[c0];simp only[go_sem,BS,AM,f1,f2,f3,f4,ar,ai]<;>rfl
    .rw[c0];simp only[go_sem,a5,B7,AM,f1,f2,f3,f4,ar,ai]<;>rfl
    .have a3:=Ax s;exact BZ
    .exact BZ
    .exact BZ
    .exact BZ
    exact BZ
   .have⟨t,w,x,B,C⟩:=d8.1 A av;rw[av]at K;have b1:AJ A a=false:=RY d7 a6;have b5:AJ a A=false:=AI λj=>by grind
    (repeat' (first|simp only[*,go_sem,↓cq,F3,AM]|(refine sx ?_ ?_<;>intro ad)|refine sy z λl a1 a0=>?_|simp(disch:=first|assumption|omega) only[Ae]))
    refine bn.1 (_,_) ⟨⟨Y.1 _ ?_ ?_ λF ac D s=>?_⟩,?_,?_,?_,⟨.inr ⟨a,rfl,?_,r,z,M.1,O.1⟩⟩⟩
    .simp only[go_sem,BS,AM,f1,f2,f3,f4,ar,ai,t,w,x,B,C,b1,b5]<;>rfl
    .simp only[go_sem,a5,B7,AM,f1,f2,f3,f4,ar,ai,t,w,x,B,C,b1,b5]<;>rfl
    .have a3:=Ax s;have bs:=D A (by rw[av];simp[AE]);exact BZ
    .exact BZ
    .exact BZ
    .exact BZ
    exact BZ
 .clear f bx b9 bk bl a' eb g N;rintro i ⟨g,e⟩ o c6 ⟨f,bk,bl,a',Q⟩;dsimp only at*;have df:=o.1;subst df;clear o;have cl:U NC=U d.ac:=by rw[ch.1,K3]
  rw[<-cl,F3]at f;have⟨V0,cn,cp⟩:=f.1;clear f;replace cp:=AB cp;replace cn:=AB cn;have bx:=Q;clear Q;refine aw ?_;have⟨NS,cm⟩:=Cv (EU d G d.be);have c4:∀(b0:Nat) e,d.be[b0]?=J e->NS[b0]?=J ⟨G.place d e.in_,Z⟩:=λb0 e ad=>by grind [EU]
  have c5:U NS=U d.be:=by rw[cm,HD]
  have fv:1<=n0:=by rw[cu.1];exact b3.1.wd.tree.pos
  refine mY ?_ cm c4 cl c5;clear cm c4 cl c5;intro cm c4 cl c5;refine Ah d.be (B2:=λi (n:S×Nat)=>⟨[(0,.ptr m 0),(2,nI a2.at_),(5,.ptr (0::0::c) 0),(8,.ptr (0::10::c) 0),(9,.ptr (0::18::c) 0),(13,nI i)],n.1,n.2+34,[]⟩)
   (Inv:=λi e6 n=>AR (∃q,B8 (BS p Z) Z c m V h (n.2+34) q {st with eq:={st.eq with ac:=st.eq.ac++NC,be:=st.eq.be++NS.take i}} n.1/\∀i∈AE ev,i∉q.ids m)/\n.1.get (0::0::c)=J (.box [nI l.op,nI l.n,.d (.co (l.args.map Bh)),.d (.co (l.kids.map AX))])/\n.1.get (0::10::c)=J (.box [.d (.co (d.ac.map BR)),.d (.co (d.be.map BD)),.d (.co (d.rules.map BN))])/\n.1.get (0::18::c)=J (.box [nI l.n,nI a2.at_,ev])/\AR (Oz .emp c n.1 (n.2+34) ev G.env)) (b0:=(_,e+5)) ⟨⟨V0,?_,cp.1⟩,bk,bl,a',⟨TN bx.1 z⟩⟩ ?_ ?_
  .rw[Lw,CS];exact cn.1.up z
  .clear cn cp bx bk bl a' g e V0;rintro i be ⟨g,e⟩ c2 o c6 ⟨f,bk,bl,a',Q⟩ bn;dsimp only at*;have⟨q,f,ag⟩:=f.1;have bc:=R7 Q.1 (e+67);have c9:=SK bo.1.ok.spot i be c2;have e7:TC.wrap ((i:Int)+1)=(i:Int)+1:=w_ z z;have K:=f.rep.box;have dx:=ef.1 be.in_ c9.1 z;simp only[BS]at K;have k:=f.rep.sl 0 z;have⟨LS,b6⟩:=Cv (st.eq.be++NS.take i);have fs:U LS<=100:=by rw[b6];simp;omega
   simp only[IU,BQ,<-b6]at k;have e2:LS≠ []:=by
    intro j;have e1:U LS=0:=by rw[j];rfl
    rw[b6,D1]at e1;have:=b3.1.wd.tree.pos;omega
   rcases k with⟨_,k⟩|⟨B2,az,k,de⟩
   .exact absurd (D6.1 k) e2
   have Y:AR (∀(v:y) (H:S),H.get m=J (.box (BS p Z (q.nl 0 v) st.work))->PF H 2 v ((LS++[(⟨G.place d be.in_,Z⟩:CD)]).map CZ)->(AE v=AE (q.s 0)\/∀a∈AE v,E6 (e+34) (e+67) c a=X/\∃d4,a=1::d4)->(∀a,AJ m a=Z->(∀F∈AE (q.s 0),AJ F a=Z)->E6 (e+34) (e+67) c a=Z->H.get a=g.get a)->∃W,B8 (BS p Z) Z c m V h (e+67) W {st with eq:={st.eq with ac:=st.eq.ac++NC,be:=st.eq.be++NS.take (i+1)}} H/\∀i∈AE ev,i∉W.ids m):=⟨λv H b' dc dd cc=>by
    have⟨W,z1,z2⟩:=f.step (b':=e+67) z (Hc (d9:={st with eq:={st.eq with ac:=st.eq.ac++NC,be:=LS++[⟨G.place d be.in_,Z⟩]}}) 0 z f.rep (f.apartB P.1) (pv rfl rfl rfl) rfl v H b' dc dd cc)
    rw[FD,c4.1 i be c2,<-F1,<-b6];grind⟩
   replace bc:=AB bc;replace ag:=AB ag;rw[BV]at k;have ea:=f.ids B2 (q.s_mem m (i:=0) z (by rw[k];simp[AE]));have t:=λn r cs=>GB (b':=0) P.1 ea n r cs;have w:=λn r cs=>JG P.1 ea n r cs;have x:AJ B2 m=false:=RY de K;have B:AJ m B2=false:=AI λj=>by grind
   have C:∀aa,AJ B2 (0::aa::c)=false:=λaa=>AI λj=>Ig f P.1 aa zC7;rw[k]at K;replace b6:=AB b6;replace f:=AB f;replace Q:=Q.1;rcases Q with⟨L,rfl⟩|⟨a,rfl,a6,r,cv,M,O⟩
   .rw[L,Ce]at dx;replace L:=AB L;rcases az with _|⟨d5,az⟩
    ·(repeat' (first|simp only[*,go_sem,F3,AM]|(refine sx ?_ ?_<;>intro ad)|refine sy z λl a1 a0=>?_|simp(disch:=first|assumption|omega) only[Ae]))
     refine bn.1 (_,_) ⟨⟨Y.1 (.ii (1::(e+59)::c) 0 (U LS+1)) _ ?_ (BM [] AG ?_) (.inr λF T=>?_) λF ac D s=>?_⟩,?_,?_,?_,⟨.inl ⟨L.1,rfl⟩⟩⟩
     .simp only[go_sem,BS,AM,t,w,x,B,C]<;>rfl
     .simp only[go_sem,a5,Ap,Ce,AM,t,w,x,B,C]<;>rfl
     .simp only[AE,AS]at T;subst T;exact⟨DV (e+59) [1] z z,_,rfl⟩
     .exact zAV
     .exact BZ
     .exact BZ
     exact BZ
    ·(repeat' (first|simp only[*,go_sem,F3,AM]|(refine sx ?_ ?_<;>intro ad)|refine sy z λl a1 a0=>?_|simp(disch:=first|assumption|omega) only[Ae]))
     refine bn.1 (_,_) ⟨⟨Y.1 (.ii B2 0 (U LS+1)) _ ?_ (BM az AG ?_) (.inl (by rw[k];rfl)) λF ac D s=>?_⟩,?_,?_,?_,⟨.inl ⟨L.1,rfl⟩⟩⟩
     .simp only[go_sem,BS,AM,t,w,x,B,C]<;>rfl
     .simp only[go_sem,a5,Ap,Ce,AM,t,w,x,B,C]<;>rfl
     .exact zAV
     .exact BZ
     .exact BZ
     exact BZ
   .have⟨f1,f2,f3,f4⟩:=GA cv M O;have ar:AJ m a=false:=AI λj=>by grind
    have ai:AJ a m=false:=RY a6 K;have b1:AJ B2 a=false:=AI λj=>ag.1 a Ay zC7;have b5:AJ a B2=false:=AI λj=>by grind [is_self]
    replace M:=AB M;replace O:=AB O;rcases az with _|⟨d5,az⟩
    ·(repeat' (first|simp only[*,go_sem,F3,AM]|(refine sx ?_ ?_<;>intro ad)|refine sy z λl a1 a0=>?_|simp(disch:=first|assumption|omega) only[Ae]))
     refine bn.1 (_,_) ⟨⟨Y.1 (.ii (1::(e+59)::c) 0 (U LS+1)) _ ?_ (BM [] AG ?_) (.inr λF T=>?_) λF ac D s=>?_⟩,?_,?_,?_,⟨.inr ⟨a,rfl,?_,r,z,M.1,O.1⟩⟩⟩
     .simp only[go_sem,BS,AM,t,w,x,B,C,f1,f2,f3,f4,ar,ai,b1,b5]<;>rfl
     .simp only[go_sem,a5,Ap,Ce,AM,t,w,x,B,C,f1,f2,f3,f4,ar,ai,b1,b5]<;>rfl
     .simp only[AE,AS]at T;subst T;exact⟨DV (e+59) [1] z z,_,rfl⟩
     .exact zAV
     .exact BZ
     .exact BZ
     .exact BZ
     exact BZ
    ·(repeat' (first|simp only[*,go_sem,F3,AM]|(refine sx ?_ ?_<;>intro ad)|refine sy z λl a1 a0=>?_|simp(disch:=first|assumption|omega) only[Ae]))
     refine bn.1 (_,_) ⟨⟨Y.1 (.ii B2 0 (U LS+1)) _ ?_ (BM az AG ?_) (.inl (by rw[k];rfl)) λF ac D s=>?_⟩,?_,?_,?_,⟨.inr ⟨a,rfl,?_,r,z,M.1,O.1⟩⟩⟩
     .simp only[go_sem,BS,AM,t,w,x,B,C,f1,f2,f3,f4,ar,ai,b1,b5]<;>rfl
     .simp only[go_sem,a5,Ap,Ce,AM,t,w,x,B,C,f1,f2,f3,f4,ar,ai,b1,b5]<;>rfl
     .exact zAV
     .exact BZ
     .exact BZ
     .exact BZ
     exact BZ
  .clear cn cp bx bk bl a' g e V0 c6;rintro i ⟨g,e⟩ o c6 ⟨f,bk,bl,a',Q⟩;dsimp only at*;have df:=o.1;subst df;clear o;have dn:=c5.1;rw[<-dn,F3]at f;have⟨q,hR9,ag⟩:=f.1;clear f;have f:=hR9;clear hR9;have bc:=R7 Q.1 (e+52);have K:=f.rep.box;simp only[BS]at K;have bv:=TM f.rep.arr;rw[f.rep.ac.len]at bv;simp only[D1,<-c8.1,cl.1]at bv;have b4:=OJ (f.rep.sl 0 z);simp only[BQ,BV,D1,<-cu.1,dn]at b4;have k:=f.rep.sl 1 z;simp only[IU,BQ]at k;clear dn;have Y:AR (∀(cd:S) (v:y) (H:S),(∀i∈q.ids m,cd.get i=g.get i)->(∀i,AD c i=Z->cd.get i=g.get i)->H.get m=J (.box (BS p Z (q.nl 1 v) st.work))->PF H 3 v ((st.eq.bv++[G]).map CY)->(AE v=AE (q.s 1)\/∀a∈AE v,E6 (e+34) (e+52) c a=X/\∃d4,a=1::d4)->(∀a,AJ m a=Z->(∀F∈AE (q.s 1),AJ F a=Z)->E6 (e+34) (e+52) c a=Z->H.get a=cd.get a)->∃W,B8 (BS p Z) Z c m V h (e+52) W {st with eq:=CA st.eq d G} H/\∀i∈AE ev,i∉W.ids m):=⟨λcd v H ac D b' dc dd cc=>by
    have dq:B8 (BS p Z) Z c m V h (e+34) q {st with eq:={st.eq with ac:=st.eq.ac++NC,be:=st.eq.be++NS}} cd:=⟨Fi f.rep ac,f.ids,λa en d6=>(D a d6).trans (f.frame a en d6)⟩
    have⟨W,z1,z2⟩:=dq.step (b':=e+52) z (Hc (d9:={st with eq:={st.eq with ac:=st.eq.ac++NC,be:=st.eq.be++NS,bv:=st.eq.bv++[G]}}) 1 z dq.rep (dq.apartB P.1) (AON rfl rfl rfl) rfl v H b' dc dd cc)
    refine⟨W,?_,λi o=>z2 i (ag i o) (bc i o)⟩;rw[CA,<-cx.1,<-ch.1,<-cm.1];exact z1⟩
   have c':AR (∀B2,q.s 1=.ii B2 0 (U st.eq.bv)->(∀n r,e+34<=r->AJ (n::r::c) B2=Z)/\(∀n r,e+34<=r->AJ B2 (n::r::c)=Z)/\AJ B2 m=Z/\AJ m B2=Z/\(∀aa,AJ B2 (0::aa::c)=Z)/\(∀i∈AE ev,AJ B2 i=Z/\AJ i B2=Z)):=⟨λB2 d'=>by have c7:B2∈q.ids m:=q.s_mem m (i:=1) z (by rw[d'];simp[AE]);have o:=f.ids B2 c7;have⟨ej,a6⟩:=Oi (f.rep.sl 1 z) (id:=B2) (by rw[d'];simp[AE]);exact⟨λn r cs=>GB (b':=0) P.1 o n r cs,JG P.1 o,AI λj=>(by rw[j,K]at a6;cases a6),AI λj=>zCN,λaa=>AI λj=>Ig f P.1 aa (by rw[<-j];exact c7),λi o=>⟨AI λj=>ag i o (by rw[<-j];exact c7),AI λj=>ag i o (by rw[j];exact c7)⟩⟩⟩
   have d3:AR (∀i∈q.ids m,∀b8∈AE ev,AJ b8 i=Z):=⟨λi o b8 ds=>AI λj=>ag b8 ds (by rw[j];exact o)⟩;have d2:AR (∀i,AD c i=Z->∀b8∈AE ev,AJ b8 i=Z):=⟨λi o b8 ds=>AI λj=>by
    rcases Q.1 with⟨_,rfl⟩|⟨a,rfl,_,r,_,M,_⟩
    .simp[AE]at ds
    grind [AE,Bq]⟩
   refine Nm ?_ bc ag f;clear bc ag f;intro bc ag f;replace Q:=Q.1;rcases Q with⟨L,R⟩|⟨a,R,a6,r,cv,M,O⟩
   .rw[R]at a';rcases k with⟨k,d1⟩|⟨B2,az,k,de⟩
    .have c1:=AR.mk (D6.1 d1);rw[k]at K
     (repeat' (first|simp only[*,go_sem,↓bv,↓b4,AM]|(refine sx ?_ ?_<;>intro ad)|refine sy z λl a1 a0=>?_|simp(disch:=first|assumption|omega) only[Ae]))
     refine b7.1 _ _ _ rfl rfl rfl rfl rfl (Y.1 g (.ii (1::(e+47)::c) 0 1) _ (λ_ _=>rfl) (λ_ _=>rfl) ?_ (BM [] ?_ ?_) (.inr λF T=>?_) λF ac D s=>?_) ?_ ?_ ?_ ?_
     .simp only[go_sem,BS,AM,bi,bh,L]<;>rfl
     .rw[c1.1];rfl
     .rw[c1.1];exact BZ
     .exact zAv
     .have a3:=Ax s;exact BZ
     .exact BZ
     .exact BZ
     .exact BZ
     .exact .inl ⟨L,R⟩
    .rw[BV]at k;rcases az with _|⟨d5,az⟩
     .have⟨t,w,x,B,C,a4⟩:=c'.1 B2 k;replace a4:=AB a4;rw[k]at K
      (repeat' (first|simp only[*,go_sem,↓bv,↓b4,AM]|(refine sx ?_ ?_<;>intro ad)|refine sy z λl a1 a0=>?_|simp(disch:=first|assumption|omega) only[Ae]))
      refine b7.1 _ _ _ rfl rfl rfl rfl rfl (Y.1 g (.ii (1::(e+47)::c) 0 (U st.eq.bv+1)) _ (λ_ _=>rfl) (λ_ _=>rfl) ?_ (BM [] ?_ ?_) (.inr λF T=>?_) λF ac D s=>?_) ?_ ?_ ?_ ?_
      .simp only[go_sem,BS,AM,bi,bh,t,w,x,B,C,L]<;>rfl
      .simp
      .simp only[go_sem,a5,Ap,Ce,AM,bi,bh,t,w,x,B,C,L]<;>rfl
      .exact zAv
      .exact zAV
      .exact BZ
      .exact BZ
      .exact BZ
      .exact .inl ⟨L,R⟩
     .have⟨t,w,x,B,C,a4⟩:=c'.1 B2 k;replace a4:=AB a4;rw[k]at K
      (repeat' (first|simp only[*,go_sem,↓bv,↓b4,AM]|(refine sx ?_ ?_<;>intro ad)|refine sy z λl a1 a0=>?_|simp(disch:=first|assumption|omega) only[Ae]))
      refine b7.1 _ _ _ rfl rfl rfl rfl rfl (Y.1 g (.ii B2 0 (U st.eq.bv+1)) _ (λ_ _=>rfl) (λ_ _=>rfl) ?_ (BM az ?_ ?_) (.inl (by rw[k];rfl)) λF ac D s=>?_) ?_ ?_ ?_ ?_
      .simp only[go_sem,BS,AM,bi,bh,t,w,x,B,C,L]<;>rfl
      .simp
      .simp only[go_sem,a5,Ap,Ce,AM,bi,bh,t,w,x,B,C,L]<;>rfl
      .exact zAV
      .exact BZ
      .exact BZ
      .exact BZ
      .exact .inl ⟨L,R⟩
   .rw[R]at a';have⟨f1,f2,f3,f4⟩:=GA cv M O;have ar:AJ m a=false:=AI λj=>by grind
    have ai:AJ a m=false:=RY a6 K;replace M:=AB M;replace O:=AB O;rcases k with⟨k,d1⟩|⟨B2,az,k,de⟩
    .have c1:=AR.mk (D6.1 d1);rw[k]at K
     (repeat' (first|simp only[*,go_sem,↓bv,↓b4,AM]|(refine sx ?_ ?_<;>intro ad)|refine sy z λl a1 a0=>?_|simp(disch:=first|assumption|omega) only[Ae]))
     refine b7.1 _ _ _ rfl rfl rfl rfl rfl (Y.1 (g.put a (.rt 2 (G.env.map A9))) (.ii (1::(e+47)::c) 0 1) _ (λi o=>by rw[p_,d3.1 i o a zCb];simp) (λi o=>by rw[p_,d2.1 i o a zCb];simp) ?_ (BM [] ?_ ?_) (.inr λF T=>?_) λF ac D s=>?_) ?_ ?_ ?_ ?_
     .simp only[go_sem,BS,AM,bi,bh,f1,f2,f3,f4,ar,ai]<;>rfl
     .rw[c1.1];rfl
     .rw[c1.1];exact BZ
     .exact zAv
     .have a3:=Ax s;exact BZ
     .exact BZ
     .exact BZ
     .exact BZ
     .exact zCE
    .rw[BV]at k;rcases az with _|⟨d5,az⟩
     .have⟨t,w,x,B,C,a4⟩:=c'.1 B2 k;have⟨q9,q10⟩:=a4 a zCb;replace a4:=AB a4;rw[k]at K
      (repeat' (first|simp only[*,go_sem,↓bv,↓b4,AM]|(refine sx ?_ ?_<;>intro ad)|refine sy z λl a1 a0=>?_|simp(disch:=first|assumption|omega) only[Ae]))
      refine b7.1 _ _ _ rfl rfl rfl rfl rfl (Y.1 (g.put a (.rt 2 (G.env.map A9))) (.ii (1::(e+47)::c) 0 (U st.eq.bv+1)) _ (λi o=>by rw[p_,d3.1 i o a zCb];simp) (λi o=>by rw[p_,d2.1 i o a zCb];simp) ?_ (BM [] ?_ ?_) (.inr λF T=>?_) λF ac D s=>?_) ?_ ?_ ?_ ?_
      .simp only[go_sem,BS,AM,bi,bh,t,w,x,B,C,q9,q10,f1,f2,f3,f4,ar,ai]<;>rfl
      .simp
      .exact zCI
      .exact zAv
      .exact zAV
      .exact BZ
      .exact BZ
      .exact BZ
      .exact zCE
     .have⟨t,w,x,B,C,a4⟩:=c'.1 B2 k;have⟨q9,q10⟩:=a4 a zCb;replace a4:=AB a4;rw[k]at K
      (repeat' (first|simp only[*,go_sem,↓bv,↓b4,AM]|(refine sx ?_ ?_<;>intro ad)|refine sy z λl a1 a0=>?_|simp(disch:=first|assumption|omega) only[Ae]))
      refine b7.1 _ _ _ rfl rfl rfl rfl rfl (Y.1 (g.put a (.rt 2 (G.env.map A9))) (.ii B2 0 (U st.eq.bv+1)) _ (λi o=>by rw[p_,d3.1 i o a zCb];simp) (λi o=>by rw[p_,d2.1 i o a zCb];simp) ?_ (BM az ?_ ?_) (.inl (by rw[k];rfl)) λF ac D s=>?_) ?_ ?_ ?_ ?_
      .simp only[go_sem,BS,AM,bi,bh,t,w,x,B,C,q9,q10,f1,f2,f3,f4,ar,ai]<;>rfl
      .simp
      .exact zCI
      .exact zAV
      .exact BZ
      .exact BZ
      .exact BZ
      .exact zCE
def AId{p:Aa}{sz:Al}{ai:Nat}(bk:Ar p sz)(be:Z4 p sz ai){h:S}{c:u}{m:u}{V:MV}{st:C5}(A:XC p h m V st)(Y:Di c V m)(R:WC p sz ai st){f:HK}{a:CF}(cx:U f.env<=10000){d:Bc}(B:GU p sz st.eq f a d):
 ∃bc a6,kT (.fn 144) [.ptr m 0,.agg [nI a.op,nI a.n,.d (.co (a.args.map Bh)),.d (.co (a.kids.map AX))],nI f.at_,.d (.co (f.env.map A9))] h c X I=.ok (bc,a6)/\KT p c m V h (Rn (KQ p ai) (Kh p a f st)) bc a6:=by
 have F:=A.box;have P:=Y m (V.m_mem m);simp[BS]at F;have cn:=AN P;have cp:=Aw P;have cq:=Wu P;have cs:=nV P;have bn:=B.ip;have cu:=B.n0;have cv:=l_ bn;have cl:=B.ok.ac;have cm:=B.ok.be;have a0:=GJ f.env z;have a':=R.wd.small;simp[BP.small]at a';obtain⟨c0,c2,c3,c4⟩:=a';refine mY ?_ A Y B R;clear A Y B R;intro A Y B R;have O:=TM A.1.arr;have N:=OJ (A.1.sl 0 z);rw[A.1.ac.len]at O;simp[BQ]at N;have⟨q,ag⟩:=Cv (U st.eq.ac);have⟨x,ad⟩:=Cv (U st.eq.be);rw[<-ag]at O;rw[<-ad]at N;have b2:q<=60:=z;have c1:x<=24:=z;replace ag:=AB ag;replace ad:=AB ad;by_cases az:U f.env=0;all_goals
  first
  |simp only[KF,D3 az]at a0
  |simp only[KF,Co az]at a0
  have fa:=Gl;refine Ba func144 ?_;refine QW 5 λbh a1=>?_;have bo:AR (∀(s:CN) (H:S) (o:Nat),s.get 0=.ptr m 0->s.get 2=(nI f.at_)->s.get 5=.ptr (0::0::c) 0->s.get 8=.ptr (0::10::c) 0->s.get 9=.ptr (0::18::c) 0->(∀i,AD c i=Z->H.get i=h.get i)->H.get (0::0::c)=J (.box [nI a.op,nI a.n,.d (.co (a.args.map Bh)),.d (.co (a.kids.map AX))])->H.get (0::10::c)=J (.box [.d (.co (d.ac.map BR)),.d (.co (d.be.map BD)),.d (.co (d.rules.map BN))])->(∃ev,H.get (0::18::c)=J (.box [nI a.n,nI f.at_,ev])/\Oz .emp c H (o+32) ev (f.env++HL q (U d.ac)++Mz x (U d.be)))->Wp cfg kT ⟨144,c,X,I,Z,221⟩ 0 bh ⟨s,H,o+32,[]⟩ (MJ cfg I [] c X (KT p c m V h (Rn (KQ p ai) (Kh p a f st))))):=⟨λs H o b5 b6 b7 b8 b9 l cc cd bs=>by
   obtain⟨ev,ch,D⟩:=bs;rw[a1];refine rU bk be A.1 Y.1 R.1 B.1 rfl b5 b6 b7 b8 b9 z l cc cd ch ?_;have:(Aj st.eq d a.n f).env=f.env++HL q (U d.ac)++Mz x (U d.be):=by rw[ag.1,ad.1,Aj,Hp,F1];rfl
   rw[this];exact D⟩
  replace a1:=AB a1;simp[Rm];refine ax ?_;clear a0;refine Ah d.ac (B2:=λe (j:S×Nat)=>⟨[(0,.ptr m 0),(2,nI f.at_),(5,.ptr (0::0::c) 0),(8,.ptr (0::10::c) 0),(9,.ptr (0::18::c) 0),(10,nI e)],j.1,j.2+21,[]⟩)
   (Inv:=λe b1 j=>AR (∀i,AD c i=Z->j.1.get i=h.get i)/\j.1.get (0::0::c)=J (.box [nI a.op,nI a.n,.d (.co (a.args.map Bh)),.d (.co (a.kids.map AX))])/\j.1.get (0::10::c)=J (.box [.d (.co (d.ac.map BR)),.d (.co (d.be.map BD)),.d (.co (d.rules.map BN))])/\AR (∃ev,j.1.get (0::18::c)=J (.box [nI a.n,nI f.at_,ev])/\Oz .emp c j.1 (j.2+21) ev (f.env++HL q e))) (b0:=(_,0)) ⟨⟨λi b=>?_⟩,?_,?_,⟨?_⟩⟩ ?_ ?_
  .have r:=AN b;have ar:=AN (AL b 16) 1 3;exact BZ
  .simp only[go_sem]
  .simp only[go_sem]
  .first
   |(refine⟨.emp,?_,.inl ⟨by simp[HL,CI az],rfl⟩⟩
     simp only[go_sem]
     done)
   |(refine⟨.ii (1::3::16::c) 0 (U f.env),?_,.inr ⟨_,by simp[HL],?_,16,z,under_iff.2 ⟨[1,3],rfl⟩,_,rfl⟩⟩
     .simp only[go_sem]
     .simp only[HL,List.range'_zero,Ce,CS];simp only[go_sem])
  .rintro e b' ⟨g,o⟩ bx C ac ⟨l,v,w,n⟩ Q;dsimp only at*;have⟨ev,k5,n⟩:=n.1;have bi:=(l.1 m P).trans F;have b3:TC.wrap ((e:Int)+1)=(e:Int)+1:=w_ z z;have b4:TC.wrap ((q:Int)+(e:Int))=(q:Int)+(e:Int):=w_ z z;have⟨L,t⟩:=Cv (f.env++HL q e);have T:AR (f.env++HL q (e+1)=L++[⟨3,(q:Int)+(e:Int)⟩]):=⟨by rw[jN,<-F1,<-t];simp⟩;rw[<-t]at n;have bl:U L<=20000:=by rw[t];simp[HL];omega
   replace t:=AB t;rcases n with⟨a5,rfl⟩|⟨i,rfl,bv,b0,W,K,D⟩
   ·(repeat' (first|simp only[*,go_sem,↓O,↓N]|(refine sx ?_ ?_<;>intro a2)|refine sy z λa a4 F=>?_|simp(disch:=first|assumption|omega) only[Ae]))
    refine Q.1 (_,_) ⟨⟨λi k=>?_⟩,?_,?_,⟨.ii (1::(o+38)::c) 0 1,?_,?_⟩⟩
    .have r:=AN k;have ar:=Wu k;simp only[go_sem,r,ar,l.1 i k,AM]
    .simp only[go_sem,v]
    .simp only[go_sem,w]
    .simp only[go_sem]
    .rw[T.1,a5];refine Qp z rfl ?_;simp only[go_sem]
   .have⟨f1,f2,f3,f4⟩:=GA W K D;have a3:=AR.mk (Bq K);clear D K W
    (repeat' (first|simp only[*,go_sem,↓O,↓N,AM]|(refine sx ?_ ?_<;>intro a2)|refine sy z λa a4 F=>?_|simp(disch:=first|assumption|omega) only[Ae]))
    refine Q.1 (_,_) ⟨⟨λaa k=>?_⟩,?_,?_,⟨.ii (1::(o+38)::c) 0 (U L+1),?_,?_⟩⟩
    .exact zBi
    .exact BZ
    .exact BZ
    .simp only[go_sem]
    .rw[T.1];refine Qp z AG ?_;simp only[go_sem,f1,f2,Ap,AM]
  .clear b2;rintro e ⟨g,o⟩ C ac ⟨l,v,w,n⟩;dsimp only at*;have av:=C.1;subst av;clear C;replace O:=AB O;refine aw ?_;refine Ah d.be (B2:=λe (j:S×Nat)=>⟨[(0,.ptr m 0),(2,nI f.at_),(5,.ptr (0::0::c) 0),(8,.ptr (0::10::c) 0),(9,.ptr (0::18::c) 0),(11,nI e)],j.1,j.2+27,[]⟩)
    (Inv:=λe b1 j=>AR (∀i,AD c i=Z->j.1.get i=h.get i)/\j.1.get (0::0::c)=J (.box [nI a.op,nI a.n,.d (.co (a.args.map Bh)),.d (.co (a.kids.map AX))])/\j.1.get (0::10::c)=J (.box [.d (.co (d.ac.map BR)),.d (.co (d.be.map BD)),.d (.co (d.rules.map BN))])/\AR (∃ev,j.1.get (0::18::c)=J (.box [nI a.n,nI f.at_,ev])/\Oz .emp c j.1 (j.2+27) ev (f.env++HL q (U d.ac)++Mz x e))) (b0:=(_,o)) ⟨l,v,w,⟨by obtain⟨ev,r,M⟩:=n.1;exact⟨ev,r,by simpa[Mz]using TN M z⟩⟩⟩ ?_ ?_
   .clear n l v w g o;rintro e b' ⟨g,o⟩ bx C ac ⟨l,v,w,n⟩ Q;dsimp only at*;have⟨ev,k5,n⟩:=n.1;have bi:=(l.1 m P).trans F;have b3:TC.wrap ((e:Int)+1)=(e:Int)+1:=w_ z z;have b4:TC.wrap ((x:Int)+(e:Int))=(x:Int)+(e:Int):=w_ z z;have⟨L,t⟩:=Cv (f.env++HL q (U d.ac)++Mz x e);have T:AR (f.env++HL q (U d.ac)++Mz x (e+1)=L++[⟨4,(x:Int)+(e:Int)⟩]):=⟨by rw[pZ,<-F1,<-t];simp⟩;rw[<-t]at n;have bl:U L<=20000:=by rw[t];simp[HL,Mz];omega
    replace t:=AB t;rcases n with⟨a5,rfl⟩|⟨i,rfl,bv,b0,W,K,D⟩
    ·(repeat' (first|simp only[*,go_sem,↓N]|(refine sx ?_ ?_<;>intro a2)|refine sy z λa a4 F=>?_|simp(disch:=first|assumption|omega) only[Ae]))
     refine Q.1 (_,_) ⟨⟨λi k=>?_⟩,?_,?_,⟨.ii (1::(o+44)::c) 0 1,?_,?_⟩⟩
     .have r:=AN k;have ar:=Wu k;simp only[go_sem,r,ar,l.1 i k,AM]
     .simp only[go_sem,v]
     .simp only[go_sem,w]
     .simp only[go_sem]
     .rw[T.1,a5];refine Qp z rfl ?_;simp only[go_sem]
    .have⟨f1,f2,f3,f4⟩:=GA W K D;have a3:=AR.mk (Bq K);clear D K W
     (repeat' (first|simp only[*,go_sem,↓N,AM]|(refine sx ?_ ?_<;>intro a2)|refine sy z λa a4 F=>?_|simp(disch:=first|assumption|omega) only[Ae]))
     refine Q.1 (_,_) ⟨⟨λaa k=>?_⟩,?_,?_,⟨.ii (1::(o+44)::c) 0 (U L+1),?_,?_⟩⟩
     .exact zBi
     .exact BZ
     .exact BZ
     .simp only[go_sem]
     .rw[T.1];refine Qp z AG ?_;simp only[go_sem,f1,f2,Ap,AM]
   .clear n l v w g o ac;rintro e ⟨g,o⟩ C ac ⟨l,v,w,n⟩;dsimp only at*;have av:=C.1;subst av;clear C;refine aw ?_;exact bo.1 _ _ _ rfl rfl rfl rfl rfl l.1 v w (by obtain⟨ev,r,M⟩:=n.1;exact⟨ev,r,TN M z⟩)
theorem fh{q:MV}{H t:S}{a:Nat}{x:BC}(w:Di c V m)(k:B8 (BS p Z) Z c m V h b q st H)(A:b<=a)(v:KT p (a::c) m q H r x t):x=.ret (.kw [])/\WG p c m V h (a+1) [] (gc (a::c) t) r:=by
 have C:=AL (w m (V.m_mem m)) a;rcases r with _|K
 .obtain⟨e,⟨f,D,i⟩,j⟩:=v;refine⟨e,⟨f,D,(An _ _ _ C).trans i⟩,λo s g=>?_,λB n=>by cases n⟩;rw[An _ _ _ (AL g a),j o (λl=>?_) (AL g a)]
  .exact k.frame o s g
  .rcases k.ids o l with l|⟨F,_,e,_⟩
   .exact s l
   grind [Bq]
 .obtain⟨e,i⟩:=v;have⟨f,j,h6⟩:=k.callL w A i;exact⟨e,f,j,λB n=>by cases n⟩
def Ss{p:Aa}{sz:Al}(bn:Ar p sz):∀T,Z4 p sz T
 |0=>λh c m V st e bo ag bs bx eg ej ek d7=>z|T+1=>λh c m V st e bo ag bs bx eg ej ek d7=>by
  have cl:=Ss bn T;obtain⟨A,e5,cd,c7,b3,bc,ex⟩:=NM bn bx;have d0:=c7;simp only[Cq,As,Dl,EM]at c7;obtain⟨b9,cc,dj,cp⟩:=c7;have e0:=bx.n0;have e4:=l_ cd;have a':=bo.box;have cv:=ag m (V.m_mem m);simp only[BS]at a';have n:=AN cv;have t:=Aw cv;have e7:TC.wrap (st.work+1)=st.work+1:=w_ z z;obtain⟨o,a0⟩:∃s,s={st with work:=st.work+1}:=⟨_,rfl⟩
  have d2:=bn.small;simp only[Aa.small,As,Dl]at d2;obtain⟨e8,e9,e'⟩:=d2;have dr:AR (KQ p (T+1) e st=if st.work<400 then Rn (KQ p T) (MR p e o)else I):=⟨by rw[a0];rfl⟩;have b4:AR (∀H:S,H.get m=J (.box (BS p Z V (st.work+1)))->(∀k,AJ m k=Z->AD c k=Z->H.get k=h.get k)->B8 (BS p Z) Z c m V h 0 V o H):=⟨λH bl b5=>by have:=ABF (d9:=o) bo ag (by rw[a0];exact bl) (by rw[a0];exact⟨rfl,rfl⟩) λk j ac=>b5 k (AI λR=>j R.symm) ac;exact⟨this.1,λk cq=>.inl cq,this.2.frame⟩⟩
  have a6:AR (st.work<400->WC p sz T o):=⟨λh=>by rw[a0];exact⟨bs,AZ,AZ,AZ,AZ⟩⟩;have b8:AR (Cb p sz o.eq e):=⟨by rw[a0];exact bx⟩;have c9:AR (o.eq=st.eq):=⟨by rw[a0]⟩;have d8:AR (U o.ev<=1000000):=⟨by rw[a0];dsimp only;omega⟩;have e2:AR (o.work=st.work+1):=⟨by rw[a0]⟩;replace a0:=AB a0;replace bo:=AB bo;replace ag:=AB ag;replace bs:=AB bs;replace bx:=AB bx;replace cp:=AB cp;replace d0:=AB d0;replace bc:=AB bc;replace b3:=AB b3;by_cases c':st.work<400
  .have ef:st.work+1<=400:=z;have e1:¬400<st.work+1:=z;rw[dr.1,D3 c'];have bk:AR (MR p e o=if A.op=2 then(Fw p A e o).map λst=>(st,[])else if A.op=3 then J (o,Bj A 0 e.at_ e.env++Bj A 1 e.at_ e.env)else if A.op=4 then Kh p A e o else if A.op=5 then J (o,Bj A (lj A e.env) e.at_ e.env)else if Ov A.op=X then(Gz e o).map λst=>(st,[])else J (o,[])):=⟨by rw[MR,cd]⟩;have a6:=a6.1 c';replace a6:=AB a6;have df:=AB dj;clear dj;rcases AGS b9 with D|D|D|D|D|D|D|D
   .rw[bk.1];simp only[D,Int.reduceEq,IP,Gs,Ov,decide_false,Bool.or_self,AM,Rn,EY];refine Ba func87 ?_;refine aw ?_;exact Gw (b:=0) (E:=[]) ⟨V,b4.1 _ zCh (λk j ac=>by have g:=AN ac;simp only[go_sem,g,j,AM]),λi az=>by cases az⟩
   .rw[bk.1];simp only[D,Int.reduceEq,IP,Gs,jo];have dx:0<=A.n/\A.n<U e.env:=by simpa[bz,D]using cc
    have d5:U A.args<=3:=by simpa[Ft,D]using df.1
    have cn:∀R∈A.args,R.formed (U e.env)=true:=λR d6=>by have:=cp.1 R d6;simp only[Bz.ok,As]at this;exact this.2.2
    have c5:AR (∀H a,B8 (BS p Z) Z c m V h 0 V o H->∃aa b7,kT (.fn 143) [.ptr m 0,.agg [nI 2,nI A.n,.d (.co (A.args.map Bh)),.d (.co (A.kids.map AX))],nI e.at_,.d (.co (e.env.map A9))] H (a::c) X I=.ok (aa,b7)/\(aa=.ret (.kw [])/\WG p c m V h (a+1) [] (gc (a::c) b7) (Fw p A e o))):=⟨λH a av=>by obtain⟨aa,Y,g,dc⟩:=AGy (st:=o) av.rep (av.apart ag.1 (n:=a) (GS _)) e z d5 cn dx.1 dx.2 (by rw[c9.1];exact bx.1.v6) (λa5 e6 bc=>by rw[c9.1]at bc⊢;exact Il bn bs.1 bc) d8.1;rw[D]at g;exact⟨aa,Y,g,fh ag.1 av (GS _) dc⟩⟩
    clear cn;exact zAe
   .rw[bk.1];simp only[D,Int.reduceEq,IP,Gs];have b':U A.kids=2:=by simpa[DM,D]using b9.symm
    obtain⟨ad,ai,a3⟩:=p7 b';have cu:Cb p sz o.eq ⟨ad,e.at_,e.env⟩:=Uk b8.1 z b3.1 bc.1 0 _ zDP;have c6:Cb p sz o.eq ⟨ai,e.at_,e.env⟩:=Uk b8.1 z b3.1 bc.1 1 _ zDP;have c8:Rn (KQ p T) (J (o,Bj A 0 e.at_ e.env++Bj A 1 e.at_ e.env))=((J o).bind (KQ p T ⟨ad,e.at_,e.env⟩)).bind (KQ p T ⟨ai,e.at_,e.env⟩):=by simp only[Bj,a3,Hm,Hw,F6,DL,Rn,EY,GO];cases KQ p T ⟨ad,e.at_,e.env⟩ o with|none=>rfl|some s=>simp only[GO];cases KQ p T ⟨ai,e.at_,e.env⟩ s<;>rfl
    rw[c8];have dm:AR (∀H a,36<=a->B8 (BS p Z) Z c m V h 0 V o H->∃aa Y,kT (.fn 87) [.ptr m 0,nI ad,nI e.at_,.d (.co (e.env.map A9))] H (a::c) X I=.ok (aa,Y)/\aa=.ret (.kw [])/\vU p c m V h 36 a [] H (gc (a::c) Y) ((J o).bind (KQ p T ⟨ad,e.at_,e.env⟩))):=⟨λH a cc av=>Kg cl ag.1 (r:=J o) (E:=[]) ⟨V,av.up z,λi az=>by cases az⟩ ⟨ad,e.at_,e.env⟩ (λdd R=>by cases R;exact⟨a6.1,cu⟩) H a cc (λ_ _=>rfl) λi az=>by cases az⟩;have dn:AR (∀H a b,b<=a->36<=b->WG p c m V h b [] H ((J o).bind (KQ p T ⟨ad,e.at_,e.env⟩))->∃aa Y,kT (.fn 87) [.ptr m 0,nI ai,nI e.at_,.d (.co (e.env.map A9))] H (a::c) X I=.ok (aa,Y)/\aa=.ret (.kw [])/\vU p c m V h b a [] H (gc (a::c) Y) (((J o).bind (KQ p T ⟨ad,e.at_,e.env⟩)).bind (KQ p T ⟨ai,e.at_,e.env⟩))):=⟨λH a b cc et av=>Kg cl ag.1 av ⟨ai,e.at_,e.env⟩ (λdd R=>by have ds:=HV bn T _ _ _ a6.1.wd cu R;exact⟨a6.1.post ds,Qo c6 ds.ext⟩) H a cc (λ_ _=>rfl) λi az=>by cases az⟩
    replace cu:=AB cu;replace c6:=AB c6;replace c8:=AB c8;obtain⟨en,cx,d4,em⟩:=A;dsimp only at a3 D b' cd⊢;subst a3;subst D;refine Ba func87 ?_;refine aw ?_;refine Ak (dm.1 _ _ z (b4.1 _ zCh (λk j ac=>by have g:=AN ac;simp only[go_sem,g,j,AM]))) (λch Y a1=>?_)
    obtain⟨a2,P⟩:=a1;subst a2;have es:=(P.box 35 z).trans (show _=J (.box [nI 3,nI cx,.d (.co (d4.map Bh)),.d (.co ([ad,ai].map AX))]) by simp only[go_sem]);have ea:=AB P.run;clear P;refine aw ?_;refine Ak (dn.1 _ _ _ ?_ ?_ ea.1) (λch Y a1=>?_)
    .omega
    .omega
    obtain⟨a2,P⟩:=a1;subst a2;replace P:=AB P;refine aw ?_;exact Gw P.1.run
   .rw[bk.1];simp only[D,Int.reduceEq,IP,Gs];obtain⟨d,c3⟩:=rV bn (s:=o.eq) (by rw[c9.1];exact bs.1) b8.1 cd D;have c5:AR (∀H a,B8 (BS p Z) Z c m V h 0 V o H->∃aa b7,kT (.fn 144) [.ptr m 0,.agg [nI 4,nI A.n,.d (.co (A.args.map Bh)),.d (.co (A.kids.map AX))],nI e.at_,.d (.co (e.env.map A9))] H (a::c) X I=.ok (aa,b7)/\(aa=.ret (.kw [])/\WG p c m V h (a+1) [] (gc (a::c) b7) (Rn (KQ p T) (Kh p A e o)))):=⟨λH a av=>by obtain⟨aa,Y,g,dc⟩:=AId bn cl av.rep (av.apart ag.1 (n:=a) (GS _)) a6.1 z c3;rw[D]at g;exact⟨aa,Y,g,fh ag.1 av (GS _) dc⟩⟩
    replace c3:=AB c3;exact zAe
   .rw[bk.1];simp only[D,Int.reduceEq,IP,Gs];have b':U A.kids=2:=by simpa[DM,D]using b9.symm
    obtain⟨ad,ai,a3⟩:=p7 b';have de:U A.args=1:=by simpa[Ft,D]using df.1
    obtain⟨b0,c4⟩:∃R,A.args=[R]:=by match hxa:A.args,de with|[R],_=>exact⟨R,rfl⟩
    have cn:b0.formed (U e.env)=true:=by have:=cp.1 b0 (by rw[c4];simp);simp only[Bz.ok,As]at this;exact this.2.2
    have d9:AR (Cb p sz o.eq ⟨ad,e.at_,e.env⟩):=⟨Uk b8.1 z b3.1 bc.1 0 _ zDP⟩;have d':AR (Cb p sz o.eq ⟨ai,e.at_,e.env⟩):=⟨Uk b8.1 z b3.1 bc.1 1 _ zDP⟩;have dq:AR (∀(a5:Int),Cb p sz o.eq ⟨a5,e.at_,e.env⟩->∀H a,B8 (BS p Z) Z c m V h 0 V o H->∃aa Y,kT (.fn 87) [.ptr m 0,nI a5,nI e.at_,.d (.co (e.env.map A9))] H (a::c) X I=.ok (aa,Y)/\aa=.ret (.kw [])/\vU p c m V h 0 a [] H (gc (a::c) Y) (KQ p T ⟨a5,e.at_,e.env⟩ o)):=⟨λa5 bv H a av=>Kg cl ag.1 (r:=J o) (E:=[]) ⟨V,av,λi az=>by cases az⟩ ⟨a5,e.at_,e.env⟩ (λdd R=>by cases R;exact⟨a6.1,bv⟩) H a (GS _) (λ_ _=>rfl) λi az=>by cases az⟩;obtain⟨v,q⟩:∃v,v=b0.value e.env:=⟨_,rfl⟩;have ec:=ACQ e.env b0 cn;rw[<-q]at ec;obtain⟨en,cx,d4,em⟩:=A;dsimp only at a3 D b' cd de c4 bk⊢;subst a3;subst D;subst c4;have cs:AR (lj ⟨5,cx,[b0],[ad,ai]⟩ e.env=if v.kind=1/\v.n≠0 then 0 else 1):=⟨by simp only[lj,Hm,q]⟩;have d1:AR (∀i,Rn (KQ p T) (J (o,Bj ⟨5,cx,[b0],[ad,ai]⟩ i e.at_ e.env))=match [ad,ai][i]? with|some a5=>KQ p T ⟨a5,e.at_,e.env⟩ o|none=>J o):=⟨λi=>by simp only[Rn,Bj];cases [ad,ai][i]? with|none=>rfl|some a5=>exact mF _ _ _⟩
    replace q:=AB q;by_cases bv:v.kind=1/\v.n≠0
    .rw[cs.1,D3 bv,d1.1];clear cs;obtain⟨dm,dn⟩:=bv;refine Ba func87 ?_;refine aw ?_;refine Ak (dq.1 ad d9.1 _ _ (b4.1 _ zCh (λk j ac=>by
     have g:=AN ac;simp only[go_sem,g,j,AM]))) (λch Y a1=>?_)
     exact zBJ
    .rw[cs.1,Co bv,d1.1];clear cs;have Q:(if v.kind=1 then v.n else 0)=0:=by
      split
      .rename_i b9;by_cases b2:v.n=0
       .exact b2
       .exact absurd ⟨b9,b2⟩ bv
      .rfl
     clear bv;refine Ba func87 ?_;refine aw ?_;refine Ak (dq.1 ai d'.1 _ _ (b4.1 _ zCh (λk j ac=>by
     have g:=AN ac;simp only[go_sem,g,j,AM]))) (λch Y a1=>?_)
     exact zBJ
   all_goals
    rw[bk.1];simp only[D,Int.reduceEq,IP,Gs,jo,Ov,decide_true,decide_false,Bool.true_or,Bool.or_true,Bool.or_self,AM];have eb:=a0.1;clear bk;subst eb;have bi:=GJ e.env z;have fa:=Gl;have w:=λa=>AN (AL cv a) 1 3;have x:=λa=>Aw (AL cv a) 1 3;have go:=AR.mk (Hc (d9:={st with work:=st.work+1,eq:={st.eq with waits:=st.eq.waits++[⟨e.at_,e.node,e.env⟩]}}) 2 z bo.1 ag.1 (oa rfl rfl rfl) rfl)
    have e3:U st.eq.waits<=40:=by have:=bs.1.small;simp only[BP.small,As,Dl]at this;omega
    have ar:AR (∀(N a:Nat) (H:S),U st.eq.waits<40->a=U st.eq.waits+1->H.get m=J (.box (BS p Z (V.nl 2 (.ii (1::N::c) 0 a)) (st.work+1)))->H.get (1::N::c)=J (.f9 3 ((st.eq.waits++[(⟨e.at_,e.node,e.env⟩:IK)]).map Bf))->(∀k,AJ m k=Z->(∀i∈AE (V.s 2),AJ i k=Z)->AD c k=Z->H.get k=h.get k)->KT p c m V h (Gz e {eq:=st.eq,ev:=st.ev,work:=st.work+1}) (.ret (.kw [])) H):=⟨λN a H bi c2 bl b5 b6=>by rw[Gz,D3 bi];exact⟨rfl,go.1 _ H bl (.inl (BM [] (by rw[c2];simp[BQ]) (by rw[CS];exact b5))) (.inr λk cq=>by simp only[AE,AS]at cq;subst cq;exact⟨Ao [1,N],_,rfl⟩) b6⟩⟩
    have c1:AR (∀{W:u} (a4:List (List Au)) (H:S),U st.eq.waits<40->V.s 2=.ii W 0 (U st.eq.waits)->H.get m=J (.box (BS p Z (V.nl 2 (.ii W 0 (U st.eq.waits+1))) (st.work+1)))->H.get W=J (.f9 3 ((st.eq.waits++[(⟨e.at_,e.node,e.env⟩:IK)]).map Bf++a4))->(∀k,AJ m k=Z->(∀i∈AE (V.s 2),AJ i k=Z)->AD c k=Z->H.get k=h.get k)->KT p c m V h (Gz e {eq:=st.eq,ev:=st.ev,work:=st.work+1}) (.ret (.kw [])) H):=⟨λ{W} a4 H bi c2 bl b5 b6=>by rw[Gz,D3 bi];exact⟨rfl,go.1 _ H bl (.inl (BM a4 (by simp[BQ]) b5)) (.inl (by rw[c2];rfl)) b6⟩⟩
    have bh:AR (∀(c0:MV) (H:S),¬(U st.eq.waits)<40->H.get m=J (.box (BS p X c0 (st.work+1)))->(∀k,AJ m k=Z->(∀i∈AE (V.s 2),AJ i k=Z)->AD c k=Z->H.get k=h.get k)->KT p c m V h (Gz e {eq:=st.eq,ev:=st.ev,work:=st.work+1}) (.ret (.kw [])) H):=⟨λc0 H bi bl b6=>by rw[Gz,Co bi];exact⟨rfl,⟨c0,_,bl⟩,λk cm ac=>b6 k (AI λR=>cm (by rw[<-R];exact V.m_mem m)) (λi az=>AI λR=>cm (by rw[<-R];exact V.s_mem m (i:=2) z az)) ac⟩⟩
    by_cases b2:U e.env=0;all_goals
     first
     |(simp only[KF,D3 b2]at bi;rw[CI b2]at ar c1)
     |simp only[KF,Co b2]at bi
    all_goals rcases cy (bo.1.sl 2 z)with⟨d3,Q⟩|⟨W,a4,q,b1⟩
    all_goals try simp only[IU,BQ,BV]at q
    .exact zAE
    .exact zAB
    .exact zAE
    .exact zAB
  .have ef:400<st.work+1:=z;rw[dr.1,Co c'];refine Ba func87 ?_;refine aw ?_;refine⟨rfl,⟨V,st.work+1,by simp only[go_sem,BS]⟩,λk cm ac=>?_⟩;have j:AJ m k=false:=AI λR=>cm (by rw[<-R];exact V.m_mem m);have g:=AN ac;simp only[go_sem,g,j,AM]
theorem AIj{p:Aa}{sz:Al}(c5:Ar p sz){h:S}{c:u}{m:u}{V:MV}{st:C5}(ai:XC p h m V st)(w:Di c V m)(Q:E0 p sz st.eq){at_:Int}(ar:Jd st.eq.be at_):
 ∃b9 a3,kT (.fn 164) [.ptr m 0,nI at_] h c X I=.ok (b9,a3)/\KT p c m V h (J ⟨N3 st.eq at_,st.ev,st.work⟩) b9 a3:=by
 have az:=ai.box;simp[BS]at az;have cc:=w m (V.m_mem m);have dr:=AN cc;have cp:=Aw cc;have b8:=Q.small;simp[BP.small]at b8;obtain⟨ea,eb,ec,ef⟩:=b8;have ch:=ar.1;have b0:=ar.2;have b4:AR (B8 (BS p Z) Z c m V h 0 V st h):=⟨Q7 ai w λs b=>rfl⟩;refine mY ?_ ai w Q ar;clear ai w Q ar;intro ai w Q ar;refine Ba func164 ?_;refine ax ?_;refine rounds (B2:=λ(a:Nat×S×Nat)=>⟨[(0,.ptr m 0),(1,nI at_),(4,nI a.1)],a.2.1,a.2.2+1,[]⟩)
  (Inv:=λa=>a.1<=(U st.eq.be)/\AR (∃k,B8 (BS p Z) Z c m V h (a.2.2+1) k ⟨{st.eq with be:=Pd st.eq.be at_ a.1},st.ev,st.work⟩ a.2.1)) (m:=λa=>U st.eq.be-a.1) (a:=(0,h,0)) ⟨GS _,⟨V,by rw[zI];exact b4.1.up z⟩⟩ ?_
 clear az b4;rintro⟨i,g,b⟩ ⟨hil,e⟩ IH;dsimp only at*;have⟨k,e⟩:=e.1;have⟨D,q⟩:=Cv (Pd st.eq.be at_ i);have r:U D=U st.eq.be:=by rw[q];exact Xm _ _ z
 have l:=e.rep.box;simp[BS]at l;have Y:=OJ (e.rep.sl 0 z);simp[BQ,<-q,r]at Y;by_cases c8:i<U st.eq.be
 .have c9:(i:Int)<U st.eq.be:=z;have⟨O,a1⟩:=g_ c8;have b3:D[i]?=J O:=by rw[q];exact AIi a1
  have ad:∀i,CX D i=CX st.eq.be i:=λj=>by grind [AD5]
  have ag:AR (Pd st.eq.be at_ (i+1)=D.set i {O with dead:=O.dead||EN st.eq.be i at_}):=⟨by rw[q];exact zH a1⟩
  have a6:=ABx ad r Q.1.tree;have a5:=pJ ad r (i:Int) at_;rw[<-q]at e;replace q:=AB q;have⟨B2,ys,hSs,gS,xS,lS,lS2⟩:=My (e.rep.sl 0 z) b3;simp[IU]at gS;have bv:=bW D (.co (st.eq.bv.map CY)) (.co (st.eq.ac.map Fg)) (.co (st.eq.waits.map Bf)) (i:Int) at_ z a6 ⟨z,z⟩ ch;rw[a5]at bv;have dj:TC.wrap ((i:Int)+1)=(i:Int)+1:=w_ z z;have⟨c0,d0⟩:=DF (e.rep.sl 0 z);have⟨c1,cl⟩:=DF (e.rep.sl 1 z);have⟨c2,cm⟩:=QJ (e.rep.sl 2 z);have⟨c4,cn⟩:=Lj e.rep.arr;have cq:=S5 (e.rep.sl 0 z);have cs:=S5 (e.rep.sl 1 z);have cu:=S6 (e.rep.sl 2 z);have cv:=kn e.rep.arr e.rep.ac;simp[BQ]at cq cs cu cv;refine mY ?_ ad a6 a5 e;clear ad a6 a5 e;intro ad a6 a5 e;have c3:=AB r;have dx:(i:Int)<U D:=z;rcases M:EN st.eq.be i at_ with _|_
  .rw[M,Bool.or_false]at ag;rw[M]at bv;replace r:=AB r;clear Y;refine ax ?_;refine IH.1 (i+1,g,b+18) AZ ⟨AZ,⟨k,?_⟩⟩;have:Pd st.eq.be at_ (i+1)=D:=by rw[ag.1];exact pR b3
   dsimp only;rw[this];exact e.1.up z
  .rw[M]at bv ag;rw[Bool.or_true]at ag;replace r:=AB r;clear Y;refine ax ?_;have c6:AJ B2 m=false:=RY gS l;have dc:(D.set i {O with dead:=X}).map CZ++ys=(D.map CZ++ys).set i [.int .i64 O.in_,.bool X]:=by rw[List.set_append_left _ _ (by simpa using lS),I2];rfl
   have⟨ac,hR2,_⟩:=e.1.step (b':=b+28) z (Hc (N:=E6 (b+1) (b+28) c) (st:=⟨{st.eq with be:=D},st.ev,st.work⟩) (d9:=⟨{st.eq with be:=Pd st.eq.be at_ (i+1)},st.ev,st.work⟩) 0 z e.1.rep (e.1.apartB w.1) (pv rfl rfl rfl) rfl (.ii B2 0 (U D)) (g.put B2 (.f9 2 ((D.map CZ++ys).set i [.int .i64 O.in_,.bool X]))) (by rw[p_,c6];exact l.trans (by rw[<-hSs];rfl)) (BM ys (by simp[BQ];rw[Xm _ _ z];exact c3.1) (by rw[p_,is_self,<-dc,<-ag.1];rfl)) (.inl (by rw[hSs])) λs a2 bh b2=>by grind [p_,AE])
   exact IH.1 (i+1,_,b+27) AZ ⟨AZ,⟨ac,hR2⟩⟩
 .have M:i=U st.eq.be:=z;have c9:¬(i:Int)<U st.eq.be:=z;rw[q,M,jm]at r;rw[M,jm]at e;clear q D;have⟨D,q⟩:=Cv (Ku st.eq.be at_);rw[wQ,<-q];rw[<-q]at e r;refine mY ?_ q M e r;clear q M e r;intro q M e r
  (repeat' (first|simp only[*,go_sem,↓Y,AM]|(refine sx ?_ ?_<;>intro b5)|refine sy z λO a1 az=>?_|simp(disch:=first|assumption|omega) only[Ae]))
  refine Ah st.eq.waits (B2:=λj (a:(S×y)×Nat)=>⟨[(0,.ptr m 0),(5,a.1.2),(6,nI j)],a.1.1,a.2+11,[]⟩)
   (Inv:=λj df a=>b<=a.2/\AR (B8 (BS p Z) Z c m V h (b+11) k ⟨{st.eq with be:=D},st.ev,st.work⟩ a.1.1)/\AR ((a.1.2=.d8/\(st.eq.waits.take j).filter (λo=> !A8 D o.at_)=[])\/∃n,b+11<=n/\n<a.2+11/\a.1.2=.ii (1::n::c) 0 ((st.eq.waits.take j).filter λo=> !A8 D o.at_).length/\a.1.1.get (1::n::c)=J (.f9 3 (((st.eq.waits.take j).filter λo=> !A8 D o.at_).map Bf)))) (b0:=((g,.d8),b)) ⟨D4 _,⟨e.1.up z⟩,⟨.inl ⟨rfl,rfl⟩⟩⟩ ?_ ?_
  .clear e Y l;rintro j o ⟨⟨g,v⟩,f⟩ bc av P ⟨bn,e,x⟩ T;dsimp only at*;have l:=e.1.rep.box;simp[BS]at l;have bl:=r.1;have a0:=Q.1.wait o (AP bc);simp only[Hx,As,Dl]at a0;have⟨w0,dj⟩:=a0.1;have⟨sp,hsp⟩:=g_ (l:=D) (i:=o.at_.toNat) z;have⟨B2,ys,hSs,gS,xS,lS,lS2⟩:=My (e.1.rep.sl 0 z) hsp;have⟨W,zs,hWs,gW,xW,lW,lW2⟩:=My (ux (e.1.rep.sl 2 z) bc) bc;simp[IU]at gS gW;rw[hSs,hWs]at l;have d2:=P;have dm:TC.wrap ((j:Int)+1)=(j:Int)+1:=w_ z z;have C:A8 D o.at_=sp.dead:=by rw[A8,hsp];rfl
   have⟨F,B⟩:=Cv ((st.eq.waits.take j).filter λo=> !A8 D o.at_);have L:(st.eq.waits.take (j+1)).filter (λo=> !A8 D o.at_)=if sp.dead=X then F else F++[o]:=by rw[FD,bc,List.filter_append,B,Option.toList_some,List.filter_cons,C];cases sp.dead<;>simp
   rw[<-B]at x;have ds:U F<=40:=by rw[B];exact HE (List.length_filter_le _ _) zCN
   have d7:=GB (b':=0) w.1 (e.1.ids m (k.m_mem m));have d8:=GB (b':=0) w.1 (e.1.ids B2 (k.s_mem m (i:=0) z (by rw[hSs];simp[AE])));have d9:=GB (b':=0) w.1 (e.1.ids W (k.s_mem m (i:=2) z (by rw[hWs];simp[AE])));refine mY ?_ C B bl a0;clear C B bl a0;intro C B bl a0;rcases hsd:sp.dead with _|_
   .rw[hsd,Co AG]at L;replace L:=AB L;rcases x.1 with⟨rfl,R⟩|⟨n,be,bx,rfl,bi⟩
    .replace R:=AB R;refine ax ?_;refine T.1 ((_,_),f+41) ⟨AZ,⟨e.1.loc w.1 λs t=>?_⟩,⟨.inr ⟨f+47,z,AZ,?_,?_⟩⟩⟩
     .have b':=t 1 (f+46) z;have de:=t 1 (f+47) z;exact BZ
     .rw[L.1,R.1];rfl
     .rw[L.1,R.1];exact BZ
    .have eg:WA (U F) (F.map Bf)=F.map Bf:=Bi AG;have cl:¬f+46=n:=z;have cm:¬n=f+46:=z;have dq:¬f+47=n:=z;have cn:¬n=f+47:=z;refine ax ?_;refine T.1 ((_,_),f+41) ⟨AZ,⟨e.1.loc w.1 λs t=>?_⟩,⟨.inr ⟨f+47,z,AZ,?_,?_⟩⟩⟩
     .have b':=t 1 (f+46) z;have de:=t 1 (f+47) z;exact BZ
     .rw[L.1,D1];rfl
     .rw[L.1,Ap];exact BZ
   .rw[hsd,D3 rfl]at L;refine ax ?_;refine T.1 ((_,_),f+29) ⟨AZ,e,⟨?_⟩⟩;dsimp only;rw[L];rcases x.1 with h|⟨n,be,bx,d6⟩
    .exact .inl h
    grind
  .clear e Y l;rintro j ⟨⟨g,v⟩,f⟩ av P ⟨bn,e,x⟩;dsimp only at*;rw[av.1,F3]at x;have⟨F,B⟩:=Cv (st.eq.waits.filter λo=> !A8 D o.at_);rw[<-B]at x⊢;have l:=e.1.rep.box;simp[BS]at l;have a':=AJu (e.1.rep.sl 2 z);simp[BQ]at a';have N:=TM e.1.rep.arr;rw[e.1.rep.ac.len]at N;dsimp only at N;have c':=P;have dd:v.isCell=X/\v.cells=[v]:=by rcases x.1 with⟨rfl,_⟩|⟨n,_,_,rfl,_⟩<;>exact⟨rfl,rfl⟩
   obtain⟨v0,v1⟩:=dd;replace B:=AB B;have bs:AR (∀H:S,H.get m=J (.box (BS p Z (k.nl 2 v) st.work))->(∀s,AJ m s=Z->H.get s=g.get s)->∃ac,B8 (BS p Z) Z c m V h (f+26) ac ⟨⟨D,st.eq.bv,RH D st.eq.ac 0,F⟩,st.ev,st.work⟩ H):=⟨λH b0 b1=>by
    rw[zD];have⟨ac,hR2,_⟩:=e.1.step (b':=f+26) z (Hc (N:=E6 (b+11) (f+26) c) (st:=⟨{st.eq with be:=D},st.ev,st.work⟩) (d9:=⟨{st.eq with be:=D,waits:=F},st.ev,st.work⟩) 2 z e.1.rep (e.1.apartB w.1) (oa rfl rfl rfl) rfl v H b0 (by
     refine Or.inl ?_;rcases x.1 with⟨rfl,R⟩|⟨n,be,bx,rfl,bi⟩
     .exact .inl ⟨rfl,by show F.map Bf=[];rw[R];rfl⟩
     .exact BM [] (by simp[BQ]) (by rw[b1 _ (cp 1 n),bi,CS];rfl)) (.inr λs t=>by
     rcases x.1 with⟨rfl,R⟩|⟨n,be,bx,rfl,bi⟩
     .simp[AE]at t
     .simp[AE]at t;subst t;exact⟨DV n [1] be z,_,rfl⟩) λs a2 bh b2=>b1 s a2)
    exact⟨ac,hR2⟩⟩
   replace x:=AB x
   (repeat' (first|simp only[*,go_sem,↓a',↓N,AM]|(refine sx ?_ ?_<;>intro b5)|refine sy z λO a1 az=>?_|simp(disch:=first|assumption|omega) only[Ae]))
   refine Ah st.eq.ac (B2:=λj (a:S×Nat)=>⟨[(0,.ptr m 0),(7,nI j)],a.1,a.2+26,[]⟩)
    (Inv:=λj df a=>AR (∃k,B8 (BS p Z) Z c m V h (a.2+26) k ⟨⟨D,st.eq.bv,RH D st.eq.ac j,F⟩,st.ev,st.work⟩ a.1)) (b0:=(_,f)) ⟨bs.1 _ ?_ λs a2=>?_⟩ ?_ ?_
   .simp only[go_sem,BS]<;>rfl
   .exact BZ
   .clear bs e x v0 v1 a' N l bn g v f k;rintro j K ⟨g,f⟩ aa av P e T;dsimp only at*;have⟨k,e⟩:=e.1;have l:=e.rep.box;simp[BS]at l;have b7:=(Il c5 Q.1 aa).at_;have d':=b7.1;have b':=b7.2;have⟨qv,hrow,hqs⟩:=e.rep.ac.row _ _ (eH (l:=D) aa);rcases e.rep.arr with⟨_,a4⟩|⟨A,a4,cx⟩
    .rw[a4]at hrow;simp at hrow
    have d5:=l_ hrow;have d3:U k.rows=U st.eq.ac:=by have:=e.rep.ac.len;simp only at this;rw[this,ADz _ _ (by have:=l_ aa;omega)]
    have bk:=r.1;have⟨sp,hsp⟩:=g_ (l:=D) (i:=K.at_.toNat) z;have⟨B2,ys,hSs,gS,xS,lS,lS2⟩:=My (e.rep.sl 0 z) hsp;simp[IU]at gS;rw[hSs,a4]at l;have dm:TC.wrap ((j:Int)+1)=(j:Int)+1:=w_ z z;have d1:=P;have b6:AR (RH D st.eq.ac (j+1)=(RH D st.eq.ac j).set j (IM D K)):=⟨zC aa⟩;have C:A8 D K.at_=sp.dead:=by rw[A8,hsp];rfl
    have c7:=AB λa3=>Y1 (N:=E6 (f+26) (f+63) c) e.rep (e.apartB w.1) a4 (eH (l:=D) aa) hrow [] .d8 a3;have d4:=AB hrow;simp[B7]at hrow;refine Nm ?_ bk e C;clear bk e C;intro bk e C;rcases hsd:sp.dead with _|_
    .refine ax ?_;have bo:IM D K=K:=by rw[IM,C.1,hsd,Co AG]
     refine T.1 (_,f+28) ⟨k,?_⟩;dsimp only;rw[b6.1,bo,pR (eH (l:=D) aa)];exact e.1.up z
    .refine ax ?_;have bo:IM D K={K with queue:=[]}:=by rw[IM,C.1,hsd,D3 rfl]
     have cd:AJ A m=false:=RY cx l;have⟨V3,hR3,_⟩:=e.1.step (b':=f+63) z (c7.1 (g.put A (.arr 4 (k.rows.set j [nI K.group,nI K.index,nI K.at_,.d8]))) (by rw[p_,cd];exact e.1.rep.box) zDN (.inl (.inl ⟨rfl,rfl⟩)) (.inr λs t=>by simp[AE]at t) λs a2 bh b2 dn=>by rw[p_,bh];rfl);refine T.1 (_,f+37) ⟨V3,?_⟩;dsimp only at hR3⊢;rw[b6.1,bo];exact hR3
   .clear bs e x v0 v1 a' N l bn g v f k;rintro j ⟨g,f⟩ av P e;dsimp only at*;have⟨k,e⟩:=e.1;rw[av.1,ADy]at e;have l:=e.rep.box;simp[BS]at l;have N:=TM e.rep.arr;rw[e.rep.ac.len]at N;simp at N;have c':=P;replace e:=AB e
    (repeat' (first|simp only[*,go_sem,↓N,AM]|(refine sx ?_ ?_<;>intro b5)|refine sy z λO a1 az=>?_|simp(disch:=first|assumption|omega) only[Ae]))
    exact⟨rfl,k,e.1.rep,λs t=>(e.1.ids s t).imp_right λ⟨n,_,h2,h3⟩=>⟨Bq h2,h3⟩,e.1.frame⟩
theorem p9{p:Aa}{sz:Al}(b4:Ar p sz){h:S}{c:u}{m:u}{V:MV}{st:C5}(x:Di c V m)(bv:E0 p sz st.eq){i:Nat}{a:IK}(bc:st.eq.waits[i]?=J a)(d':ws p st.eq a=X)(en:U st.ev<=400000){j:BP}(s:j={st.eq with waits:=BF st.eq.waits i}){o:CN} {g:S} {b:Nat} {A:MV} (ej:o.get 0=.ptr m 0) (ek:o.get 4=.ptr (0::8::c) 0) (em:30<=b) (F:B8 (BS p Z) Z c m V h b A ⟨j,st.ev,0⟩ g)(et:g.get (0::8::c)=J (.box [nI a.at_,nI a.node,.d (.co (a.env.map A9))])):
 Wp cfg kT ⟨105,c,X,I,Z,139⟩ 0 (MH 2 (Tryz.f105.body.get rfl)) ⟨o,g,b,[]⟩ (MJ cfg I [] c X (KT p c m V h (QL p st.eq st.ev ⟨i,0,0,[]⟩))):=by
 have d1:=x m (V.m_mem m);have R:=AN d1;have T:=Aw d1;have b6:=bv.small;simp[BP.small]at b6;obtain⟨e0,e1,e2,e3⟩:=b6;have cx:=bv.wait a (AP bc);obtain⟨bk,K⟩:=Ou b4 cx;have cv:E0 p sz j:=by rw[s];exact Nh bv zDS λv bx=>bv.wait v (Ji bx)
 have ar:=K.node;have er:=K.n0;have es:=l_ ar;have dn:=K.op;have bs:=F.rep.box;simp[BS]at bs;obtain⟨N,ea⟩:∃N,b=N+30:=⟨b-30,z⟩;subst ea;replace x:=AB x;replace F:=AB F;replace bv:=AB bv;replace K:=AB K;replace cx:=AB cx;replace s:=AB s;have df:AR (∀(H:S) (e:Nat) (E:IX),(∃B,B8 (BS p Z) Z c m V h e B ⟨j,st.ev++[E],0⟩ H)->∃a3 w,kT (.fn 164) [.ptr m 0,nI a.at_] H (e::c) X I=.ok (a3,w)/\a3=.ret (.kw [])/\KT p c m V h (J ⟨N3 j a.at_,st.ev++[E],0⟩) (.ret (.kw [])) (gc (e::c) w)):=⟨λH e E az=>by obtain⟨B,az⟩:=az;obtain⟨a3,w,a4,a5⟩:=AIj (st:=⟨j,st.ev++[E],0⟩) b4 az.rep (az.apart x.1 (n:=e) (D4 _)) cv (at_:=a.at_) (by rw[s.1];exact K.1.at_);obtain⟨a6,b2⟩:=fh x.1 az (D4 _) a5;exact⟨a3,w,a4,a6,Gw b2⟩⟩
 have cs:AR (∀(n:Int) (b7:BP),E0 p sz b7->Cb p sz b7 ⟨n,a.at_,a.env⟩->∀(H:S) (e:Nat) (E:IX),(∃B,B8 (BS p Z) Z c m V h e B ⟨b7,st.ev++[E],0⟩ H)->∃a3 w,kT (.fn 87) [.ptr m 0,nI n,nI a.at_,.d (.co (a.env.map A9))] H (e::c) X I=.ok (a3,w)/\a3=.ret (.kw [])/\KT p c m V h (KQ p 401 ⟨n,a.at_,a.env⟩ ⟨b7,st.ev++[E],0⟩) (.ret (.kw [])) (gc (e::c) w)):=⟨λn b7 d4 d5 H e E az=>by
  obtain⟨B,az⟩:=az;obtain⟨a3,w,a4,a5,a6⟩:=Kg (Ss b4 401) x.1 (r:=J ⟨b7,st.ev++[E],0⟩) (E:=[]) ⟨B,az,λi a0=>by cases a0⟩ ⟨n,a.at_,a.env⟩ (λeg o=>by cases o;exact⟨⟨d4,AZ,AZ,AZ,BL⟩,d5⟩) H e (D4 _) (λ_ _=>rfl) λi a0=>by cases a0
  exact⟨a3,w,a4,a5,Gw a6.run⟩⟩
 have b9:AR (∀(E:IX) (D:Nat),N+30<=D->∀H:S,(∃t,H.get m=J (.box (BS p Z (A.nl 3 t) 0))/\PF H 5 t ((st.ev++[E]).map ND)/\(AE t=AE (A.s 3)\/∀id∈AE t,E6 (N+30) D c id=X/\∃c9,id=1::c9))->(∀id,AJ m id=Z->(∀c8∈AE (A.s 3),AJ c8 id=Z)->E6 (N+30) D c id=Z->H.get id=g.get id)->∃B,B8 (BS p Z) Z c m V h D B ⟨j,st.ev++[E],0⟩ H):=⟨λE D c5 H ⟨t,A1,A2,A3⟩ A4=>by obtain⟨B,b3,_⟩:=F.1.step (b':=D) c5 (Hc (d9:=⟨j,st.ev++[E],0⟩) 3 z F.1.rep (F.1.apartB x.1) (sg rfl) rfl t H A1 A2 A3 A4);exact⟨B,b3⟩⟩
 have ai:AR (∀bi,st.eq.be[a.at_.toNat]?=J bi->∀e:Int,∃B2 Y,A.s 0=.ii B2 0 (U st.eq.be)/\g.get B2=J (.f9 2 (st.eq.be.map CZ++Y))/\(st.eq.be.map CZ++Y)[a.at_.toNat]?=J (CZ bi)/\a.at_.toNat<U st.eq.be/\a.at_.toNat<U st.eq.be+U Y/\(∀C e,N+30<=e->AJ (C::e::c) B2=Z)/\(∀C e,N+30<=e->AJ B2 (C::e::c)=Z)/\(∀b0,AJ B2 (0::b0::c)=Z)/\AJ B2 m=Z/\AJ m B2=Z/\(∀i∈AE (A.s 3),AJ B2 i=Z/\AJ i B2=Z)/\
  ∀(E:IX) (D:Nat),N+30<=D->∀H:S,(∃t,H.get m=J (.box (BS p Z (A.nl 3 t) 0))/\PF H 5 t ((st.ev++[E]).map ND)/\(AE t=AE (A.s 3)\/∀id∈AE t,E6 (N+30) D c id=X/\∃c9,id=1::c9))->H.get B2=J (.f9 2 ((st.eq.be.map CZ++Y).set a.at_.toNat [.int .i64 e,.bool bi.dead]))->(∀id,AJ m id=Z->AJ B2 id=Z->(∀c8∈AE (A.s 3),AJ c8 id=Z)->E6 (N+30) D c id=Z->H.get id=g.get id)->∃B,B8 (BS p Z) Z c m V h D B ⟨{j with be:=GZ j.be a.at_ e},st.ev++[E],0⟩ H):=⟨λbi b5 e=>by
  have b6:j.be=st.eq.be:=by rw[s.1]
  obtain⟨B2,Y,cp,bo,c1,cl,c0⟩:=My (F.1.rep.sl 0 z) (show j.be[a.at_.toNat]?=J bi by rw[b6];exact b5);simp[IU,b6]at bo c1 cl c0 cp;have c4:=A.s_mem m (i:=0) z (id:=B2) (by rw[cp];simp[AE]);have d0:=F.1.ids B2 c4;have av:AJ B2 m=false:=RY bo bs;have b1:AJ m B2=false:=AI λo=>by grind
  have ad:∀i∈AE (A.s 3),g.get i≠J (.f9 2 (st.eq.be.map CZ++Y)):=λi a0=>by
   rcases F.1.rep.sl 3 z with⟨bx,_⟩|⟨E,a',bx,c2⟩
   .grind [AE]
   grind [AE,IU]
  refine⟨B2,Y,cp,bo,c1,cl,c0,λC e c7=>GB (b':=0) x.1 d0 C e c7,λC e c7=>JG x.1 d0 C e c7,λb0=>AI λo=>Ig F.1 x.1 b0 (by rw[<-o];exact c4),av,b1,λi a0=>⟨AI λo=>ad i a0 (by rw[<-o];exact bo),AI λo=>ad i a0 (by rw[o];exact bo)⟩,λE D c5 H ⟨t,A1,A2,A3⟩ A5 A4=>?_⟩;have el:∀i∈AE t,AJ B2 i=false:=λi a0=>AI λo=>by
   rcases A3 with C|C
   .grind
   .have:=(C i a0).1;rw[<-o,F.1.apartB x.1 B2 c4]at this;cases this
  have dd:(H.put B2 (.f9 2 (st.eq.be.map CZ++Y))).get m=J (.box (BS p Z (A.nl 3 t) 0)):=by rw[p_,av];exact A1
  obtain⟨B,b3⟩:=b9.1 E D c5 (H.put B2 (.f9 2 (st.eq.be.map CZ++Y))) ⟨t,dd,by
   rcases A2 with C|⟨i,ef,C,d⟩
   .exact .inl C
   .exact .inr ⟨i,ef,C,by grind [p_,AE]⟩,A3⟩ λid bn ag f=>by grind [AI,p_]
  have de:B.s 0=.ii B2 0 (U st.eq.be):=by have:=Obj.box.inj (Kw (dd.symm.trans b3.rep.box));simp only[BS,SP]at this;rw[<-cp];exact this.2.2.2.2.1.symm
  obtain⟨d3,ec,_⟩:=b3.step (b':=D) (D4 _) (Hc (d9:=⟨{j with be:=GZ j.be a.at_ e},st.ev++[E],0⟩) 0 z b3.rep (b3.apartB x.1) (pv rfl rfl rfl) rfl (.ii B2 0 (U st.eq.be)) H (by
   have o:=b3.rep.box;rw[p_,av]at o;rw[show H.get m=_ from o];simp only[BS,de];rfl) (BM Y (by grind [BQ,NW]) (by
    rw[A5,BQ,List.set_append_left _ _ (by simpa using cl)];have:GZ j.be a.at_ e=st.eq.be.set a.at_.toNat {bi with in_:=e}:=by rw[GZ,b6];simp[b5]
    rw[this,I2];rfl)) (.inl (by rw[de])) λid bn ag f=>by grind [p_,AE])
  exact⟨d3,ec⟩⟩
 have dj:AR (∀n,bk.kids=[n]->Cb p sz j ⟨n,a.at_,a.env⟩):=⟨λn q=>by have:=KO b4 cx.1 ar 0;rw[show Bj bk 0 a.at_ a.env=[⟨n,a.at_,a.env⟩] by rw[Bj,q];rfl]at this;rw[s.1];grind [H9]⟩
 have cn:AR (∀(n:Int) (v:C4),bk.op=6->bk.kids=[n]->JI a.env bk.n=v->E0 p sz {j with be:=GZ j.be a.at_ v.n}/\Cb p sz {j with be:=GZ j.be a.at_ v.n} ⟨n,a.at_,a.env⟩):=⟨λn v cn q W=>by
  obtain⟨t,_,ds,cc⟩:=K.1.val z;rw[W]at ds;subst ds;have be:=d';rw[ws,ar]at be;simp only[cn,Int.reduceEq,Gs,W]at be;have dm:v.kind=4:=by
   by_cases eb:v.kind=4
   .exact eb
   .grind
  rw[D3 dm]at be;obtain⟨d2,_⟩:=cc dm;simp only[As,Dl,It]at be;have dq:0<a.at_:=by have:=K.1.at_.1;omega
  refine⟨KC cv dq (by rw[s.1];exact K.1.at_) (by rw[s.1];exact d2) (by rw[s.1];exact be.2.1) (by rw[s.1];exact be.2.2),?_⟩;have:=KO b4 ((KC bv.1 dq K.1.at_ d2 be.2.1 be.2.2).wait a (AP bc)) ar 0;rw[show Bj bk 0 a.at_ a.env=[⟨n,a.at_,a.env⟩] by rw[Bj,q];rfl]at this;rw[s.1];exact H9 (this _ AG) (BF st.eq.waits i)⟩
 have val:=λc3:¬bk.op=7=>K.1.val c3;have q:=λc3:¬bk.op=7=>AHo b4 K.1 c3;have cu:=K.1.n;have cq:=K.1.at_;have dr:=AB cv;clear cv;rcases F.1.rep.sl 3 z with⟨l,bh⟩|⟨E,a',l,c2⟩
 .have L:=trivial;have Q:=trivial;have O:=trivial;have P:=trivial;have d9:=trivial;rw[l]at bs;replace l:=AB l;replace bh:AR (st.ev=[]):=⟨D6.1 bh⟩;simp[Tryz.f105,MH];rcases dn with M|M|M
  .obtain⟨v,bx,W,cc⟩:=val z;obtain⟨n,q⟩:=q z;obtain⟨c',dc⟩:=cu z;have d6:=cq.1;have d7:=cq.2;obtain⟨bi,b5⟩:=g_ (l:=st.eq.be) (i:=a.at_.toNat) z;obtain⟨B2,Y,b',bo,c1,cl,c0,cd,ch,b8,av,b1,a2,ai⟩:=ai.1 _ b5 v.n;have bl:=trivial;have ad:=trivial;try replace bl:=(a2 E zCu).1
   try replace ad:=(a2 E zCu).2
   replace a2:=AB a2;replace ai:=AB ai;have a1:=cn.1 n v M q W;rw[pb bc ar M q W,show({st.eq with waits:=BF st.eq.waits i,be:=GZ st.eq.be a.at_ v.n}:BP)={j with be:=GZ j.be a.at_ v.n} by rw[s.1]]
   rw[b']at bs;replace a1:=AB a1;refine aw ?_;refine Ak (cs.1 _ _ a1.1.1 a1.1.2 _ _ ⟨2,a.at_,v.n,0,[]⟩ (ai.1 _ _ z _ ?_ ?_ λid bn d8 ag f=>?_)) (λcm w aa=>?_)
   .apply Exists.intro;refine⟨?_,?_,?_⟩
    .exact zCA
    .first
     |(refine BM [] (by simp[bh.1]) ?_
       simp only[CS,Ap,Bv,Ce,bh.1];exact BZ)
     |(refine BM a' AG ?_
       simp only[Ap,Bv,Ce,F1,F6,DL];simp only[go_sem,b8,cd,ch,av,b1,ad,bl,R,T,O,P,L,Q,AM]
       done)
    .first
     |exact .inl zCz
     |exact .inr λid r=>by exact zBC
   .exact BZ
   .have a4:=Ax f 0 (N+39) z z;have a5:=Ax f 1 (N+62) z z;have a6:=Ax f 1 (N+63) z z;exact BZ
   obtain⟨ac,k⟩:=aa;subst ac;replace k:=AB k;refine aw ?_;exact k.1
  .rw[ZL bc ar M,<-s.1];refine aw ?_;refine Ak (df.1 _ _ ⟨3,a.at_,0,0,[]⟩ (b9.1 _ _ z _ ?_ λid bn ag f=>?_)) (λcm w aa=>?_)
   .apply Exists.intro;refine⟨?_,?_,?_⟩
    .exact zBW
    .exact zAt
    .first
     |exact .inl zCz
     |exact .inr λid r=>by exact zBD
   .have a4:=Ax f 0 (N+39) z z;have a5:=Ax f 1 (N+55) z z;have a6:=Ax f 1 (N+56) z z;exact BZ
   obtain⟨ac,k⟩:=aa;subst ac;replace k:=AB k;refine aw ?_;exact k.1
  .obtain⟨v,bx,W,cc⟩:=val z;obtain⟨n,q⟩:=q z;obtain⟨c',dc⟩:=cu z;rw[ZM bc ar M q W,<-s.1];have c6:=dj.1 _ q;refine aw ?_;refine Ak (cs.1 _ _ dr.1 c6 _ _ ⟨4,a.at_,v.n,0,[]⟩ (b9.1 _ _ z _ ?_ λid bn ag f=>?_)) (λcm w aa=>?_)
   .apply Exists.intro;refine⟨?_,?_,?_⟩
    .exact zBW
    .exact zAt
    .first
     |exact .inl zCz
     |exact .inr λid r=>by exact zBE
   .have a4:=Ax f 0 (N+39) z z;have a5:=Ax f 1 (N+64) z z;have a6:=Ax f 1 (N+65) z z;exact BZ
   obtain⟨ac,k⟩:=aa;subst ac;replace k:=AB k;refine aw ?_;exact k.1
 .have dx:=F.1.ids E (A.s_mem m (i:=3) z (by rw[l];simp[AE]));have d9:∀b0,AJ E (0::b0::c)=false:=λb0=>AI λo=>Ig F.1 x.1 b0 (by rw[<-o];exact A.s_mem m (i:=3) z (by rw[l];simp[AE]));have O:=GB (b':=0) x.1 dx;have P:=JG x.1 dx;have L:AJ E m=false:=RY c2 bs;have Q:AJ m E=false:=AI λo=>by grind
  simp[IU,BQ]at c2 l;rw[l]at bs;replace l:=AB l;rcases a' with _|⟨ex,a'⟩;all_goals
   simp[Tryz.f105,MH];rcases dn with M|M|M
   .obtain⟨v,bx,W,cc⟩:=val z;obtain⟨n,q⟩:=q z;obtain⟨c',dc⟩:=cu z;have d6:=cq.1;have d7:=cq.2;obtain⟨bi,b5⟩:=g_ (l:=st.eq.be) (i:=a.at_.toNat) z;obtain⟨B2,Y,b',bo,c1,cl,c0,cd,ch,b8,av,b1,a2,ai⟩:=ai.1 _ b5 v.n;have bl:=trivial;have ad:=trivial;try replace bl:=(a2 E zCu).1
    try replace ad:=(a2 E zCu).2
    replace a2:=AB a2;replace ai:=AB ai;have a1:=cn.1 n v M q W;rw[pb bc ar M q W,show({st.eq with waits:=BF st.eq.waits i,be:=GZ st.eq.be a.at_ v.n}:BP)={j with be:=GZ j.be a.at_ v.n} by rw[s.1]]
    rw[b']at bs;replace a1:=AB a1;refine aw ?_;refine Ak (cs.1 _ _ a1.1.1 a1.1.2 _ _ ⟨2,a.at_,v.n,0,[]⟩ (ai.1 _ _ z _ ?_ ?_ λid bn d8 ag f=>?_)) (λcm w aa=>?_)
    .apply Exists.intro;refine⟨?_,?_,?_⟩
     .exact zCA
     .first
      |(refine BM [] AG ?_
        simp;simp only[go_sem,b8,cd,ch,av,b1,ad,bl,R,T,O,P,L,Q,AM,DL]
        done)
      |(refine BM a' AG ?_
        simp;exact BZ)
     .first
      |exact .inl zCz
      |exact .inr λid r=>by exact zBC
    .exact BZ
    .have a4:=Ax f 0 (N+39) z z;have a5:=Ax f 1 (N+62) z z;have a6:=Ax f 1 (N+63) z z;exact zBU
    obtain⟨ac,k⟩:=aa;subst ac;replace k:=AB k;refine aw ?_;exact k.1
   .rw[ZL bc ar M,<-s.1];refine aw ?_;refine Ak (df.1 _ _ ⟨3,a.at_,0,0,[]⟩ (b9.1 _ _ z _ ?_ λid bn ag f=>?_)) (λcm w aa=>?_)
    .apply Exists.intro;refine⟨?_,?_,?_⟩
     .exact zBW
     .exact zBZ
     .first
      |exact .inl zCz
      |exact .inr λid r=>by exact zBD
    .have a4:=Ax f 0 (N+39) z z;have a5:=Ax f 1 (N+55) z z;have a6:=Ax f 1 (N+56) z z;exact zBU
    obtain⟨ac,k⟩:=aa;subst ac;replace k:=AB k;refine aw ?_;exact k.1
   .obtain⟨v,bx,W,cc⟩:=val z;obtain⟨n,q⟩:=q z;obtain⟨c',dc⟩:=cu z;rw[ZM bc ar M q W,<-s.1];have c6:=dj.1 _ q;refine aw ?_;refine Ak (cs.1 _ _ dr.1 c6 _ _ ⟨4,a.at_,v.n,0,[]⟩ (b9.1 _ _ z _ ?_ λid bn ag f=>?_)) (λcm w aa=>?_)
    .apply Exists.intro;refine⟨?_,?_,?_⟩
     .exact zBW
     .exact zBZ
     .first
      |exact .inl zCz
      |exact .inr λid r=>by exact zBE
    .have a4:=Ax f 0 (N+39) z z;have a5:=Ax f 1 (N+64) z z;have a6:=Ax f 1 (N+65) z z;exact zBU
    obtain⟨ac,k⟩:=aa;subst ac;replace k:=AB k;refine aw ?_;exact k.1
