/- P -/
import Derived.Test.YtbinfhpngacfgaaGreatOn13
set_option linter.all false
set_option maxRecDepth 99999
set_option maxHeartbeats 0
open List renaming replicate->Sm,map->TC,take->TL,length->U
open Go.IntKind renaming i64->SE
open Option renaming some->J,none->I
open Bool renaming true->X,false->Z
namespace Go
variable{p:Prop}
def zCH(h:p:=by simp[CP,Ab,AD]):p:=h
def zCM(h:p:=by simp[KZ]):p:=h
def zCU(h:p:=by first|assumption|(show D.many=0;assumption)):p:=h
def zCV(h:p:=by rw[R];simp[AD]):p:=h
def zCW(h:p:=by rw[q.1];simp[AD]):p:=h
def zCb(h:p:=by simp only[go_sem,BX,n,AM]):p:=h
def zCo(h:p:=by rw[l.1];simp[AD]):p:=h
def zCt(h:p:=by rw[l.1];rfl):p:=h
def zC0(h:p:=by rw[BV];omega):p:=h
def zC2(h:p:=by rw[<-j];exact q.q_j m (i:=0) z (by rw[k];simp[AD])):p:=h
def zC6(h:p:=by simp[Ab,c]):p:=h
def zDF(h:p:=by grind [Cu,Ab]):p:=h
def zDG(h:p:=by first|assumption|(show¬D.many=0;assumption)):p:=h
def zDI(h:p:=by first|assumption|omega|(rw[M.1];decide)):p:=h
def zDL(h:p:=by simp[Bh,a3]):p:=h
end Go
namespace Go
variable{p:Prop}
def zAB(h:p:=by
 simp only[Ie,BT]at b1;have be:=ag.1 W (V.q_j m (i:=2) z (by rw[q];simp[AD]));rw[q]at a';have F:=AN be;have K:=Av be;have L:=λa=>AN (AL be a) 1 3;have M:=λa=>Av (AL be a) 1 3;have C:AJ W m=false:=Rn b1 a';have O:AJ m W=false:=Rn a' b1;replace q:=AB q;by_cases el:(40:Int)<(U st.em.waits+1:Nat);all_goals rcases a4 with _|⟨er,a4⟩
 all_goals
  refine Bf func87 ?_;refine ax ?_;all_goals
   first
   |refine ar.1 61 (U st.em.waits+1) _ z rfl (by
    simp only[go_sem,n,t,w,x,L,M,F,K,C,O,AM];first|done|rfl) (by
    simp only[Ap,By,Ci];simp only[go_sem,n,t,w,x,L,M,F,K,C,O,AM,Cs];first|done|rfl) (λk j r f=>by
    have g:=AN f;have l:=λa=>AN (AL f a) 1 3;have B:=r W zCW;simp only[go_sem,g,l,j,B,AM])
   |refine ar.1 63 (U st.em.waits+1) _ z rfl (by
    simp only[go_sem,n,t,w,x,L,M,F,K,C,O,AM];first|done|rfl) (by
    simp only[Ap,By,Ci];simp only[go_sem,n,t,w,x,L,M,F,K,C,O,AM,Cs];first|done|rfl) (λk j r f=>by
    have g:=AN f;have l:=λa=>AN (AL f a) 1 3;have B:=r W zCW;simp only[go_sem,g,l,j,B,AM])
   |refine ar.1 65 (U st.em.waits+1) _ z rfl (by
    simp only[go_sem,n,t,w,x,L,M,F,K,C,O,AM];first|done|rfl) (by
    simp only[Ap,By,Ci];simp only[go_sem,n,t,w,x,L,M,F,K,C,O,AM,Cs];first|done|rfl) (λk j r f=>by
    have g:=AN f;have l:=λa=>AN (AL f a) 1 3;have B:=r W zCW;simp only[go_sem,g,l,j,B,AM])
   |refine c1.1 a4 _ z q.1 (by
    simp only[go_sem,n,t,w,x,L,M,F,K,C,O,AM];first|done|rfl) (by
    simp only[Ap,By,Ci,F0,F4,Cs];simp only[go_sem,n,t,w,x,L,M,F,K,C,O,AM];first|done|rfl) (λk j r f=>by
    have g:=AN f;have l:=λa=>AN (AL f a) 1 3;have B:=r W zCW;simp only[go_sem,g,l,j,B,AM])
   |refine bh.1 (V.nl 2 (.ii (1::61::c) 0 (U st.em.waits+1))) _ z (by
    simp only[go_sem,n,t,w,x,L,M,F,K,C,O,AM];first|done|rfl) (λk j r f=>by
    have g:=AN f;have l:=λa=>AN (AL f a) 1 3;have B:=r W zCW;simp only[go_sem,g,l,j,B,AM])
   |refine bh.1 (V.nl 2 (.ii (1::63::c) 0 (U st.em.waits+1))) _ z (by
    simp only[go_sem,n,t,w,x,L,M,F,K,C,O,AM];first|done|rfl) (λk j r f=>by
    have g:=AN f;have l:=λa=>AN (AL f a) 1 3;have B:=r W zCW;simp only[go_sem,g,l,j,B,AM])
   |refine bh.1 (V.nl 2 (.ii (1::65::c) 0 (U st.em.waits+1))) _ z (by
    simp only[go_sem,n,t,w,x,L,M,F,K,C,O,AM];first|done|rfl) (λk j r f=>by
    have g:=AN f;have l:=λa=>AN (AL f a) 1 3;have B:=r W zCW;simp only[go_sem,g,l,j,B,AM])
   |refine bh.1 (V.nl 2 (.ii W 0 (U st.em.waits+1))) _ z (by
    simp only[go_sem,n,t,w,x,L,M,F,K,C,O,AM];first|done|rfl) (λk j r f=>by
    have g:=AN f;have l:=λa=>AN (AL f a) 1 3;have B:=r W zCW;simp only[go_sem,g,l,j,B,AM])):p:=h
def zAC(h:p:=by
 by_cases ek:(12:Int)<=(U w.queue);all_goals rcases b6 with _|⟨es,b6⟩
 all_goals
  (repeat' (first|simp only[*,go_sem,AM]|(refine sx ?_ ?_<;>intro be)|refine sy z λe c9 a4=>?_|simp(disch:=first|assumption|omega) only[Ad]))
  all_goals
   first
   |(rw[cu.1 Cc];exact ai.1 _ (λc b=>by have a:=AN b;simp only[go_sem,a,AM]))
   |(rw[cv.1 zDG];exact ai.1 _ (λc b=>by have a:=AN b;simp only[go_sem,a,AM]))
   |(rw[b4.1 Cc zCU zDI];refine⟨rfl,?_⟩;refine go.1 (.ii (1::(b+85)::C) 0 (U w.queue+1)) _ ?_ ?_ (SY (BO [] ?_ ?_)) (.inr λp m=>?_) λp k o l q=>?_;all_goals (first|(simp only[AD,AS]at m;subst m;exact⟨Aq [1,b+85],_,rfl⟩)|(have a:=AN q;have h:=j.1 p q;have ad:=l Q Az;simp only[go_sem,a,h,k,o,ad,AM];done)|(simp;done)|(simp only[go_sem,s,t,a1,a2,az,a',F,BX,Y.1,W.1,x.1,CF,Ap,Ci,AM,bl,bn,bi,bh,bk,b5];first|done|rfl));done)
   |(rw[b4.1 Cc zCU (by first|assumption|omega)];refine⟨rfl,?_⟩;refine go.1 (.ii Q 0 (U w.queue+1)) _ ?_ ?_ (SY (BO b6 ?_ ?_)) (.inl rfl) λp k o l q=>?_;all_goals (first|(simp only[AD,AS]at m;subst m;exact⟨Aq [1,b+85],_,rfl⟩)|(have a:=AN q;have h:=j.1 p q;have ad:=l Q Az;simp only[go_sem,a,h,k,o,ad,AM];done)|(simp;done)|(simp only[go_sem,s,t,a1,a2,az,a',F,BX,Y.1,W.1,x.1,CF,Ap,Ci,AM,bl,bn,bi,bh,bk,b5];first|done|rfl));done)
   |(rw[d5.1 Cc zCU (by first|assumption|omega)];exact⟨rfl,⟨V,st.work,by simp only[go_sem,s,t,a1,a2,az,a',F,BX,Y.1,W.1,x.1,CF,Ap,Ci,AM,bl,bn,bi,bh,bk,b5];first|done|rfl⟩,λp b0 q=>by(have k:AJ n p=false:=AI λO=>b0 (by rw[<-O];exact V.q_i n);have o:AJ A p=false:=AI λO=>b0 (by rw[<-O];exact V.q_p n (by rw[x.1];simp[AD]));have ad:AJ Q p=false:=AI λO=>b0 (by rw[<-O];exact ch.1);have a:=AN q;have h:=j.1 p q;simp only[go_sem,a,h,k,o,ad,AM])⟩)):p:=h
def zAE(h:p:=by
 replace Q:=AR.mk (D7.1 Q);rcases d3 with q|q;all_goals
  rw[q]at a';refine Bf func87 ?_;refine ax ?_;first
  |refine ar.1 61 1 _ (by rw[Q.1];decide) (by rw[Q.1];rfl) (by
   simp only[go_sem,n,t,w,x,AM];first|done|rfl) (by
   simp only[Ap,By,Ci,Q.1];simp only[go_sem,n,t,w,x,AM,Cs];first|done|rfl) (λk j r f=>by
   have g:=AN f;have l:=λa=>AN (AL f a) 1 3;simp only[go_sem,g,l,j,AM])
  |refine ar.1 63 1 _ (by rw[Q.1];decide) (by rw[Q.1];rfl) (by
   simp only[go_sem,n,t,w,x,AM];first|done|rfl) (by
   simp only[Ap,By,Ci,Q.1];simp only[go_sem,n,t,w,x,AM,Cs];first|done|rfl) (λk j r f=>by
   have g:=AN f;have l:=λa=>AN (AL f a) 1 3;simp only[go_sem,g,l,j,AM])
  |refine ar.1 65 1 _ (by rw[Q.1];decide) (by rw[Q.1];rfl) (by
   simp only[go_sem,n,t,w,x,AM];first|done|rfl) (by
   simp only[Ap,By,Ci,Q.1];simp only[go_sem,n,t,w,x,AM,Cs];first|done|rfl) (λk j r f=>by
   have g:=AN f;have l:=λa=>AN (AL f a) 1 3;simp only[go_sem,g,l,j,AM])):p:=h
def zAF(h:p:=by
 rcases d9 with rfl|rfl;all_goals
  (repeat' (first|simp only[*,go_sem,AM]|(refine sx ?_ ?_<;>intro be)|refine sy z λe c9 a4=>?_|simp(disch:=first|assumption|omega) only[Ad]))
  all_goals
   first
   |(rw[cu.1 Cc];exact ai.1 _ (λc b=>by have a:=AN b;simp only[go_sem,a,AM]))
   |(rw[cv.1 zDG];exact ai.1 _ (λc b=>by have a:=AN b;simp only[go_sem,a,AM]))
   |(rw[b4.1 Cc zCU zDI];refine⟨rfl,?_⟩;refine go.1 (.ii (1::(b+85)::C) 0 1) _ ?_ ?_ (SY (BO [] ?_ ?_)) (.inr λp m=>?_) λp k o l q=>?_;all_goals (first|(simp only[AD,AS]at m;subst m;exact⟨Aq [1,b+85],_,rfl⟩)|(have a:=AN q;have h:=j.1 p q;simp only[go_sem,a,h,k,o,AM];done)|(simp[M.1];done)|(simp only[go_sem,s,t,a1,a2,az,a',F,BX,Y.1,W.1,x.1,CF,Ap,Ci,AM,M.1];first|done|rfl));done)):p:=h
def zAG(h:p:=by
 replace l:=AB l;refine ax ?_;have bx:(ag++(⟨i.take (c+1)++e.ac.drop (c+1),e.rules,e.args⟩:Au)::AW).length<=12:=by rw[Dl,ID,W.1,a'.1,Is];have:=ac.1;omega
 refine Fa [(4,.ptr bh 0),(5,.ii T 0 (U T1)),(7,nI a),(25,nI (U T1)),(26,nI a),(33,.ii cd 0 (U M)),(34,nI (U d.ac)),(35,nI (c+1))] rfl l.1 a1 bx (λr g=>?_) zCH (λr g=>by grind [CP]) λk ad ai L ar av x w a6=>?_
 .simp[CP,AD]at g;rcases g with h|h|h
  .exact .inl h
  .grind [AD]
  .exact .inr (Ac.2 (.inr (BE.2 ⟨_,AP A,by simp[Ab,AD,h]⟩)))
 obtain⟨b3,bv⟩:=a6 T Az;have N:(cm.map (Du k))[a]?=J [ren k (.ii cd 0 (U M)),ren k dd,ren k cn]:=by rw[Be,A];rfl
 simp only[By,Ci,ren,av,bv]at x w N⊢;exact dq.1 ((ad,ai,b3,_),(_,_,_),(L,ar)) ⟨x,w,N⟩):p:=h
def zAH(h:p:=by
 refine Fw (Km ar F.1 B.1 ⟨bn.node,G.place d ((a:Int)+1),G.env⟩ Y.1 _ (t+75) z (λbk a4=>?_) λa k=>⟨λf e x=>(w.1 a k).1 f e x,Jt l.1 z rfl a k⟩) (λbl a5 M=>?_)
 .grind
 obtain⟨P,j⟩:=M;subst P;have a1:=(j.box 0 z).trans D;have a2:=(j.box 10 z).trans L;have a3:=(j.box 18 z).trans A;replace j:=AB j;refine ax ?_;refine bo.1 (_,_) ⟨⟨_,gy j.1.run z,λcx a'=>?_,?_⟩,a1,a2,?_,⟨fW (U1 l.1 j.1.pm) z⟩⟩
 .obtain⟨i,rfl,bh⟩:=HE.1 a';obtain⟨ag,ai⟩:=s.1 i rfl;have W:=Hi bc e _ _ _ ag.qr (ai _ (by rw[Cg];simp)) bh;exact⟨ag.post W,λK cc=>Oc (ai K (by grind [Cg])) W.ext⟩
 .rw[q.1];cases r<;>rfl
 .exact a3.trans (by rw[v])):p:=h
def zAI(h:p:=by have T:=(BB n 1 (b+27) z).1;have aa:=(BB n 1 (b+28) z).1;have ac:=AI (λf:O=j=>D f.symm);have P:=(CT n [1,3,b+25] AG).1;simp only[F4,Cs]at P;have a':=AI (λf:x=j=>K (by rw[<-f];simp[AD]));exact Ba):p:=h
def zAL(h:p:=by
 simp[Tryz.f144,MW,R4]
 (repeat' (first|simp only[*,go_sem,↓C,↓A,↓B,AM]|(refine sx ?_ ?_<;>intro ar)|refine sy z λe F az=>?_|simp(disch:=first|assumption|omega) only[Ad]))
 refine R.1 _ _ X ?_ L M N O P ?_ λf T=>?_
 .grind
 .simp only[go_sem,BX]
 exact Ba):p:=h
def zAN(h:p:=by
 refine BM func45 ?_
 (repeat' (first|simp only[*,go_sem,AM,Ft]|(refine sx ?_ ?_<;>intro m)|refine sy z λo n e=>?_|simp(disch:=first|assumption|omega) only[Ad]))):p:=h
def zAP(h:p:=by
 refine ax ?_;rw[P.1];refine⟨rfl,go.1 (.ii (1::(b+29)::C) 0 (U st.ev+1)) _ ?_ (BO [] (by simp[BT]) ?_) (.inr λc m=>?_) λc k o l=>?_⟩
 .simp only[go_sem,s,t,a5,a6,a0,bc,AM];first|done|rfl
 .simp only[Ie,BT,CS,Ap,By,Ci];simp only[go_sem,s,t,a5,a6,a0,bc,AM,Cs]
 .simp only[AD,AS]at m;subst m;exact⟨Aq [1,b+29],_,rfl⟩
 .have a:=AN l;have h:=j.1 c l;simp only[go_sem,a,h,k,o E (by rw[R.1];simp[AD]),AM]):p:=h
def zAT(h:p:=by
 refine aw ?_;rw[P.1];refine⟨rfl,go.1 (.ii (1::(b+29)::C) 0 1) _ ?_ (BO [] (by simp[BT,M.1]) ?_) (.inr λc m=>?_) λc k o l=>?_⟩
 .simp only[go_sem,s,t];first|done|rfl
 .simp only[Ie,BT,CS,Ap,By,Ci,M.1];simp only[go_sem,s,t,Cs]
 .simp only[AD,AS]at m;subst m;exact⟨Aq [1,b+29],_,rfl⟩
 .have a:=AN l;have h:=j.1 c l;simp only[go_sem,a,h,k,AM]):p:=h
def zAU(h:p:=by
 refine ax ?_;rw[P.1];refine⟨rfl,go.1 (.ii E 0 (U st.ev+1)) _ ?_ (BO cq (by simp[BT]) ?_) (.inl (by rw[R.1];rfl)) λc k o l=>?_⟩
 .simp only[go_sem,s,t,a5,a6,a0,bc,AM];first|done|rfl
 .simp only[Ie,BT,Ap,By,Ci,F0,F4,Cs];simp only[go_sem,s,t,a5,a6,a0,bc,AM]
 .have a:=AN l;have h:=j.1 c l;simp only[go_sem,a,h,k,o E (by rw[R.1];simp[AD]),AM]):p:=h
def zAV(h:p:=by have a3:=Aw s;have bs:=D B0 (by rw[k];simp[AD]);exact Ba):p:=h
def zAc(h:p:=by
 refine Ak (Km ar F.1 T.1 ⟨ac,o.at_,G.env⟩ Y.1 _ (t+66) z (λbk a4=>?_) λa k=>⟨λf e x=>(w.1 a k).1 f e x,Jt l.1 z rfl a k⟩) (λbl a5 M=>?_)
 .grind
 obtain⟨P,j⟩:=M;subst P;replace j:=AB j;refine ax ?_;rw[az.1];exact HA j.1.run):p:=h
def zAd(h:p:=by
 refine Bf func87 ?_;refine aw ?_;refine Ak (c5.1 _ _ (b4.1 _ zCb (λk j ac=>by have g:=AN ac;simp only[go_sem,g,j,AM]))) (λch Y a1=>?_)
 obtain⟨a2,P⟩:=a1;subst a2;replace P:=AB P;refine aw ?_;exact HA P.1):p:=h
def zAf(h:p:=by have av:=e.out.n.nm j o;have T:=(BB av 1 (b+23) z).1;have aa:=(BB av 1 (b+24) z).1;have ac:=AI (λf:Y=j=>e.out.yn (f▸o));have P:=(CT av [1,3,b+21] AG).1;simp only[F4,Cs]at P;have a':=AI (λf:x=j=>(e.out.qv x Az).2 (f▸o));exact Ba):p:=h
def zAl(h:p:=by simp only[go_sem];rfl):p:=h
def zAs(h:p:=by
 first
 |(refine BO [] (by simp[bh.1]) ?_
   simp only[CS,Ap,By,Ci,bh.1];exact Ba)
 |(refine BO a' AG ?_
   simp only[Ap,By,Ci,F0,F4,Cs];simp only[go_sem,R,T,O,P,L,Q,AM]
   done)):p:=h
def zAt(h:p:=by simp only[AD,AS]at o;subst o;exactλV=>E0 z (e.out.n.nm _ V)):p:=h
def zAu(h:p:=by simp only[AD,AS]at T;subst T;exact⟨De (e+47) [1] z z,_,rfl⟩):p:=h
def zAy(h:p:=by
 rw[b,Mn]at e;rw[c]
 (repeat' (first|simp only[*,go_sem,Mn]|(refine sx ?_ ?_<;>intro g)|refine sy z λk i h=>?_|simp(disch:=first|assumption|omega) only[Ad]))):p:=h
def zA6(h:p:=by have T:=(BB n 1 (b+27) z).1;have aa:=(BB n 1 (b+28) z).1;have ac:=AI (λf:O=j=>D f.symm);have P:=(CT n [1,3,b+25] AG).1;simp only[F4,Cs]at P;exact Ba):p:=h
def zA8(h:p:=by have T:=(BB n 1 (b+12) z).1;have aa:=(BB n 1 (b+13) z).1;have ac:=AI (λf:O=j=>D f.symm);have a':=AI (λf:A=j=>K (by rw[<-f];simp[AD]));exact Ba):p:=h
def zBA(h:p:=by simp[AD]at r;subst r;exact⟨De (N+63) [1] z z,_,rfl⟩):p:=h
def zBB(h:p:=by simp[AD]at r;subst r;exact⟨De (N+56) [1] z z,_,rfl⟩):p:=h
def zBC(h:p:=by simp[AD]at r;subst r;exact⟨De (N+65) [1] z z,_,rfl⟩):p:=h
def zBH(h:p:=by obtain⟨a2,P⟩:=a1;subst a2;replace P:=AB P;refine aw ?_;exact HA P.1.run):p:=h
def zBO(h:p:=by have m:=a4.is;have t:=AI λk=>a5 (Eq.symm k);have V:AJ w i=false:=AI λk=>c2 (by simp[AD,k]);rw[o];simp only[go_sem,m,t,V,AM]):p:=h
def zBR(h:p:=by
 have b2:=trivial;try replace b2:=ag E zCo
 exact Ba):p:=h
def zBV(h:p:=by simp only[go_sem,R,T,O,P,L,Q,AM];first|done|rfl):p:=h
def zBY(h:p:=by
 first
 |(refine BO [] AG ?_
   simp;simp only[go_sem,R,T,O,P,L,Q,AM,Cs]
   done)
 |(refine BO a' AG ?_
   simp;exact Ba)):p:=h
def zBd(h:p:=by have ac:=AI (λf:O=j=>D f.symm);exact Ba):p:=h
def zBh(h:p:=by
 have r:=AN k;have M:AJ i aa=false:=AI λs=>by rw[<-s,a3.1]at k;cases k
 simp only[go_sem,r,M,l.1 aa k,AM]):p:=h
def zBq(h:p:=by
 rcases k.arr with r|⟨r,AW,rfl,P⟩
 .exact .inl r
 .exact .inr ⟨r,AW,rfl,by grind [Bo,AD]⟩):p:=h
def zB8(h:p:=by simp only[go_sem,b8,cd,ch,av,b1,ad,bl,R,T,O,P,L,Q,AM];first|done|rfl|(rw[<-b'];rfl)):p:=h
def zB9(h:p:=by refine aw ?_;rw[P.1];refine ai.1 _ λc b=>?_;have a:=AN b;simp only[go_sem,a,AM]):p:=h
def zCC(h:p:=by refine .inr ⟨a,R,?_,r,z,M.1,O.1⟩;exact Ba):p:=h
def zCD(h:p:=by simp[AD]at j;subst j;exact⟨QD a' [1,F+14],λl=>QD (b6.1 _ l) [1,F+14] rfl⟩):p:=h
def zCF(h:p:=by have m:=a4.is;have t:=AI λk=>a5 (Eq.symm k);rw[o];simp only[go_sem,m,t,AM]):p:=h
end Go
namespace Go.Proofs
open Abs Tryz
def Mn:Option Bu->y
 |none=>.kw [.d (.bool (Z)),nI 2]|some _=>.kw [.d (.bool (X)),nI 0]
def AC3(c:y)(H:S)(e:u):∃b a,kT (.fn 172) [c] H e X I=.ok (b,a)/\b=.ret (.d (.bool (X)))/\a=H:=by refine Bf func172 ?_;exact au
def tj(a:Aa)(c:∀m∈a.free,m.size<=maxLen):Bq kT 171 [pA a,.fn 172 [] []] []=.ok (.ret (Mn (looks a)),[]):=by
 refine BM func171 ?_;have c:=AB c;have⟨r,e,hpost⟩:=xm a c.1 6 [];rcases hlk:looks a with _|n
 .obtain rfl:=hpost.of hlk
  (repeat' (first|simp only[*,go_sem,Mn]|(refine sx ?_ ?_<;>intro g)|refine sy z λj i h=>?_|simp(disch:=first|assumption|omega) only[Ad]))
 .obtain⟨k,rfl,f,b⟩:=hpost.ret n hlk;replace b:=AB b;replace f:=AB f
  (repeat' (first|simp only[*,go_sem,Mn]|(refine sx ?_ ?_<;>intro g)|refine sy z λj i h=>?_|simp(disch:=first|assumption|omega) only[Ad]))
  refine Ak (AC3 _ _ _) (λp o l=>?_);obtain⟨rfl,rfl⟩:=l;have q:S.get (k++[([0,0],Obj.box (pC a)),([0,2],Obj.box [nI 0])]) [0,2]=J (.box [nI 0]):=by rw[JK (b.1 [0,2] AQx)];rfl
  clear hpost
  (repeat' (first|simp only[*,go_sem,Mn]|(refine sx ?_ ?_<;>intro g)|refine sy z λj i h=>?_|simp(disch:=first|assumption|omega) only[Ad]))
def dK(a:Aa)(f:∀j∈a.free,j.size<=maxLen):Bq kT 130 [pA a] []=.ok (.ret (nI (PN a)),[]):=by
 have e:=tj a f;clear f;refine BM func130 ?_;rcases b:looks a with _|l
 .have c:PN a=2:=by rw[PN,b]
  exact zAy
 .have c:PN a=0:=by rw[PN,b]
  exact zAy
variable{p:Aa}{f:Al}
theorem ACb{c:List Au}(g:Ao p f)(b:W1 p c):N5 c:=by have k:=g.small;simp[Aa.small]at k;refine⟨by rw[b.len];omega,λn l=>?_⟩;obtain⟨d,h⟩:=Ce l;have⟨x,hx⟩:=g_ (l:=p.defs) (i:=d) (by rw[<-b.len];exact l_ h);have⟨s1,s2,s3,s4⟩:=b.each d x n hx h;have a:=(Bk g hx).ok;have:=a.ac;have:=a.rules;refine⟨z,z,z,λm j=>?_⟩;obtain⟨e,i⟩:=Ce j;have⟨ch,hch⟩:=g_ (l:=x.ac) (i:=e) zCI;have:=s4 e ch m hch i;have:=(a.chan ch (AP hch)).2.2.2;omega
@[go_sem] theorem ANQ:cfg.f9 84 14=[(7,14),(9,14),(10,14)]:=zCG
variable{e:Al}
def xZ(i:Ao p f)(j:Mz p e){b:Nat}{d:Bd}(k:p.defs[b]?=J d):∃h a g,e[b]?=J h/\0<=h/\p.nodes[h.toNat]?=J a/\a.op=4/\a.n=(b:Int)/\f[h.toNat]?=J g/\0<=g/\g<=5000:=by have⟨c,a,hx,ho,hn⟩:=i.used b (l_ k);have⟨g,l,e,h0,h1,_⟩:=i.node c a hx;have n:=(E6 i hx ho).1;have m:a.n=(b:Int):=z;have:=j.at_ (c:Int) a (HU c) hx ho;rw[hn]at this;exact⟨c,a,g,this,HU c,hx,ho,m,e,h0,h1⟩
theorem AD8(a:Nat)(b:CW)(c:S)(f:Nat)(e:u)(ci:Option u)(h:Bool)(g:Nat):Fs cfg ⟨84,e,Z,ci,h,g⟩ a ⟨b,c,f,[]⟩=HY cfg 84 e a b c:=zDN
attribute [go_sem 2000] AD8
theorem AD9(a:Nat)(b:CW)(c:S)(f:Nat)(e:u)(ci:Option u)(h:Bool)(g:Nat):Fs cfg ⟨86,e,Z,ci,h,g⟩ a ⟨b,c,f,[]⟩=HY cfg 86 e a b c:=zDN
attribute [go_sem 2000] AD9
theorem bC{D:List BJ}{r:S}{B:u}{V:TV}{q:u}(j:Ao p f)(s:Dz p)(F:iw p D)(L:U D=U p.nodes)(K:Dh p f D e r B V)(Q:Sr q B V){i:Int}{o:CQ}(n:0<=i)(k:p.nodes[i.toNat]?=J o)(l:o.op=4)(g:Int):
 ∃v x,kT (.fn 136) [.ptr B 0,nI i,nI g] r q X (J q)=.ok (v,x)/\v=.ret (nI (UW p D i g)):=by
 have Y:=l_ k;have⟨d,hdd,a,b,c⟩:=(Hy j k).defn l;have M:=(Bk j hdd).ok;have R:=(E6 j k l).1;have t:=s.dep i n z;have N:=iL (D:=D) j g t;have W:=AHq s n z;have P:=j.small;simp[Aa.small]at P;have w:UW p D i g=Rb (λh=>EV p D (U p.nodes) h g) (d.be.map Dy.node) (EV p D (U p.nodes) (DW o 0) g):=by rw[UW,EV,k];dsimp only;rw[Co z,Co z,Co z,D4 l,N9,hdd]
 have O:UW p D i g<=(FK p (U p.nodes+1) i).length:=N;rw[w]at O⊢;exact je (f:=λh=>EV p D (U p.nodes) h g) K Q n k (Mm j k (.inr (.inr (.inr (.inr l)))) (k:=0) (by simp[l])) R hdd (by have:=M.be;omega) (λh=>MR p D (U p.nodes) h g) z λh m H T A C=>by
  have e:h∈HC p i:=by
   rcases m with rfl|m
   .exact a
   .exact b h m
  refine yX j F L g (U p.nodes) (t.2.2 h e) ?_ H T A C;grind [FK,YS]
theorem ko{p:Ar×y}(h:JB p=X):∃n x A9,p=(.int .i64 n,.agg [nI x,nI A9]):=by grind [JB]
def nu(b:u->Option u)(a:u):u:=(b a).getD []
theorem KP{c:u->Option u}{a b:u}(e:c a=J b):nu c a=b:=by rw[nu,e];rfl
section
variable{p:Aa}{f:Al}{D:List BJ}{j:Al}{h i:S}{B:u}{V:TV}{l:u}{e:CW}{a:u->Option u}{n:Nat}
variable{g:S}{v:y}{c:List (List Ar)}
theorem jr(h:ij g v c):(v=.d (.co c))\/v=.d9\/v=.emp\/∃a b,v=.ii a 0 b:=by
 rcases h with rfl|(⟨rfl,_⟩|⟨a,e,rfl,_⟩)|⟨rfl,_⟩
 .exact .inl rfl
 .exact .inr (.inl rfl)
 .grind
 grind
variable{s:Nat}
def yS(j:JH l h e a i n)(m:Ub h s v c)(o:∀p∈AD v,∃b,a p=J b):Ub i s (ren a v) c:=by
 rcases m with(⟨rfl,f⟩|⟨g,q,rfl,k⟩)|⟨rfl,f⟩
 .exact .inl (.inl ⟨rfl,f⟩)
 .have⟨b,hz⟩:=o g Az;refine .inl (.inr ⟨b,q,by simp[ren,hz],?_⟩);have:=j.get g b _ hz k;simpa[Eb]using this
 .exact .inr ⟨rfl,f⟩
def eu(f:JH l h e a i n)(b:ij h v c)(g:∀j∈AD v,∃k,a j=J k):ij i (ren a v) c:=by
 rcases b with rfl|b
 .exact .inl rfl
 .exact .inr (yS f b g)
def Ml(g:(∃e,v=.d e)\/v=.d9\/v=.emp\/∃b c,v=.ii b 0 c)(h:∀i∈AD v,∃f,a i=J f):AD (ren a v)=(AD v).map (nu a):=by
 rcases g with⟨e,rfl⟩|rfl|rfl|⟨b,c,rfl⟩
 .rfl
 .rfl
 .rfl
 .have⟨f,hz⟩:=h b Az;simp[ren,hz,AD,nu]
theorem AJG{b:Ar×y}(c:JB b=X):(b.1,ren a b.2)=b:=by grind [ko,ren,Du]
theorem Dh.ren(b:Dh p f D j h B V)(m:JH l h e a i n)(o:∀s∈V.ids B,∃w,a s=J w):Dh p f D j i (nu a B) ⟨nu a V.N,V.ms.map (nu a),Abs.ren a V.hv⟩:=by
 have⟨zB,hB⟩:=o B zCL;have⟨zN,hN⟩:=o V.N zCL;have r:∀k∈V.ms,a k=J (nu a k):=λk r=>by have⟨w,hz⟩:=o k (by simp[TV.ids,r]);rw[KP hz,hz]
 refine⟨?_,?_,by rw[BV];exact b.len,λv k g=>?_,yS m b.heads λs x=>o s (by simp[TV.ids,x])⟩
 .rw[KP hB,KP hN];have:=m.get B zB _ hB b.box;exact Ba
 .rw[KP hN];have:=m.get V.N zN _ hN b.arr;grind [Eb,List.map_congr_left,Du,Abs.ren]
 .rw[Be]at g;rcases hk2:V.ms[v]? with _|t
  .rw[hk2]at g;cases g
  .rw[hk2]at g;cases g;have⟨c,h1,h2⟩:=b.maps v t hk2;refine⟨c,?_,h2⟩;have:=m.get t _ _ (r t (AP hk2)) h1;rw[this,Eb];refine congrArg (λC=>J (Abs.Obj.map C)) ?_;have key:c.map (λq=>(q.1,Abs.ren a q.2))=c.map id:=NL λq A=>AJG (EL.1 h2.ent q A);rw[key,List.map_id]
def Dh.q_z(e:Dh p f D j h B V)(i:∀c∈V.ids B,∃k,a c=J k):TV.ids ⟨nu a V.N,V.ms.map (nu a),Abs.ren a V.hv⟩ (nu a B)=(V.ids B).map (nu a):=by simp only[TV.ids,By,Ap];rw[Ml ?_ λc g=>i c (by simp[TV.ids,g])];rcases e.heads with(⟨b,_⟩|⟨l,m,b,_⟩)|⟨b,_⟩<;>rw[b]<;>simp
variable{r:List y}
def AKr{p:Au}(n:Zw g r p)(i:∀b∈Ab r,∃s,a b=J s):Ab (Du a r)=(Ab r).map (nu a):=by obtain⟨w,j,t,rfl,k,l,m⟩:=n;have f:∀{v:y} {c:List (List Ar)},ij g v c->(∃q,v=y.d q)\/v=.d9\/v=.emp\/∃id j,v=.ii id 0 j:=λo=>(jr o).imp (λh=>⟨_,h⟩) id;simp only[Du,Ab,Ap,Ci];rw[Ml (f k) λb e=>i b (by simp[Ab,e]),Ml (f l) λb e=>i b (by simp[Ab,e]),Ml (f m) λb e=>i b (by simp[Ab,e])]
variable{b:List (List y)}{T:List Au}
theorem Lj.q_z(g:Lj h v b T)(j:∀c∈AD v++b.flatMap Ab,∃m,a c=J m):AD (Abs.ren a v)++(b.map (Du a)).flatMap Ab=(AD v++b.flatMap Ab).map (nu a):=by
 rw[Ap,Ml ?_ λc f=>j c (Ac.2 (.inl f))]
 .congr 1;have key:∀e:List (List y),(∀r∈e,Ab (Du a r)=(Ab r).map (nu a))->(e.map (Du a)).flatMap Ab=(e.flatMap Ab).map (nu a):=by intro e;induction e with|nil=>intro _;rfl|cons r e o=>grind
  refine key b λr i=>?_;obtain⟨c,f⟩:=Ce i;have⟨A8,hu⟩:=g_ (l:=T) (i:=c) (by rw[<-g.len];exact l_ f);exact AKr (g.each c r A8 f hu) λl k=>j l (Ac.2 (.inr (BE.2 ⟨r,i,k⟩)))
 .rcases g.arr with⟨rfl,_⟩|⟨n,rfl,_⟩<;>simp
theorem Lj.ren{v:y}{b:List (List y)}{T:List Au}(k:Lj h v b T)(j:JH l h e a i n)(o:∀p∈AD v++b.flatMap Ab,∃g,a p=J g):Lj i (Abs.ren a v) (b.map (Du a)) T:=by
 refine⟨?_,by rw[BV];exact k.len,λp r M m H=>?_,?_⟩
 .rcases k.arr with⟨rfl,rfl⟩|⟨t,rfl,F⟩
  .exact zB6
  .have⟨g,hz⟩:=o t Az;refine .inr ⟨g,by simp[Abs.ren,hz],?_⟩;have:=j.get t g _ hz F;rw[this,Eb]
 .rw[Be]at m;rcases hr2:b[p]? with _|w
  .rw[hr2]at m;cases m
  .rw[hr2]at m;cases m;have q:=λf c=>o f (Ac.2 (.inr (BE.2 ⟨w,AP hr2,c⟩)));obtain⟨O,P,N,rfl,B,C,D⟩:=k.each p w M hr2 H;exact⟨_,_,_,rfl,eu j B λf c=>q f zC6,eu j C λf c=>q f zC6,eu j D λf c=>q f zC6⟩
 .rw[k.q_z o];refine K9 k.nd λx K A L s=>?_;have⟨g,hz⟩:=o x K;have⟨z2,hz2⟩:=o A L;rw[KP hz,KP hz2]at s;subst s;exact j.inj x A g hz hz2
variable{i:u}
def yR(f:Ub g s v c)(a:i∈AD v):Cu (g.get i)=[]:=by
 rcases f with(⟨rfl,b⟩|⟨h,j,rfl,e⟩)|⟨rfl,b⟩
 .cases a
 .rw[AD,AS]at a;rw[a,e];rfl
 .cases a
theorem AIy(a:ij g v c)(b:i∈AD v):Cu (g.get i)=[]:=by
 rcases a with rfl|a
 .cases b
 .exact yR a b
def yQ(b:Ub g s v c):(AD v).length<=1:=by rcases b with(⟨rfl,a⟩|⟨f,h,rfl,e⟩)|⟨rfl,a⟩<;>simp[AD]
theorem AIx(a:ij g v c):(AD v).length<=1:=by
 rcases a with rfl|a
 .simp[AD]
 .exact yQ a
theorem AJW{k:Nat}:∀{l:List (List y)},(∀r∈l,(Ab r).length<=k)->(l.flatMap Ab).length<=k*U l
 :=by intro x;induction x<;>grind [Nat.mul_add]
def Lj.row(c:Lj g v b T)(f:r∈b):∃a,Zw g r a:=by obtain⟨i,e⟩:=Ce f;have⟨a,hu⟩:=g_ (l:=T) (i:=i) (by rw[<-c.len];exact l_ e);exact⟨a,c.each i r a e hu⟩
structure eU(p:Aa)(sz:Al)(D:List BJ)(hs:Al)(g:S)(B:u)(V:TV)(tv:y)(rows:List (List y))(T:List Au):Prop:=
 rep:Dh p sz D hs g B V
 tab:Lj g tv rows T
 dis:∀i∈V.ids B,i∉AD tv++rows.flatMap Ab
 fin:∀(i:Nat) r A8 x,rows[i]?=J r->T[i]?=J A8->r[0]?=J (.d x)->∀k∈A8.ac,k=1
theorem Fa{K:Ah}{a3:Fr}{a2 az av:Nat}{R:Code}{Q:Di->St->Prop}{x:y}{b:List (List y)}{T:List Au}{E:CW}{H:S}(e:CW)(be:L0 E (cfg.live a2 av)=e) (h:eU p f D j H B V x b T) (bs:U p.nodes<=60) (bo:U T<=12) (bv:∀q∈CP e,q=B\/q∈AD x++b.flatMap Ab) (a4:B∈CP e) (a5:∀q∈AD x,q∈CP e)(bi:∀a W ai g ar,a B=J W->eU p f D j g W ai (ren a x) (b.map (Du a)) T->(∀i∈ai.ids W++(AD (ren a x)++(b.map (Du a)).flatMap Ab),∃F ad,ad<ar/\i=F::ad::l)->(∀i∈AD x++b.flatMap Ab,∃s,a i=J s)->Ud cfg K a3 az R ⟨e.map λO=>(O.1,ren a O.2),g,ar,[]⟩ Q):Ud cfg K a3 az R (HY cfg a2 l av E H) Q:=by
 rw[GR,be];have t:=h.rep;have v:=h.tab;have b2:(AD x).length<=1:=by rcases v.arr with⟨rfl,_⟩|⟨C,rfl,_⟩<;>simp[AD]
 have b1:(b.flatMap Ab).length<=3*U b:=AJW λr w=>by obtain⟨P,a0,N,F,rfl,M,ag,bl⟩:=v.row w;grind [AIx,Ab]
 have b3:(V.ids B).length<=63:=by have a4:=yQ t.heads;have a5:=t.len;simp only[TV.ids,ID,Dl];omega
 have bx:=v.len;have⟨a,g',n,hc,hnM,hRen⟩:=KG l H e (V.ids B++(AD x++b.flatMap Ab)) zCI (λq k=>by
  grind [TV.ids]) (λq k s m=>by
  rcases Ac.1 k with k|k
  .refine Ac.2 (.inl ?_);simp[TV.ids]at k⊢;rcases k with rfl|rfl|k|k
   .rw[t.box]at m;grind [Cu,Ab,AD]
   .rw[t.arr]at m;grind [Cu,Ab,AD]
   .obtain⟨N,bh⟩:=Ce k;have⟨c,M,ag⟩:=t.maps N q bh;rw[M]at m;simp only[Cu,BE]at m;obtain⟨O,bk,m⟩:=m;obtain⟨F,R,q,rfl⟩:=ko (EL.1 ag.ent O bk);simp[AD,Ab]at m
   .rw[yR t.heads k]at m;cases m
  .refine Ac.2 (.inr ?_);rcases Ac.1 k with k|k
   .rcases v.arr with⟨rfl,_⟩|⟨C,rfl,aa⟩
    .cases k
    .rw[AD,AS]at k;rw[k,aa]at m;exact Ac.2 (.inr m)
   .have⟨r,w,k⟩:=BE.1 k;obtain⟨P,a0,N,F,rfl,M,ag,bl⟩:=v.row w;grind [Ab,AIy])
 have⟨zB,hB⟩:=hRen.env B a4;have Y:=hRen.deep B zB hB;rw[t.box]at Y;have⟨zN,hN⟩:=Y V.N (by simp[Cu,Ab,AD]);have bc:=hRen.deep V.N zN hN;rw[t.arr]at bc;have L:∀i∈V.ids B,∃s,a i=J s:=λi o=>by
  simp[TV.ids]at o;rcases o with rfl|rfl|o|o
  .exact⟨_,hB⟩
  .exact⟨_,hN⟩
  .exact bc i (by grind [Cu,Ab,AD])
  .exact Y i zDF
 have A:∀i∈AD x++b.flatMap Ab,∃s,a i=J s:=λi o=>by
  rcases v.arr with⟨rfl,rfl⟩|⟨C,rfl,aa⟩
  .simp[AD]at o
  .have⟨s,m⟩:=hRen.env C (a5 C Az);have a1:=hRen.deep C s m;rw[aa]at a1;rcases Ac.1 o with o|o
   .grind [AD]
   .exact a1 i o
 rw[hc];refine bi a zB ⟨nu a V.N,V.ms.map (nu a),ren a V.hv⟩ g' n hB ?_ (λi o=>?_) A
 .rw[<-KP hB];refine⟨t.ren hRen L,v.ren hRen A,λi o a6=>?_,λi r P R w a' ac=>?_⟩
  .rw[t.q_z L]at o;rw[v.q_z A]at a6;obtain⟨q,k,rfl⟩:=EX.1 o;have⟨y2,hy2,e2⟩:=EX.1 a6;have⟨s,m⟩:=L q k;have⟨z2,hz2⟩:=A y2 hy2;rw[KP m,KP hz2]at e2;subst e2;exact h.dis q k (hRen.inj _ _ _ m hz2▸hy2)
  .rw[Be]at w;rcases hr2:b[i]? with _|bn
   .rw[hr2]at w;cases w
   .rw[hr2]at w;cases w;obtain⟨a0,N,F,rfl,M,_,_⟩:=v.each i bn P hr2 a';simp[Du]at ac;rcases jr M with rfl|rfl|rfl|⟨C,b0,rfl⟩
    .exact h.fin i _ P _ hr2 a' rfl
    .cases ac
    .cases ac
    grind [ren]
 .rw[<-KP hB,t.q_z L,v.q_z A,<-Ap]at o;obtain⟨q,k,rfl⟩:=EX.1 o;obtain⟨s,m⟩:∃s,a q=J s:=(Ac.1 k).elim (L q) (A q);have⟨ad,hj,e2⟩:=hRen.name q s m;grind [KP]
theorem xR{e:u}:∀{c:List (List y)},(c.flatMap Ab).Nodup->∀{i b:Nat} {r s:List y},c[i]?=J r->c[b]?=J s->e∈Ab r->e∈Ab s->i=b
 |[],_,i,b,r,s,hi,_,_,_=>by simp at hi|a::c,h,i,b,r,s,hi,hj,hx,hy=>by
  rw[FN,D0]at h;obtain⟨g,f,j⟩:=h;rcases i with _|i
  .grind
  .rw[Hm]at hi;rcases b with _|b
   .grind
   .rw[Hm]at hj;rw[xR f hi hj hx hy]
theorem eU.put{g:S}{Q:y}{b:List (List y)}{T:List Au}(h:eU p f D j g B V Q b T){d:Nat}{q:Au}{K F:y}{o:u}{C:Nat}(n:b[d]?=J [.ii o 0 C,K,F])(O:T[d]?=J q){x:List (List Ar)}{l:Al}(ar:C=U q.ac)(ai:U l=U q.ac):eU p f D j (g.put o (.f8 1 (l.map AX++x))) B V Q b (T.set d ⟨l,q.rules,q.args⟩):=by
 have M:o∈Ab [y.ii o 0 C,K,F]:=by simp[Ab,AD]
 have Y:=BE.2 ⟨_,AP n,M⟩;have N:=h.tab.nd;rw[D0]at N;obtain⟨a0,P,a1⟩:=N;have W:∀(i:Nat) r,b[i]?=J r->i≠d->∀w∈Ab r,(g.put o (.f8 1 (l.map AX++x))).get w=g.get w:=λi r a aa w t=>BU _ _ λe=>aa (xR P a n t (e▸M));refine⟨h.rep.mono λi a=>BU _ _ λe=>h.dis i a (e▸Ac.2 (.inr Y)),⟨?_,by rw[Kw];exact h.tab.len,λi r v a m=>?_,h.tab.nd⟩,h.dis,λi r v ad a m ac=>?_⟩
 .rcases h.tab.arr with L|⟨av,L,ag⟩
  .exact .inl L
  grind [BU,AD]
 .rw[F5]at m;by_cases s:d=i
  .subst s;rw[D4 rfl,D4 (l_ O)]at m;cases m;rw[n]at a;cases a;have⟨c,k,R,e,_,q2,q3⟩:=h.tab.each d _ q n O;cases e;have H:(Ab [y.ii o 0 C,K,F]).Nodup:=by
    have:∀{A:List (List y)},(A.flatMap Ab).Nodup->∀r∈A,(Ab r).Nodup:=by intro A;induction A with|nil=>intro _ r n;cases n|cons R A az=>grind
    exact this P _ (AP n)
   simp[Ab,AD]at H;refine⟨_,_,_,rfl,.inr (.inl (.inr ⟨o,x,by grind,by rw[p_,q_c];rfl⟩)),q2.mono λw t=>BU _ _ λe=>H.1.1 (e▸t),q3.mono λw t=>BU _ _ λe=>H.1.2 (e▸t)⟩
  .rw[Co s]at m;exact(h.tab.each i r v a m).mono (W i r a λe=>s e.symm)
 .rw[F5]at m;by_cases s:d=i
  .grind
  .rw[Co s]at m;exact h.fin i r v ad a m ac
theorem Dh.app{h:S}(b:Dh p f D j g B V):Dh p f D j (g++h) B V:=⟨Dw b.box,Dw b.arr,b.len,λn l i=>by
 have⟨c,a,e⟩:=b.maps n l i;grind [Dw],by
 rcases b.heads with(a|⟨k,m,a,e⟩)|a
 .exact .inl (.inl a)
 .exact .inl (.inr ⟨k,m,a,Dw e⟩)
 .exact .inr a⟩
variable{a:S}
def eU.call{G:S}{e:Nat}(o:Dh p f D j G B V)(h:Sr (e::l) B V)(n:Lj a v b T)(k:∀i∈AD v++b.flatMap Ab,∃g,Kt (e::l) g i)(s:∀i,AE (e::l) i=Z->a.get i=G.get i)(q:∀(i:Nat) r A8 x,b[i]?=J r->T[i]?=J A8->r[0]?=J (.d x)->∀e∈A8.ac,e=1):eU p f D j (gc (e::l) a) B V v b T:=by
 refine⟨o.mono λi c=>(An _ _ _ (h i c)).trans (s i (h i c)),n.mono λi c=>?_,λi c m=>?_,q⟩
 .have⟨g,hb⟩:=k i c;obtain⟨_,t,rfl⟩:=hb;exact FC _ _ _
 .have⟨g,hb⟩:=k i m;have:=h i c;rw[hb.up]at this;cases this
def eU.pm{G:S}{k:Nat}(h:eU p f D j G B V v b T)(e:∀i∈V.ids B++(AD v++b.flatMap Ab),AE (k::l) i=Z)(g:∀i,AE (k::l) i=Z->a.get i=G.get i):eU p f D j (gc (k::l) a) B V v b T:=⟨h.rep.mono λi c=>(An _ _ _ (e i (Ac.2 (.inl c)))).trans (g i (e i (Ac.2 (.inl c)))),h.tab.mono λi c=>(An _ _ _ (e i (Ac.2 (.inr c)))).trans (g i (e i (Ac.2 (.inr c)))),h.dis,h.fin⟩
theorem GU{a k:Nat}(h:∃c b,b<a/\i=c::b::l)(e:a<=k):AE (k::l) i=false:=by grind [CA,q_a]
def iM(p:Aa)(f:Al)(D:List BJ)(j:Al):Nat->List Au->List Au
 |0,T=>T|k+1,T=>if DA B9 T (Gl p f D j T)=X then T else iM p f D j k (Gl p f D j T)
theorem yY(b:Ao p f):∀{a:Nat} {T:List Au},Ss p f D j T->qS T<a->Ss p f D j (iM p f D j a T)/\DA B9 (iM p f D j a T) (Gl p f D j (iM p f D j a T))=X
 |0,T,_,h=>z|a+1,T,hT,h=>by
  rw[iM];split
  .grind
  .rename_i c;have:=qT b hT zCy;exact yY b (qU b hT) z
end
variable{p:Aa}
def AGi{b:Nat}{e:Au}(a:(Kr p)[b]?=J e):∀c∈e.ac,c=1:=λc f=>by
 rw[Kr,Be]at a;rcases hd:p.defs[b]? with _|d
 .rw[hd]at a;cases a
 .rw[hd]at a;cases a;exact(I0.1 f).2
theorem jF{p:Aa}{n:Bu}(ef:∀df∈p.free,df.size<=maxLen)(cc:looks p=J n):∃ds,Bq kT 84 [pA p] []=.ok (.ret (.kw [Dv ds,nI 0]),[])/\Da p n.eq (Dg p n.eq) ds/\N4 p n.eq (Dg p n.eq) ds/\W1 p ds:=by
 have o:=En cc;have b9:=Oh cc;have cx:=Qq b9 n.eq;have bs:=dK p ef;have f':PN p=0:=by rw[PN,cc]
 rw[f']at bs;have gl:=o.small;simp[Aa.small]at gl;obtain⟨_,a1,f9⟩:=gl;obtain⟨⟨h9,F⟩,cq,B,V,q,gu,d7,c0,a2⟩:=yJ ef cc 7 [];dsimp only at gu d7;subst gu;obtain⟨dr,c3⟩:∃dr,dr=iM p n.eq (Dg p n.eq) q (qS (Kr p)+1) (Kr p):=⟨_,rfl⟩;obtain⟨c',dc⟩:=yY o (db (D:=Dg p n.eq) (hs:=q) o) (Nat.lt_succ_self (qS (Kr p)));rw[<-c3]at c' dc;refine⟨JU p n.eq (Dg p n.eq) q dr,?_,AK6 o c0 c' dc⟩;generalize n.eq=sz at*;generalize Dg p sz=D at*;clear f';replace o:=AB o;replace b9:=AB b9;replace cx:=AB cx;replace d7:=AB d7;replace c0:=AB c0;replace a2:=AB a2;replace c3:=AB c3;replace c':=AB c';replace dc:=AB dc;replace ef:=AB ef;replace cc:=AB cc;refine BM func84 ?_
 (repeat' (first|simp only[*,go_sem,AM,qm]|(refine sx ?_ ?_<;>intro bs)|refine sy z λC b2 gi=>?_|simp(disch:=first|assumption|omega) only[Ad]))
 have cu:∀f,7<f->Sr [f] B V:=λf v a t=>by cases b2:AE [f] a with|false=>rfl|true=>have:=CA (a2.1 a t) b2;omega
 have Y:=d7.1.app (h:=[([0,0],Obj.box (pC p))]);replace cu:=AB cu;replace Y:=AB Y;refine Ak (AHp o.1 Y.1 (cu.1 10 z)) (λfs ex b4=>?_);obtain⟨f0,hv,rfl,d6,H,e9⟩:=b4;have d8:=eU.call (T:=Kr p) Y.1 (cu.1 10 z) d6 H e9 λa ek e C aa a2 b2 f v=>AGi a2 f v;have hq:∀b5,TQ b5 f0=b5:=λb5=>by rcases d6.arr with⟨rfl,_⟩|⟨R,rfl,_⟩<;>rfl
 rw[G7,hq];generalize gc [10] ex=G at*;replace d8:=AB d8;replace d6:=AB d6;replace H:=AB H;replace e9:=AB e9;refine ax ?_;refine Fa [(4,.ptr B 0),(5,f0)] rfl d8.1 a1 (by grind [Kr]) (λr g=>by grind [CP,AD]) zCH (λr g=>by simp[CP,Ab,g]) λg1 g2 g4 hc b0 f6 d9 d3 _=>?_;simp[ren,f6];have eg:Ss p sz D q (Kr p):=db o.1;replace eg:=AB eg;replace d9:=AB d9;replace d3:=AB d3;clear d8 Y cq cu;refine rounds (B0:=λ(b:(u×TV×y×List (List y))×(S×Nat)×List Au)=>⟨[(4,.ptr b.1.1 0),(5,b.1.2.2.1)],b.2.1.1,b.2.1.2,[]⟩)
  (Inv:=λb=>AR (eU p sz D q b.2.1.1 b.1.1 b.1.2.1 b.1.2.2.1 b.1.2.2.2 b.2.2/\(∀a∈b.1.2.1.ids b.1.1++(AD b.1.2.2.1++b.1.2.2.2.flatMap Ab),∃C ch,ch<b.2.1.2/\a=C::ch::[])/\Ss p sz D q b.2.2/\∃f,qS b.2.2<f/\iM p sz D q f b.2.2=dr))
  (m:=λb=>qS b.2.2) ((g2,g4,ren g1 f0,hv.map (Du g1)),(hc,b0),Kr p) ⟨d9.1,d3.1,eg.1,_,Nat.lt_succ_self _,c3.1.symm⟩ ?_
 rintro⟨⟨B1,V1,tv1,rows1⟩,⟨ex,b1⟩,T1⟩ bi dn;obtain⟨az,H,P,ej,bc,b'⟩:=bi.1;dsimp only at az H P bc b';have d':=λf (v:b1<=f)=>wc (p:=p) (sz:=sz) (D:=D) (hs:=q) (g:=ex) (B:=B1) (V:=V1) (ρ:=[f]) (tv:=tv1) (T:=T1) (W:=AD tv1++rows1.flatMap Ab) ⟨o.1,b9.1,cx.1,az.rep,λa t=>GU (H a (Ac.2 (.inl t))) v,P.shp,.inr ⟨rows1,az.tab,rfl⟩,λa t=>GU (H a (Ac.2 (.inr t))) v,az.dis,c0.1⟩;replace d':=AB d';replace az:=AB az;replace H:=AB H;replace P:=AB P;replace bc:=AB bc;replace b':=AB b';clear eg d9 d3 f6;refine ax ?_;refine Ak (d'.1 (b1+2) z) (λfs hd b4=>?_);obtain⟨fr,hw,rfl,c4,d4,ec,c8⟩:=b4;have c6:=eU.call (T:=Gl p sz D q T1) az.1.rep (λa t=>GU (H.1 a (Ac.2 (.inl t))) (show b1<=b1+2 by omega)) c4 d4 c8 λa ek e C aa _ b2=>absurd b2 (ec ek (AP aa) C);have bl:=az.1.pm (k:=b1+2) (λa t=>GU (H.1 a t) z) c8;have gk:∀b5,TQ b5 fr=b5:=λb5=>by rcases c4.arr with⟨rfl,_⟩|⟨R,rfl,_⟩<;>rfl
 rw[G7,gk];generalize gc [b1+2] hd=G at*;have ha:=QZ bl.tab;have hb:=QZ c6.tab;have hl:=nJ (QT P.1.shp (Qj (D:=D) o.1 q T1)) (ACb o.1 P.1.shp);replace c4:=AB c4;replace d4:=AB d4;replace ec:=AB ec;replace c8:=AB c8;replace c6:=AB c6;replace bl:=AB bl;clear d'
 (repeat' (first|simp only[*,go_sem,AM]|(refine sx ?_ ?_<;>intro bs)|refine sy z λC b2 gi=>?_|simp(disch:=first|assumption|omega) only[Ad]))
 rotate_left
 .refine Fa [(4,.ptr B1 0),(5,fr)] rfl c6.1 a1 (by rw[Xa];exact f9) (λr g=>by grind [CP,AD]) zCH (λr g=>by simp[CP,Ab,g]) λdm en er e0 es e1 bn bk _=>?_;simp[ren,e1];have a0:=b'.1;have gf:=bc.1;have c7:DA B9 T1 (Gl p sz D q T1)=false:=Cc;obtain⟨cl,rfl⟩:∃cl,ej=cl+1:=⟨ej-1,z⟩;rw[iM,Co (by rw[c7];simp)]at a0;have hm:=qT o.1 P.1 c7;exact dn.1 ((en,er,ren dm fr,hw.map (Du dm)),(e0,es),Gl p sz D q T1) hm ⟨bn,bk,qU o.1 P.1,cl,AZ,a0⟩
 .have c7:DA B9 T1 (Gl p sz D q T1)=true:=Cc;have a0:=b'.1;have gf:=bc.1;obtain⟨cl,rfl⟩:∃cl,ej=cl+1:=⟨ej-1,z⟩;rw[iM,D4 c7]at a0;clear bc b' bi dn hl hb c6 c4 d4 ec c7 az c3 c' dc gf;subst a0;rw[show∀(Q:Di->St->Prop) n,Kd 1 Q (Di.exit 0) n=Q (.exit 0) n fromλ_ _=>rfl,Yr,show∀(Q:Di->St->Prop) n,Kd 0 Q (Di.exit 0) n=Q .normal n fromλ_ _=>rfl];have gh:∀cs:Abs.G,MZ cs .slice tv1=J (U T1):=λcs=>by
   rcases bl.1.tab.arr with⟨rfl,F⟩|⟨R,rfl,_⟩
   .have:=bl.1.tab.len;rw[F]at this;rw[<-this];rfl
   .rfl
  unfold MZ at gh;refine ax ?_;have ac:U T1<=12:=by rw[P.1.shp.len];exact f9
  replace ac:=AB ac;refine Fa [(4,.ptr B1 0),(5,tv1),(25,nI (U T1)),(26,nI 0)] rfl bl.1 a1 ac.1 (λr g=>by grind [CP,AD]) zCH (λr g=>by simp[CP,Ab,g]) λdm en er e0 es e1 bn bk _=>?_;simp[ren,e1];clear ha gh bl H bs c8 gk;replace bn:=AB bn;replace bk:=AB bk;obtain⟨O,c1⟩:∃O,O=JU p sz D q T1:=⟨_,rfl⟩;rw[<-c1];have d5:U O=U T1:=by rw[c1,JU,Y9]
  replace c1:=AB c1;replace d5:=AB d5;refine Aj T1 (B0:=λa (b:(u×TV×y×List (List y))×(S×Nat))=>⟨[(4,.ptr b.1.1 0),(5,b.1.2.2.1),(25,nI (U T1)),(26,nI a)],b.2.1,b.2.2,[]⟩)
   (Inv:=λa hu b=>AR (eU p sz D q b.2.1 b.1.1 b.1.2.1 b.1.2.2.1 b.1.2.2.2 (O.take a++T1.drop a)/\∀ch∈b.1.2.1.ids b.1.1++(AD b.1.2.2.1++b.1.2.2.2.flatMap Ab),∃C f,f<b.2.2/\ch=C::f::[])) (b0:=((en,er,ren dm tv1,rows1.map (Du dm)),(e0,es))) ⟨bn.1,bk.1⟩ ?_ ?_
  .rintro a e ⟨⟨f1,g5,gw,de⟩,⟨f4,g7⟩⟩ a2 t gd bi dn;obtain⟨s,a4⟩:=bi.1;dsimp only at s a4;have ih:SE.wrap ((a:Int)+1)=(a:Int)+1:=w_ z (by have:=ac.1;omega);obtain⟨d,e8⟩:=g_ (l:=p.defs) (i:=a) (by rw[<-P.1.shp.len];exact t);obtain⟨h',ia,ib,gv⟩:=P.1.shp.each a d e e8 a2;have et:=(Bk o.1 e8).ok;have hx:=et.ac;obtain⟨fp,C,df,eb,gs,hn,ho,gn,gp,ip,it⟩:=xZ o.1 c0.1 e8;obtain⟨i,cv⟩:∃i,i=WQ p sz D fp 0 e.ac:=⟨_,rfl⟩;have d2:U i=U e.ac:=by rw[cv,cw]
   have e4:O[a]?=J ⟨i,e.rules,e.args⟩:=by rw[c1.1,JU,L7,a2,I7,eb,cv];rfl
   have e5:O.take (a+1)=O.take a++[⟨i,e.rules,e.args⟩]:=by rw[Ex,e4];rfl
   have b8:(O.take a).length=a:=by rw[F3,d5.1];omega
   rw[EY a2]at s;have ea:(O.take a++e::T1.drop (a+1))[a]?=J e:=by rw[D6 z,b8,IF];rfl
   obtain⟨ek,aa⟩:=g_ (l:=de) (i:=a) (by rw[s.tab.len];exact l_ ea);obtain⟨cp,gq,f3,rfl,K,fv,fz⟩:=s.tab.each a ek e aa ea;have gr:=l_ aa;have fc:(O.take a++e::T1.drop (a+1)).length=U T1:=by rw[Dl,ID,b8,Is];omega
   obtain⟨R,rfl,ga⟩:∃R,gw=.ii R 0 (U T1)/\S.get f4 R=J (.arr 3 de):=by
    rcases s.tab.arr with⟨_,F⟩|⟨R,hf,hg⟩
    .rw[F]at aa;simp at aa
    grind
   have gg:∀cs:Abs.G,MZ cs .slice cp=J (U e.ac):=λcs=>by
    rcases K with rfl|(⟨rfl,F⟩|⟨hs,gz,rfl,_⟩)|⟨rfl,F⟩
    .exact Ba
    .rw[<-BV (f:=AX),F];rfl
    .exact Ba
    .rw[<-BV (f:=AX),F];rfl
   have hi:y.q_b cp=true:=by rcases K with rfl|(⟨rfl,F⟩|⟨hs,gz,rfl,_⟩)|⟨rfl,F⟩<;>rfl
   unfold MZ at gg;replace s:=AB s;replace a4:=AB a4;replace K:=AB K;replace fv:=AB fv;replace fz:=AB fz;replace e4:=AB e4;replace e5:=AB e5;replace b8:=AB b8;replace cv:=AB cv;replace d2:=AB d2;replace ea:=AB ea;replace fc:=AB fc;replace et:=AB et;replace gv:=AB gv;replace gn:=AB gn;clear bn bk;refine ax ?_;refine Fa [(4,.ptr f1 0),(5,.ii R 0 (U T1)),(7,nI a),(25,nI (U T1)),(26,nI a),(33,cp),(34,nI (U d.ac)),(35,nI 0)] rfl s.1 a1 (by rw[fc.1];exact ac.1) (λr g=>?_) zCH (λr g=>by grind [CP]) λbe g3 g6 he g8 f7 bo b7 f8=>?_
   .simp[CP,AD]at g;rcases g with h|h|h
    .exact .inl h
    .grind [AD]
    .exact .inr (Ac.2 (.inr (BE.2 ⟨_,AP aa,by simp[Ab,h]⟩)))
   obtain⟨ht,gb⟩:=f8 R Az;have fi:(de.map (Du be))[a]?=J [ren be cp,ren be gq,ren be f3]:=by rw[Be,aa];rfl
   simp only[By,Ci,ren,f7,gb]at bo b7⊢;generalize de.map (Du be)=rows4 at*;generalize ren be cp=cc4 at*;generalize ren be gq=kk4 at*;generalize ren be f3=aa4 at*;replace bo:=AB bo;replace b7:=AB b7;clear gg hi ga f8 s a4 K fv fz gr aa gb f7 bi gd;obtain⟨ag,c2⟩:∃ag,ag=O.take a:=⟨_,rfl⟩;obtain⟨AW,a'⟩:∃AW,AW=T1.drop (a+1):=⟨_,rfl⟩;rw[<-c2,<-a']at bo;have W:U ag=a:=by rw[c2];exact b8.1
   replace c2:=AB c2;replace a':=AB a';replace W:=AB W;refine CZ e.ac (U d.ac:Int) (B0:=λm c (b:(u×TV×u×List (List y))×(y×y×y)×(S×Nat))=>⟨[(4,.ptr b.1.1 0),(5,.ii b.1.2.2.1 0 (U T1)),(7,nI a),(25,nI (U T1)),(26,nI a),(33,b.2.1.1),(34,nI m),(35,nI c)],b.2.2.1,b.2.2.2,[]⟩)
    (Inv:=λc hu b=>AR (eU p sz D q b.2.2.1 b.1.1 b.1.2.1 (.ii b.1.2.2.1 0 (U T1)) b.1.2.2.2 (ag++⟨i.take c++e.ac.drop c,e.rules,e.args⟩::AW)/\(∀ch∈b.1.2.1.ids b.1.1++(AD (.ii b.1.2.2.1 0 (U T1))++b.1.2.2.2.flatMap Ab),∃C f,f<b.2.2.2/\ch=C::f::[])/\b.1.2.2.2[a]?=J [b.2.1.1,b.2.1.2.1,b.2.1.2.2])) (b0:=((g3,g6,ht,rows4),(cc4,kk4,aa4),(he,g8))) z ⟨bo.1,b7.1,fi⟩ ?_ ?_
   .rintro c f ⟨⟨bh,f2,T,cm⟩,⟨g9,dd,cn⟩,⟨f5,dx⟩⟩ v h0 hj e2 dq;obtain⟨j,a5,A⟩:=e2.1;dsimp only at j a5 A;have im:SE.wrap ((c:Int)+1)=(c:Int)+1:=w_ z z;have c5:(ag++(⟨i.take c++e.ac.drop c,e.rules,e.args⟩:Au)::AW)[a]?=J ⟨i.take c++e.ac.drop c,e.rules,e.args⟩:=by rw[D6 (by rw[W.1];exact D2 _),W.1,IF];rfl
    obtain⟨_,_,_,g',K,_,_⟩:=j.tab.each a _ _ A c5;cases g';have d1:(i.take c).length=c:=by rw[F3,d2.1];omega
    have e3:(i.take c++e.ac.drop c)[c]?=J f:=by rw[D6 z,d1,IF,EY v];rfl
    have h6:=l_ e3;have b6:i[c]?=J (if f=3/\UW p D fp (df+(c:Int))=1 then 2 else f):=by rw[cv.1,ct,v,I7,Re,gp];rfl
    have ga:S.get f5 T=J (.arr 3 cm):=by
     rcases j.tab.arr with⟨F,_⟩|⟨R,hf,hg⟩
     .cases F
     .grind
    have gr:=l_ A;have c9:=λC=>j.fin a _ _ C A c5;have hh:=j.rep.box;obtain⟨h4,h5,fl,h3,hk⟩:=UG j.rep.heads eb;rw[fl]at hh;have lhs:=l_ eb;have hz:(a:Int)<U q:=z;have h7:=l_ hk;have Y:=λ(f:Nat) (v:dx<=f)=>(show Sr [f] bh f2 fromλa t=>GU (a5 a (Ac.2 (.inl t))) v);have fd:=λ(f:Nat) (v:dx<=f)=>Ve j.rep (Y f v) (HU a) eb gs gp (c:=(c:Int)) ⟨z,z⟩;have e6:=λ(f:Nat) (v:dx<=f)=>bC o.1 b9.1 (fC o.1 b9.1 cx.1) cx.1.len j.rep (Y f v) gs hn ho (df+(c:Int));have dj:i[c]?=J f->i.take c++e.ac.drop c=i.take (c+1)++e.ac.drop (c+1):=λh=>by grind [List.take_add_one,EY]
    have el:i[c]?=J 2->(i.take c++e.ac.drop c).set c 2=i.take (c+1)++e.ac.drop (c+1):=λh=>by rw[Ex,h,EY v,Md _ _ z,d1,IF];simp
    generalize i.take c++e.ac.drop c=M at*;replace j:=AB j;replace a5:=AB a5;replace fl:=AB fl;replace c5:=AB c5;replace d1:=AB d1;replace b6:=AB b6;replace Y:=AB Y;replace fd:=AB fd;replace e6:=AB e6;replace dj:=AB dj;replace el:=AB el;clear bo b7 fi;rcases ep K e3 with rfl|⟨cd,g0,rfl,h2,hr⟩
    .have bc:=c9 _ rfl f (AP e3);subst bc;replace K:=AB K;replace c9:=AB c9;have l:=j.1;have a3:i[c]?=J 1:=by have:=b6.1;rw[Co z]at this;exact this
     rw[dj.1 a3]at l;replace l:=AB l;refine ax ?_;have bx:(ag++(⟨i.take (c+1)++e.ac.drop (c+1),e.rules,e.args⟩:Au)::AW).length<=12:=by rw[Dl,ID,W.1,a'.1,Is];have:=ac.1;omega
     refine Fa [(4,.ptr bh 0),(5,.ii T 0 (U T1)),(7,nI a),(25,nI (U T1)),(26,nI a),(33,.d (.co (M.map AX))),(34,nI (U d.ac)),(35,nI (c+1))] rfl l.1 a1 bx (λr g=>?_) zCH (λr g=>by grind [CP]) λk ad ai L ar av x w a6=>?_
     .simp[CP,AD]at g;grind [AD]
     obtain⟨b3,bv⟩:=a6 T Az;have N:(cm.map (Du k))[a]?=J [ren k (.d (.co (M.map AX))),ren k dd,ren k cn]:=by rw[Be,A];rfl
     simp only[By,Ci,ren,av,bv]at x w N⊢;exact dq.1 ((ad,ai,b3,_),(_,_,_),(L,ar)) ⟨x,w,N⟩
    .have h8:=l_ hr;obtain⟨em,fo⟩:∃em,g0=M.map AX++em:=by
      rcases K with h|((⟨h,_⟩|⟨R,gz,h,h1⟩)|⟨h,_⟩)
      .cases h
      .cases h
      .grind
      .cases h
     have hp:g0.set c [.int .i64 2]=(M.set c 2).map AX++em:=by rw[fo,List.set_append_left _ _ zCI,I2];rfl
     replace fo:=AB fo;replace K:=AB K;replace c9:=AB c9
     (repeat' (first|simp only[*,go_sem,AM]|(refine sx ?_ ?_<;>intro bs)|refine sy z λC b2 gi=>?_|simp(disch:=first|assumption|omega) only[Ad]))
     .refine DN (fd.1 _ z) (λfs L b4=>?_);subst b4;refine ax ?_;refine DN (e6.1 _ z) (λfs L b4=>?_);subst b4;have a0:f=3:=Cc;by_cases gm:UW p D fp (df+(c:Int))=1
      .have l:=j.1.put (x:=em) (l:=M.set c 2) A c5.1 rfl (by rw[Kw]);have a3:i[c]?=J 2:=by have:=b6.1;rw[D4 ⟨a0,gm⟩]at this;exact this
       rw[el.1 a3,Md _ _ (by rw[W.1];exact D2 _),W.1,IF,List.set_cons_zero]at l;dsimp only at l;rw[el.1 a3]at hp;exact zAG
      .have l:=j.1;have a3:i[c]?=J f:=by have:=b6.1;rw[Co λcq=>gm cq.2]at this;exact this
       rw[dj.1 a3]at l;exact zAG
     .have a0:¬f=3:=Cc;have l:=j.1;have a3:i[c]?=J f:=by have:=b6.1;rw[Co λcq=>a0 cq.1]at this;exact this
      rw[dj.1 a3]at l;have bx:(ag++(⟨i.take (c+1)++e.ac.drop (c+1),e.rules,e.args⟩:Au)::AW).length<=12:=by rw[Dl,ID,W.1,a'.1,Is];have:=ac.1;omega
      refine Fa [(4,.ptr bh 0),(5,.ii T 0 (U T1)),(7,nI a),(25,nI (U T1)),(26,nI a),(33,.ii cd 0 (U M)),(34,nI (U d.ac)),(35,nI (c+1))] rfl l a1 bx (λr g=>?_) zCH (λr g=>by grind [CP]) λk ad ai L ar av x w a6=>?_
      .simp[CP,AD]at g;rcases g with h|h|h
       .exact .inl h
       .grind [AD]
       .exact .inr (Ac.2 (.inr (BE.2 ⟨_,AP A,by simp[Ab,AD,h]⟩)))
      obtain⟨b3,bv⟩:=a6 T Az;have N:(cm.map (Du k))[a]?=J [ren k (.ii cd 0 (U M)),ren k dd,ren k cn]:=by rw[Be,A];rfl
      simp only[By,Ci,ren,av,bv]at x w N⊢;exact dq.1 ((ad,ai,b3,_),(_,_,_),(L,ar)) ⟨x,w,N⟩
   .rintro c ⟨⟨bh,f2,T,cm⟩,⟨g9,dd,cn⟩,⟨f5,dx⟩⟩ bs hj e2;obtain⟨j,a5,A⟩:=e2.1;dsimp only at j a5 A;have e7:=bs.1;rw[e7,T0,CS,<-d2.1,F2,c2.1,a'.1]at j;have d0:O.take a++⟨i,e.rules,e.args⟩::T1.drop (a+1)=O.take (a+1)++T1.drop (a+1):=by rw[e5.1,F0];rfl
    rw[d0]at j;replace j:=AB j;replace a5:=AB a5;replace e7:=AB e7;replace d0:=AB d0;clear bo b7 fi;refine ax ?_;refine Fa [(4,.ptr bh 0),(5,.ii T 0 (U T1)),(25,nI (U T1)),(26,nI (a+1))] rfl j.1 a1 ?_ (λr g=>?_) zCH (λr g=>by simp[CP,Ab,g]) λk ad ai L ar av x w a6=>?_
    .rw[<-d0.1,Dl,ID,b8.1,Is];have:=ac.1;omega
    .grind [CP,AD]
    simp only[By,Ci,ren,av]at x w⊢;refine dn.1 ((ad,ai,_,_),(L,ar)) ⟨x,w⟩
  .rintro a ⟨⟨f1,g5,gw,de⟩,⟨f4,g7⟩⟩ t gd bi;obtain⟨s,a4⟩:=bi.1;dsimp only at s a4;have e':=t.1;rw[e',T0,CS,<-d5.1,F2]at s;have hy:=QZ s.tab;replace s:=AB s;replace a4:=AB a4;replace e':=AB e';clear bn bk;exact af
def Ue(p:Aa)(c:Al)(D:List BJ)(a:Int):Nat->Al->Bool
 |_,[]=>X|b,k::l=>if k=2/\¬UW p D a (Re c a+(b:Int))=1 then Z else Ue p c D a (b+1) l
def PX(p:Aa)(b:Al)(D:List BJ)(a:Al):Nat->List Au->Bool
 |_,[]=>X|i,A8::l=>if Ue p b D ((a[i]?).getD 0) 0 A8.ac=X then PX p b D a (i+1) l else Z
def Uf(p:Aa)(c:Al)(D:List BJ)(b:Al)(a:List Au):y:=if TH p a=X then(if DA aA a (Gl p c D b a)=X then .kw [.d (.bool (PX p c D b 0 a)),nI 0]else .kw [.d (.bool (Z)),nI 0])else .kw [.d (.bool (Z)),nI 2]
variable{sz:Al}{D:List BJ}
theorem ADX{h:Int}:∀{l:Al} {c:Nat},Ue p sz D h c l=X->∀(i:Nat),l[i]?=J 2->UW p D h (Re sz h+((c+i:Nat):Int))=1
 :=by intro x;induction x<;>grind [Ue]
variable{a:Al}
theorem aY:∀{e:List Au} {f:Nat},PX p sz D a f e=X->∀(b:Nat) A8,e[b]?=J A8->Ue p sz D ((a[f+b]?).getD 0) 0 A8.ac=X
 |[],_,_,b,A8,hi=>by simp at hi|v::e,f,c,b,A8,hi=>by
  rw[PX]at c;split at c
  .rcases b with _|b
   .grind
   .rw[Hm]at hi;have:=aY c b A8 hi;grind
  .cases c
theorem ADY{p:Aa}{sz:Al}{D:List BJ}{a:Al}{c:List Au}(m:Mz p a)(i:PX p sz D a 0 c=X):N4 p sz D c:=λq h d e j o n s r b=>by
 rcases hu:c[h.n.toNat]? with _|g
 .grind [CB]
 .rw[CB,hu]at b;rcases hv:g.ac[e]? with _|t
  .simp[hv]at b
  .simp[hv]at b;subst b;have f:=aY i _ g hu;have l:=m.at_ q h j o n;rw[I7,l,F7]at f;have k:=ADX f e hv
   rwa [I7]at k
def ALG{c:S}{B:u}{V:TV}(f:Dh p sz D a c B V):eU p sz D a c B V .d9 [] []:=⟨f,⟨.inl ⟨rfl,rfl⟩,rfl,λe h i b=>by simp at b,Az⟩,λe _ g=>by simp[AD]at g,λe h i j b=>by simp at b⟩
def qt{p:Aa}{bc:Bu}(a':∀C∈p.free,C.size<=maxLen)(N:looks p=J bc){b:List Au}(ag:N5 b):∃a,Mz p a/\Bq kT 86 [pA p,Dv b] []=.ok (.ret (Uf p bc.eq (Dg p bc.eq) a b),[]):=by
 have q:=En N;have L:=Oh N;have W:=Qq L bc.eq;have b9:=dK p a';have cx:PN p=0:=by rw[PN,N]
 rw[cx]at b9;have c1:=q.small;simp[Aa.small]at c1;obtain⟨_,a6,d9⟩:=c1;have⟨⟨o0,h0⟩,a0,B,V,a,r1,ac,Y,O⟩:=yJ a' N 7 [];dsimp only at r1 ac;subst r1;refine⟨a,Y,?_⟩;generalize bc.eq=sz at*;generalize Dg p sz=D at*;clear cx;have⟨R,f⟩:=C6 (Uf p sz D a b);rw[<-f];replace q:=AB q;refine xp ?_ L W ac Y O f a' N ag;clear L W ac Y O f a' N ag;intro L W ac Y O f a' N ag;refine BM func86 ?_;refine ax ?_;have T:∀e,7<e->Sr [e] B V:=λe v c s=>by
  rcases b6:AE [e] c with _|_
  .rfl
  .have:=CA (O.1 c s) b6;omega
 have l:=ac.1.app (h:=[([0,0],Obj.box (pC p))]);generalize h0++[([0,0],Obj.box (pC p))]=H at*;replace T:=AB T;replace l:=AB l;clear a0;refine G8 (AJU q.1 l.1 (T.1 11 z) ag.1) (λcd d6 P=>?_);subst P;by_cases a5:TH p b=X
 .rw[Uf]at f;have f:=f.1;rw[D4 a5]at f;have K:=lO a5;have a4:=λe (v:7<e)=>wc (p:=p) (sz:=sz) (D:=D) (hs:=a) (g:=H) (B:=B) (V:=V) (ρ:=[e]) (tv:=Dv b) (T:=b) (W:=[]) ⟨q.1,L.1,W.1,l.1,T.1 e v,K,.inl ⟨rfl,rfl⟩,λc s=>(by cases s),λc _ s=>(by cases s),Y.1⟩;refine M9 ?_ a4 K f;clear a4 K f;intro a4 K f;refine ax ?_;refine Ak (a4.1 _ z) (λcd df P=>?_);obtain⟨d3,eb,rfl,a2,bl,b2,bx⟩:=P;have ad:=eU.call (T:=Gl p sz D a b) l.1 (T.1 16 z) a2 bl bx λc d4 m Q d1 _ b6=>absurd b6 (b2 d4 (AP d1) Q);have c0:∀cm,TQ cm d3=cm:=λcm=>by rcases a2.arr with⟨rfl,_⟩|⟨d',rfl,_⟩<;>rfl
  rw[G7,c0];generalize gc [16] df=G at*;have dd:=QZ ad.tab;have d0:=nK (QT K.1 (Qj (D:=D) q.1 a b)) ag.1;have a3:=ALG ad.rep;refine bQ ?_ a2 bl b2 bx ad a3;clear a2 bl b2 bx ad a3;intro a2 bl b2 bx ad a3;clear a4;by_cases b1:DA aA b (Gl p sz D a b)=X
  .have f:=f.1;rw[D4 b1]at f;replace f:=AB f;refine ax ?_;refine Fa [(1,Dv b),(6,.ptr B 0),(26,nI (U b)),(27,nI 0)] rfl a3.1 a6 AG zCH zCH Az λeg c4 c7 de b0 cs bo bk _=>?_;simp only[By,Ci,ren,cs]at bo bk⊢;have⟨A0,bi⟩:=C6 (PX p sz D a 0 b);rw[<-bi]at f;have dq:=f.1;subst dq;have cv:=AB K.1.len;replace bi:=AB bi;clear a3 ad cs d0 dd f T l ac O c0;refine Aj b (B0:=λc (h:(u×TV)×(S×Nat))=>⟨[(1,Dv b),(6,.ptr h.1.1 0),(26,nI (U b)),(27,nI c)],h.2.1,h.2.2,[]⟩)
    (Inv:=λc ch h=>AR (eU p sz D a h.2.1 h.1.1 h.1.2 .d9 [] []/\(∀k∈h.1.2.ids h.1.1,∃Q e,e<h.2.2/\k=Q::e::[])/\A0=PX p sz D a c ch)) (b0:=((c4,c7),(de,b0))) ⟨bo,λk t=>bk k (Ac.2 (.inl t)),bi.1⟩ ?_ ?_
   .rintro c m ⟨⟨cn,c8⟩,⟨dj,c'⟩⟩ O s dx b7 c6;have⟨M,aa,w⟩:=b7.1;dsimp only at M aa;have ec:SE.wrap ((c:Int)+1)=(c:Int)+1:=w_ z (by have:=cv.1;omega);have⟨d,hd⟩:=g_ (l:=p.defs) (i:=c) (by rw[<-cv.1];exact s);have⟨s1,s2,s3,cl⟩:=K.1.each c d m hd O;have bh:=(Bk q.1 hd).ok;have d5:=bh.ac;have⟨n,Q,C,hn,n0,hnx,ho,cc,hz,z0,z1⟩:=xZ q.1 Y.1 hd;rw[PX,hn,F7]at w;have b4:Re sz n=C:=by rw[Re,hz];rfl
    refine gX ?_ M aa w b4 bh cl cc;clear M aa w b4 bh cl cc;intro M aa w b4 bh cl cc;clear bo bk;refine ax (Fa [(1,Dv b),(6,.ptr cn 0),(7,nI c),(26,nI (U b)),(27,nI c),(34,.d (.co (m.ac.map AX))),(35,nI (U d.ac)),(36,nI 0)] rfl M.1 a6 AG zCH zCH Az λej c5 c9 dm dc cu bs bn _=>?_);simp only[By,Ci,ren,cu]at bs bn⊢;clear cu;refine CZ m.ac (U d.ac:Int) (B0:=λd2 g (h:(u×TV)×(S×Nat))=>⟨[(1,Dv b),(6,.ptr h.1.1 0),(7,nI c),(26,nI (U b)),(27,nI c),(34,.d (.co (m.ac.map AX))),(35,nI d2),(36,nI g)],h.2.1,h.2.2,[]⟩)
     (Inv:=λg ch h=>AR (eU p sz D a h.2.1 h.1.1 h.1.2 .d9 [] []/\(∀k∈h.1.2.ids h.1.1,∃Q e,e<h.2.2/\k=Q::e::[])/\A0=if Ue p sz D n g ch=X then PX p sz D a (c+1) (b.drop (c+1))else Z)) (b0:=((c5,c9),(dm,dc))) z ⟨bs,λk t=>bn k (Ac.2 (.inl t)),w.1⟩ ?_ ?_
    .rintro g e ⟨⟨ai,cq⟩,⟨dn,be⟩⟩ v d8 ds b8 cp;have⟨i,r,j⟩:=b8.1;dsimp only at i r;have ef:SE.wrap ((g:Int)+1)=(g:Int)+1:=w_ z z;rw[Ue,b4.1]at j;have dr:=i.rep.box;have⟨hid2,hxs,b5,hgh,hhx⟩:=UG i.rep.heads hn;rw[b5]at dr;have lhs:=l_ hn;have d7:(c:Int)<U a:=z;have ea:=l_ hhx;have l:=λ(e:Nat) (v:be<=e)=>(show Sr [e] ai cq fromλc s=>GU (r c s) v);have b3:=λ(e:Nat) (v:be<=e)=>Ve i.rep (l e v) (HU c) hn n0 hz (c:=(g:Int)) ⟨z,z⟩;have bv:=λ(e:Nat) (v:be<=e)=>bC q.1 L.1 (fC q.1 L.1 W.1) W.1.len i.rep (l e v) n0 hnx ho (C+(g:Int));refine gX ?_ i r j b5 l b3 bv;clear i r j b5 l b3 bv;intro i r j b5 l b3 bv;clear bs bn
     (repeat' (first|simp only[*,go_sem,AM]|(refine sx ?_ ?_<;>intro b9)|refine sy z λQ b6 ag=>?_|simp(disch:=first|assumption|omega) only[Ad]))
     .refine DN (b3.1 _ z) (λcd F P=>?_);subst P;refine ax ?_;refine DN (bv.1 _ z) (λcd F P=>?_);subst P;have b':e=2:=Cc;by_cases c2:UW p D n (C+(g:Int))=1
      .have o:=j.1;rw[show(if e=2/\¬UW p D n (C+(g:Int))=1 then Z else Ue p sz D n (g+1) (m.ac.drop (g+1)))=Ue p sz D n (g+1) (m.ac.drop (g+1))from Co λa0=>a0.2 c2]at o;replace o:=AB o;refine ax ?_;refine Fa [(1,Dv b),(6,.ptr ai 0),(7,nI c),(26,nI (U b)),(27,nI c),(34,.d (.co (m.ac.map AX))),(35,nI (U d.ac)),(36,nI (g+1))] rfl i.1 a6 AG zCH zCH Az λc3 ar av F az a1 A x _=>?_;simp only[By,Ci,ren,a1]at A x⊢;exact cp.1 ((ar,av),(F,az)) ⟨A,λk t=>x k (Ac.2 (.inl t)),o.1⟩
      .have o:=j.1;rw[show(if e=2/\¬UW p D n (C+(g:Int))=1 then Z else Ue p sz D n (g+1) (m.ac.drop (g+1)))=Z from D4 ⟨b',c2⟩,Co AG]at o;subst o;exact af
     .have b':¬e=2:=Cc;have o:=j.1;rw[show(if e=2/\¬UW p D n (C+(g:Int))=1 then Z else Ue p sz D n (g+1) (m.ac.drop (g+1)))=Ue p sz D n (g+1) (m.ac.drop (g+1))from Co λa0=>b' a0.1]at o;refine Fa [(1,Dv b),(6,.ptr ai 0),(7,nI c),(26,nI (U b)),(27,nI c),(34,.d (.co (m.ac.map AX))),(35,nI (U d.ac)),(36,nI (g+1))] rfl i.1 a6 AG zCH zCH Az λc3 ar av F az a1 A x _=>?_;simp only[By,Ci,ren,a1]at A x⊢;exact cp.1 ((ar,av),(F,az)) ⟨A,λk t=>x k (Ac.2 (.inl t)),o⟩
    .rintro g ⟨⟨ai,cq⟩,⟨dn,be⟩⟩ b9 ds b8;have⟨i,r,j⟩:=b8.1;dsimp only at i r;rw[Ue,D4 rfl]at j;refine M9 ?_ i r j;clear i r j;intro i r j;clear bs bn;refine ax (Fa [(1,Dv b),(6,.ptr ai 0),(26,nI (U b)),(27,nI (c+1))] rfl i.1 a6 AG zCH zCH Az λc3 ar av F az a1 A x _=>?_);simp only[By,Ci,ren,a1]at A x⊢;exact c6.1 ((ar,av),(F,az)) ⟨A,λk t=>x k (Ac.2 (.inl t)),j.1⟩
   .rintro c ⟨⟨cn,c8⟩,⟨dj,c'⟩⟩ s dx b7;have⟨M,aa,w⟩:=b7.1;rw[PX]at w;subst w;clear M aa bo bk;exact af
  .have f:=f.1;rw[Co b1]at f;subst f;have b1:DA aA b (Gl p sz D a b)=false:=by simpa using b1
   exact af
 .have f:=f.1;rw[Uf,Co a5]at f;subst f;have a5:TH p b=false:=by simpa using a5
  exact af
def p5:∀{ds:List Bd} {us:List Au},U ds=U us->(∀(b:Nat) d a,ds[b]?=J d->us[b]?=J a->(U d.ac)=U a.ac/\(U d.rules)=U a.rules)->QQ ds us=X
 |[],[],_,_=>rfl|[],_::_,h,_=>by simp at h|_::_,[],h,_=>by simp at h|d::ds,a::us,h,he=>by have⟨h1,h2⟩:=he 0 d a rfl rfl;have f:=p5 (ds:=ds) (us:=us) zCP λb d a c e=>he (b+1) d a zCy zCx;simp[QQ,py,h1,h2,f]
variable{T:List Au}
def dP(h:W1 p T):vX p T=true:=by have⟨h1,h2⟩:=vY h;rw[vX,p5 h1 h2,GO h1];rfl
def Ft(T:List Au):List Ar:=[.co (T.map kf)]
def aQ{b:Bu}(k:∀s∈p.free,s.size<=maxLen)(g:looks p=J b)(e:N5 T):∃L:List (List Au),Bq kT 45 [pA p,Dv T] []=.ok (.ret (.kw [.d (.co (L.map Ft)),.d (.bool (X))]),[])/\(U L)<=2/\∀c∈L,Da p b.eq (Dg p b.eq) c/\N4 p b.eq (Dg p b.eq) c/\W1 p c:=by
 have h:=En g;have q:=h.small;simp[Aa.small]at q;obtain⟨_,x,w⟩:=q;have⟨T1,hT1,a1,a2,a3⟩:=jF k g;have⟨a,hH,hA⟩:=qt k g e;have t:=dN p T1 z;have v:=dN p T z;rw[dP a3]at t;have one:∀c∈ [T1],Da p b.eq (Dg p b.eq) c/\N4 p b.eq (Dg p b.eq) c/\W1 p c:=λc l=>by rw[AS]at l;rw[l];exact⟨a1,a2,a3⟩
 by_cases f:TH p T=X
 .have i:=lO f;rw[dP i]at v;rw[Uf,D4 f]at hA;by_cases j:DA aA T (Gl p b.eq (Dg p b.eq) a T)=X
  .rw[D4 j]at hA;rcases ha:PX p b.eq (Dg p b.eq) a 0 T with _|_
   .rw[ha]at hA;refine⟨[T1],?_,AG,one⟩;clear one a1 a2 a3 i f j ha hH h e k g;exact zAN
   .rw[ha]at hA;have r:∀c∈ [T1,T],Da p b.eq (Dg p b.eq) c/\N4 p b.eq (Dg p b.eq) c/\W1 p c:=λc l=>by
     simp at l;rcases l with rfl|rfl
     .exact⟨a1,a2,a3⟩
     .exact⟨AIe h hH i j,ADY hH ha,i⟩
    refine⟨[T1,T],?_,AG,r⟩;clear one r a1 a2 a3 i f j ha hH h e k g;exact zAN
  .rw[Co j]at hA;refine⟨[T1],?_,AG,one⟩;clear one a1 a2 a3 i f j hH h e k g;exact zAN
 .rw[Uf,Co f]at hA;refine⟨[T1],?_,AG,one⟩;clear one a1 a2 a3 f hH h e k g;exact zAN
structure EH(g:S)(B:u)(s:BQ)(jp:Al)(ge:List Al)(cv rv:y)(vs:List y):Prop:=
 box:g.get B=J (.box [.d (.co (s.be.map Ch)),.d (.co (s.bv.map Cf)),.d (.co (s.ac.map C0)),.d (.co (s.waits.map Bj)),cv,rv])
 jp:(cv=.d9/\jp=[])\/∃id,cv=.ii id 0 (U jp)/\g.get id=J (.f8 1 (jp.map AX))
 rx:(rv=.d9/\vs=[])\/∃id,rv=.ii id 0 (U ge)/\g.get id=J (.arr 1 (vs.map λv=>[v]))
 len:U vs=U ge
 each:∀(j:Nat) v l,vs[j]?=J v->ge[j]?=J l->B6 g v l
 nd:(B::(AD cv++(AD rv++Ab vs))).Nodup
section
variable{p:Aa}{g:S}{B:u}{s:BQ}{jp:Al}{ge:List Al}{b c:y}{e:List y}{f:u}{T:List Au}
end
theorem SZ{e:Type}{f:e->List Ar}{a:List e}{g:G}{sz b:Nat}(h:∀c,(f c).length=sz)(i:b<=(U a)):Ga g .slice sz (.d (.co (a.map f))) (J (nI (b:Int))) I I=J (.d (.co ((a.drop b).map f))):=by
 have j:Qs sz (a.map f)=true:=by clear i;induction a with|nil=>rfl|cons c a k=>simp[Qs,h]
 grind [Ga,GB,Jq,Ki,Kx,Zc,List.map_drop,List.take_of_length_le]
section
variable{p:Aa}{h:Al}{g:S}{B:u}{s:BQ}{jp:Al}{ge:List Al}{f e:y}{c:List y}{b:u}
def ADM(g:S)(B:u)(s:BQ)(b:u)(f e:y)(c:List y)(jp:Al)(ge:List Al)(l:BG)(i:S):Prop:=l=.ret (.kw [])/\∃h j k,EH i B s jp ge h j k/\(∀a∈AD h++(AD j++Ab k),a∈AD f++(AD e++Ab c)\/(AE b a=X/\∃m,a=1::m))/\∀a,AE b a=Z->a∉B::(AD f++(AD e++Ab c))->i.get a=g.get a
theorem EH.setC{G g:S}(i:EH G B s jp ge f e c){b:y}{h:Al}(n:g.get B=J (.box [.d (.co (s.be.map Ch)),.d (.co (s.bv.map Cf)),.d (.co (s.ac.map C0)),.d (.co (s.waits.map Bj)),b,e]))(o:(b=.d9/\h=[])\/∃j,b=.ii j 0 (U h)/\g.get j=J (.f8 1 (h.map AX)))(pm:∀a∈AD e++Ab c,g.get a=G.get a)(fresh:∀a∈AD b,a≠B/\a∉AD e++Ab c):EH g B s h ge b e c:=by
 have l:=i.nd;rw[IT,D0]at l;obtain⟨x,A,C,D⟩:=l;refine⟨n,o,?_,i.len,λr v t m q=>(i.each r v t m q).mono λa p=>pm a (Ac.2 (.inr (Dk (AP m) p))),?_⟩
 .rcases i.rx with k|⟨j,k,w⟩
  .exact .inl k
  grind [AD]
 grind [AD]
theorem QD{i:u}(h:AE b i=Z)(l:u):l++b≠i:=by grind [q_a]
theorem EH.mono{G:S}(a:EH g B s jp ge f e c)(i:∀h∈B::(AD f++(AD e++Ab c)),G.get h=g.get h):EH G B s jp ge f e c:=by
 refine⟨by rw[i B AG];exact a.box,?_,?_,a.len,λo q p j m=>(a.each o q p j m).mono λh l=>i h (by simp[Dk (AP j) l]),a.nd⟩
 .rcases a.jp with b|⟨n,b,k⟩
  .exact .inl b
  grind [AD]
 .rcases a.rx with b|⟨n,b,k⟩
  .exact .inl b
  grind [AD]
theorem AAz(v:y):∀l:List y,Ab (l++[v])=Ab l++AD v
 :=by intro x;induction x<;>grind [Ab]
theorem EH.setR{G i:S}(g:EH G B s jp ge f e c){k:u}{a:y}{b:Al}(A:i.get B=J (.box [.d (.co (s.be.map Ch)),.d (.co (s.bv.map Cf)),.d (.co (s.ac.map C0)),.d (.co (s.waits.map Bj)),f,.ii k 0 (U ge+1)]))(x:i.get k=J (.arr 1 ((c++[a]).map λa=>[a])))(M:B6 i a b)(pm:∀h∈AD f++Ab c,i.get h=G.get h)(v:k∉B::(AD f++(Ab c++AD a)))(w:∀h∈AD a,h∉B::(AD f++Ab c))(T:(AD a).Nodup):EH i B s jp (ge++[b]) f (.ii k 0 (U ge+1)) (c++[a]):=by
 have p:=g.nd;rw[IT,D0]at p;obtain⟨H,N,q,O⟩:=p;rw[D0]at q;obtain⟨P,Q,R⟩:=q;have t:∀b:List y,Ab (b++[a])=Ab b++AD a:=λb=>by induction b with|nil=>simp[Ab]|cons V b D=>simp[Ab,D]
 simp at v w H;refine⟨A,?_,.inr ⟨k,AG,x⟩,by simp[g.len],λm K F j l=>?_,?_⟩
 .rcases g.jp with n|⟨h,n,L⟩
  .exact .inl n
  grind [AD]
 .by_cases o:m<U c
  .rw[D8 o]at j;rw[D8 (by rw[<-g.len];exact o)]at l;exact(g.each m K F j l).mono λh C=>pm h (Ac.2 (.inr (Dk (AP j) C)))
  .have:=l_ j;rw[Dl,I3]at this;have r:m=U c:=z;subst r;rw[D6 (D2 _),IF]at j;rw[D6 (by rw[g.len];exact D2 _),g.len,IF]at l;grind
 .rw[t];simp only[AD];rw[IT,D0];grind
theorem oB(b0:Ao p h)(a:Ed p h s)(v:EH g B s jp ge f e c)(ag:∀n∈B::(AD f++(AD e++Ab c)),AE b n=Z)(d5:U jp<=(U s.ac))(cc:U ge<=(U s.bv)):
 ∃dr c6,kT (.fn 47) [.ptr B 0,pA p] g b X I=.ok (dr,c6)/\ADM g B s b f e c (jp++Mq s (U jp)) (ge++IU p s (U ge)) dr c6:=by
 have a':=ag B AG;have e8:=AN a';have ac:=Av a';have d':=v.box;have de:=a.small;simp[BQ.small]at de;obtain⟨f0,f1,f2,f3⟩:=de;have az:∀g:Abs.G,MZ g .slice f=J (U jp):=λg=>by rcases v.jp with⟨rfl,rfl⟩|⟨w,rfl,bi⟩<;>rfl
 have ea:y.q_b f=true:=by rcases v.jp with⟨rfl,rfl⟩|⟨w,rfl,bi⟩<;>rfl
 unfold MZ at az;refine Zt ?_ v ag a b0;clear v ag a b0;intro v ag a b0;have ds:=λg=>SZ (g:=g) (f:=C0) (sz:=4) (λ_=>rfl) d5;have dx:=λg=>SZ (g:=g) (f:=Cf) (sz:=3) (λ_=>rfl) cc;refine Bf func47 ?_
 (repeat' (first|simp only[*,go_sem,AM]|(refine sx ?_ ?_<;>intro av)|refine sy z λa3 a2 K=>?_|simp(disch:=first|assumption|omega) only[Ad]))
 refine HF λb9 cd=>?_;have dm:∀i,AE b i=Z->b9.get i=g.get i:=λi j=>by have m:=AN j;rw[cd];simp only[go_sem,m,AM]
 have e3:b9.get (0::0::b)=J (.box (pC p)):=by rw[cd];simp only[go_sem]
 clear cd az ea ds;have fd:=v.1.mono λn L=>dm n (ag.1 n L);have⟨NC,b1⟩:=C6 (Mq s (U jp));rw[<-b1];have cn:U NC=(s.ac.drop (U jp)).length:=by rw[b1,Mq,BV]
 have d6:∀(n:Nat) m,(s.ac.drop (U jp))[n]?=J m->NC[n]?=J (U m.queue:Int):=λn m a0=>by grind [Mq]
 have fo:(s.ac.drop (U jp)).length<=60:=by rw[Is];omega
 replace b1:=AB b1;replace cn:=AB cn;generalize s.ac.drop (U jp)=DC at*;refine Aj DC (B0:=λn (q:S×Nat)=>⟨[(0,.ptr B 0),(3,.ptr (0::0::b) 0),(18,.d (.co (DC.map C0))),(19,nI (U DC)),(20,nI n)],q.1,q.2,[]⟩)
  (Inv:=λn e5 q=>AR (14<=q.2/\(∃W,EH q.1 B s (jp++NC.take n) ge W e c/\(∀i∈AD W,i∈AD f\/∃r,r<q.2/\i=1::r::b))/\(∀i,AE b i=Z->i≠B->i∉AD f->q.1.get i=g.get i)/\q.1.get (0::0::b)=J (.box (pC p)))) (b0:=(b9,14)) ⟨D2 _,⟨f,by grind,λi j=>.inl j⟩,λi j _ _=>dm i j,e3⟩ ?_ ?_
 .rintro n m ⟨G,F⟩ a0 L ef ch c5;have⟨hb14,⟨W,D,Q⟩,Y,hp1⟩:=ch.1;dsimp only at hb14 D Q Y hp1;have e6:SE.wrap ((n:Int)+1)=(n:Int)+1:=w_ z z;have ad:NC.take (n+1)=NC.take n++[(U m.queue:Int)]:=by rw[Ex,d6 n m a0];rfl
  have cq:=D.box;generalize az:jp++NC.take n=cl at*;have bh:jp++NC.take (n+1)=cl++[(U m.queue:Int)]:=by rw[ad,<-F0,az]
  refine Zt ?_ az ad bh Y;clear az ad bh Y;intro az ad bh Y;have e2:∀M,¬F+M=0:=λM=>z;have b6:AR (∀i∈AD e++Ab c,AE b i=Z):=⟨λi j=>ag.1 i (Bi _ (Ac.2 (.inr j)))⟩;have dc:AR (∀i∈AD f,AE b i=Z):=⟨λi j=>ag.1 i (Bi _ (Ac.2 (.inl j)))⟩;have c7:AR (∀i∈AD e++Ab c,i≠B):=⟨λi j k=>by have:=v.1.nd;grind⟩
  rcases D.jp with⟨rfl,bc⟩|⟨w,rfl,bi⟩
  .replace D:=AB D
   (repeat' (first|simp only[*,go_sem,AM,D1,DL,BD]|(refine sx ?_ ?_<;>intro av)|refine sy z λa3 a2 K=>?_|simp(disch:=first|assumption|omega) only[Ad]))
   refine HF λC o=>?_;refine c5.1 (_,_) ⟨AZ,⟨.ii (1::(F+14)::b) 0 1,?_,λi j=>.inr ⟨F+14,AZ,by simpa[AD]using j⟩⟩,λi T t V=>?_,?_⟩
   .rw[bh.1,bc];refine D.1.setC ?_ (.inr ⟨_,rfl,?_⟩) (λi j=>?_) (λi j=>?_)
    .rw[o];simp only[go_sem]
    .rw[o];simp only[go_sem,ac,AM]
    .have m:=AN (b6.1 i j);have t:=AI λk=>c7.1 i j (Eq.symm k);rw[o];simp only[go_sem,m,t,AM]
    .exact zCD
   .have m:=AN T;have c3:=AI λk=>t (Eq.symm k);rw[o];simp only[go_sem,m,c3,AM];exact Y.1 i T t V
   .rw[o];simp only[go_sem,ac,hp1,AM]
  .have cu:=D.nd;rw[IT]at cu;have dj:w≠B:=λk=>cu.1 (by simp[AD,k]);have er:=AI dj;have et:=AI λk=>dj (Eq.symm k);have b8:w∉AD e++Ab c:=λl=>(D0.1 cu.2).2.2 w Az w l rfl;have e0:∀q M,AJ (q::(F+M)::b) w=false:=λq M=>by
    rcases Q w Az with l|⟨r,K,rfl⟩
    .exact AN (dc.1 w l) _ _
    grind [AI]
   have dq:∀q M,AJ w (q::(F+M)::b)=false:=λq M=>by grind [AI]
   have e1:AJ w (0::0::b)=false:=by
    rcases Q w Az with l|⟨r,K,rfl⟩
    .exact Av (dc.1 w l) _ _
    .exact AI AG
   have cs:(cl.map AX).length=U cl:=by rw[BV]
   have df:(cl.map AX).take (U cl)=cl.map AX:=Bv AG;replace D:=AB D;have⟨N,be⟩:=C6 (U cl);rw[<-be]at cs df cq;have fc:N+1<=200:=by rw[be,<-az.1,Dl,F3];omega
   replace be:=AB be;generalize ai:cl.map AX=es at*;refine M9 ?_ ai b8 Q;clear ai b8 Q;intro ai b8 Q
   (repeat' (first|simp only[*,go_sem,AM,D1,DL,BD]|(refine sx ?_ ?_<;>intro av)|refine sy z λa3 a2 K=>?_|simp(disch:=first|assumption|omega) only[Ad]))
   refine HF λC o=>?_;refine c5.1 (_,_) ⟨AZ,⟨.ii (1::(F+14)::b) 0 (N+1),?_,λi j=>.inr ⟨F+14,AZ,by simpa[AD]using j⟩⟩,λi T t V=>?_,?_⟩
   .rw[bh.1];refine D.1.setC ?_ (.inr ⟨_,by rw[Dl,be.1];rfl,?_⟩) (λi j=>?_) (λi j=>?_)
    .rw[o];simp only[go_sem]
    .rw[o,Ap,ai.1];simp only[go_sem,ac,AM]
    .have m:=AN (b6.1 i j);have t:=AI λk=>c7.1 i j (Eq.symm k);have V:AJ w i=false:=AI λk=>b8.1 (k▸j);rw[o];simp only[go_sem,m,t,V,AM]
    .exact zCD
   .have m:=AN T;have c3:=AI λk=>t (Eq.symm k);have e4:AJ w i=false:=AI λk=>by
     rcases Q.1 w Az with l|⟨r,K,l⟩
     .exact V (k▸l)
     .exact QD T [1,r] (by rw[<-k,l];rfl)
    rw[o];simp only[go_sem,m,c3,e4,AM];exact Y.1 i T t V
   .rw[o];simp only[go_sem,ac,hp1,e1,AM]
 .rintro n ⟨G,F⟩ L ef ch;have⟨hb14,⟨W,D,Q⟩,Y,hp1⟩:=ch.1;dsimp only at hb14 D Q Y hp1;have b4:=L.1;rw[b4,<-cn.1,F2]at D;have cq:=D.box;have a1:∀g:Abs.G,MZ g .slice e=J (U ge):=λg=>by
   have cc:=v.1.len;rcases v.1.rx with⟨rfl,rfl⟩|⟨w,rfl,bi⟩
   .rw[<-cc];rfl
   .rfl
  have el:y.q_b e=true:=by rcases v.1.rx with⟨rfl,rfl⟩|⟨w,rfl,bi⟩<;>rfl
  unfold MZ at a1;refine Zt ?_ D Q Y b4;clear D Q Y b4;intro D Q Y b4
  (repeat' (first|simp only[*,go_sem,AM]|(refine sx ?_ ?_<;>intro av)|refine sy z λa3 a2 K=>?_|simp(disch:=first|assumption|omega) only[Ad]))
  clear a1 el dx d' cq;have⟨NR,b2⟩:=C6 (IU p s (U ge));rw[<-b2];have cp:U NR=(s.bv.drop (U ge)).length:=by rw[b2,IU,BV]
  have d7:∀(n:Nat) m,(s.bv.drop (U ge))[n]?=J m->NR[n]?=J (Sm (KC p m) (0:Int)):=λn m a0=>by grind [IU]
  have ec:∀m∈s.bv.drop (U ge),m∈s.bv:=λm a0=>Rc a0;have fp:(s.bv.drop (U ge)).length<=40:=by rw[Is];omega
  replace b2:=AB b2;replace cp:=AB cp;generalize s.bv.drop (U ge)=DG at*;have d8:EH G B s (jp++NC) (ge++NR.take 0) W e c:=by rw[Lw,CS];exact D.1
  refine Aj DG (B0:=λn (q:S×Nat)=>⟨[(0,.ptr B 0),(3,.ptr (0::0::b) 0),(47,.d (.co (DG.map Cf))),(48,nI (U DG)),(49,nI n)],q.1,q.2,[]⟩)
   (Inv:=λn e5 q=>AR (F+14<=q.2/\(∃O H,EH q.1 B s (jp++NC) (ge++NR.take n) W O H/\(∀i∈AD O++Ab H,i∈AD e++Ab c\/∃r,r<q.2/\F+14<=r/\i=1::r::b))/\(∀i,AE b i=Z->i≠B->i∉AD f++(AD e++Ab c)->q.1.get i=g.get i)/\q.1.get (0::0::b)=J (.box (pC p)))) (b0:=(G,F+14)) ⟨D2 _,⟨e,c,d8,λi j=>.inl j⟩,λi T t V=>Y.1 i T t λl=>V (Ac.2 (.inl l)),hp1⟩ ?_ ?_
  .clear hp1;rintro ar m ⟨c4,x⟩ a0 c9 eg cm bk;have⟨hb2,⟨O,H,A,R⟩,aa,hp2⟩:=cm.1;dsimp only at hb2 A R aa hp2;have e6:SE.wrap ((ar:Int)+1)=(ar:Int)+1:=w_ z z;have ad:NR.take (ar+1)=NR.take ar++[Sm (KC p m) (0:Int)]:=by rw[Ex,d7 ar m a0];rfl
   have fi:=A.box;obtain⟨ex,ej⟩:=Ce (ec m (AP a0));have⟨d,b3⟩:=a.1.grp ex m ej;have eb:=b3.ip;have⟨q0,hd3⟩:=Cr eb;have e7:=(Bk b0.1 hd3).ok.rules;have fr:=l_ hd3;have e':m.ip<U p.defs:=z;have bo:KC p m=U d.rules:=by rw[KC,hd3];rfl
   rw[bo]at ad;generalize a1:ge++NR.take ar=rl at*;have b7:ge++NR.take (ar+1)=rl++[Sm (U d.rules) (0:Int)]:=by rw[ad,<-F0,a1]
   have fl:U rl+1<=200:=by rw[<-a1,Dl,F3];omega
   refine gX ?_ a1 ad b7 aa R bo b3;clear a1 ad b7 aa R bo b3;intro a1 ad b7 aa R bo b3;have e2:∀M,¬x+M=0:=λM=>z;have dd:AR (∀i∈AD W++(AD O++Ab H),Kb b x i):=⟨λi j=>by
    rcases Ac.1 j with j|j
    .rcases Q.1 i j with l|⟨r,K,rfl⟩
     .exact Ot (ag.1 i (Bi _ (Ac.2 (.inl l)))) _
     .intro q M ek k;simp at k;omega
    .rcases R.1 i j with l|⟨r,K,_,rfl⟩
     .exact Ot (ag.1 i (Bi _ (Ac.2 (.inr l)))) _
     .intro q M ek k;simp at k;omega⟩
   have c8:AR (∀i∈AD W++(AD O++Ab H),i≠B):=⟨λi j k=>by have:=A.nd;grind⟩
   have cv:=A.nd;rw[IT,D0,D0]at cv;have bs:AR (∀(C:S) (P:y) (bl:Nat),C.get B=J (.box [.d (.co (s.be.map Ch)),.d (.co (s.bv.map Cf)),.d (.co (s.ac.map C0)),.d (.co (s.waits.map Bj)),W,.ii (1::(x+20)::b) 0 (U rl+1)])->C.get (1::(x+20)::b)=J (.arr 1 ((H++[P]).map λP=>[P]))->B6 C P (Sm (U d.rules) (0:Int))->(AD P).Nodup->(∀n∈AD P,n=1::(x+18)::b)->(∀i,Kb b x i->i≠B->i∉AD O->C.get i=c4.get i)->x+20<bl->
    F+14<=bl/\(∃O H,EH C B s (jp++NC) (ge++NR.take (ar+1)) W O H/\(∀i∈AD O++Ab H,i∈AD e++Ab c\/∃r,r<bl/\F+14<=r/\i=1::r::b))/\(∀i,AE b i=Z->i≠B->i∉AD f++(AD e++Ab c)->C.get i=g.get i)/\C.get (0::0::b)=J (.box (pC p))):=⟨λC P bl d0 d1 d2 d3 d4 b' e9=>by
    have a6:∀i∈AD W++Ab H,Kb b x i/\i≠B/\i∉AD O:=λi j=>by
     have c':i∈AD W++(AD O++Ab H):=zCI
     refine⟨dd.1 i c',c8.1 i c',λl=>?_⟩;grind
    have d9:=A.setR d0 d1 d2 (λi j=>b' i (a6 i j).1 (a6 i j).2.1 (a6 i j).2.2) ?_ ?_ d3;refine⟨z,⟨_,_,by rw[b7.1];exact d9,λi j=>?_⟩,λi T t V=>(b' i (Ot T _) t λl=>?_).trans (aa.1 i T t V),(b' _ (λq r K k=>?_) (QD a' [0,0]) λl=>?_).trans hp2⟩
    .simp[AAz,AD]at j;rcases j with rfl|v|v
     .grind
     .rcases R.1 i (Ac.2 (.inr v))with l|⟨r,fs,fv,fz⟩
      .exact .inl l
      grind
     grind
    .rcases R.1 i (Ac.2 (.inl l))with l|⟨r,_,_,l⟩
     .grind
     .exact QD T [1,r] l.symm
    .simp at k;omega
    .rcases R.1 _ (Ac.2 (.inl l))with l|⟨r,_,_,l⟩
     .have:=ag.1 _ (Bi _ (Ac.2 (.inr l)));grind [Aq]
     .simp at l
    .intro L;simp at L;rcases L with v|v|v|v
     .grind
     .exact(a6 _ (Ac.2 (.inl v))).1 1 (x+20) z rfl
     .exact(a6 _ (Ac.2 (.inr v))).1 1 (x+20) z rfl
     grind
    .intro n L l;rw[d4 n L]at l;rcases DO.1 l with v|v
     .exact QD a' [1,x+18] v
     .exact(a6 _ v).1 1 (x+18) z rfl⟩
   have bx:∀i,i∈AD O->i≠B:=λi j=>c8.1 i zCI;have cx:∀i,i∈AD O->Kb b x i:=λi j=>dd.1 i zCI;have bv:∀dn:Nat,∀n∈AD (y.ii (1::(x+18)::b) 0 dn),n=1::(x+18)::b:=λdn n L=>by simpa[AD]using L
   replace cv:=AB cv;replace bv:=AB bv;rcases A.rx with⟨rfl,bc⟩|⟨w,rfl,bi⟩
   .have bn:U rl=0:=by rw[<-A.len,bc];rfl
    replace A:=AB A;replace bn:=AB bn;clear bx cx;by_cases c0:U d.rules=0
    .skip
     (repeat' (first|simp only[*,go_sem,AM,D1,DL,BD]|(refine sx ?_ ?_<;>intro av)|refine sy z λa3 a2 K=>?_|simp(disch:=first|assumption|omega) only[Ad,Dm]))
     refine HF λC o=>bk.1 (_,_) ⟨bs.1 C .emp _ ?_ ?_ (.inl ⟨.inr rfl,by rw[c0];rfl⟩) Az (λn L=>by cases L) (λi a4 a5 _=>?_) z⟩
     .rw[o,bn.1];simp only[go_sem]
     .rw[o];simp only[go_sem,ac,bc,AM]
     .exact zCF
    .have em:0<U d.rules:=z;have en:(0:Int)<U d.rules:=z
     (repeat' (first|simp only[*,go_sem,AM,D1,DL,BD]|(refine sx ?_ ?_<;>intro av)|refine sy z λa3 a2 K=>?_|simp(disch:=first|assumption|omega) only[Ad,Dm]))
     refine HF λC o=>bk.1 (_,_) ⟨bs.1 C (.ii (1::(x+18)::b) 0 (U d.rules)) _ ?_ ?_ (.inr ⟨_,by rw[IN],?_⟩) Az (bv.1 _) (λi a4 a5 _=>?_) z⟩
     .rw[o,bn.1];simp only[go_sem]
     .rw[o];simp only[go_sem,ac,bc,AM]
     .rw[o];simp only[go_sem,ac,DL,BD,AM]
     .exact zCF
   .have c1:=cx w Az;have e0:=c1.is;have dq:=λq M=>AI λk=>c1 q (x+M) z k;have er:=AI (bx w Az);have et:=AI λk=>bx w Az (Eq.symm k);have cs:(H.map λP=>[P]).length=U rl:=by rw[BV,A.len]
    have df:(H.map λP=>[P]).take (U rl)=H.map λP=>[P]:=Bv (by rw[cs];exact D2 _);generalize ai:(H.map λP=>[P])=es at*;replace ai:=AB ai;replace A:=AB A;clear c1 bx cx;by_cases c0:U d.rules=0
    .skip
     (repeat' (first|simp only[*,go_sem,AM,D1,DL,BD]|(refine sx ?_ ?_<;>intro av)|refine sy z λa3 a2 K=>?_|simp(disch:=first|assumption|omega) only[Ad,Dm]))
     refine HF λC o=>bk.1 (_,_) ⟨bs.1 C .emp _ ?_ ?_ (.inl ⟨.inr rfl,by rw[c0];rfl⟩) Az (λn L=>by cases L) (λi a4 a5 c2=>?_) z⟩
     .rw[o];simp only[go_sem]
     .rw[o,Ap,ai.1];simp only[go_sem,ac,AM]
     .exact zBO
    .have em:0<U d.rules:=z;have en:(0:Int)<U d.rules:=z
     (repeat' (first|simp only[*,go_sem,AM,D1,DL,BD]|(refine sx ?_ ?_<;>intro av)|refine sy z λa3 a2 K=>?_|simp(disch:=first|assumption|omega) only[Ad,Dm]))
     refine HF λC o=>bk.1 (_,_) ⟨bs.1 C (.ii (1::(x+18)::b) 0 (U d.rules)) _ ?_ ?_ (.inr ⟨_,by rw[IN],?_⟩) Az (bv.1 _) (λi a4 a5 c2=>?_) z⟩
     .rw[o];simp only[go_sem]
     .rw[o,Ap,ai.1];simp only[go_sem,ac,AM]
     .rw[o];simp only[go_sem,ac,dq,DL,BD,AM]
     .exact zBO
  .rintro ar ⟨c4,x⟩ c9 eg cm;have⟨hb2,⟨O,H,A,R⟩,aa,hp2⟩:=cm.1;dsimp only at hb2 A R aa hp2;have b5:=c9.1;rw[b5,<-cp.1,F2]at A;refine Zt ?_ A R aa b5;clear A R aa b5;intro A R aa b5;clear hp1 hp2
   (repeat' (first|simp only[*,go_sem,AM]|(refine sx ?_ ?_<;>intro av)|refine sy z λa3 a2 K=>?_|simp(disch:=first|assumption|omega) only[Ad]))
   refine⟨rfl,W,O,H,A.1,λi j=>?_,λi T t=>aa.1 i T (λk=>t (by simp[k])) λl=>t (Bi _ l)⟩;rcases Ac.1 j with j|j
   .rcases Q.1 i j with l|⟨r,K,rfl⟩
    .grind
    .exact .inr ⟨Aq [1,r],_,rfl⟩
   .rcases R.1 i j with l|⟨r,K,_,rfl⟩
    .grind
    .exact .inr ⟨Aq [1,r],_,rfl⟩
end
def tN:Ar->Bool
 |.int .i64 _=>X|_=>Z
structure rM(es:List (Ar×y))(f:Nat->Nat):Prop:=
 get:∀k:Nat,CD es (.int .i64 k)=J (if f k=0 then I else J (nI (f k)))
 key:es.all (λq=>tN q.1)=X
def np:rM [] λ_=>0:=⟨λk=>rfl,rfl⟩
def WC(a e:Int)(h:y):∀{f:List (Ar×y)},f.all (λo=>tN o.1)=X->CD (Cj f (.int .i64 e) h) (.int .i64 a)=if e=a then J (J h)else CD f (.int .i64 a)
 |[],_=>by
  rw[Cj,CD,CD];simp only[E5,IS];by_cases b:e=a
  .simp[b]
  .simp[b,beq_eq_false_iff_ne.2 b];rw[CD]
 |(k,w)::f,b=>by
  rw[F6,As]at b;obtain⟨i,l⟩:=b;have m:=WC a e h l;cases k with
  |int n g=>
   cases n with
   |i64=>
    rw[Cj];simp only[E5,IS];by_cases j:g=e
    .subst j;simp only[beq_self_eq_true,CD,E5,IS];by_cases c:g=a
     .simp[c]
     .simp[c,beq_eq_false_iff_ne.2 c]
    .simp only[beq_eq_false_iff_ne.2 j,CD,E5,IS];by_cases c:g=a
     .simp[c];intro p;omega
     .simp only[beq_eq_false_iff_ne.2 c];exact m
   |_=>simp[tN]at i
  |_=>simp[tN]at i
theorem AF9{c:Int}{e:y}:∀{b:List (Ar×y)},b.all (λa=>tN a.1)=X->(Cj b (.int .i64 c) e).all (λa=>tN a.1)=X
 :=by intro f;induction f<;>grind [Cj,tN]
theorem rM.set{f:List (Ar×y)}{c g:Nat->Nat}(e:rM f c){b:Nat}{h:Int}(k:h=((c b+1:Nat):Int))(j:∀a,g a=c a+if b=a then 1 else 0):rM (Cj f (.int .i64 (b:Int)) (nI h)) g:=by
 refine⟨λa=>?_,AF9 e.key⟩;rw[WC _ _ _ e.key,j a];by_cases i:b=a
 .grind
 .rw[Co z,Co i,e.get a];rfl
def zf(d:Bd)(g:Ay)(C:Nat)(c:Int):∀l:Al,Ji d g C (l++[c])=Ji d g C l+if (g.own d X c).toNat=C then 1 else 0
 :=by intro x;induction x<;>grind [Ji]
theorem kF(d:Bd)(g:Ay)(C:Nat):∀l:Al,Ji d g C l<=(U l)
 :=by intro x;induction x<;>grind [Ji]
section
variable{p:Aa}{g:S}{B:u}{s:BQ}{jp:Al}{ge:List Al}{b e:y}{c:List y}
theorem EH.incR(f:EH g B s jp ge b e c){m:Nat}{t l':Al}{i:u}{F:Nat}(w:ge[m]?=J t)(o:c[m]?=J (.ii i 0 F))(h:U l'=U t):EH (g.put i (.f8 1 (l'.map AX))) B s jp (ge.set m l') b e c:=by
 have x:=f.nd;have v:i∈Ab c:=Dk (AP o) Az;rw[IT,D0]at x;obtain⟨K,P,A,L⟩:=x;rw[D0]at A;obtain⟨Q,M,R⟩:=A;have p:∀j,j≠i->(g.put i (.f8 1 (l'.map AX))).get j=g.get j:=λj k=>BU _ _ λh=>k h;refine⟨?_,?_,?_,by rw[Kw];exact f.len,λj N H k n=>?_,f.nd⟩
 .rw[p B λh=>K (Ac.2 (.inr (Ac.2 (.inr (h▸v)))))];exact f.box
 .rcases f.jp with a|⟨l,a,q⟩
  .exact .inl a
  .refine .inr ⟨l,a,?_⟩;rw[p l λh=>L l (by rw[a];simp[AD]) i (Ac.2 (.inr v)) h];exact q
 .rw[Kw];rcases f.rx with a|⟨l,a,q⟩
  .exact .inl a
  grind [AD]
 .by_cases r:m=j
  .subst r;rw[F5,D4 rfl,D4 (l_ w)]at n;cases n;rw[o]at k;cases k;rcases f.each m _ t o w with⟨a|a,_⟩|⟨l,a,q⟩
   .cases a
   .cases a
   .cases a;exact .inr ⟨i,by rw[h],by rw[p_,q_c];rfl⟩
  .rw[F5,Co r]at n;exact(f.each j N H k n).mono λO D=>p O λC=>r (Yd M o k Az (C▸D))
theorem EH.incC(a:EH g B s jp ge b e c){f:u}{A:Nat}(w:b=.ii f 0 A){l:Al}(i:U l=U jp):EH (g.put f (.f8 1 (l.map AX))) B s l ge b e c:=by
 have o:=a.nd;have n:f∈AD b:=by rw[w];simp[AD]
 rw[IT,D0]at o;obtain⟨D,K,L,F⟩:=o;have m:∀h,h≠f->(g.put f (.f8 1 (l.map AX))).get h=g.get h:=λh k=>BU _ _ λi=>k i;refine⟨?_,?_,?_,a.len,λh H C k v=>?_,a.nd⟩
 .rw[m B λi=>D (Ac.2 (.inl (i▸n)))];exact a.box
 .rcases a.jp with⟨j,_⟩|⟨q,j,t⟩
  .grind
  grind [p_,q_c]
 .rcases a.rx with j|⟨q,j,t⟩
  .exact .inl j
  grind [AD]
 .exact(a.each h H C k v).mono λp x=>m p λr=>F f n p (Ac.2 (.inr (Dk (AP k) x))) r.symm
theorem EH.setS{G:S}{h:BQ}(a:EH g B s jp ge b e c)(l:G.get B=J (.box [.d (.co (h.be.map Ch)),.d (.co (h.bv.map Cf)),.d (.co (h.ac.map C0)),.d (.co (h.waits.map Bj)),b,e]))(m:∀i∈AD b++(AD e++Ab c),G.get i=g.get i):EH G B h jp ge b e c:=by
 refine⟨l,?_,?_,a.len,λq t r j o=>(a.each q t r j o).mono λi n=>m i (by simp[Dk (AP j) n]),a.nd⟩
 .rcases a.jp with f|⟨p,f,k⟩
  .exact .inl f
  grind [AD]
 .rcases a.rx with f|⟨p,f,k⟩
  .exact .inl f
  grind [AD]
end
def zQ(a:Nat)(b:CW)(c:S)(f:Nat)(e:u)(ci:Option u)(h:Bool)(g:Nat):Fs cfg ⟨104,e,Z,ci,h,g⟩ a ⟨b,c,f,[]⟩=HY cfg 104 e a b c:=zDN
attribute [go_sem 2000] zQ
def PW(e:S)(f:Nat)(c:y)(a:List (List Ar)):Prop:=(a=[]/\c=.d9)\/(a≠ []/\∃b,c=.ii b 0 (U a)/\e.get b=J (.f8 f a))
variable{g:S}{k:Nat}{v:y}{j:List (List Ar)}
def Nx(a:PW g k v j):PV g k v j:=by
 rcases a with⟨rfl,rfl⟩|⟨_,c,rfl,b⟩
 .exact zB6
 .exact .inr ⟨c,[],rfl,by rw[b,CS]⟩
theorem Fb(b:PW g k v j){a:u}(c:a∈AD v):v=.ii a 0 (U j)/\g.get a=J (.f8 k j):=by
 rcases b with⟨rfl,rfl⟩|⟨_,f,rfl,e⟩
 .cases c
 grind [AD]
def UR(a:PW g k v j):(AD v).length<=1:=by rcases a with⟨rfl,rfl⟩|⟨_,c,rfl,b⟩<;>simp[AD]
variable{H:S}
theorem Fy(b:PW g k v j)(f:∀a∈AD v,H.get a=g.get a):PW H k v j:=by
 rcases b with b|⟨c,a,rfl,e⟩
 .exact .inl b
 .exact .inr ⟨c,a,rfl,by grind [AD]⟩
theorem UU{o:u}{e:S}{f:CW}{c:u->Option u}{n:Nat}(i:JH o H f c e n)(g:PW H k v j)(m:∀a∈AD v,∃b,c a=J b):PW e k (ren c v) j/\∀b∈AD (ren c v),∃a∈AD v,c a=J b:=by
 rcases g with⟨rfl,rfl⟩|⟨h,a,rfl,l⟩
 .exact⟨.inl ⟨rfl,by simp[ren]⟩,by simp[ren,AD]⟩
 .have⟨b,hz⟩:=m a Az;refine⟨.inr ⟨h,b,by simp[ren,hz],?_⟩,λq p=>⟨a,Az,?_⟩⟩
  .have:=i.get a b _ hz l;simpa[Eb]using this
  grind [ren,AD]
def KZ(B a O:u)(v1 c e v4:y)(b:List (List y)):List u:=B::a::O::(AD v1++AD c++AD e++AD v4++b.flatMap Ab)
variable{b:List (List y)}
theorem Bo{B c O:u}{v1 e f v4:y}{a:u}:a∈KZ B c O v1 e f v4 b↔a=B\/a=c\/a=O\/a∈AD v1\/a∈AD e\/a∈AD f\/a∈AD v4\/a∈b.flatMap Ab:=by grind [KZ]
def kn(g:S)(v:y)(b:List (List y)):Prop:=(b=[]/\v=.d9)\/(b≠ []/\∃A,v=.ii A 0 (U b)/\g.get A=J (.arr 4 b))
def jY(e:kn g v b):B5 g v b:=by
 rcases e with⟨a,c⟩|⟨_,A,a,c⟩
 .exact .inl ⟨c,a⟩
 .exact .inr ⟨A,a,c⟩
structure aR(cs:List Ar)(s:BQ)(ng nc nw:Nat)(B R O:u)(v1 v2 v3 v4:y)(rows:List (List y))(g:S):Prop:=
 bx:g.get B=J (.box (cs.map .d))
 res:g.get R=J (.box [.d9,.d9,.d9,.d9])
 out:g.get O=J (.box [v1,v2,v3,v4])
 s0:PW g 2 v1 (s.be.map Ch)
 s1:PW g 3 v2 ((s.bv.take ng).map Cf)
 arr:kn g v3 rows
 rep:Ih g rows (s.ac.take nc)
 s2:PW g 3 v4 ((s.waits.take nw).map Bj)
 gw:∀id∈AD v2,id∉AD v4
 ro:R≠O
 bo:B≠O
structure qy(π:u)(cs:List Ar)(s:BQ)(ng nc nw:Nat)(B R O:u)(v1 v2 v3 v4:y)(rows:List (List y))(g:S)(b:Nat):Prop:=
 cp:aR cs s ng nc nw B R O v1 v2 v3 v4 rows g
 nm:∀id∈KZ B R O v1 v2 v3 v4 rows,Hf π b id
 own:∀id,AE π id=Z->g.get id=I
structure lG:=
 B:u
 R:u
 O:u
 v1:y
 v2:y
 v3:y
 v4:y
 rows:List (List y)
 g:S
 b:Nat
section
variable{m:List Ar}{s:BQ}{o l p:Nat}{B R O:u}{v1 i f v4:y}{h:List (List y)}{g H r:S}{t:u}{e:CW}{b:u->Option u}{n:Nat}
theorem aR.arrg(b:aR m s o l p B R O v1 i f v4 h g){a:u}(c:a∈AD f):f=.ii a 0 (U h)/\g.get a=J (.arr 4 h):=by
 rcases b.arr with⟨_,rfl⟩|⟨_,A,rfl,e⟩
 .cases c
 grind [AD]
def aR.chv(a:aR m s o l p B R O v1 i f v4 h g):B5 g f h:=jY a.arr
theorem aR.closed(c:aR m s o l p B R O v1 i f v4 h g):∀e∈KZ B R O v1 i f v4 h,∀j∈Cu (g.get e),j∈KZ B R O v1 i f v4 h:=λe b j a=>by
 rcases Bo.1 b with rfl|rfl|rfl|b|b|b|b|b
 .rw[c.bx]at a;simp[Cu,Ye]at a
 .rw[c.res]at a;simp[Cu,Ab,AD]at a
 .rw[c.out]at a;grind [Cu,Ab,Bo]
 .rw[(Fb c.s0 b).2]at a;cases a
 .rw[(Fb c.s1 b).2]at a;cases a
 .rw[(c.arrg b).2]at a;grind [Bo,Cu]
 .rw[(Fb c.s2 b).2]at a;cases a
 .have⟨q,hq⟩:=IG c.rep b;rw[hq]at a;cases a
theorem aR.small(b:aR m s o l p B R O v1 i f v4 h g)(a:U s.ac<=60):(KZ B R O v1 i f v4 h).length<=67:=by
 have c:=UR b.s0;have e:=UR b.s1;have k:=UR b.s2;have n:=j5 b.rep;have q:=b.rep.len;have j:(AD f).length<=1:=by rcases b.arr with⟨_,rfl⟩|⟨_,A,rfl,r⟩<;>simp[AD]
 grind [KZ]
theorem aR.ren(w:aR m s o l p B R O v1 i f v4 h H)(g:JH t H e b r n)(a3:B∈CP e)(a':R∈CP e)(a6:O∈CP e):∃D F C,b B=J D/\b R=J F/\b O=J C/\qy t m s o l p D F C (ren b v1) (ren b i) (ren b f) (ren b v4) (h.map (Du b)) r n/\∀a∈KZ D F C (ren b v1) (ren b i) (ren b f) (ren b v4) (h.map (Du b)),∃x∈KZ B R O v1 i f v4 h,b x=J a:=by
 have⟨D,hB'⟩:=g.env B a3;have⟨F,hR'⟩:=g.env R a';have⟨C,hO'⟩:=g.env O a6;have L:∀id∈Ab [v1,i,f,v4],∃a,b id=J a:=λid j=>g.deep O C hO' id (by rw[w.out];exact j);simp[Ab]at L;have⟨a1,b1⟩:=UU g w.s0 λid j=>L id (.inl j);have⟨a2,b2⟩:=UU g w.s1 λid j=>L id (.inr (.inl j));have⟨a4,b4⟩:=UU g w.s2 λid j=>L id (.inr (.inr (.inr j)));have ac:∀id∈h.flatMap Ab,∃a,b id=J a:=by
  rcases w.arr with⟨rfl,_⟩|⟨_,A,rfl,M⟩
  .intro id j;cases j
  .have⟨a,k⟩:=L A Az;exactλid j=>g.deep A a k id (by rw[M];exact j)
 have⟨a5,b5⟩:=kB g w.rep ac;have ar:kn r (Go.Abs.ren b f) (h.map (Du b))/\∀a∈AD (Go.Abs.ren b f),∃id∈AD f,b id=J a:=by
  rcases w.arr with⟨rfl,rfl⟩|⟨av,A,rfl,M⟩
  .exact⟨.inl ⟨rfl,by simp[Go.Abs.ren]⟩,by simp[Go.Abs.ren,AD]⟩
  .have⟨a,k⟩:=L A Az;refine⟨.inr ⟨by simpa using av,a,by simp[Go.Abs.ren,k],?_⟩,λT ad=>⟨A,Az,?_⟩⟩
   .have:=g.get A a _ k M;simpa[Eb]using this
   grind [Go.Abs.ren,AD]
 have bi:∀a∈(h.map (Du b)).flatMap Ab,∃x∈h.flatMap Ab,b x=J a:=λa k=>by
  have⟨q,hq⟩:=IG a5 k;have⟨x,hx⟩:=g.only a _ hq;refine⟨x,?_,hx⟩;have⟨r',hr',hz'⟩:=BE.1 k;obtain⟨Y,W,rfl⟩:=EX.1 hr';refine BE.2 ⟨Y,W,?_⟩;have key:∀K:List y,(∀id∈Ab K,∃a,b id=J a)->(∀v∈K,(∃d,v=.d d)\/v=.d9\/∃id ag,v=.ii id 0 ag)->a∈Ab (Du b K)->x∈Ab K:=by
   intro K;induction K with
   |nil=>grind [Du,Ab]
   |cons v K be=>
    intro aa P k;simp[Du,Ab]at k⊢;rcases k with k|k
    .refine .inl ?_;rcases P v AG with⟨d,rfl⟩|rfl|⟨id,ag,rfl⟩
     .grind [Go.Abs.ren,AD]
     .grind [Go.Abs.ren,AD]
     .have⟨z2,hz2⟩:=aa id (by simp[Ab,AD]);simp[Go.Abs.ren,hz2,AD]at k;subst k;rw[g.inj x id a hx hz2];simp[AD]
    .exact .inr (be (λid j=>aa id (by simp[Ab,j])) (λai V=>P ai (Bi _ V)) k)
  refine key Y (λid j=>ac id (BE.2 ⟨Y,W,j⟩)) (λv P=>?_) hz';obtain⟨Q,N⟩:=Ce W;have bc:=(BI.1 N).1;have⟨c,hc⟩:=g_ (l:=s.ac.take l) (i:=Q) (by rw[<-w.rep.len];exact bc);have⟨ai,V,hq⟩:=w.rep.row Q c hc;rw[N]at V;cases V;simp[CF]at P;rcases P with rfl|rfl|rfl|rfl
  .exact .inl ⟨_,rfl⟩
  .exact .inl ⟨_,rfl⟩
  .exact .inl ⟨_,rfl⟩
  .rcases hq with⟨_,rfl⟩|⟨_,id,rfl,_⟩
   .exact .inr (.inl rfl)
   grind
 have all:∀a∈KZ D F C (Go.Abs.ren b v1) (Go.Abs.ren b i) (Go.Abs.ren b f) (Go.Abs.ren b v4) (h.map (Du b)),∃x∈KZ B R O v1 i f v4 h,b x=J a:=λa k=>by grind [Bo]
 refine⟨D,F,C,hB',hR',hO',⟨⟨?_,?_,?_,a1,a2,ar.1,a5,a4,λid az a0=>?_,λe=>?_,λe=>?_⟩,λid j=>?_,λid bk=>?_⟩,all⟩
 .have:=g.get B D _ hB' w.bx;grind [Eb,pd]
 .have:=g.get R F _ hR' w.res;exact Ba
 .have:=g.get O C _ hO' w.out;exact Ba
 .have⟨x,q1,q2⟩:=b2 id az;have⟨T,q3,q4⟩:=b4 id a0;rw[g.inj x T id q2 q4]at q1;exact w.gw T q1 q3
 .rw[e]at hR';exact w.ro (g.inj R O C hR' hO')
 .rw[e]at hB';exact w.bo (g.inj B O C hB' hO')
 .have⟨x,_,hx⟩:=all id j;obtain⟨Q,N,rfl⟩:=g.name x id hx;exact⟨_,Q,N,rfl⟩
 .rcases M:r.get id with _|bh
  .rfl
  .have⟨T,ad⟩:=g.only id bh M;obtain⟨Q,N,rfl⟩:=g.name T id ad;grind [Vf]
end
structure APs:=
 a:lG
 Y:u
 vq:y
section
variable{h:List Ar}{s:BQ}{i m n o b:Nat}{B R O A Q:u}{v1 f e v4:y}{c:List (List y)}{g H:S}{l:u}
theorem qy.group(w:qy l h s i m n B R O v1 f e v4 c g b)(L:H.get O=J (.box [v1,.ii A 0 (i+1),e,v4]))(Q:i<U s.bv)(K:H.get A=J (.f8 3 ((s.bv.take (i+1)).map Cf)))(M:¬Hf l b A)(D:∀a,Hf l b a->a≠O->a∉AD f->H.get a=g.get a):aR h s (i+1) m n B R O v1 (.ii A 0 (i+1)) e v4 c H:=by
 have k:=w.cp;have x:((s.bv.take (i+1)).map Cf).length=i+1:=zDH
 have F:∀a∈KZ B R O v1 f e v4 c,∀t,g.get a=J t->a≠O->(∀j,t≠ .f8 3 j)->H.get a=g.get a:=λa o t v r C=>D a (w.nm a o) r λp=>by rw[(Fb k.s1 p).2]at v;exact C _ (KW v).symm
 have N:∀a t,g.get a=J t->(∀h,t≠ .box h)->a≠O:=λa t v r p=>by rw[p,k.out]at v;exact r _ (KW v).symm
 have T:∀a∈KZ B R O v1 f e v4 c,a≠A:=λa o p=>M (p▸w.nm a o);refine⟨?_,?_,L,Fy k.s0 λa o=>?_,.inr ⟨λp=>by rw[p]at x;simp at x,A,by rw[x],K⟩,?_,Iy k.rep λa o=>?_,Fy k.s2 λa o=>?_,λa r C=>?_,k.ro,k.bo⟩
 .rw[F B zCM _ k.bx k.bo AG];exact k.bx
 .rw[F R zCM _ k.res k.ro AG];exact k.res
 .have:=(Fb k.s0 o).2;grind [Bo]
 .exact zBq
 .have⟨q,hq⟩:=IG k.rep o;grind [Bo]
 .have:=(Fb k.s2 o).2;exact D a (w.nm a (Bo.2 zDO)) (N a _ this AG) λp=>k.gw a p o
 grind [AD,Bo]
theorem qy.wait(w:qy l h s o m i B R O v1 f e v4 c g b)(L:H.get O=J (.box [v1,f,e,.ii A 0 (i+1)]))(Q:i<U s.waits)(K:H.get A=J (.f8 3 ((s.waits.take (i+1)).map Bj)))(M:¬Hf l b A)(D:∀a,Hf l b a->a≠O->a∉AD v4->H.get a=g.get a):aR h s o m (i+1) B R O v1 f e (.ii A 0 (i+1)) c H:=by
 have k:=w.cp;have x:((s.waits.take (i+1)).map Bj).length=i+1:=zDH
 have F:∀a∈KZ B R O v1 f e v4 c,∀t,g.get a=J t->a≠O->(∀j,t≠ .f8 3 j)->H.get a=g.get a:=λa n t v r C=>D a (w.nm a n) r λp=>by rw[(Fb k.s2 p).2]at v;exact C _ (KW v).symm
 have N:∀a t,g.get a=J t->(∀h,t≠ .box h)->a≠O:=λa t v r p=>by rw[p,k.out]at v;exact r _ (KW v).symm
 have T:∀a∈KZ B R O v1 f e v4 c,a≠A:=λa n p=>M (p▸w.nm a n);refine⟨?_,?_,L,Fy k.s0 λa n=>?_,Fy k.s1 λa n=>?_,?_,Iy k.rep λa n=>?_,.inr ⟨λp=>by rw[p]at x;simp at x,A,by rw[x],K⟩,λa r C=>?_,k.ro,k.bo⟩
 .rw[F B zCM _ k.bx k.bo AG];exact k.bx
 .rw[F R zCM _ k.res k.ro AG];exact k.res
 .have:=(Fb k.s0 n).2;grind [Bo]
 .have:=(Fb k.s1 n).2;exact D a (w.nm a (Bo.2 (by simp[n]))) (N a _ this AG) λp=>k.gw a n p
 .exact zBq
 .have⟨q,hq⟩:=IG k.rep n;grind [Bo]
 grind [AD,Bo]
theorem aR.pm(a:aR h s o m n B R O v1 f e v4 c g)(j:∀b∈KZ B R O v1 f e v4 c,H.get b=g.get b):aR h s o m n B R O v1 f e v4 c H:=by
 refine⟨(j B zCM).trans a.bx,(j R zCM).trans a.res,(j O zCM).trans a.out,Fy a.s0 λb i=>j b (Bo.2 (by simp[i])),Fy a.s1 λb i=>j b (Bo.2 (by simp[i])),?_,Iy a.rep λb i=>j b (Bo.2 (.inr (.inr (.inr (.inr (.inr (.inr (.inr i)))))))),Fy a.s2 λb i=>j b (Bo.2 (by simp[i])),a.gw,a.ro,a.bo⟩;rcases a.arr with k|⟨k,AW,rfl,l⟩
 .exact .inl k
 .exact .inr ⟨k,AW,rfl,by grind [Bo,AD]⟩
theorem qy.chan{r:Fo}{vq:y}(x:qy l h s o i n B R O v1 f e v4 c g b)(M:s.ac[i]?=J r)(L:H.get O=J (.box [v1,f,.ii A 0 (i+1),v4]))(K:H.get A=J (.arr 4 (c++[CF r vq])))(C:lq H vq r.queue)(N:∀a∈AD vq,a∉c.flatMap Ab)(P:∀a,Hf l b a->a≠O->a∉AD e->H.get a=g.get a):aR h s o (i+1) n B R O v1 f (.ii A 0 (i+1)) v4 (c++[CF r vq]) H:=by
 have k:=x.cp;have T:=(BI.1 M).1;have Q:U c=i:=by rw[k.rep.len,F3];omega
 have D:∀a∈KZ B R O v1 f e v4 c,∀p,g.get a=J p->a≠O->(∀j,p≠ .arr 4 j)->H.get a=g.get a:=λa m p t w F=>P a (x.nm a m) w λv=>by rw[(k.arrg v).2]at t;exact F _ (KW t).symm
 have V:∀a p,g.get a=J p->(∀h,p≠ .box h)->a≠O:=λa p t w v=>by rw[v,k.out]at t;exact w _ (KW t).symm
 refine⟨?_,?_,L,Fy k.s0 λa m=>?_,Fy k.s1 λa m=>?_,.inr ⟨AG,A,by simp[Q],K⟩,?_,Fy k.s2 λa m=>?_,k.gw,k.ro,k.bo⟩
 .rw[D B zCM _ k.bx k.bo AG];exact k.bx
 .rw[D R zCM _ k.res k.ro AG];exact k.res
 .have:=(Fb k.s0 m).2;grind [Bo]
 .have:=(Fb k.s1 m).2;grind [Bo]
 .rw[show s.ac.take (i+1)=s.ac.take i++[r] by grind [List.take_add_one]];refine j4 (Iy k.rep λa m=>?_) C N;have⟨q,C⟩:=IG k.rep m;grind [Bo]
 .have:=(Fb k.s2 m).2;grind [Bo]
structure vk(π:u)(s:BQ)(v1 v2 v3 v4:y)(rows:List (List y))(g:S):Prop:=
 s0:PW g 2 v1 (s.be.map Ch)
 s1:PW g 3 v2 (s.bv.map Cf)
 arr:kn g v3 rows
 rep:Ih g rows s.ac
 s2:PW g 3 v4 (s.waits.map Bj)
 cp:qx π s v1 v2 v3 v4 rows g
theorem qy.post(o:qy l h s (U s.bv) (U s.ac) (U s.waits) B R O v1 f e v4 c g b)(r:List y):vk l s v1 f e v4 c (g.put R (.box r)):=by
 have m:=o.cp;have F:∀x C,g.get x=J C->(∀h,C≠ .box h)->(g.put R (.box r)).get x=g.get x:=λx C L P=>by rw[p_,AI λD=>by rw[<-D,m.res]at L;exact P _ (KW L).symm];rfl
 have p:∀{k:Nat} {v:y} {j:List (List Ar)},PW g k v j->PW (g.put R (.box r)) k v j:=λo=>Fy o λa i=>F a _ (Fb o i).2 AG;have N:∀a,a∈KZ B R O v1 f e v4 c->AE l a=true:=λa i=>by obtain⟨T,Q,_,rfl⟩:=o.nm a i;exact Vf _ _ _
 have n:=m.s1;have t:=m.s2;have w:=m.rep;rw[F2]at n t w;have K:=Iy w λa i=>by have⟨q,hq⟩:=IG w i;exact F a _ hq AG
 have H:kn (g.put R (.box r)) e c:=by
  rcases m.arr with n|⟨M,A,n,t⟩
  .exact .inl n
  .exact .inr ⟨M,A,n,by grind⟩
 refine⟨p m.s0,p n,H,K,p t,Nx (p m.s0),Nx (p n),Nx (p t),jY H,AMY K,w.diff,m.gw,λa i=>N a (Bo.2 ?_),λa i=>?_⟩
 .grind
 .rw[p_,AI λD=>by grind [KZ]];exact o.own a i
end
variable{K:Ah}{e:Fr}{f c:Nat}{Q:Di->St->Prop}{b B R O:u}{cs:List Ar}{s:BQ}{v1 v2 v3 v4:y}{rows:List (List y)}{H:S}
theorem AMa{q:Nat}{A:Code}{v t w:Nat}{E:CW}(i:CW)(C:L0 E (cfg.live q c)=i) (m:aR cs s v t w B R O v1 v2 v3 v4 rows H) (a:U s.ac<=60) (o:∀h,h∈CP i↔h=B\/h=R\/h=O)(D:∀g j l k v1 v2 v3 v4 rows r p,g B=J j->g R=J l->g O=J k->qy b cs s v t w j l k v1 v2 v3 v4 rows r p->Ud cfg K e f A ⟨i.map λx=>(x.1,ren g x.2),r,p,[]⟩ Q):Ud cfg K e f A (HY cfg q b c E H) Q:=by
 rw[GR,C];have F:=m.small a;have⟨g,h',n,hc,hnM,hR⟩:=KG b H i (KZ B R O v1 v2 v3 v4 rows) z (λh L=>by grind [Bo]) m.closed
 rw[hc];have⟨j,l,k,q1,q2,q3,q4,_⟩:=m.ren hR ((o B).2 (.inl rfl)) ((o R).2 (.inr (.inl rfl))) ((o O).2 (.inr (.inr rfl)));exact D g _ _ _ _ _ _ _ _ h' n q1 q2 q3 q4
variable{i:Int}
def GD{j:Code}{ng nc nw:Nat}{E:CW}{k:Nat}(m:L0 E (cfg.live 104 c)=[(1,.ptr B 0),(2,.ptr R 0),(3,.ptr O 0),(k,nI i)]) (l:aR cs s ng nc nw B R O v1 v2 v3 v4 rows H) (a:U s.ac<=60)(n:∀B R O v1 v2 v3 v4 rows h g,qy b cs s ng nc nw B R O v1 v2 v3 v4 rows h g->Ud cfg K e f j ⟨[(1,.ptr B 0),(2,.ptr R 0),(3,.ptr O 0),(k,nI i)],h,g,[]⟩ Q):Ud cfg K e f j (HY cfg 104 b c E H) Q:=AMa _ m l a zCa λt _ _ _ _ _ _ _ _ h g o p q r=>by have:=n _ _ _ _ _ _ _ _ h g r;simpa[ren,Du,o,p,q]using this
structure w7(π:u)(cs:List Ar)(s:BQ)(ng nc nw:Nat)(c:Fo)(k:Nat)(B R O Y:u)(v1 v2 v3 v4 vq:y)(rows:List (List y))(g:S)(b:Nat):Prop:=
 n:qy π cs s ng nc nw B R O v1 v2 v3 v4 rows g b
 q:g.get Y=J (.box [nI c.group,nI c.index,nI c.at_,vq])
 qs:PW g 1 vq ((c.queue.take k).map C1)
 qn:Hf π b Y
 yn:Y∉KZ B R O v1 v2 v3 v4 rows
 qv:∀id∈AD vq,Hf π b id/\id∉KZ B R O v1 v2 v3 v4 rows
theorem Pq{h:Code}{ng nc nw:Nat}{c:Fo}{m:Nat}{Y:u}{vq:y}{E:CW}{k:Int}(C:L0 E (cfg.live 104 4)=[(1,.ptr B 0),(2,.ptr R 0),(3,.ptr O 0),(5,nI i),(6,.ptr Y 0),(7,nI k)]) (q:aR cs s ng nc nw B R O v1 v2 v3 v4 rows H) (M:H.get Y=J (.box [nI c.group,nI c.index,nI c.at_,vq])) (t:PW H 1 vq ((c.queue.take m).map C1)) (g:Y∉KZ B R O v1 v2 v3 v4 rows) (D:∀j∈AD vq,j∉KZ B R O v1 v2 v3 v4 rows) (a:U s.ac<=60)(L:∀B R O Y v1 v2 v3 v4 vq rows w v,w7 b cs s ng nc nw c m B R O Y v1 v2 v3 v4 vq rows w v->Ud cfg K e f h ⟨[(1,.ptr B 0),(2,.ptr R 0),(3,.ptr O 0),(5,nI i),(6,.ptr Y 0),(7,nI k)],w,v,[]⟩ Q):Ud cfg K e f h (HY cfg 104 b 4 E H) Q:=by
 rw[GR,C];have T:=q.small a;have P:=UR t;have⟨ν,h',n,hc,hnM,hR⟩:=KG b H [(1,.ptr B 0),(2,.ptr R 0),(3,.ptr O 0),(5,nI i),(6,.ptr Y 0),(7,nI k)] (Y::(AD vq++KZ B R O v1 v2 v3 v4 rows)) zCI (by
  intro l g;simp[CP,AD,Ab]at g;grind [Bo]) (by
  intro l g o p;simp at g⊢;rcases g with rfl|g|g
  .grind [Cu,Ab,AD]
  .rw[(Fb t g).2]at p;cases p
  .exact .inr (.inr (q.closed l g o p)))
 rw[hc];have⟨B',R',O',q1,q2,q3,q4,q5⟩:=q.ren hR zCa zCa zCa;have⟨Y',hY⟩:=hR.env Y zCa;have⟨a1,b1⟩:=UU hR t λj x=>hR.deep Y Y' hY j zDF;have A:∀h o,ν h=J o->Hf b n o:=λh o p=>by obtain⟨N,F,rfl⟩:=hR.name h o p;exact⟨_,N,F,rfl⟩
 have:=L _ _ _ Y' _ _ _ _ (ren ν vq) _ h' n ⟨q4,by
  have:=hR.get Y Y' _ hY M;grind [Eb,Du,ren],a1,A _ _ hY,λr=>by
  have⟨l,h3,h4⟩:=q5 Y' r;exact g (hR.inj Y l Y' hY h4▸h3),λj x=>by
  have⟨h,h1,h2⟩:=b1 j x;refine⟨A _ _ h2,λr=>?_⟩;have⟨l,h3,h4⟩:=q5 j r;exact D h h1 (hR.inj h l j h2 h4▸h3)⟩
 simpa[ren,Du,q1,q2,q3,hY]using this
end Go.Proofs
namespace Go.Abs
variable{g:G}{s n:Nat}{c:List (List Ar)}
def dQ{a:u}(p:g a=J (.f8 s c)){e b f:Option y}{l r:Nat}{m:Option Nat}(t:GB e b f n=J (l,r,m))(w:r<=(U c))(v:m.getD r<=(U c))(q:0<U c):Ga g .slice s (.ii a 0 n) e b f=m.elim (J (.ii a l (r-l))) λm=>if m=l then J .emp else J .undef:=by
 show O2 g s a 0 (GB e b f n)=_;rw[t];simp only[O2,p,fP,I7];have i:Nat.beq s s=true:=Nat.beq_refl s;have j:Nat.ble (m.getD r) (U c)=true:=Pu v;have k:Nat.ble r (U c)=true:=Pu w;have o:Nat.blt 0 (U c)=true:=by rw[RG];exact q
 rw[i,j,k,o];rcases m with _|m
 .rfl
 .simp only[Bool.and_self,W3];by_cases h:m=l<;>simp[h]
def q_J{b:u}(f:g b=J (.f8 s c)){a:Int}(h:0<=a)(i:a<=n)(e:n<=(U c))(j:0<U c):Ga g .slice s (.ii b 0 n) (J (nI a)) I I=J (.ii b a.toNat (n-a.toNat)):=by rw[dQ f (l:=a.toNat) (r:=n) (m:=I) (by simp[GB,Jq,Ki,h,i]) e e j];rfl
def q_I{a:u}(e:g a=J (.f8 s c)){b:Int}(f:0<=b)(i:b<=(U c))(h:0<U c):Ga g .slice s (.ii a 0 n) I (J (nI b)) I=J (.ii a 0 b.toNat):=by rw[dQ e (l:=0) (r:=b.toNat) (m:=I) (by simp[GB,Jq,Ki,f]) z BP h];rfl
variable{sz:Nat}
def AIl(a:List (List Ar))(k:a≠ [])(i:∀b∈a,U b=sz)(m:0<sz)(n:U a<=1000000)(g:G)(e:u)(c:TI)(j:c.mix=Z)(h:c.size=sz):Uh g e c .d9 (J (a.map λl=>l.map y.d))=J ⟨.ii (1::e) 0 (U a),[(1::e,.f8 sz a)]⟩:=by rw[Ui g e c .d9 a z (λb f=>by rw[h];exact i b f) k zCj,Xg,WJ g e c a j z (λb f=>by rw[h];exact i b f) zCj,h]
def jX{id:u}(c a:List (List Ar))(j:a≠ [])(m:∀e∈a,U e=sz)(p:0<sz)(q:U c+U a<=1000000)(n:Nat)(f:n=U c)(g:G)(b:u)(h:TI)(i:h.size=sz)(k:g id=J (.f8 sz c)):Uh g b h (.ii id 0 n) (J (a.map λo=>o.map y.d))=J ⟨.ii (1::b) 0 (n+U a),[(id,.v6 0 []),(1::b,.f8 sz (c++a))]⟩:=by
 have l:DD c (0+n) a=none:=by unfold DD;rw[Co];have:0<U a:=List.length_pos_iff.2 j;omega
 rw[Ui g b h _ a z (λe f=>by rw[i];exact m e f) j zCj,ao,k,an,D4 ⟨i.symm,z⟩,jS,SC,QB,ak,cg,D4 rfl,l,Xf,D4 ⟨rfl,by simp[BS];omega⟩,f,F2];rfl
def AMZ(g:G)(a:u)(c n:Nat):Option TI->Option DF
 |some b=>Qp g a c n b|none=>I
theorem kE(g:G)(a:u)(c n:Nat)(b:TI):AMZ g a c n (J b)=Qp g a c n b:=rfl
attribute [go_sem] kE
end Go.Abs
namespace Go.Proofs
open Abs Tryz
def BX(a:Aa)(b:Bool)(V:MV)(c:Int):List y:=[.d (.co (a.free.map CK)),.d (.co (a.nodes.map Bl)),.d (.co (a.defs.map Bw)),nI a.main,V.s 0,V.s 1,V.v3,V.s 2,V.s 3,nI c,.d (.bool (b))]
abbrev XV(p:Aa):=Gm (BX p Z) Z
def Kc(g:Aa)(h:u)(c:u)(V:MV)(f:S):Option Cy->BG->S->Prop
 |some j,e,a=>e=.ret (.kw [])/\N3 (BX g Z) Z (AE h) c V f j a|none,e,a=>e=.ret (.kw [])/\(∃i k,a.get c=J (.box (BX g X i k)))/\∀b,b∉V.ids c->AE h b=Z->a.get b=f.get b
def ADi(a:List C8)(i:¬(U a)=0)(l:U a<=1000000):∀(e:G) (c:u) (b:TI),b.mix=Z->b.size=2->Uh e c b .emp (J ((a.map BC).map λh=>h.map y.d))=J ⟨.ii (1::c) 0 (U a),[(1::c,.f8 2 (a.map BC))]⟩:=by
 intro e c b k g;have:=W2 e c b (a.map BC) k z (λf j=>by obtain⟨h,_,rfl⟩:=EX.1 j;rw[g];rfl) (λf=>i (by rw[D7.1 f];rfl)) zCj
 rw[this,BV,g]
def KR(b:u)(a:List C8):BG×S:=if (U a)=0 then(.ret .emp,[])else(.ret (.ii (1::3::b) 0 (U a)),[(1::3::b,.f8 2 (a.map BC))])
def GQ(a:List C8)(f:U a<=1000000)(c:Nat)(e:u):Bq kT 145 [.d (.co (a.map BC))] (c::e)=.ok (KR (c::e) a):=by
 by_cases b:U a=0
 .rw[KR,D4 b];obtain rfl:=CE b;refine BM func145 ?_;exact au
 .rw[KR,Co b];have ap:=ADi a b f;have fa:=Gw;refine BM func145 ?_;exact au
def m9(a:GL->Cy->Option Cy)(b:GL)(c:Cy):ED a [b] c=a b c:=by simp only[ED];cases a b c<;>rfl
def PC(h:y)(i:u)(f:S)(e:Nat)(c:y)(L:List C8):Prop:=(L=[]/\c=h)\/∃a,c=.ii a 0 (U L)/\f.get a=J (.f8 2 (L.map BC))/\∃b,b<e/\AE (b::i) a=X/\∃g,a=1::g
abbrev qa:=PC .d9
def HZ(c n:Nat):List C8:=(List.range' c n).map λ(i:Nat)=>⟨3,(i:Int)⟩
def NI(c n:Nat):List C8:=(List.range' c n).map λ(i:Nat)=>⟨4,(i:Int)⟩
def jx(c n:Nat):HZ c (n+1)=HZ c n++[⟨3,((c+n:Nat):Int)⟩]:=by simp[HZ,List.range'_1_concat]
def qD(c n:Nat):NI c (n+1)=NI c n++[⟨4,((c+n:Nat):Int)⟩]:=by simp[NI,List.range'_1_concat]
variable{c v:y}{a:u}{g:S}{b b':Nat}{L:List C8}
def Td(e:PC c a g b v L)(m:b<=b'):PC c a g b' v L:=by
 rcases e with e|⟨j,f,h,k,l,i⟩
 .exact .inl e
 .exact .inr ⟨j,f,h,k,z,i⟩
def GI{a:u}{b j:Nat}{f:u}(m:j<b)(l:AE (j::a) f=X)(k:∃g,f=1::g):(∀e c,b<=c->AJ (e::c::a) f=Z)/\(∀e c,b<=c->AJ f (e::c::a)=Z)/\(∀g,AJ (0::g) f=Z)/\(∀g,AJ f (0::g)=Z):=by
 have key:∀e c,b<=c->e::c::a≠f:=λe c h i=>by subst i;have:=CA l (n':=c) (q_a.2 ⟨[e],rfl⟩);omega
 obtain⟨n,rfl⟩:=k;exact⟨λe c h=>AI (key e c h),λe c h=>AI λi=>key e c h i.symm,λg=>AI AG,λg=>AI AG⟩
variable{n:Nat}
def Q1{e:Nat}(i:n<b)(h:e=U L)(f:g.get (1::n::a)=J (.f8 2 (L.map BC))):PC c a g b (.ii (1::n::a) 0 e) L:=.inr ⟨_,by rw[h],f,n,i,q_a.2 ⟨[1],rfl⟩,_,rfl⟩
def SM{c:y}{a:u}{g:S}{b:Nat}{v:y}{L:List C8}(h:PC c a g b v L)(b':Nat)(k:AD c=[]:=by rfl):∀f∈AD v,FJ b b' a f=false:=by
 rcases h with⟨_,rfl⟩|⟨l,rfl,_,n,i,j,_⟩
 .intro f e;rw[k]at e;cases e
 .intro f e;simp only[AD,AS]at e;subst e;exact Tn i j
def AFz{c:y}{a:u}{g:S}{b:Nat}{v:y}{L:List C8}(i:PC c a g b v L){V:MV}{h:u}(k:Dr a V h)(m:AD c=[]:=by rfl):∀f∈AD v,f∉V.ids h:=by
 rcases i with⟨_,rfl⟩|⟨p,rfl,_,n,o,j,_⟩
 .intro f e;rw[m]at e;cases e
 .intro f e l;simp only[AD,AS]at e;subst e;have:=k _ l;rw[Bt j]at this;cases this
def Rf(c:y)(a:u)(g:S)(b:Nat)(v:y)(L:List C8):Prop:=(L=[]/\v=c)\/∃e,v=.ii e 0 (U L)/\g.get e=J (.v6 2 (L.map BC))/\∃n,n<b/\AE (n::a) e=X/\∃f,e=1::f
def U1{f:S}(e:Rf c a g b v L)(l:∀h∈AD v,f.get h=g.get h):Rf c a f b v L:=by
 rcases e with e|⟨i,rfl,j,k⟩
 .exact .inl e
 .exact .inr ⟨i,rfl,by rw[l i Az];exact j,k⟩
def lK{c:y}{a:u}{g:S}{b:Nat}{v:y}{L:List C8}(k:Rf c a g b v L)(i h:Nat)(p:b<=h)(m:AD c=[]:=by rfl):∀f∈AD v,AJ (i::h::a) f=false:=by
 rcases k with⟨_,rfl⟩|⟨q,rfl,_,n,o,l,_⟩
 .intro f e;rw[m]at e;cases e
 .intro f e;simp only[AD,AS]at e;subst e;refine AI λj=>?_;subst j;have:=CA l (n':=h) (q_a.2 ⟨[i],rfl⟩);omega
def Jt{c:y}{a:u}{g:S}{b n:Nat}{v:y}{L:List C8}(h:Rf c a g b v L)(l:b<=n)(j:AD c=[]:=by rfl):∀f∈AD v,AE (n::a) f=false:=by
 rcases h with⟨_,rfl⟩|⟨m,rfl,_,o,k,i,_⟩
 .intro f e;rw[j]at e;cases e
 .intro f e;simp only[AD,AS]at e;subst e;rcases hx:AE (n::a) f with _|_
  .rfl
  .have:=CA i hx;omega
def AGw{x:CQ}(h:DX x.op=J (U x.kids)):x.op=1\/x.op=2\/x.op=3\/x.op=4\/x.op=5\/x.op=6\/x.op=7\/x.op=8:=by
 unfold DX at h;repeat (split at h;· omega)
 cases h
def kY(b:GL->Cy->Option Cy)(a:Option Cy):R5 b (a.map λc=>(c,[]))=a:=zCe
structure eK(B:MV->Int->List y)(cc:Bool)(p:Aa)(sz:Al)(π:u)(m:u)(V:MV)(h:S)(st:Cy)(d:Bd)(g:Ay)(r:DI)(t:Al)(j b:Nat)(v:y)(H:S)(V':MV)(s':BQ)(L:List C8):Prop:=
 run:CH B cc π m V h b V' ⟨s',st.ev,0⟩ H
 env:qa π H b v L
 out:∀i∈AD v,i∉V'.ids m
 ne:L=[]->v=.d9
 qr:Ed p sz s'
 all:Bb d g r.d7 t st.em=(L++(Bb d g (r.d7.drop j) (t.drop j) s').1,(Bb d g (r.d7.drop j) (t.drop j) s').2)
 bv:s'.bv=st.em.bv
 be:s'.be=st.em.be
 nc:U s'.ac=U st.em.ac
 rest:∀(i:Nat) c k,j<=i->r.d7[i]?=J c->t[i]?=J k->0<=k/\∃q,s'.ac[(g.own d X c).toNat]?=J q/\k.toNat<U q.queue/\(U q.queue)<=12/\EE p s' q=((d.ac[c.toNat]?).map HV.many).getD 0
 len:U L<=30*j
variable{p:Aa}{k:Al}{q:Fo}{e:Nat}{f:List C8}
def xz{b:BQ}{d:Bd}{c:Int}(i:Vk d)(o:Ed p k b)(m:b.ac[n]?=J q)(l:q.queue[e]?=J f)(j:EE p b q=((d.ac[c.toNat]?).map HV.many).getD 0):U f<=3:=by
 have a:=(o.que _ q m).msgs f (AP l);simp only[QC,As,D3]at a;rw[j]at a;rcases hc:d.ac[c.toNat]? with _|g
 .rw[hc]at a;simp only[Option.map_none,Option.getD_none]at a;omega
 .rw[hc]at a;have r:=(i.chan g (AP hc)).2.2;have h:=a.1;simp only[Gs,F7]at h;omega
variable{B:MV->Int->List y}{i:Bool}{m:u}{V c:MV}{h H:S}{j:Cy}
def CH.oth(l:CH B i a m V h b c j g){n:u}(r:n∉c.ids m)(s:AE a n=X)(o:∀e,e≠n->H.get e=g.get e):CH B i a m V h b c j H:=⟨Fv l.rep λe q=>o e λf=>r (f▸q),l.ids,λe p k=>by rw[o e λf=>by rw[f,s]at k;cases k];exact l.frame e p k⟩
def CH.new(o:Dr a V m)(l:CH B i a m V h b c j g)(e n:Nat)(k:b<=n):e::n::a∉c.ids m:=λf=>by have:=GJ (b':=0) o (l.ids _ f) e n k;rw[q_c]at this;cases this
def pX{d:Bd}{g:Ay}{F:DI}{R:Al}{w:Nat}{s:BQ}(r:eK B i p k a m V h j d g F R w b v H c s L)(be:Dr a V m)(a2:Vk d){o:Int}{A:u}{Q:y}(a1:F.d7[w]?=J o)(a5:R[w]?=J (e:Int))(C:s.ac[(g.own d X o).toNat]?=J q)(P:q.queue[e]?=J f)(a':EE p s q=((d.ac[o.toNat]?).map HV.many).getD 0)(av:c.v3=.ii A 0 (U c.rows)) (bc:c.rows[(g.own d X o).toNat]?=J (CF q Q)) (a3:∀l t,w<l->F.d7[l]?=J t->(g.own d X t).toNat≠(g.own d X o).toNat) {b1:Nat} (a0:b1<=b') (K x:y) (M G:S) (D:CH B i a m V h b1 c ⟨s,j.ev,0⟩ M) (ad:G.get m=M.get m) (ac:G.get A=J (.arr 4 (c.rows.set (g.own d X o).toNat (CF q x)))) (az:Sn i 2 G 1 x ((BK q.queue e).map C1)) (ag:AD x=AD Q\/∀n∈AD x,FJ b1 b' a n=X/\∃bk,n=1::bk)(ai:∀n,AJ m n=Z->AJ A n=Z->(∀l∈AD Q,AJ l n=Z)->FJ b1 b' a n=Z->G.get n=M.get n) (a4:qa a G b' K (L++f)) (Y:∀l∈AD K,l∉c.ids m/\FJ b1 b' a l=Z) (bh:L++f=[]->K=.d9):∃N bl aa,eK B i p k a m V h j d g F R (w+1) b' K G N bl aa:=by
 have a6:=l_ P;have⟨N,z1,z2⟩:=D.step (b':=b') a0 (ZL D.rep (D.q_v be) av C bc (BK q.queue e) x G (ad.trans D.rep.box) ac az ag ai);have⟨t1,t2,t3,t4,t5⟩:=qY r.qr C (k:=e) (by simpa using a6);have T:EW s (g.own d X o) e=(f,{s with ac:=s.ac.set (g.own d X o).toNat {q with queue:=BK q.queue e}}):=by rw[EW,C];simp[P]
 rw[T]at t1 t2 t3 t4 t5;have bn:=xz a2 r.qr C P a';refine⟨N,_,L++f,z1,a4,λl O=>z2 l (Y l O).1 (Y l O).2,bh,t1,?_,t2.bv.trans r.bv,t2.be.trans r.be,t2.len.trans r.nc,λl t bi O W ar=>?_,by have:=r.len;rw[Dl];omega⟩
 .rw[r.all,Ax a1,Ax a5,Bb,T,F0]
 .have⟨f1,q2,f2,f3,f4,f5⟩:=r.rest l t bi z W ar;refine⟨f1,q2,by rw[t5 _ (a3 l t z W)];exact f2,f3,f4,?_⟩;rw[<-f5,EE,EE,t2.bv]
def AHi(d:Bd)(g:Ay)(a:Al)(b:BQ):Bb d g [] a b=([],b):=by rw[Bb];intro e f h a c;cases c
end Go.Proofs
namespace Go.Abs
end Go.Abs
namespace Go.Proofs
open Abs Tryz
structure qz(h:S)(π:u)(m bx B0:u)(L:List CN):Prop:=
 gb:h.get bx=J (.box [.ptr m 0])
 gm:∃x1 x2 x3 x4 x5 x6 x7 x8 x9 x10 x11 x12,h.get m=J (.box [.ii B0 0 (U L),x1,x2,x3,x4,x5,x6,x7,x8,x9,x10,x11,x12])
 gS:∃A9,h.get B0=J (.f8 2 (L.map Ch++A9))
 ub:AE π bx=Z
 um:AE π m=Z
 uS:AE π B0=Z
def qz.up{i j:S}{h k:u}{g c B0:u}{L:List CN}(a:qz i h g c B0 L)(e:∀b,AE h b=Z->b=c\/b=g\/b=B0->j.get b=i.get b)(f:∀b,AE h b=Z->AE k b=Z):qz j k g c B0 L:=by
 refine⟨(e _ a.ub AG).trans a.gb,?_,?_,f _ a.ub,f _ a.um,f _ a.uS⟩
 .rw[e _ a.um AG];exact a.gm
 .rw[e _ a.uS AG];exact a.gS
end Go.Proofs
namespace Go.Proofs
open Abs Tryz
def px{e:Type}{a:List e}{b:Nat}{c:e}(f:a[b]?=J c):a.set b c=a:=by obtain⟨g,h⟩:=BI.1 f;rw[<-h];exact List.set_getElem_self g
end Go.Proofs
namespace Go.Abs
end Go.Abs
namespace Go.Proofs
open Abs Tryz
end Go.Proofs
namespace Go.Abs
def tl(b:u)(e:Ar)(c:y)(a:List (Ar×y)):Option (Option y)->Option DF
 |some _=>J ⟨.undef,[(b,.map (Cj a e c))]⟩|none=>I
def xy(b:u)(a:Ar)(c:y):Option Obj->Option DF
 |some (.map es)=>tl b a c es (CD es a)|_=>I
def l6(b:Ar)(a:y)(c:u)(f:Option Obj):Option TI->Option DF
 |some e=>if (Kp e.kind b&&a.q_D)=X then xy c b a f else I|none=>I
def ABO(e:TypeId->Option TI)(f:G)(a:TI)(b:u)(c:Ar)(g:y)(i:a.kind=.map):q_l e f (J a) (.mp b) (.d c) g=l6 c g b (f b) (e a.key):=by
 unfold q_l;simp only[Rj,i];rcases e a.key with _|j
 .rfl
 .simp only[l6];rcases Kp j.kind c&&g.q_D with _|_
  .rfl
  .simp only[IS];rcases f b with _|k
   .rfl
   .cases k with|map h=>simp only[xy];cases CD h c<;>rfl|_=>rfl
theorem uc(b:Ar)(a:y)(c:u)(f:Option Obj)(e:TI):l6 b a c f (J e)=if (Kp e.kind b&&a.q_D)=X then xy c b a f else none:=rfl
theorem ABk(c:u)(b:Ar)(e:y)(a:List (Ar×y)):xy c b e (J (.map a))=tl c b e a (CD a b):=rfl
theorem uZ(b:u)(e:Ar)(c:y)(a:List (Ar×y))(f:Option y):tl b e c a (J f)=J ⟨.undef,[(b,.map (Cj a e c))]⟩:=rfl
theorem tr(x:Ar)(v:y):Cj [] x v=[(x,v)]:=rfl
attribute [go_sem] ABO uc ABk uZ tr
end Go.Abs
namespace Go.Proofs
open Abs Tryz
end Go.Proofs
namespace Go.Proofs
open Abs Tryz
def bL(v1 e f v4 g:y)(a:u)(c:List (List y)):MV:=⟨λb=>match b with|0=>v1|1=>e|2=>v4|_=>.d9,f,g,a,c⟩
variable{g:S}{sz:Nat}{v:y}{a:List (List Ar)}
def DS(h:PV g sz v a):v.q_b=X/\v.cells=[v]:=by rcases h with⟨rfl,_⟩|⟨_,_,rfl,_⟩<;>exact⟨rfl,rfl⟩
variable{rows:List (List y)}
def Lr(h:B5 g v rows):v.q_b=X/\v.cells=[v]:=by rcases h with⟨rfl,_⟩|⟨_,rfl,_⟩<;>exact⟨rfl,rfl⟩
def yM{f:Type}(a e:List f)(b:Nat)(c:b=U a):Kj (a++e) 0 b=J a:=by subst c;unfold Kj;rw[D4 AG];simp
def mF(b:PV g sz v a):Fz g.get v=J (.co a):=by
 rcases b with⟨rfl,rfl⟩|⟨f,e,rfl,c⟩
 .rfl
 .simp only[Fz,c,yM a e _ rfl,Gs]
def TN(b:PV g sz v a):EB g.get v=J (.co a):=by
 have c:=mF b;rcases b with⟨rfl,rfl⟩|⟨f,h,rfl,e⟩
 .rfl
 .simp only[EB,e];exact c
def AE5(b:PV g sz v a):FM g.get v=J (.d (.co a)):=by
 have c:=TN b;rcases b with⟨rfl,rfl⟩|⟨f,h,rfl,e⟩
 .rfl
 .simp only[FM,c,Gs]
def QU(h:Ub g sz v a):v.q_b=X/\v.cells=[v]:=by
 rcases h with h|⟨rfl,_⟩
 .exact DS h
 .exact⟨rfl,rfl⟩
def AFA(h:Ub g sz v a):Fz g.get v=J (.co a):=by
 rcases h with h|⟨rfl,rfl⟩
 .exact mF h
 .rfl
def TP(h:Ub g sz v a):EB g.get v=J (.co a):=by
 rcases h with h|⟨rfl,rfl⟩
 .exact TN h
 .rfl
def bm{g:S}:∀{rows:List (List y)} {l:List Fo},U rows=U l->(∀(c:Nat) (a:Fo),l[c]?=J a->∃v,rows[c]?=J (CF a v)/\Ub g 1 v (a.queue.map C1))->EN g.get rows=J (l.map C0)
 |[],[],_,_=>rfl|[],_::_,b,_=>by cases b|_::_,[],b,_=>by cases b|r::rows,a::l,b,hr=>by
  have⟨v,h1,h2⟩:=hr 0 a rfl;simp only[He,F1]at h1;subst h1;have j:=bm (rows:=rows) (l:=l) (by simpa using b) λc a i=>by have:=hr (c+1) a zCY;simpa using this
  have f:=AFA h2;have h:Ef g.get (CF a v)=J (C0 a):=by simp only[CF,Ef,f,show∀e,Fz g.get (.d e)=J e fromλ_=>rfl,C0]
  simp only[EN,h,j,By]
def mI{h:Bool}{a:List Fo}(i:B5 g v rows)(c:qw h g rows a):EB g.get v=J (.co (a.map C0)):=by
 have b:=bm c.len λm f l=>by obtain⟨v,b,j⟩:=c.row m f l;exact⟨v,b,Zb j⟩
 have e:=c.len;rcases i with⟨rfl,rfl⟩|⟨n,rfl,k⟩
 .rcases a with _|⟨f,a⟩
  .rfl
  .cases e
 .have:=yM (a.map C0) [] (U rows) (by rw[BV,e]);rw[CS]at this;simp only[EB,k,b,this,Gs]
theorem yy{h:Type}{f:h->List Ar}(j:∀e,(f e).length=sz)(l:0<sz)(a:List h)(i:¬(U a)=0)(k:U a<=1000000):∀(g:G) (c:u) (b:TI),b.mix=Z->b.size=sz->Uh g c b .emp (J ((a.map f).map λe=>e.map y.d))=J ⟨.ii (1::c) 0 (U a),[(1::c,.f8 sz (a.map f))]⟩:=by grind [W2,List.map_eq_nil_iff,BS]
variable{b:Nat}
theorem E0{c e a:Nat}{f:u}(h:b<=a):¬Hf (c::f) b (e::a::c::f):=λg=>by have:=(BB g e a h).1;grind [q_c]
theorem AEO(r:BQ)(t:r.Fits)(cc:¬(U r.be)=0)(k:Nat)(p:u):∃ch,Bq kT 104 [.agg (sC r)] (k::p)=.ok ch/\∃v1 v2 v3 v4 rows g,ch=(.ret (.agg [v1,v2,v3,v4]),g)/\vk (k::p) r v1 v2 v3 v4 rows g:=by
 have ap:=yy (f:=Ch) (sz:=2) (λ_=>rfl) Af r.be cc t.be;replace t:=AB t;refine XP func104 ?_;refine aw (GD (cs:=YD r) (ng:=0) (nc:=0) (nw:=0) (B:=0::0::k::p) (R:=0::1::k::p) (O:=0::7::k::p) (v1:=.ii (1::5::k::p) 0 (U r.be)) (v2:=.d9) (v3:=.d9) (v4:=.d9) (rows:=[]) (k:=4) (i:=0) ?_ ⟨?_,?_,?_,.inr ⟨λf=>cc (by grind [List.map_eq_nil_iff]),1::5::k::p,by rw[BV],?_⟩,.inl ⟨rfl,rfl⟩,.inl ⟨rfl,rfl⟩,⟨rfl,AG,AG⟩,.inl ⟨rfl,rfl⟩,Az,AG,AG⟩ t.out.ac λB R O v1 v2 v3 v4 rows g b w=>?_)
 .simp only[go_sem]
 .exact zAl
 .simp only[go_sem]
 .simp only[go_sem]
 .simp only[go_sem]
 refine Aj r.bv (B0:=λi (a:lG)=>⟨[(1,.ptr a.B 0),(2,.ptr a.R 0),(3,.ptr a.O 0),(4,nI i)],a.g,a.b,[]⟩)
  (Inv:=λi b8 a=>AR (qy (k::p) (YD r) r i 0 0 a.B a.R a.O a.v1 a.v2 a.v3 a.v4 a.rows a.g a.b)) (b0:=⟨B,R,O,v1,v2,v3,v4,rows,g,b⟩) ⟨w⟩ ?_ ?_
 .clear w;rintro i Q ⟨B,R,O,v1,v2,v3,v4,rows,g,b⟩ a3 a0 a6 e H;dsimp only at*;have w:=e.out.cp;have a2:g.get B=J (.box (sC r)):=w.bx;have a4:=w.out;have ag:=λk p=>GQ Q.env (t.out.group Q (AP a3)) k p;have fa:=Gw;have b9:SE.wrap ((i:Int)+1)=(i:Int)+1:=w_ z (by have:=t.out.bv;omega);have bl:=w.s1;have q:=e.out.nm;have ai:=λm h l=>(BB (q O zCM) m h l).1;have ar:=λm h l=>(BB (q O zCM) m h l).2;have b7:=λa c d=>(CT (q O zCM) [a,c,d] AG).2;have a1:=λa c d=>(CT (q O zCM) [a,c,d] AG).1;have be:=λa c d=>(CT (q B zCM) [a,c,d] AG).2;simp only[F4,Cs]at b7 a1 be;have F:AR (r.bv.take (i+1)=r.bv.take i++[Q]):=⟨by grind [List.take_add_one]⟩;have M:(r.bv.take i).length=i:=by rw[F3];omega
  replace q:=AB q;replace w:=AB w;rcases bl with⟨s,rfl⟩|⟨s,x,rfl,bc⟩
  .have N:i=0:=by rw[D7.1 s]at M;exact M.symm
   replace N:=AB N;have a5:=AR.mk (D7.1 s);clear s M;by_cases C:U Q.env=0
   .simp only[KR,D4 C]at ag;have L:=CE C;replace L:=AB L;refine aw (GD (ng:=i+1) (nc:=0) (nw:=0) (k:=4) ?_ (e.out.group (A:=1::(b+28)::k::p) ?_ z ?_ (E0 z) λj n D K=>?_) t.out.ac λB R O v1 v2 v3 v4 rows g b v=>H.out ⟨B,R,O,v1,v2,v3,v4,rows,g,b⟩ ⟨v⟩)
    .exact zAl
    .rw[N.out];exact Ba
    .simp only[go_sem,ai,ar,a1,AM];rw[F.out,a5.out];grind [Cf]
    .have T:=(BB n 1 (b+27) z).1;have aa:=(BB n 1 (b+28) z).1;exact zBd
   .simp only[KR,Co C]at ag;refine aw (GD (ng:=i+1) (nc:=0) (nw:=0) (k:=4) ?_ (e.out.group (A:=1::(b+28)::k::p) ?_ z ?_ (E0 z) λj n D K=>?_) t.out.ac λB R O v1 v2 v3 v4 rows g b v=>H.out ⟨B,R,O,v1,v2,v3,v4,rows,g,b⟩ ⟨v⟩)
    .exact zAl
    .rw[N.out];exact Ba
    .simp only[go_sem,ai,ar,a1,AM];rw[F.out,a5.out];rfl
    .exact zA6
  .have⟨G1,az⟩:=C6 (r.bv.take i);rw[<-az]at bc s M F a4;rw[BV,M]at a4;have b5:¬i=0:=λf=>s zCI;have cl:TL i (G1.map Cf)=G1.map Cf:=Bv zC0;replace az:=AB az;have nI:=λm h l=>(BB (q.out x (Bo.2 Az)) m h l).1;have cd:=λm h l=>(BB (q.out x (Bo.2 Az)) m h l).2;have bh:=λa c d=>(CT (q.out x (Bo.2 Az)) [a,c,d] AG).2;have bi:=λa c d=>(CT (q.out x (Bo.2 Az)) [a,c,d] AG).1;simp only[F4,Cs]at bh bi;have IO:AJ x O=false:=AI λf=>by grind
   have cm:AJ O x=false:=AI λf=>by grind
   replace s:=AB s;have b6:i+1<=BS:=by have:=t.out.bv;unfold BS;omega
   by_cases C:U Q.env=0
   .simp only[KR,D4 C]at ag;have L:=CE C;replace L:=AB L;refine aw (GD (ng:=i+1) (nc:=0) (nw:=0) (k:=4) ?_ (e.out.group (A:=1::(b+28)::k::p) ?_ z ?_ (E0 z) λj n D K=>?_) t.out.ac λB R O v1 v2 v3 v4 rows g b v=>H.out ⟨B,R,O,v1,v2,v3,v4,rows,g,b⟩ ⟨v⟩)
    .exact zAl
    .exact Ba
    .simp only[go_sem,ai,ar,a1,AM];rw[F.out,Ap];grind [Cf]
    .exact zAI
   .simp only[KR,Co C]at ag;refine aw (GD (ng:=i+1) (nc:=0) (nw:=0) (k:=4) ?_ (e.out.group (A:=1::(b+28)::k::p) ?_ z ?_ (E0 z) λj n D K=>?_) t.out.ac λB R O v1 v2 v3 v4 rows g b v=>H.out ⟨B,R,O,v1,v2,v3,v4,rows,g,b⟩ ⟨v⟩)
    .exact zAl
    .exact Ba
    .simp only[go_sem,ai,ar,a1,AM];rw[F.out,Ap];rfl
    .exact zAI
 .clear w;rintro i ⟨B,R,O,v1,v2,v3,v4,rows,g,b⟩ a0 a6 e;dsimp only at*;have a2:g.get B=J (.box (sC r)):=e.out.cp.bx;obtain rfl:=a0.out;clear a0;refine aw (GD (k:=5) (i:=0) (nc:=0) (nw:=0) ?_ e.out.cp t.out.ac λB R O v1 v2 v3 v4 rows g b w=>?_)
  .simp only[go_sem]
  clear e a2 a6;have⟨ng,bo⟩:=C6 (U r.bv);rw[<-bo]at w;replace bo:=AB bo;refine Aj r.ac (B0:=λi (a:lG)=>⟨[(1,.ptr a.B 0),(2,.ptr a.R 0),(3,.ptr a.O 0),(5,nI i)],a.g,a.b,[]⟩)
   (Inv:=λi b8 a=>AR (qy (k::p) (YD r) r ng i 0 a.B a.R a.O a.v1 a.v2 a.v3 a.v4 a.rows a.g a.b)) (b0:=⟨B,R,O,v1,v2,v3,v4,rows,g,b⟩) ⟨w⟩ ?_ ?_
  .clear w;rintro i c ⟨B,R,O,v1,v2,v3,v4,rows,g,b⟩ a3 a0 a6 e H;dsimp only at*;have a2:g.get B=J (.box (sC r)):=e.out.cp.bx;have q:=AB e.out.nm;have c2:=λm h l=>(BB (q.out B zCM) m h l).1;have c3:=λm h l=>(BB (q.out B zCM) m h l).2;have⟨hq1,b2⟩:=t.out.chan c (AP a3);replace b2:=AB b2;refine aw ?_;have bx:=λ{j} (o:j∈KZ B R O v1 v2 v3 v4 rows)=>e.out.nm j o;refine Pq (c:=c) (m:=0) (i:=i) (k:=0) (ng:=ng) (nc:=i) (nw:=0) (vq:=.d9) (Y:=0::(b+24)::k::p) ?_ (e.out.cp.pm λj o=>?_) ?_ (.inl ⟨AG,rfl⟩) (λo=>E0 z (bx o)) (λj o=>by cases o) t.out.ac λB R O Y v1 v2 v3 v4 vq rows g b w=>?_
   .simp only[go_sem]
   .have T:=(BB (bx o) 0 (b+24) z).1;exact Ba
   .simp only[go_sem]
   clear bx c2 c3 q a2 e;refine Aj c.queue (B0:=λh (a:APs)=>⟨[(1,.ptr a.a.B 0),(2,.ptr a.a.R 0),(3,.ptr a.a.O 0),(5,nI i),(6,.ptr a.Y 0),(7,nI h)],a.a.g,a.a.b,[]⟩)
    (Inv:=λh b8 a=>AR (w7 (k::p) (YD r) r ng i 0 c h a.a.B a.a.R a.a.O a.Y a.a.v1 a.a.v2 a.a.v3 a.a.v4 a.vq a.a.rows a.a.g a.a.b)) (b0:=⟨⟨B,R,O,v1,v2,v3,v4,rows,g,b⟩,Y,vq⟩) ⟨w⟩ ?_ ?_
   .clear w;rintro h Q ⟨⟨B,R,O,v1,v2,v3,v4,rows,g,b⟩,Y,vq⟩ c1 l c0 e H;dsimp only at*;have a2:g.get B=J (.box (sC r)):=e.out.n.cp.bx;have b0:=e.out.q;have ag:=λk p=>GQ Q (b2.out Q (AP c1)) k p;have fa:=Gw;have b9:SE.wrap ((h:Int)+1)=(h:Int)+1:=w_ z z;have bl:=e.out.qs;have q:=e.out.n.nm;have bs:=λm h l=>(BB e.out.qn m h l).1;have bv:=λm h l=>(BB e.out.qn m h l).2;have c6:=λa c d=>(CT e.out.qn [a,c,d] AG).2;have bk:=λa c d=>(CT e.out.qn [a,c,d] AG).1;have be:=λa c d=>(CT (q B zCM) [a,c,d] AG).2;simp only[F4,Cs]at c6 bk be;have F:AR (c.queue.take (h+1)=c.queue.take h++[Q]):=⟨by grind [List.take_add_one]⟩;have M:(c.queue.take h).length=h:=by rw[F3];omega
    replace q:=AB q;rcases bl with⟨s,rfl⟩|⟨s,x,rfl,bc⟩
    .have N:h=0:=by rw[D7.1 s]at M;exact M.symm
     replace N:=AB N;have a5:=AR.mk (D7.1 s);clear s M;by_cases C:U Q=0
     .simp only[KR,D4 C]at ag;have L:=CE C;replace L:=AB L;refine aw ?_;refine Pq (c:=c) (m:=h+1) (ng:=ng) (nc:=i) (nw:=0) (vq:=.ii (1::(b+24)::k::p) 0 (h+1)) (Y:=Y) ?_ (e.out.n.cp.pm λj o=>?_) ?_ (.inr ⟨by rw[F.out];simp,1::(b+24)::k::p,by grind,?_⟩) e.out.yn (λj o=>?_) t.out.ac λB R O Y v1 v2 v3 v4 vq rows g b v=>H.out ⟨⟨B,R,O,v1,v2,v3,v4,rows,g,b⟩,Y,vq⟩ ⟨v⟩
      .exact zAl
      .have av:=e.out.n.nm j o;have T:=(BB av 1 (b+23) z).1;have aa:=(BB av 1 (b+24) z).1;have ac:=AI (λf:Y=j=>e.out.yn (f▸o));exact Ba
      .rw[N.out];exact Ba
      .simp only[go_sem,bs,bv,bk,AM];rw[F.out,a5.out];grind [C1]
      .exact zAt
     .simp only[KR,Co C]at ag;refine aw ?_;refine Pq (c:=c) (m:=h+1) (ng:=ng) (nc:=i) (nw:=0) (vq:=.ii (1::(b+24)::k::p) 0 (h+1)) (Y:=Y) ?_ (e.out.n.cp.pm λj o=>?_) ?_ (.inr ⟨by rw[F.out];simp,1::(b+24)::k::p,by grind,?_⟩) e.out.yn (λj o=>?_) t.out.ac λB R O Y v1 v2 v3 v4 vq rows g b v=>H.out ⟨⟨B,R,O,v1,v2,v3,v4,rows,g,b⟩,Y,vq⟩ ⟨v⟩
      .exact zAl
      .have av:=e.out.n.nm j o;have T:=(BB av 1 (b+23) z).1;have aa:=(BB av 1 (b+24) z).1;have ac:=AI (λf:Y=j=>e.out.yn (f▸o));have P:=(CT av [1,3,b+21] AG).1;simp only[F4,Cs]at P;exact Ba
      .rw[N.out];exact Ba
      .simp only[go_sem,bs,bv,bk,AM];rw[F.out,a5.out];rfl
      .exact zAt
    .have⟨G1,az⟩:=C6 (c.queue.take h);rw[<-az]at bc s M F b0;rw[BV,M]at b0;have b5:¬h=0:=λf=>s zCI;have cl:TL h (G1.map C1)=G1.map C1:=Bv zC0;replace az:=AB az;have nI:=λm h l=>(BB (e.out.qv x Az).1 m h l).1;have cd:=λm h l=>(BB (e.out.qv x Az).1 m h l).2;have bh:=λa c d=>(CT (e.out.qv x Az).1 [a,c,d] AG).2;have bi:=λa c d=>(CT (e.out.qv x Az).1 [a,c,d] AG).1;simp only[F4,Cs]at bh bi;have c':AJ x Y=false:=AI λf=>by grind
     have dn:AJ Y x=false:=AI λf=>by grind
     replace s:=AB s;have b6:h+1<=BS:=zCs
     by_cases C:U Q=0
     .simp only[KR,D4 C]at ag;have L:=CE C;replace L:=AB L;refine aw ?_;refine Pq (c:=c) (m:=h+1) (ng:=ng) (nc:=i) (nw:=0) (vq:=.ii (1::(b+24)::k::p) 0 (h+1)) (Y:=Y) ?_ (e.out.n.cp.pm λj o=>?_) ?_ (.inr ⟨by rw[F.out];simp,1::(b+24)::k::p,by grind,?_⟩) e.out.yn (λj o=>?_) t.out.ac λB R O Y v1 v2 v3 v4 vq rows g b v=>H.out ⟨⟨B,R,O,v1,v2,v3,v4,rows,g,b⟩,Y,vq⟩ ⟨v⟩
      .exact zAl
      .exact zAf
      .exact Ba
      .simp only[go_sem,bs,bv,bk,AM];rw[F.out,Ap];grind [C1]
      .exact zAt
     .simp only[KR,Co C]at ag;refine aw ?_;refine Pq (c:=c) (m:=h+1) (ng:=ng) (nc:=i) (nw:=0) (vq:=.ii (1::(b+24)::k::p) 0 (h+1)) (Y:=Y) ?_ (e.out.n.cp.pm λj o=>?_) ?_ (.inr ⟨by rw[F.out];simp,1::(b+24)::k::p,by grind,?_⟩) e.out.yn (λj o=>?_) t.out.ac λB R O Y v1 v2 v3 v4 vq rows g b v=>H.out ⟨⟨B,R,O,v1,v2,v3,v4,rows,g,b⟩,Y,vq⟩ ⟨v⟩
      .exact zAl
      .exact zAf
      .exact Ba
      .simp only[go_sem,bs,bv,bk,AM];rw[F.out,Ap];rfl
      .exact zAt
   .clear w;rintro h ⟨⟨B,R,O,v1,v2,v3,v4,rows,g,b⟩,Y,vq⟩ l c0 e;dsimp only at*;have a2:g.get B=J (.box (sC r)):=e.out.n.cp.bx;have a4:=e.out.n.cp.out;have b0:=e.out.q;have q:=AB e.out.n.nm;have ai:=λm h l=>(BB (q.out O zCM) m h l).1;have ar:=λm h l=>(BB (q.out O zCM) m h l).2;have dq:AJ Y O=false:=AI λf=>e.out.yn (by rw[f];simp[KZ]);have de:AJ O Y=false:=AI λf=>e.out.yn (by rw[<-f];simp[KZ]);have b4:U rows=i:=by rw[e.out.n.cp.rep.len,F3];omega
    have b9:SE.wrap ((i:Int)+1)=(i:Int)+1:=w_ z (by have:=t.out.ac;omega);have b3:=e.out.qs;have cx:=l.out;subst cx;rw[F2]at b3;have cv:=e.out.n.cp.arr;rcases cv with⟨s,rfl⟩|⟨s,A,rfl,cu⟩
    .have N:=AR.mk (show i=0 by rw[<-b4,s];rfl);replace s:=AB s;rcases b3 with⟨ad,rfl⟩|⟨ad,W,rfl,b'⟩
     .replace ad:=AB ad;refine aw (GD (ng:=ng) (nc:=i+1) (nw:=0) (k:=5) ?_ (e.out.n.chan (A:=1::(b+13)::k::p) (vq:=.d9) a3 ?_ ?_ ?_ (λj o V=>(e.out.qv j o).2 (Bo.2 (.inr (.inr (.inr (.inr (.inr (.inr (.inr V))))))))) λj n D K=>?_) t.out.ac λB R O v1 v2 v3 v4 rows g b v=>H.out ⟨B,R,O,v1,v2,v3,v4,rows,g,b⟩ ⟨v⟩)
      .exact zAl
      .rw[N.out];exact Ba
      .simp only[go_sem,ai,ar,AM];rw[s.out];rfl
      .exact .inl ⟨by rw[D7.1 ad.out];rfl,rfl⟩
      .have T:=(BB n 1 (b+12) z).1;have aa:=(BB n 1 (b+13) z).1;exact zBd
     .have c4:=λm h l=>(BB (e.out.qv W Az).1 m h l).1;have c5:=λm h l=>(BB (e.out.qv W Az).1 m h l).2;have cq:AJ W Y=false:=AI λf=>by grind
      have cs:AJ Y W=false:=AI λf=>by grind
      have cp:AJ W O=false:=AI λf=>by grind
      have cn:AJ O W=false:=AI λf=>by grind
      replace ad:=AB ad;refine aw (GD (ng:=ng) (nc:=i+1) (nw:=0) (k:=5) ?_ (e.out.n.chan (A:=1::(b+13)::k::p) (vq:=.ii W 0 (c.queue.map C1).length) a3 ?_ ?_ ?_ (λj o V=>(e.out.qv j o).2 (Bo.2 (.inr (.inr (.inr (.inr (.inr (.inr (.inr V))))))))) λj n D K=>?_) t.out.ac λB R O v1 v2 v3 v4 rows g b v=>H.out ⟨B,R,O,v1,v2,v3,v4,rows,g,b⟩ ⟨v⟩)
      .exact zAl
      .rw[N.out];exact Ba
      .simp only[go_sem,ai,ar,AM];rw[s.out];rfl
      .refine .inr ⟨λf=>ad.out zCI,W,by rw[BV],?_⟩;exact Ba
      .have T:=(BB n 1 (b+12) z).1;have aa:=(BB n 1 (b+13) z).1;exact zBd
    .rw[b4]at a4;have d5:rows.take i=rows:=Bv z;have d4:¬i+1<=i:=z;have b6:i+1<=BS:=by have:=t.out.ac;unfold BS;omega
     have b5:¬i=0:=λf=>s (CE (b4.trans f));have d2:=λm h l=>(BB (q.out A (Bo.2 Az)) m h l).1;have d3:=λm h l=>(BB (q.out A (Bo.2 Az)) m h l).2;have c7:AJ A O=false:=AI λf=>by grind
     have dc:AJ O A=false:=AI λf=>by grind
     have c9:AJ A Y=false:=AI λf=>by grind
     have dm:AJ Y A=false:=AI λf=>by grind
     replace s:=AB s;rcases b3 with⟨ad,rfl⟩|⟨ad,W,rfl,b'⟩
     .replace ad:=AB ad;refine aw (GD (ng:=ng) (nc:=i+1) (nw:=0) (k:=5) ?_ (e.out.n.chan (A:=1::(b+13)::k::p) (vq:=.d9) a3 ?_ ?_ ?_ (λj o V=>(e.out.qv j o).2 (Bo.2 (.inr (.inr (.inr (.inr (.inr (.inr (.inr V))))))))) λj n D K=>?_) t.out.ac λB R O v1 v2 v3 v4 rows g b v=>H.out ⟨B,R,O,v1,v2,v3,v4,rows,g,b⟩ ⟨v⟩)
      .exact zAl
      .exact Ba
      .simp only[go_sem,ai,ar,AM];rfl
      .exact .inl ⟨by rw[D7.1 ad.out];rfl,rfl⟩
      .exact zA8
     .have c4:=λm h l=>(BB (e.out.qv W Az).1 m h l).1;have c5:=λm h l=>(BB (e.out.qv W Az).1 m h l).2;have cq:AJ W Y=false:=AI λf=>by grind
      have cs:AJ Y W=false:=AI λf=>by grind
      have cp:AJ W O=false:=AI λf=>by grind
      have cn:AJ O W=false:=AI λf=>by grind
      replace ad:=AB ad;have c8:AJ A W=false:=Rn cu b';have dj:AJ W A=false:=AI λf=>by grind
      refine aw (GD (ng:=ng) (nc:=i+1) (nw:=0) (k:=5) ?_ (e.out.n.chan (A:=1::(b+13)::k::p) (vq:=.ii W 0 (c.queue.map C1).length) a3 ?_ ?_ ?_ (λj o V=>(e.out.qv j o).2 (Bo.2 (.inr (.inr (.inr (.inr (.inr (.inr (.inr V))))))))) λj n D K=>?_) t.out.ac λB R O v1 v2 v3 v4 rows g b v=>H.out ⟨B,R,O,v1,v2,v3,v4,rows,g,b⟩ ⟨v⟩)
      .exact zAl
      .exact Ba
      .simp only[go_sem,ai,ar,AM];rfl
      .refine .inr ⟨λf=>ad.out zCI,W,by rw[BV],?_⟩;exact Ba
      .exact zA8
  .clear w;rintro i ⟨B,R,O,v1,v2,v3,v4,rows,g,b⟩ a0 a6 e;dsimp only at*;have a2:g.get B=J (.box (sC r)):=e.out.cp.bx;have⟨nc,bn⟩:=C6 (U r.ac);have b1:=a0.out;subst b1;clear a0;refine aw (GD (k:=8) (i:=0) (nw:=0) ?_ e.out.cp t.out.ac λB R O v1 v2 v3 v4 rows g b w=>?_)
   .simp only[go_sem]
   clear e a2 a6;rw[<-bn]at w;replace bn:=AB bn;refine Aj r.waits (B0:=λi (a:lG)=>⟨[(1,.ptr a.B 0),(2,.ptr a.R 0),(3,.ptr a.O 0),(8,nI i)],a.g,a.b,[]⟩)
    (Inv:=λi b8 a=>AR (qy (k::p) (YD r) r ng nc i a.B a.R a.O a.v1 a.v2 a.v3 a.v4 a.rows a.g a.b)) (b0:=⟨B,R,O,v1,v2,v3,v4,rows,g,b⟩) ⟨w⟩ ?_ ?_
   .clear w;rintro i Q ⟨B,R,O,v1,v2,v3,v4,rows,g,b⟩ a3 a0 a6 e H;dsimp only at*;have w:=e.out.cp;have a2:g.get B=J (.box (sC r)):=w.bx;have a4:=w.out;have ag:=λk p=>GQ Q.env (t.out.wait Q (AP a3)) k p;have fa:=Gw;have b9:SE.wrap ((i:Int)+1)=(i:Int)+1:=w_ z (by have:=t.out.waits;omega);have bl:=w.s2;have q:=e.out.nm;have ai:=λm h l=>(BB (q O zCM) m h l).1;have ar:=λm h l=>(BB (q O zCM) m h l).2;have b7:=λa c d=>(CT (q O zCM) [a,c,d] AG).2;have a1:=λa c d=>(CT (q O zCM) [a,c,d] AG).1;have be:=λa c d=>(CT (q B zCM) [a,c,d] AG).2;simp only[F4,Cs]at b7 a1 be;have F:AR (r.waits.take (i+1)=r.waits.take i++[Q]):=⟨by grind [List.take_add_one]⟩;have M:(r.waits.take i).length=i:=by rw[F3];omega
    replace q:=AB q;replace w:=AB w;rcases bl with⟨s,rfl⟩|⟨s,x,rfl,bc⟩
    .have N:i=0:=by rw[D7.1 s]at M;exact M.symm
     replace N:=AB N;have a5:=AR.mk (D7.1 s);clear s M;by_cases C:U Q.env=0
     .simp only[KR,D4 C]at ag;have L:=CE C;replace L:=AB L;refine aw (GD (ng:=ng) (nc:=nc) (nw:=i+1) (k:=8) ?_ (e.out.wait (A:=1::(b+28)::k::p) ?_ z ?_ (E0 z) λj n D K=>?_) t.out.ac λB R O v1 v2 v3 v4 rows g b v=>H.out ⟨B,R,O,v1,v2,v3,v4,rows,g,b⟩ ⟨v⟩)
      .exact zAl
      .rw[N.out];exact Ba
      .simp only[go_sem,ai,ar,a1,AM];rw[F.out,a5.out];grind [Bj]
      .have T:=(BB n 1 (b+27) z).1;have aa:=(BB n 1 (b+28) z).1;exact zBd
     .simp only[KR,Co C]at ag;refine aw (GD (ng:=ng) (nc:=nc) (nw:=i+1) (k:=8) ?_ (e.out.wait (A:=1::(b+28)::k::p) ?_ z ?_ (E0 z) λj n D K=>?_) t.out.ac λB R O v1 v2 v3 v4 rows g b v=>H.out ⟨B,R,O,v1,v2,v3,v4,rows,g,b⟩ ⟨v⟩)
      .exact zAl
      .rw[N.out];exact Ba
      .simp only[go_sem,ai,ar,a1,AM];rw[F.out,a5.out];rfl
      .exact zA6
    .have⟨G1,az⟩:=C6 (r.waits.take i);rw[<-az]at bc s M F a4;rw[BV,M]at a4;have b5:¬i=0:=λf=>s zCI;have cl:TL i (G1.map Bj)=G1.map Bj:=Bv zC0;replace az:=AB az;have nI:=λm h l=>(BB (q.out x (Bo.2 Az)) m h l).1;have cd:=λm h l=>(BB (q.out x (Bo.2 Az)) m h l).2;have bh:=λa c d=>(CT (q.out x (Bo.2 Az)) [a,c,d] AG).2;have bi:=λa c d=>(CT (q.out x (Bo.2 Az)) [a,c,d] AG).1;simp only[F4,Cs]at bh bi;have IO:AJ x O=false:=AI λf=>by grind
     have cm:AJ O x=false:=AI λf=>by grind
     replace s:=AB s;have b6:i+1<=BS:=by have:=t.out.waits;unfold BS;omega
     by_cases C:U Q.env=0
     .simp only[KR,D4 C]at ag;have L:=CE C;replace L:=AB L;refine aw (GD (ng:=ng) (nc:=nc) (nw:=i+1) (k:=8) ?_ (e.out.wait (A:=1::(b+28)::k::p) ?_ z ?_ (E0 z) λj n D K=>?_) t.out.ac λB R O v1 v2 v3 v4 rows g b v=>H.out ⟨B,R,O,v1,v2,v3,v4,rows,g,b⟩ ⟨v⟩)
      .exact zAl
      .exact Ba
      .simp only[go_sem,ai,ar,a1,AM];rw[F.out,Ap];grind [Bj]
      .exact zAI
     .simp only[KR,Co C]at ag;refine aw (GD (ng:=ng) (nc:=nc) (nw:=i+1) (k:=8) ?_ (e.out.wait (A:=1::(b+28)::k::p) ?_ z ?_ (E0 z) λj n D K=>?_) t.out.ac λB R O v1 v2 v3 v4 rows g b v=>H.out ⟨B,R,O,v1,v2,v3,v4,rows,g,b⟩ ⟨v⟩)
      .exact zAl
      .exact Ba
      .simp only[go_sem,ai,ar,a1,AM];rw[F.out,Ap];rfl
      .exact zAI
   .clear w;rintro i ⟨B,R,O,v1,v2,v3,v4,rows,g,b⟩ a0 a6 e;dsimp only at*;have a2:g.get B=J (.box (sC r)):=e.out.cp.bx;have a4:=e.out.cp.out;have d1:=e.out.cp.res;have dr:=(DS (Nx e.out.cp.s0)).1;have ds:=(DS (Nx e.out.cp.s1)).1;have dx:=(DS (Nx e.out.cp.s2)).1;have d0:=(Lr e.out.cp.chv).1;have dd:AJ O R=false:=AI λf=>e.out.cp.ro f.symm;have df:AJ R O=false:=AI e.out.cp.ro;have b1:=a0.out;subst b1;clear a0;refine aw ?_;rw[bo.out,bn.out]at e;exact⟨v1,v2,v3,v4,rows,_,⟨rfl,rfl⟩,e.out.post _⟩
def AHR{N:Aa}{ar:S}{C:u}{n:u}{V:MV}{st:Cy}(aa:XV N ar n V st)(ac:Dr C V n)(r:GL){e:CQ}(fo:U r.env<=10000)(fi:U e.args<=3)(c5:∀O∈e.args,O.formed (U r.env)=X)(fp:0<=e.n)(fr:e.n<U r.env)(c7:r.env.all (C8.inB N (U st.em.ac) (U st.em.be))=X) (be:∀(ec:Nat) (w:Fo),st.em.ac[ec]?=J w->wQ N st.em w) (fl:U st.ev<=1000000):
 ∃eb dq,kT (.fn 143) [.ptr n 0,.agg [nI e.op,nI e.n,.d (.co (e.args.map Bm)),.d (.co (e.kids.map AX))],nI r.at_,.d (.co (r.env.map BC))] ar C X I=.ok (eb,dq)/\Kc N C n V ar (Ff N e r st) eb dq:=by
 have a4:=aa.box;have cp:=ac n (V.q_i n);simp only[BX]at a4;have s:=AN cp;have t:=Av cp;have e9:=XE cp;have e':=oV cp;obtain⟨L,bv⟩:∃L,L=e.args.map λO=>O.value r.env:=⟨_,rfl⟩;have cd:U L=U e.args:=by rw[bv,BV]
 obtain⟨T,d8⟩:=g_ (l:=r.env) (i:=e.n.toNat) z;replace aa:=AB aa;replace ac:=AB ac;replace be:=AB be;replace c7:=AB c7;replace bv:=AB bv;replace cd:=AB cd;replace c5:=AB c5;refine Bf func143 ?_;refine aw ?_;refine Aj e.args (B0:=λi (ag:(y×S)×Nat)=>⟨[(0,.ptr n 0),(2,nI r.at_),(3,.d (.co (r.env.map BC))),(5,.ptr (0::0::C) 0),(8,ag.1.1),(9,nI i)],ag.1.2,ag.2+3,[]⟩)
  (Inv:=λi ga ag=>(∀c,AE C c=Z->ag.1.2.get c=ar.get c)/\ag.1.2.get (0::0::C)=J (.box [nI e.op,nI e.n,.d (.co (e.args.map Bm)),.d (.co (e.kids.map AX))])/\AR ((i=0/\ag.1.1=.d9)\/∃f,f<ag.2+3/\ag.1.1=.ii (1::f::C) 0 i/\ag.1.2.get (1::f::C)=J (.f8 2 ((L.take i).map BC)))) (b0:=((_,_),_)) ⟨?_,?_,⟨.inl ⟨rfl,rfl⟩⟩⟩ ?_ ?_
 .intro c b;have a:=AN b;simp only[go_sem,a,AM]
 .simp only[go_sem]
 .rintro i cx ⟨⟨er,g⟩,b⟩ d' c6 a3 ⟨j,c',B⟩ dn;dsimp only at*;have fv:=c5.1 cx (AP d');have eg:AR (L[i]?=J (cx.value r.env)):=⟨by rw[bv.1,Be,d'];rfl⟩;have gg:SE.wrap ((i:Int)+1)=(i:Int)+1:=w_ z z;replace j:=AB j;have ds:AR (L.take (i+1)=L.take i++[cx.value r.env]):=⟨by rw[Ex,eg.1];rfl⟩;rcases B.1 with⟨rfl,rfl⟩|⟨f,b3,rfl,b1⟩
  .clear B;have b2:(0:Int)<U e.args:=a3;refine aw ?_;refine dn.1 ((_,_),_) ⟨λc b=>?_,?_,⟨.inr ⟨b+17,AG,rfl,?_⟩⟩⟩
   .have a:=AN b;have h:=j.1 c b;simp only[go_sem,a,h,AM]
   .simp only[go_sem,c']
   .rw[ds.1];simp only[go_sem]
  .clear B;have e8:(L.take i).length=i:=by have:=cd.1;rw[F3];omega
   have b7:TL i (TC BC (TL i L))=TC BC (TL i L):=Bv BP;have b8:¬b+16=f:=z;have b9:¬b+9=f:=z;have b':¬f=b+16:=z;have ef:¬f=b+17:=z;refine ax ?_;refine dn.1 ((_,_),_) ⟨λc b=>?_,?_,⟨.inr ⟨b+17,AG,rfl,?_⟩⟩⟩
   .have a:=AN b;have h:=j.1 c b;simp only[go_sem,a,h,AM]
   .simp only[go_sem,c']
   .rw[ds.1];simp only[go_sem,ef,Ap]
 .rintro i ⟨⟨er,g⟩,b⟩ c6 a3 ⟨j,c',B⟩;dsimp only at*;have K:i=U L:=by rw[c6.1,cd.1]
  clear c6;have c8:Hj r.env e.n=T:=by rw[Hj,d8];rfl
  have fs:TL (U L) L=L:=F2;have fd:U L<=3:=by have:=cd.1;omega
  have F:=(j n cp).trans a4;replace j:=AB j;by_cases ea:T.kind=2
  .have P:AR (Ff N e r st=J {st with ev:=st.ev++[⟨5,r.at_,T.n,0,L⟩]}):=⟨by
    simp only[Ff,c8,ea,IS,bv.1];rfl⟩
   have go:=AR.mk (Hr (d8:={st with ev:=st.ev++[⟨5,r.at_,T.n,0,L⟩]}) 3 z aa.1 ac.1 (nn rfl) rfl)
   rcases aa.1.sl 3 z with⟨R,M⟩|⟨E,cq,R,cc⟩
   .rw[R]at F;replace R:=AB R;replace M:=AR.mk (D7.1 M);rcases B.1 with⟨rfl,rfl⟩|⟨f,b3,rfl,b1⟩
    .clear B;have b2:¬(0:Int)<U e.args:=a3;have av:=CE K.symm;subst av;clear K;exact zAT
    .clear B;subst K;have b7:¬b+29=f:=z;have b8:¬b+28=f:=z;have b9:¬f=b+28:=z;have b':¬f=b+29:=z;exact zAT
   .simp only[Ie,BT,BV]at R cc;rw[R]at F;have de:=ac.1 E (V.q_j n (i:=3) z zCV);replace cc:=(j.1 E de).trans cc;have a5:=AN de;have a6:=Av de;have a0:AJ E n=false:=Rn cc F;have bc:AJ n E=false:=Rn F cc;replace R:=AB R;rcases cq with _|⟨cx,cq⟩
    .rcases B.1 with⟨rfl,rfl⟩|⟨f,b3,rfl,b1⟩
     .clear B;have b2:¬(0:Int)<U e.args:=a3;have av:=CE K.symm;subst av;clear K;exact zAP
     .clear B;subst K;have b7:¬b+29=f:=z;have b8:¬b+28=f:=z;have b9:¬f=b+28:=z;have b':¬f=b+29:=z;exact zAP
    .rcases B.1 with⟨rfl,rfl⟩|⟨f,b3,rfl,b1⟩
     .clear B;have b2:¬(0:Int)<U e.args:=a3;have av:=CE K.symm;subst av;clear K;exact zAU
     .clear B;subst K;have b7:¬b+29=f:=z;have b8:¬b+28=f:=z;have b9:¬f=b+28:=z;have b':¬f=b+29:=z;exact zAU
  have ai:AR (∀H:S,(∀c,AE C c=Z->H.get c=g.get c)->Kc N C n V ar (J st) (.ret (.kw [])) H):=⟨λH dr=>⟨rfl,V,Y0 aa.1 ac.1 λc b=>(dr c b).trans (j.1 c b),AFs λc b=>(dr c b).trans (j.1 c b)⟩⟩;by_cases dc:T.kind=3
  .have d2:=EL.1 c7.1 T (AP d8);simp only[C8.inB,dc,Int.reduceEq,IS,Ge,As,D3]at d2;obtain⟨gd,gf⟩:=d2;obtain⟨w,cs⟩:=g_ (l:=st.em.ac) (i:=T.n.toNat) z;obtain⟨v,cm,el⟩:=aa.1.ac.row _ _ cs;have d4:=AB cm;have bx:=be.1 _ _ cs;obtain⟨e2,e3⟩:=bx.at_;obtain⟨fc,d,D,d1,e4,d0,dx⟩:=bx.ex;have e5:=bx.g0;have e6:=bx.i0;have e7:=bx.len;obtain⟨cn,d7⟩:=g_ (l:=st.em.be) (i:=w.at_.toNat) z;obtain⟨B0,gk,Y,c1,gi,f1,f2⟩:=NH (aa.1.sl 0 z) d7;obtain⟨G,cq,W,c0,gh,fz,f0⟩:=NH (aa.1.sl 1 z) d1;have x:=aa.1.arr;rcases x with⟨_,x⟩|⟨A,x,bo⟩
   .rw[x]at cm;simp at cm
   have em:=l_ cm;have gb:∀dd:List y,(V.rows.set T.n.toNat dd)[T.n.toNat]?=J dd:=λdd=>List.getElem?_set_self em;have uA:=ac.1 A (V.q_p n (by rw[x];simp[AD]));have dm:=ac.1 B0 (V.q_j n (i:=0) z (by rw[Y];simp[AD]));have df:=ac.1 G (V.q_j n (i:=1) z (by rw[W];simp[AD]));rw[x,Y,W]at F;replace bo:=(j.1 A uA).trans bo;replace c1:=(j.1 B0 dm).trans c1;replace c0:=(j.1 G df).trans c0;have a1:=AN uA;have a2:=Av uA;have et:=AN dm;have ex:=Av dm;have e0:=AN df;have e1:=Av df;have f5:¬b=b+17:=z;have f6:¬b+17=b:=z;have f7:¬b=b+11:=z;have f8:¬b+11=b:=z;have f9:¬b=b+28:=z;have f':¬b+28=b:=z;have f4:=l_ d0;have f3:=l_ dx;have d6:BA st.em.be w.at_=cn.dead:=by simp[BA,d7]
   have d3:EE N st.em w=D.many:=by simp[EE,d1,d0,dx]
   have P:AR (Ff N e r st=(Oz N st.em T.n L).map λen=>{st with em:=en}):=⟨by
    simp only[Ff,c8,dc,IS,bv.1];rfl⟩
   have cl:AR (Oz N st.em T.n L=if cn.dead=Z/\D.many=U L then Vt st.em T.n w L else J st.em):=⟨by
    rw[Oz,cs];simp only[d6,d3]⟩
   clear d6 d3 bx;replace a4:=AB a4;replace Y:=AB Y;replace W:=AB W;replace x:=AB x;simp only[CF]at cm;simp only[Ie]at c1 c0;have go:=AR.mk (ZL aa.1 ac.1 x.1 cs d4.1 (w.queue++[L]));have cu:AR (cn.dead=X->Ff N e r st=J st):=⟨λar=>by rw[P.1,cl.1,Co (by simp[ar])];rfl⟩;have cv:AR (¬D.many=U L->Ff N e r st=J st):=⟨λar=>by rw[P.1,cl.1,Co (λej=>ar ej.2)];rfl⟩;have b4:AR (cn.dead=Z->D.many=U L->(U w.queue)<12->Ff N e r st=J {st with em:={st.em with ac:=st.em.ac.set T.n.toNat {w with queue:=w.queue++[L]}}}):=⟨λc2 c3 c4=>by rw[P.1,cl.1,D4 ⟨c2,c3⟩,Vt,D4 c4];rfl⟩
   have d5:AR (cn.dead=Z->D.many=U L->¬(U w.queue)<12->Ff N e r st=I):=⟨λc2 c3 c4=>by rw[P.1,cl.1,D4 ⟨c2,c3⟩,Vt,Co c4];rfl⟩;clear P cl;have az:AJ A n=false:=Rn bo F;have a':AJ n A=false:=Rn F bo;rcases dR el with⟨d9,M⟩|⟨Q,b6,rfl,bs⟩
   .replace M:=AR.mk (D7.1 M);rcases B.1 with⟨rfl,rfl⟩|⟨f,b3,rfl,b1⟩;all_goals clear B
    .have b2:¬(0:Int)<U e.args:=a3;have av:=CE K.symm;subst av;clear K;exact zAF
    .subst K;have b7:¬b+84=f:=z;have b8:¬f=b+84:=z;have b9:¬b+85=f:=z;have b':¬f=b+85:=z;exact zAF
   .have ch:=V.q_m n (BE.2 ⟨_,AP d4.1,(by simp[DB,AD]:Q∈Ab (CF w (.ii Q 0 (w.queue.map C1).length)))⟩);have dj:=ac.1 Q ch;replace ch:=AB ch;replace bs:=(j.1 Q dj).trans bs;have bl:=AN dj;have bn:=Av dj;have bi:AJ Q A=false:=Rn bs bo;have bh:AJ A Q=false:=Rn bo bs;have bk:AJ Q n=false:=Rn bs F;have b5:AJ n Q=false:=Rn F bs;rcases B.1 with⟨rfl,rfl⟩|⟨f,b3,rfl,b1⟩;all_goals clear B
    .have b2:¬(0:Int)<U e.args:=a3;have av:=CE K.symm;subst av;clear K;exact zAC
    .subst K;have b7:¬b+84=f:=z;have b8:¬f=b+84:=z;have b9:¬b+85=f:=z;have b':¬f=b+85:=z;exact zAC
  .have P:AR (Ff N e r st=J st):=⟨by simp only[Ff,c8,ea,dc,Ge]⟩;rcases B.1 with⟨rfl,rfl⟩|⟨f,b3,rfl,b1⟩;all_goals clear B
   .have b2:¬(0:Int)<U e.args:=a3;clear K;exact zB9
   .subst K;exact zB9
def aU(c:Aa)(sz:Al)(i:Nat):Prop:=∀(f:S) (g:u) (e:u) (V:MV) (a:Cy) (b:GL),XV c f e V a->Dr g V e->Ed c sz a.em->Cb c sz a.em b->0<=a.work->a.work<=400->401<=a.work+i->(U a.ev:Int)<=900000+a.work->
 ∃j h,kT (.fn 87) [.ptr e 0,nI b.node,nI b.at_,.d (.co (b.env.map BC))] f g X I=.ok (j,h)/\Kc c g e V f (J9 c i b a) j h
def AKW(i:Aa)(e:S)(g:u)(c:u)(V:MV)(k l b:Int)(p:List C8)(o:e.get c=J (.box (BX i X V k)))(j:AE g c=Z):
 ∃h f,kT (.fn 87) [.ptr c 0,nI l,nI b,.d (.co (p.map BC))] e g X I=.ok (h,f)/\h=.ret (.kw [])/\(∃r,f.get c=J (.box (BX i X V r)))/\∀a,AJ c a=Z->AE g a=Z->f.get a=e.get a:=by
 simp only[BX]at o;have s:=AN j;have t:=Av j;refine Bf func87 ?_;refine aw ?_;refine⟨⟨SE.wrap (k+1),rfl⟩,λa m n=>?_⟩;have q:=AN n;simp only[go_sem,q,m,AM]
def Wq(i:Aa)(j:u)(a:u)(V:MV)(h:S)(b:Nat)(E:List u)(g:S):Option Cy->Prop
 |some k=>∃c,CH (BX i Z) Z j a V h b c k g/\∀f∈E,f∉c.ids a|none=>(∃c l,g.get a=J (.box (BX i X c l)))/\(∀e,e∉V.ids a->AE j e=Z->g.get e=h.get e)/\∀f∈E,AJ a f=Z
variable{p:Aa}{c m:u}{V:MV}{h:S}{r:Option Cy}
def pj{E:List u}(i:Wq p c m V h b E g r):∃j a f,g.get m=J (.box (BX p j a f)):=by
 rcases r with _|k
 .obtain⟨⟨a,f,e⟩,_⟩:=i;exact⟨X,a,f,e⟩
 .obtain⟨a,e,_⟩:=i;exact⟨Z,a,k.work,e.rep.box⟩
variable{a:Nat}
def gy{E:List u}(e:Wq p c m V h b E g r)(k:b<=a):Wq p c m V h a E g r:=by
 rcases r with _|l
 .exact e
 .obtain⟨f,i,j⟩:=e;exact⟨f,i.up k,j⟩
def HA{E:List u}(e:Wq p c m V h b E g r):Kc p c m V h r (.ret (.kw [])) g:=by
 rcases r with _|l
 .exact⟨rfl,e.1,e.2.1⟩
 .obtain⟨f,a,_⟩:=e;exact⟨rfl,f,a.rep,λj i=>(a.ids j i).imp_right λ⟨k,_,h2,h3⟩=>⟨Bt h2,h3⟩,a.frame⟩
structure wO(p:Aa)(π:u)(m:u)(V:MV)(h:S)(b n:Nat)(E:List u)(g g':S)(r:Option Cy):Prop:=
 run:Wq p π m V h (n+1) E g' r
 box:∀k,k<b->g'.get (0::k::π)=g.get (0::k::π)
 pm:∀i∈E,g'.get i=g.get i
def Km{sz:Al}{e:Nat}(ai:aU p sz e){E:List u}(B:Dr c V m)(ag:Wq p c m V h b E g r)(o:GL)(t:∀v,r=J v->Wj p sz e v/\Cb p sz v.em o)(H:S)(f:Nat)(W:b<=f)(s:∀k,(∀j f,b<=f->AJ (j::f::c) k=Z)->H.get k=g.get k)(n:∀a∈E,(∀j e,b<=e->AJ (j::e::c) a=Z)/\AE (f::c) a=Z):
 ∃C w,kT (.fn 87) [.ptr m 0,nI o.node,nI o.at_,.d (.co (o.env.map BC))] H (f::c) X I=.ok (C,w)/\C=.ret (.kw [])/\wO p c m V h b f E g (gc (f::c) w) (r.bind (J9 p e o)):=by
 have Y:=B m (V.q_i m);have aa:=AL Y f;have R:∀e,e<b->H.get (0::e::c)=g.get (0::e::c):=λe A=>s _ λj f W=>AI λF=>by simp at F;omega
 have ar:H.get m=g.get m:=s _ λj f _=>AN Y j f;rcases r with _|v
 .obtain⟨⟨D,ac,P⟩,x,q⟩:=ag;have⟨C,w,q1,q2,⟨w',q3⟩,q4⟩:=AKW p H (f::c) m D ac o.node o.at_ o.env (ar.trans P) aa;refine⟨C,w,q1,q2,⟨⟨D,w',(An _ _ _ aa).trans q3⟩,λk j l=>?_,q⟩,λe A=>?_,λa i=>?_⟩
  .rw[An _ _ _ (AL l f),q4 k (AI λF=>j (by rw[<-F];exact V.q_i m)) (AL l f),s k λj f _=>AN l j f];exact x k j l
  .rw[An _ _ _ (BN c z),q4 _ (Av Y 0 e) (BN c z)];exact R e A
  .rw[An _ _ _ (n a i).2,q4 a (q a i) (n a i).2];exact s a (n a i).1
 .obtain⟨D,Q,N⟩:=ag;have⟨t,hj⟩:=t v rfl;have L:=Q.loc B s;have⟨C,w,P,x⟩:=ai H (f::c) m D v o L.rep (L.apart B W) t.qr hj t.w0 t.w1 t.w2 t.ev;refine⟨C,w,P,?_⟩;rw[GC];rcases hd:J9 p e o v with _|av
  .rw[hd]at x;obtain⟨q,⟨O,ac,M⟩,K⟩:=x;refine⟨q,⟨⟨O,ac,(An _ _ _ aa).trans M⟩,λk j l=>?_,λa i=>AI λF=>N a i (by rw[<-F];exact D.q_i m)⟩,λe A=>?_,λa i=>?_⟩
   .rw[An _ _ _ (AL l f),K k (λT=>?_) (AL l f),s k λj f _=>AN l j f]
    .exact Q.frame k j l
    .rcases Q.ids k T with T|⟨e,_,q,_⟩
     .exact j T
     .rw[Bt q]at l;cases l
   .rw[An _ _ _ (BN c z),K _ (Iu L B e) (BN c z)];exact R e A
   .rw[An _ _ _ (n a i).2,K a (N a i) (n a i).2];exact s a (n a i).1
  .rw[hd]at x;obtain⟨q,M⟩:=x;have⟨O,K,h6⟩:=L.callL B W M;have ad:=oD M;refine⟨q,⟨O,K,λa i=>h6 a (N a i) (n a i).2⟩,λe A=>?_,λa i=>?_⟩
   .rw[An _ _ _ (BN c z),ad _ (Iu L B e) (BN c z)];exact R e A
   .rw[An _ _ _ (n a i).2,ad a (N a i) (n a i).2];exact s a (n a i).1
variable{st:Cy}
def VP{sz:Al}{c:GL}{e:CQ}{d:Bd}{G:Ay}(i:Ao p sz)(a:Gb p sz st.em c e d)(f:G=Ae st.em d e.n c)(b:Int)(k:0<=b)(l:b<=(U d.be)):
 Bq kT 118 [.agg (pC p),.agg [nI e.n,nI c.at_,.d (.co (G.env.map BC))],nI b] []=.ok (.ret (nI (G.place d b)),[]):=by
 have h:d.own<=(U G.env)/\(U G.env)<=10000:=by rw[f,a.env];have:=a.ok.ac;have:=a.ok.be;have⟨_,_,_,_,_,_,hjl⟩:=Lz i a.job;unfold Bd.own;omega
 have g:G.ip=e.n:=by rw[f];rfl
 have j:G.at_=c.at_:=by rw[f];rfl
 have:=VO p G d b (by rw[g];exact a.n0) (by rw[g];exact a.ip) a.ok.ac a.ok.be h.1 h.2 k l
 rwa [g,j]at this
def fW{e:y}{L:List C8}(h:Rf e c g b v L)(n:b<=a):Rf e c g a v L:=by
 rcases h with h|⟨k,f,i,l,m,j⟩
 .exact .inl h
 .exact .inr ⟨k,f,i,l,z,j⟩
theorem kN{p:Aa}{sz:Al}{e:Nat}(bc:Ao p sz)(ar:aU p sz e){h:S}{c:u}{m:u}{V:MV}{st:Cy}(F:Dr c V m){o:GL}{n:CQ}{d:Bd}(Q:Gb p sz st.em o n d){G:Ay}(be:G=Ae st.em d n.n o){av:Option Cy}{C:CW} {g:S} {b:Nat} {ev:y} {r0:Option Cy} (b2:C.get 0=.ptr m 0) (b3:C.get 2=nI o.at_) (b4:C.get 5=.ptr (0::0::c) 0) (b5:C.get 8=.ptr (0::10::c) 0) (b6:C.get 9=.ptr (0::18::c) 0) (bs:52<=b) (aa:Wq p c m V h b (AD ev) g r0)(R:∀i,r0=J i->Wj p sz e i/\∀K∈Cg d G 0 d.be++Bh n 0 o.at_ G.env,Cb p sz i.em K) (q:av=r0.bind (ED (J9 p e) (Cg d G 0 d.be++Bh n 0 o.at_ G.env)))(D:g.get (0::0::c)=J (.box [nI n.op,nI n.n,.d (.co (n.args.map Bm)),.d (.co (n.kids.map AX))])) (L:g.get (0::10::c)=J (.box [.d (.co (d.ac.map BW)),.d (.co (d.be.map BH)),.d (.co (d.rules.map BR))])) (A:g.get (0::18::c)=J (.box [nI n.n,nI o.at_,ev])) (l:Rf .emp c g b ev G.env):
 Wp cfg kT ⟨144,c,X,I,Z,221⟩ 0 (MW 9 (Tryz.f144.body.get rfl)) ⟨C,g,b,[]⟩ (MY cfg I [] c X (Kc p c m V h av)):=by
 have b0:=F m (V.q_i m);have c3:=AN b0;have c4:=Av b0;have c1:=Q.ok.ac;have c2:=Q.ok.be;have cm:=AR.mk (VP bc Q be);replace be:=AB be;replace F:=AB F;replace Q:=AB Q;replace aa:=AB aa;replace R:=AB R;replace q:=AB q;obtain⟨N,b8⟩:∃N,b=N+52:=⟨b-52,z⟩;subst b8;simp[Tryz.f144,MW];refine ax ?_;clear b2 b3 b4 b5 b6;refine Aj d.be (B0:=λa (f:S×Nat)=>⟨[(0,.ptr m 0),(2,nI o.at_),(5,.ptr (0::0::c) 0),(8,.ptr (0::10::c) 0),(9,.ptr (0::18::c) 0),(14,nI a)],f.1,f.2+53,[]⟩)
  (Inv:=λa bx f=>AR (∃r,Wq p c m V h (f.2+53) (AD ev) f.1 r/\(∀i,r=J i->Wj p sz e i/\∀K∈Cg d G a bx++Bh n 0 o.at_ G.env,Cb p sz i.em K)/\av=r.bind (ED (J9 p e) (Cg d G a bx++Bh n 0 o.at_ G.env)))/\f.1.get (0::0::c)=J (.box [nI n.op,nI n.n,.d (.co (n.args.map Bm)),.d (.co (n.kids.map AX))])/\f.1.get (0::10::c)=J (.box [.d (.co (d.ac.map BW)),.d (.co (d.be.map BH)),.d (.co (d.rules.map BR))])/\f.1.get (0::18::c)=J (.box [nI n.n,nI o.at_,ev])/\AR (Rf .emp c f.1 (f.2+53) ev G.env)) (b0:=(_,N)) ⟨⟨r0,gy aa.1 z,R.1,q.1⟩,D,L,A,⟨fW l z⟩⟩ ?_ ?_
 .clear aa R q D L A l bs g N;rintro a bn ⟨g,t⟩ c5 k b' ⟨B,D,L,A,l⟩ bo;dsimp only at*;obtain⟨r,B,s,q⟩:=B.1;obtain⟨cp,b1,c0,a6⟩:=pj B;simp[BX]at a6;have c7:SE.wrap ((a:Int)+1)=(a:Int)+1:=w_ z z;have cl:=cm.1 ((a:Int)+1) z z;have w:=λa (k:a∈AD ev)=>(⟨λf e x=>lK l.1 f e x rfl a k,Jt l.1 (n:=t+53) z rfl a k⟩:(∀f e,t+53<=e->AJ (f::e::c) a=Z)/\AE ((t+53)::c) a=Z);have Y:AR (∀i,r=J i->Wj p sz e i/\Cb p sz i.em ⟨bn.node,G.place d ((a:Int)+1),G.env⟩):=⟨λi h=>⟨(s i h).1,(s i h).2 _ (by rw[Cg];simp)⟩⟩;replace B:=AB B;replace s:=AB s;replace q:=AB q;replace w:=AB w;rcases l.1 with⟨a0,v⟩|⟨H,v,b9,cq,ch,cn,cd⟩
  .rw[v]at A;rw[show G.env.map BC=[] by rw[a0];rfl]at cl;refine ax ?_;rw[show(Ar.co [])=.co (G.env.map BC) by rw[a0];rfl];exact zAH
  .rw[v]at A;have O:=w.1 H (by rw[v];simp[AD]);have cs:=O.1;replace O:=AB O.2;have cu:AJ m H=false:=AI λC=>by grind
   have cv:∀ad,AJ (0::ad) H=false:=λad=>by grind [AI]
   refine ax ?_;exact zAH
 .clear aa R q D L A l bs g N;rintro a ⟨g,t⟩ k b' ⟨B,D,L,A,l⟩;dsimp only at*;obtain⟨r,T,s,q⟩:=B.1;clear B;obtain⟨cp,b1,c0,a6⟩:=pj T;simp[BX]at a6;have b7:=k.1;subst b7;clear k;obtain⟨ac,bv,_⟩:=Q.1.kid;have bi:Cg d G (U d.be) []++Bh n 0 o.at_ G.env=[⟨ac,o.at_,G.env⟩]:=by rw[Bh,bv];rfl
  rw[bi]at s q;have az:av=r.bind (J9 p e ⟨ac,o.at_,G.env⟩):=by rw[q];cases r with|none=>rfl|some c6=>exact m9 _ _ _
  rw[bv]at D;have Y:AR (∀i,r=J i->Wj p sz e i/\Cb p sz i.em ⟨ac,o.at_,G.env⟩):=⟨λi h=>⟨(s i h).1,(s i h).2 _ AG⟩⟩;have w:=λa (k:a∈AD ev)=>(⟨λf e x=>lK l.1 f e x rfl a k,Jt l.1 (n:=t+53) z rfl a k⟩:(∀f e,t+53<=e->AJ (f::e::c) a=Z)/\AE ((t+53)::c) a=Z);replace w:=AB w;replace T:=AB T;replace s:=AB s;replace q:=AB q;replace az:=AB az;replace bi:=AB bi;rcases l.1 with⟨a0,v⟩|⟨H,v,b9,cq,ch,cn,cd⟩
  .rw[v]at A;refine ax ?_;rw[show(Ar.co [])=.co (G.env.map BC) by rw[a0];rfl];exact zAc
  .rw[v]at A;have O:=w.1 H (by rw[v];simp[AD]);have cs:=O.1;replace O:=AB O.2;have cu:AJ m H=false:=AI λC=>by grind
   have cv:∀ad,AJ (0::ad) H=false:=λad=>by grind [AI]
   refine ax ?_;exact zAc
theorem sL{sz:Al}{o:Nat}(ad:Ao p sz)(bi:aU p sz o)(D:Dr c V m)(l:Wj p sz o st){k:GL}{e:CQ}{d:Bd}(j:Gb p sz st.em k e d){G:Ay}(w:G=Ae st.em d e.n k){a:CW}   {ev:y} {n:MV} (L:a.get 0=.ptr m 0) (M:a.get 2=nI k.at_) (N:a.get 5=.ptr (0::0::c) 0) (O:a.get 8=.ptr (0::10::c) 0) (P:a.get 9=.ptr (0::18::c) 0) (cn:52<=b) (i:CH (BX p Z) Z c m V h b n {st with em:=Br st.em d G} g) (x:∀r∈AD ev,r∉n.ids m)(b1:g.get (0::0::c)=J (.box [nI e.op,nI e.n,.d (.co (e.args.map Bm)),.d (.co (e.kids.map AX))])) (b2:g.get (0::10::c)=J (.box [.d (.co (d.ac.map BW)),.d (.co (d.be.map BH)),.d (.co (d.rules.map BR))])) (b3:g.get (0::18::c)=J (.box [nI e.n,nI k.at_,ev])) (bv:Rf .emp c g b ev G.env):
 Wp cfg kT ⟨144,c,X,I,Z,221⟩ 0 (MW 8 (Tryz.f144.body.get rfl)) ⟨a,g,b,[]⟩ (MY cfg I [] c X (Kc p c m V h (R5 (J9 p o) (KI p e k st)))):=by
 have be:=D m (V.q_i m);have cm:=AN be;have bn:=Av be;have F:=j.node;have bs:=j.ip;have cd:=j.ok.ac;have ch:=j.ok.be;obtain⟨t,a1⟩:∃K,K=U st.em.ac:=⟨_,rfl⟩;obtain⟨s,a0⟩:∃K,K=U st.em.be:=⟨_,rfl⟩;obtain⟨v,a2⟩:∃K,K=U st.em.bv:=⟨_,rfl⟩;have W:(Br st.em d G).ac.length=t+U d.ac:=by simp[Br,JR,a1]
 have Y:(Br st.em d G).be.length=s+U d.be:=by simp[Br,HP,a0]
 have aa:(Br st.em d G).bv.length=v+1:=by simp[Br,a2]
 have Q:KI p e k st=if t+U d.ac<=60/\s+U d.be<=24/\v+1<=40 then J ({st with em:=Br st.em d G},Cg d G 0 d.be++Bh e 0 k.at_ G.env)else none:=by simp[KI,bs,<-w,W,Y,aa]
 have a':=l.qr.small;simp[BQ.small]at a';obtain⟨cq,cs,cu,cv⟩:=a';have bo:=i.rep.box;simp[BX]at bo;have C:=Tc i.rep.arr;rw[i.rep.ac.len,W]at C;have A:=Og (i.rep.sl 0 z);simp[BT,Y]at A;have B:=Og (i.rep.sl 1 z);simp[BT,aa]at B;clear W Y aa;have cp:=AR.mk (VP ad j w);replace Q:=AB Q;replace w:=AB w;replace D:=AB D;replace j:=AB j;replace l:=AB l;replace i:=AB i;replace x:=AB x;replace a1:=AB a1;replace a0:=AB a0;replace a2:=AB a2;refine Qg 1 λbk ag=>?_;have R:AR (∀(a:CW) (H:S) (q:Bool),q=decide (¬(t+U d.ac<=60/\s+U d.be<=24/\v+1<=40))->a.get 0=.ptr m 0->a.get 2=(nI k.at_)->a.get 5=.ptr (0::0::c) 0->a.get 8=.ptr (0::10::c) 0->a.get 9=.ptr (0::18::c) 0->H.get m=J (.box (BX p q n st.work))->(∀f,AJ m f=Z->H.get f=g.get f)->Wp cfg kT ⟨144,c,X,I,Z,221⟩ 0 bk ⟨a,H,b+35,[]⟩ (MY cfg I [] c X (Kc p c m V h (R5 (J9 p o) (KI p e k st))))):=⟨λa H q ac b4 b5 b6 b7 b8 bh a3=>by
  rw[ag];have ai:=λo=>a3 (0::o::c) (bn 0 o);refine kN ad bi D.1 (r0:=if q=X then I else J {st with em:=Br st.em d G}) (ev:=ev) j.1 w.1 b4 b5 b6 b7 b8 z ?_ ?_ ?_ ((ai 0).trans b1) ((ai 10).trans b2) ((ai 18).trans b3) (fW (U1 bv λr av=>a3 r (AI λa=>x.1 r av (by rw[<-a];exact n.q_i m))) z)
  .cases q with
   |true=>rw[D4 rfl];exact⟨⟨n,st.work,bh⟩,λf a4 bl=>(a3 f (AI λa=>a4 (by rw[<-a];exact V.q_i m))).trans (i.1.frame f a4 bl),λr av=>AI λa=>x.1 r av (by rw[<-a];exact n.q_i m)⟩
   |false=>
    rw[Co AG];refine⟨n,(i.1.loc (H:=H) D.1 λf _=>?_).up z,x.1⟩;by_cases b0:f=m
    .rw[b0,bh];exact i.1.rep.box.symm
    grind [AI]
  .intro cl bc;cases q with
   |true=>grind
   |false=>
    rw[Co AG]at bc;cases bc;have bx:=Decidable.of_not_not (of_decide_eq_false ac.symm);have a6:=kO (d8:={st with em:=Br st.em d G}) ad l.1.qr j.1.job F j.1.op (by rw[Q.1,D4 bx])
    exact⟨⟨a6.qr,l.1.w0,l.1.w1,l.1.w2,l.1.ev⟩,a6.jobs⟩
  .rw[Q.1];cases q with|true=>rw[Co (of_decide_eq_true ac.symm)];rfl|false=>rw[D4 (Decidable.of_not_not (of_decide_eq_false ac.symm))];rfl⟩
 replace ag:=AB ag;have a5:¬(t+U d.ac<=60/\s+U d.be<=24/\v+1<=40)\/(t+U d.ac<=60/\s+U d.be<=24/\v+1<=40):=z;replace a5:=AB a5;by_cases cc:(60:Int)<(t+U d.ac:Nat)
 .exact zAL
 by_cases b9:(24:Int)<(s+U d.be:Nat)
 .exact zAL
 by_cases b':(40:Int)<(v+1:Nat)
 .exact zAL
 .simp[Tryz.f144,MW,R4]
  (repeat' (first|simp only[*,go_sem,↓C,↓A,↓B,AM]|(refine sx ?_ ?_<;>intro ar)|refine sy z λe F az=>?_|simp(disch:=first|assumption|omega) only[Ad]))
  refine R.1 _ _ Z ?_ L M N O P ?_ λf T=>?_
  .grind
  .simp only[go_sem,BX]
  exact Ba
theorem sM{p:Aa}{sz:Al}{aa:Nat}(d9:Ao p sz)(ek:aU p sz aa){h:S}{c:u}{m:u}{V:MV}{st:Cy}(dm:XV p h m V st)(P:Dr c V m)(b3:Wj p sz aa st){a2:GL}{l:CQ}{d:Bd}(bo:Gb p sz st.em a2 l d){G:Ay}(b2:G=Ae st.em d l.n a2){j:CW} {g:S} {b:Nat} {ev:y} (er:j.get 0=.ptr m 0) (es:j.get 2=nI a2.at_) (et:j.get 5=.ptr (0::0::c) 0) (ex:j.get 8=.ptr (0::10::c) 0) (e0:j.get 9=.ptr (0::18::c) 0) (eb:32<=b) (b9:∀a,AE c a=Z->g.get a=h.get a)(bk:g.get (0::0::c)=J (.box [nI l.op,nI l.n,.d (.co (l.args.map Bm)),.d (.co (l.kids.map AX))])) (bl:g.get (0::10::c)=J (.box [.d (.co (d.ac.map BW)),.d (.co (d.be.map BH)),.d (.co (d.rules.map BR))])) (a':g.get (0::18::c)=J (.box [nI l.n,nI a2.at_,ev])) (bx:PC .emp c g b ev G.env):
 Wp cfg kT ⟨144,c,X,I,Z,221⟩ 0 (MW 5 (Tryz.f144.body.get rfl)) ⟨j,g,b,[]⟩ (MY cfg I [] c X (Kc p c m V h (R5 (J9 p aa) (KI p l a2 st)))):=by
 have eg:=P m (V.q_i m);have fr:=AN eg;have a5:=Av eg;have fo:=bo.ok.ac;have fp:=bo.ok.be;have bi:G.ip=l.n:=by rw[b2];rfl
 have bh:G.at_=a2.at_:=by rw[b2];rfl
 have ec:=b3.qr.small;simp only[BQ.small,As,D3]at ec;obtain⟨f0,f5,f7,f8⟩:=ec;have⟨ng,cx⟩:=C6 (U st.em.bv);have⟨n3,c8⟩:=C6 (U st.em.ac);have⟨n0,cu⟩:=C6 (U st.em.be);have f6:ng<=40:=z;have⟨NC,ch⟩:=C6 (Eh d G ng 0 d.ac);have c3:∀(b0:Nat) e,d.ac[b0]?=J e->NC[b0]?=J ⟨ng,b0,G.place d e.at_,[]⟩:=λb0 e ad=>by grind [Gz]
 have ef:=AR.mk (VP d9 bo b2);have f:AR (CH (BX p Z) Z c m V h b V st g):=⟨(RK dm P b9).up z⟩;refine Qg 3 λel dr=>?_;have b7:AR (∀(j:CW) (H:S) (e:Nat),j.get 0=.ptr m 0->j.get 2=(nI a2.at_)->j.get 5=.ptr (0::0::c) 0->j.get 8=.ptr (0::10::c) 0->j.get 9=.ptr (0::18::c) 0->(∃W,CH (BX p Z) Z c m V h (e+52) W {st with em:=Br st.em d G} H/\∀i∈AD ev,i∉W.ids m)->H.get (0::0::c)=J (.box [nI l.op,nI l.n,.d (.co (l.args.map Bm)),.d (.co (l.kids.map AX))])->H.get (0::10::c)=J (.box [.d (.co (d.ac.map BW)),.d (.co (d.be.map BH)),.d (.co (d.rules.map BR))])->H.get (0::18::c)=J (.box [nI l.n,nI a2.at_,ev])->Rf .emp c H (e+52) ev G.env->Wp cfg kT ⟨144,c,X,I,Z,221⟩ 0 el ⟨j,H,e+52,[]⟩ (MY cfg I [] c X (Kc p c m V h (R5 (J9 p aa) (KI p l a2 st))))):=⟨λj H e ej e8 e9 e' fc d0 fd fi fl e4=>by obtain⟨W,d0,e5⟩:=d0;rw[dr];exact sL d9 ek P b3 bo b2 ej e8 e9 e' fc z d0 e5 fd fi fl e4⟩
 replace dr:=AB dr;replace dm:=AB dm;replace P:=AB P;refine xp ?_ bo b3 b2 cx c8 cu ch c3 b9;clear bo b3 b2 cx c8 cu ch c3 b9;intro bo b3 b2 cx c8 cu ch c3 b9;obtain⟨N,e3⟩:∃N,b=N+32:=⟨b-32,z⟩;subst e3;simp only[Tryz.f144,Option.get_some,MW,R4];refine aw ?_;clear er es et ex e0;refine Aj d.ac (B0:=λi (n:S×Nat)=>⟨[(0,.ptr m 0),(2,nI a2.at_),(5,.ptr (0::0::c) 0),(8,.ptr (0::10::c) 0),(9,.ptr (0::18::c) 0),(12,nI i)],n.1,n.2+33,[]⟩)
  (Inv:=λi e6 n=>AR (∃q,CH (BX p Z) Z c m V h (n.2+33) q {st with em:={st.em with ac:=st.em.ac++NC.take i}} n.1/\∀i∈AD ev,i∉q.ids m)/\n.1.get (0::0::c)=J (.box [nI l.op,nI l.n,.d (.co (l.args.map Bm)),.d (.co (l.kids.map AX))])/\n.1.get (0::10::c)=J (.box [.d (.co (d.ac.map BW)),.d (.co (d.be.map BH)),.d (.co (d.rules.map BR))])/\n.1.get (0::18::c)=J (.box [nI l.n,nI a2.at_,ev])/\AR (PC .emp c n.1 (n.2+33) ev G.env)) (b0:=(_,N)) ⟨⟨V,?_,AFz bx P.1⟩,bk,bl,a',⟨Td bx z⟩⟩ ?_ ?_
 .rw[Lw,CS];exact f.1.up z
 .clear f bx b9 bk bl a' eb g N;rintro i be ⟨g,e⟩ c2 o c6 ⟨f,bk,bl,a',Q⟩ bn;dsimp only at*;have⟨q,f,ag⟩:=f.1;have bc:=SM Q.1 (e+73);have c9:=bo.1.ok.chan be (AP c2);have e7:SE.wrap ((i:Int)+1)=(i:Int)+1:=w_ z z;have K:=f.rep.box;have dx:=ef.1 be.at_ c9.1 c9.2.1;simp only[BX]at K;have cq:=Og (f.rep.sl 1 z);simp only[BT,BV,<-cx.1]at cq;have av:=f.rep.arr;have d8:AR (∀A,q.v3=.ii A 0 (U q.rows)->(∀n r,e+33<=r->AJ (n::r::c) A=Z)/\(∀n r,e+33<=r->AJ A (n::r::c)=Z)/\AJ A m=Z/\AJ m A=Z/\∀aa,AJ A (0::aa::c)=Z):=⟨λA dj=>by have o:=f.ids A (q.q_p m (by rw[dj];simp[AD]));have a6:=Ky f.rep.arr (id:=A) (by rw[dj];simp[AD]);exact⟨GJ (b':=0) P.1 o,JS P.1 o,AI λj=>(by rw[j,K]at a6;cases a6),AI λj=>zCI,λaa=>AI λj=>Iu f P.1 aa (by rw[<-j];exact q.q_p m (by rw[dj];simp[AD]))⟩⟩
  have fz:U q.rows<=1000:=by have:=f.rep.ac.len;simp only[Dl,F3]at this;omega
  have Y:AR (∀H:S,H.get m=J (.box (BX p Z {q with v3:=.ii (1::(e+65)::c) 0 (U q.rows+1)} st.work))->H.get (1::(e+65)::c)=J (.arr 4 (q.rows++[CF ⟨ng,i,G.place d be.at_,[]⟩ .d9]))->(∀a,AJ m a=Z->(∀F∈AD q.v3,AJ F a=Z)->FJ (e+33) (e+73) c a=Z->H.get a=g.get a)->∃W,CH (BX p Z) Z c m V h (e+73) W {st with em:={st.em with ac:=st.em.ac++NC.take (i+1)}} H/\∀i∈AD ev,i∉W.ids m):=⟨λH b' em cc=>by have⟨W,z1,z2⟩:=f.step (b':=e+73) z (AEJ f.rep (f.q_v P.1) (q:=⟨ng,i,G.place d be.at_,[]⟩) rfl (1::(e+65)::c) H b' em ⟨De (e+65) [1] z z,_,rfl⟩ cc);rw[Ex,c3.1 i be c2,<-F0];grind⟩
  refine M9 ?_ bc ag f;clear bc ag f;intro bc ag f;replace Q:=Q.1;rcases Q with⟨L,rfl⟩|⟨a,rfl,a6,r,cv,M,O⟩
  .rw[L,Ci]at dx;replace L:=AB L;rcases av with⟨av,c0⟩|⟨A,av,d7⟩
   .rw[av]at K
    (repeat' (first|simp only[*,go_sem,↓cq,F2,AM]|(refine sx ?_ ?_<;>intro ad)|refine sy z λl a1 a0=>?_|simp(disch:=first|assumption|omega) only[Ad]))
    refine bn.1 (_,_) ⟨⟨Y.1 _ ?_ ?_ λF ac D s=>?_⟩,?_,?_,?_,⟨.inl ⟨L.1,rfl⟩⟩⟩
    .rw[c0];simp only[go_sem,BX,AM]<;>rfl
    .rw[c0];simp only[go_sem,a5,CF,AM]<;>rfl
    .have a3:=Aw s;exact Ba
    .exact Ba
    .exact Ba
    exact Ba
   .have⟨t,w,x,B,C⟩:=d8.1 A av;rw[av]at K
    (repeat' (first|simp only[*,go_sem,↓cq,F2,AM]|(refine sx ?_ ?_<;>intro ad)|refine sy z λl a1 a0=>?_|simp(disch:=first|assumption|omega) only[Ad]))
    refine bn.1 (_,_) ⟨⟨Y.1 _ ?_ ?_ λF ac D s=>?_⟩,?_,?_,?_,⟨.inl ⟨L.1,rfl⟩⟩⟩
    .simp only[go_sem,BX,AM,t,w,x,B,C]<;>rfl
    .simp only[go_sem,a5,CF,AM,t,w,x,B,C]<;>rfl
    .have a3:=Aw s;have bs:=D A (by rw[av];simp[AD]);exact Ba
    .exact Ba
    .exact Ba
    exact Ba
  .have⟨f1,f2,f3,f4⟩:=GI cv M O;have ar:AJ m a=false:=AI λj=>by grind
   have ai:AJ a m=false:=Rn a6 K;replace M:=AB M;replace O:=AB O;rcases av with⟨av,c0⟩|⟨A,av,d7⟩
   .rw[av]at K
    (repeat' (first|simp only[*,go_sem,↓cq,F2,AM]|(refine sx ?_ ?_<;>intro ad)|refine sy z λl a1 a0=>?_|simp(disch:=first|assumption|omega) only[Ad]))
    refine bn.1 (_,_) ⟨⟨Y.1 _ ?_ ?_ λF ac D s=>?_⟩,?_,?_,?_,⟨.inr ⟨a,rfl,?_,r,z,M.1,O.1⟩⟩⟩
    .rw[c0];simp only[go_sem,BX,AM,f1,f2,f3,f4,ar,ai]<;>rfl
    .rw[c0];simp only[go_sem,a5,CF,AM,f1,f2,f3,f4,ar,ai]<;>rfl
    .have a3:=Aw s;exact Ba
    .exact Ba
    .exact Ba
    .exact Ba
    exact Ba
   .have⟨t,w,x,B,C⟩:=d8.1 A av;rw[av]at K;have b1:AJ A a=false:=Rn d7 a6;have b5:AJ a A=false:=AI λj=>by grind
    (repeat' (first|simp only[*,go_sem,↓cq,F2,AM]|(refine sx ?_ ?_<;>intro ad)|refine sy z λl a1 a0=>?_|simp(disch:=first|assumption|omega) only[Ad]))
    refine bn.1 (_,_) ⟨⟨Y.1 _ ?_ ?_ λF ac D s=>?_⟩,?_,?_,?_,⟨.inr ⟨a,rfl,?_,r,z,M.1,O.1⟩⟩⟩
    .simp only[go_sem,BX,AM,f1,f2,f3,f4,ar,ai,t,w,x,B,C,b1,b5]<;>rfl
    .simp only[go_sem,a5,CF,AM,f1,f2,f3,f4,ar,ai,t,w,x,B,C,b1,b5]<;>rfl
    .have a3:=Aw s;have bs:=D A (by rw[av];simp[AD]);exact Ba
    .exact Ba
    .exact Ba
    .exact Ba
    exact Ba
 .clear f bx b9 bk bl a' eb g N;rintro i ⟨g,e⟩ o c6 ⟨f,bk,bl,a',Q⟩;dsimp only at*;have df:=o.1;subst df;clear o;have cl:U NC=U d.ac:=by rw[ch.1,JR]
  rw[<-cl,F2]at f;have⟨V0,cn,cp⟩:=f.1;clear f;replace cp:=AB cp;replace cn:=AB cn;have bx:=Q;clear Q;refine aw ?_;have⟨NS,cm⟩:=C6 (Ei d G d.be);have c4:∀(b0:Nat) e,d.be[b0]?=J e->NS[b0]?=J ⟨G.place d e.in_,Z⟩:=λb0 e ad=>by grind [Ei]
  have c5:U NS=U d.be:=by rw[cm,HP]
  have fv:1<=n0:=by rw[cu.1];exact b3.1.qr.tree.pos
  refine Zt ?_ cm c4 cl c5;clear cm c4 cl c5;intro cm c4 cl c5;refine Aj d.be (B0:=λi (n:S×Nat)=>⟨[(0,.ptr m 0),(2,nI a2.at_),(5,.ptr (0::0::c) 0),(8,.ptr (0::10::c) 0),(9,.ptr (0::18::c) 0),(13,nI i)],n.1,n.2+34,[]⟩)
   (Inv:=λi e6 n=>AR (∃q,CH (BX p Z) Z c m V h (n.2+34) q {st with em:={st.em with ac:=st.em.ac++NC,be:=st.em.be++NS.take i}} n.1/\∀i∈AD ev,i∉q.ids m)/\n.1.get (0::0::c)=J (.box [nI l.op,nI l.n,.d (.co (l.args.map Bm)),.d (.co (l.kids.map AX))])/\n.1.get (0::10::c)=J (.box [.d (.co (d.ac.map BW)),.d (.co (d.be.map BH)),.d (.co (d.rules.map BR))])/\n.1.get (0::18::c)=J (.box [nI l.n,nI a2.at_,ev])/\AR (PC .emp c n.1 (n.2+34) ev G.env)) (b0:=(_,e+5)) ⟨⟨V0,?_,cp.1⟩,bk,bl,a',⟨Td bx.1 z⟩⟩ ?_ ?_
  .rw[Lw,CS];exact cn.1.up z
  .clear cn cp bx bk bl a' g e V0;rintro i be ⟨g,e⟩ c2 o c6 ⟨f,bk,bl,a',Q⟩ bn;dsimp only at*;have⟨q,f,ag⟩:=f.1;have bc:=SM Q.1 (e+67);have c9:=Sa bo.1.ok.spot i be c2;have e7:SE.wrap ((i:Int)+1)=(i:Int)+1:=w_ z z;have K:=f.rep.box;have dx:=ef.1 be.in_ c9.1 z;simp only[BX]at K;have k:=f.rep.sl 0 z;have⟨LS,b6⟩:=C6 (st.em.be++NS.take i);have fs:U LS<=100:=by rw[b6];simp;omega
   simp only[Ie,BT,<-b6]at k;have e2:LS≠ []:=by
    intro j;have e1:U LS=0:=by rw[j];rfl
    rw[b6,Dl]at e1;have:=b3.1.qr.tree.pos;omega
   rcases k with⟨_,k⟩|⟨B0,az,k,de⟩
   .exact absurd (D7.1 k) e2
   have Y:AR (∀(v:y) (H:S),H.get m=J (.box (BX p Z (q.nl 0 v) st.work))->PV H 2 v ((LS++[(⟨G.place d be.in_,Z⟩:CN)]).map Ch)->(AD v=AD (q.s 0)\/∀a∈AD v,FJ (e+34) (e+67) c a=X/\∃d4,a=1::d4)->(∀a,AJ m a=Z->(∀F∈AD (q.s 0),AJ F a=Z)->FJ (e+34) (e+67) c a=Z->H.get a=g.get a)->∃W,CH (BX p Z) Z c m V h (e+67) W {st with em:={st.em with ac:=st.em.ac++NC,be:=st.em.be++NS.take (i+1)}} H/\∀i∈AD ev,i∉W.ids m):=⟨λv H b' dc dd cc=>by
    have⟨W,z1,z2⟩:=f.step (b':=e+67) z (Hr (d8:={st with em:={st.em with ac:=st.em.ac++NC,be:=LS++[⟨G.place d be.in_,Z⟩]}}) 0 z f.rep (f.q_v P.1) (mo rfl rfl rfl) rfl v H b' dc dd cc)
    rw[Ex,c4.1 i be c2,<-F0,<-b6];grind⟩
   replace bc:=AB bc;replace ag:=AB ag;rw[BV]at k;have ea:=f.ids B0 (q.q_j m (i:=0) z (by rw[k];simp[AD]));have t:=λn r cs=>GJ (b':=0) P.1 ea n r cs;have w:=λn r cs=>JS P.1 ea n r cs;have x:AJ B0 m=false:=Rn de K;have B:AJ m B0=false:=AI λj=>by grind
   have C:∀aa,AJ B0 (0::aa::c)=false:=λaa=>AI λj=>Iu f P.1 aa zC2;rw[k]at K;replace b6:=AB b6;replace f:=AB f;replace Q:=Q.1;rcases Q with⟨L,rfl⟩|⟨a,rfl,a6,r,cv,M,O⟩
   .rw[L,Ci]at dx;replace L:=AB L;rcases az with _|⟨d5,az⟩
    ·(repeat' (first|simp only[*,go_sem,F2,AM]|(refine sx ?_ ?_<;>intro ad)|refine sy z λl a1 a0=>?_|simp(disch:=first|assumption|omega) only[Ad]))
     refine bn.1 (_,_) ⟨⟨Y.1 (.ii (1::(e+59)::c) 0 (U LS+1)) _ ?_ (BO [] AG ?_) (.inr λF T=>?_) λF ac D s=>?_⟩,?_,?_,?_,⟨.inl ⟨L.1,rfl⟩⟩⟩
     .simp only[go_sem,BX,AM,t,w,x,B,C]<;>rfl
     .simp only[go_sem,a5,Ap,Ci,AM,t,w,x,B,C]<;>rfl
     .simp only[AD,AS]at T;subst T;exact⟨De (e+59) [1] z z,_,rfl⟩
     .exact zAV
     .exact Ba
     .exact Ba
     exact Ba
    ·(repeat' (first|simp only[*,go_sem,F2,AM]|(refine sx ?_ ?_<;>intro ad)|refine sy z λl a1 a0=>?_|simp(disch:=first|assumption|omega) only[Ad]))
     refine bn.1 (_,_) ⟨⟨Y.1 (.ii B0 0 (U LS+1)) _ ?_ (BO az AG ?_) (.inl (by rw[k];rfl)) λF ac D s=>?_⟩,?_,?_,?_,⟨.inl ⟨L.1,rfl⟩⟩⟩
     .simp only[go_sem,BX,AM,t,w,x,B,C]<;>rfl
     .simp only[go_sem,a5,Ap,Ci,AM,t,w,x,B,C]<;>rfl
     .exact zAV
     .exact Ba
     .exact Ba
     exact Ba
   .have⟨f1,f2,f3,f4⟩:=GI cv M O;have ar:AJ m a=false:=AI λj=>by grind
    have ai:AJ a m=false:=Rn a6 K;have b1:AJ B0 a=false:=AI λj=>ag.1 a Az zC2;have b5:AJ a B0=false:=AI λj=>by grind [q_c]
    replace M:=AB M;replace O:=AB O;rcases az with _|⟨d5,az⟩
    ·(repeat' (first|simp only[*,go_sem,F2,AM]|(refine sx ?_ ?_<;>intro ad)|refine sy z λl a1 a0=>?_|simp(disch:=first|assumption|omega) only[Ad]))
     refine bn.1 (_,_) ⟨⟨Y.1 (.ii (1::(e+59)::c) 0 (U LS+1)) _ ?_ (BO [] AG ?_) (.inr λF T=>?_) λF ac D s=>?_⟩,?_,?_,?_,⟨.inr ⟨a,rfl,?_,r,z,M.1,O.1⟩⟩⟩
     .simp only[go_sem,BX,AM,t,w,x,B,C,f1,f2,f3,f4,ar,ai,b1,b5]<;>rfl
     .simp only[go_sem,a5,Ap,Ci,AM,t,w,x,B,C,f1,f2,f3,f4,ar,ai,b1,b5]<;>rfl
     .simp only[AD,AS]at T;subst T;exact⟨De (e+59) [1] z z,_,rfl⟩
     .exact zAV
     .exact Ba
     .exact Ba
     .exact Ba
     exact Ba
    ·(repeat' (first|simp only[*,go_sem,F2,AM]|(refine sx ?_ ?_<;>intro ad)|refine sy z λl a1 a0=>?_|simp(disch:=first|assumption|omega) only[Ad]))
     refine bn.1 (_,_) ⟨⟨Y.1 (.ii B0 0 (U LS+1)) _ ?_ (BO az AG ?_) (.inl (by rw[k];rfl)) λF ac D s=>?_⟩,?_,?_,?_,⟨.inr ⟨a,rfl,?_,r,z,M.1,O.1⟩⟩⟩
     .simp only[go_sem,BX,AM,t,w,x,B,C,f1,f2,f3,f4,ar,ai,b1,b5]<;>rfl
     .simp only[go_sem,a5,Ap,Ci,AM,t,w,x,B,C,f1,f2,f3,f4,ar,ai,b1,b5]<;>rfl
     .exact zAV
     .exact Ba
     .exact Ba
     .exact Ba
     exact Ba
  .clear cn cp bx bk bl a' g e V0 c6;rintro i ⟨g,e⟩ o c6 ⟨f,bk,bl,a',Q⟩;dsimp only at*;have df:=o.1;subst df;clear o;have dn:=c5.1;rw[<-dn,F2]at f;have⟨q,hR9,ag⟩:=f.1;clear f;have f:=hR9;clear hR9;have bc:=SM Q.1 (e+52);have K:=f.rep.box;simp only[BX]at K;have bv:=Tc f.rep.arr;rw[f.rep.ac.len]at bv;simp only[Dl,<-c8.1,cl.1]at bv;have b4:=Og (f.rep.sl 0 z);simp only[BT,BV,Dl,<-cu.1,dn]at b4;have k:=f.rep.sl 1 z;simp only[Ie,BT]at k;clear dn;have Y:AR (∀(cd:S) (v:y) (H:S),(∀i∈q.ids m,cd.get i=g.get i)->(∀i,AE c i=Z->cd.get i=g.get i)->H.get m=J (.box (BX p Z (q.nl 1 v) st.work))->PV H 3 v ((st.em.bv++[G]).map Cf)->(AD v=AD (q.s 1)\/∀a∈AD v,FJ (e+34) (e+52) c a=X/\∃d4,a=1::d4)->(∀a,AJ m a=Z->(∀F∈AD (q.s 1),AJ F a=Z)->FJ (e+34) (e+52) c a=Z->H.get a=cd.get a)->∃W,CH (BX p Z) Z c m V h (e+52) W {st with em:=Br st.em d G} H/\∀i∈AD ev,i∉W.ids m):=⟨λcd v H ac D b' dc dd cc=>by
    have dq:CH (BX p Z) Z c m V h (e+34) q {st with em:={st.em with ac:=st.em.ac++NC,be:=st.em.be++NS}} cd:=⟨Fv f.rep ac,f.ids,λa en d6=>(D a d6).trans (f.frame a en d6)⟩
    have⟨W,z1,z2⟩:=dq.step (b':=e+52) z (Hr (d8:={st with em:={st.em with ac:=st.em.ac++NC,be:=st.em.be++NS,bv:=st.em.bv++[G]}}) 1 z dq.rep (dq.q_v P.1) (AOq rfl rfl rfl) rfl v H b' dc dd cc)
    refine⟨W,?_,λi o=>z2 i (ag i o) (bc i o)⟩;rw[Br,<-cx.1,<-ch.1,<-cm.1];exact z1⟩
   have c':AR (∀B0,q.s 1=.ii B0 0 (U st.em.bv)->(∀n r,e+34<=r->AJ (n::r::c) B0=Z)/\(∀n r,e+34<=r->AJ B0 (n::r::c)=Z)/\AJ B0 m=Z/\AJ m B0=Z/\(∀aa,AJ B0 (0::aa::c)=Z)/\(∀i∈AD ev,AJ B0 i=Z/\AJ i B0=Z)):=⟨λB0 d'=>by have c7:B0∈q.ids m:=q.q_j m (i:=1) z (by rw[d'];simp[AD]);have o:=f.ids B0 c7;have⟨ej,a6⟩:=O3 (f.rep.sl 1 z) (id:=B0) (by rw[d'];simp[AD]);exact⟨λn r cs=>GJ (b':=0) P.1 o n r cs,JS P.1 o,AI λj=>(by rw[j,K]at a6;cases a6),AI λj=>zCI,λaa=>AI λj=>Iu f P.1 aa (by rw[<-j];exact c7),λi o=>⟨AI λj=>ag i o (by rw[<-j];exact c7),AI λj=>ag i o (by rw[j];exact c7)⟩⟩⟩
   have d3:AR (∀i∈q.ids m,∀b8∈AD ev,AJ b8 i=Z):=⟨λi o b8 ds=>AI λj=>ag b8 ds (by rw[j];exact o)⟩;have d2:AR (∀i,AE c i=Z->∀b8∈AD ev,AJ b8 i=Z):=⟨λi o b8 ds=>AI λj=>by
    rcases Q.1 with⟨_,rfl⟩|⟨a,rfl,_,r,_,M,_⟩
    .simp[AD]at ds
    grind [AD,Bt]⟩
   refine M9 ?_ bc ag f;clear bc ag f;intro bc ag f;replace Q:=Q.1;rcases Q with⟨L,R⟩|⟨a,R,a6,r,cv,M,O⟩
   .rw[R]at a';rcases k with⟨k,d1⟩|⟨B0,az,k,de⟩
    .have c1:=AR.mk (D7.1 d1);rw[k]at K
     (repeat' (first|simp only[*,go_sem,↓bv,↓b4,AM]|(refine sx ?_ ?_<;>intro ad)|refine sy z λl a1 a0=>?_|simp(disch:=first|assumption|omega) only[Ad]))
     refine b7.1 _ _ _ rfl rfl rfl rfl rfl (Y.1 g (.ii (1::(e+47)::c) 0 1) _ (λ_ _=>rfl) (λ_ _=>rfl) ?_ (BO [] ?_ ?_) (.inr λF T=>?_) λF ac D s=>?_) ?_ ?_ ?_ ?_
     .simp only[go_sem,BX,AM,bi,bh,L]<;>rfl
     .rw[c1.1];rfl
     .rw[c1.1];exact Ba
     .exact zAu
     .have a3:=Aw s;exact Ba
     .exact Ba
     .exact Ba
     .exact Ba
     .exact .inl ⟨L,R⟩
    .rw[BV]at k;rcases az with _|⟨d5,az⟩
     .have⟨t,w,x,B,C,a4⟩:=c'.1 B0 k;replace a4:=AB a4;rw[k]at K
      (repeat' (first|simp only[*,go_sem,↓bv,↓b4,AM]|(refine sx ?_ ?_<;>intro ad)|refine sy z λl a1 a0=>?_|simp(disch:=first|assumption|omega) only[Ad]))
      refine b7.1 _ _ _ rfl rfl rfl rfl rfl (Y.1 g (.ii (1::(e+47)::c) 0 (U st.em.bv+1)) _ (λ_ _=>rfl) (λ_ _=>rfl) ?_ (BO [] ?_ ?_) (.inr λF T=>?_) λF ac D s=>?_) ?_ ?_ ?_ ?_
      .simp only[go_sem,BX,AM,bi,bh,t,w,x,B,C,L]<;>rfl
      .simp
      .simp only[go_sem,a5,Ap,Ci,AM,bi,bh,t,w,x,B,C,L]<;>rfl
      .exact zAu
      .exact zAV
      .exact Ba
      .exact Ba
      .exact Ba
      .exact .inl ⟨L,R⟩
     .have⟨t,w,x,B,C,a4⟩:=c'.1 B0 k;replace a4:=AB a4;rw[k]at K
      (repeat' (first|simp only[*,go_sem,↓bv,↓b4,AM]|(refine sx ?_ ?_<;>intro ad)|refine sy z λl a1 a0=>?_|simp(disch:=first|assumption|omega) only[Ad]))
      refine b7.1 _ _ _ rfl rfl rfl rfl rfl (Y.1 g (.ii B0 0 (U st.em.bv+1)) _ (λ_ _=>rfl) (λ_ _=>rfl) ?_ (BO az ?_ ?_) (.inl (by rw[k];rfl)) λF ac D s=>?_) ?_ ?_ ?_ ?_
      .simp only[go_sem,BX,AM,bi,bh,t,w,x,B,C,L]<;>rfl
      .simp
      .simp only[go_sem,a5,Ap,Ci,AM,bi,bh,t,w,x,B,C,L]<;>rfl
      .exact zAV
      .exact Ba
      .exact Ba
      .exact Ba
      .exact .inl ⟨L,R⟩
   .rw[R]at a';have⟨f1,f2,f3,f4⟩:=GI cv M O;have ar:AJ m a=false:=AI λj=>by grind
    have ai:AJ a m=false:=Rn a6 K;replace M:=AB M;replace O:=AB O;rcases k with⟨k,d1⟩|⟨B0,az,k,de⟩
    .have c1:=AR.mk (D7.1 d1);rw[k]at K
     (repeat' (first|simp only[*,go_sem,↓bv,↓b4,AM]|(refine sx ?_ ?_<;>intro ad)|refine sy z λl a1 a0=>?_|simp(disch:=first|assumption|omega) only[Ad]))
     refine b7.1 _ _ _ rfl rfl rfl rfl rfl (Y.1 (g.put a (.v6 2 (G.env.map BC))) (.ii (1::(e+47)::c) 0 1) _ (λi o=>by rw[p_,d3.1 i o a zCV];simp) (λi o=>by rw[p_,d2.1 i o a zCV];simp) ?_ (BO [] ?_ ?_) (.inr λF T=>?_) λF ac D s=>?_) ?_ ?_ ?_ ?_
     .simp only[go_sem,BX,AM,bi,bh,f1,f2,f3,f4,ar,ai]<;>rfl
     .rw[c1.1];rfl
     .rw[c1.1];exact Ba
     .exact zAu
     .have a3:=Aw s;exact Ba
     .exact Ba
     .exact Ba
     .exact Ba
     .exact zCC
    .rw[BV]at k;rcases az with _|⟨d5,az⟩
     .have⟨t,w,x,B,C,a4⟩:=c'.1 B0 k;have⟨q9,q10⟩:=a4 a zCV;replace a4:=AB a4;rw[k]at K
      (repeat' (first|simp only[*,go_sem,↓bv,↓b4,AM]|(refine sx ?_ ?_<;>intro ad)|refine sy z λl a1 a0=>?_|simp(disch:=first|assumption|omega) only[Ad]))
      refine b7.1 _ _ _ rfl rfl rfl rfl rfl (Y.1 (g.put a (.v6 2 (G.env.map BC))) (.ii (1::(e+47)::c) 0 (U st.em.bv+1)) _ (λi o=>by rw[p_,d3.1 i o a zCV];simp) (λi o=>by rw[p_,d2.1 i o a zCV];simp) ?_ (BO [] ?_ ?_) (.inr λF T=>?_) λF ac D s=>?_) ?_ ?_ ?_ ?_
      .simp only[go_sem,BX,AM,bi,bh,t,w,x,B,C,q9,q10,f1,f2,f3,f4,ar,ai]<;>rfl
      .simp
      .simp only[go_sem,a5,Ap,Ci,AM,bi,bh,t,w,x,B,C,q9,q10,f1,f2,f3,f4,ar,ai]<;>rfl
      .exact zAu
      .exact zAV
      .exact Ba
      .exact Ba
      .exact Ba
      .exact zCC
     .have⟨t,w,x,B,C,a4⟩:=c'.1 B0 k;have⟨q9,q10⟩:=a4 a zCV;replace a4:=AB a4;rw[k]at K
      (repeat' (first|simp only[*,go_sem,↓bv,↓b4,AM]|(refine sx ?_ ?_<;>intro ad)|refine sy z λl a1 a0=>?_|simp(disch:=first|assumption|omega) only[Ad]))
      refine b7.1 _ _ _ rfl rfl rfl rfl rfl (Y.1 (g.put a (.v6 2 (G.env.map BC))) (.ii B0 0 (U st.em.bv+1)) _ (λi o=>by rw[p_,d3.1 i o a zCV];simp) (λi o=>by rw[p_,d2.1 i o a zCV];simp) ?_ (BO az ?_ ?_) (.inl (by rw[k];rfl)) λF ac D s=>?_) ?_ ?_ ?_ ?_
      .simp only[go_sem,BX,AM,bi,bh,t,w,x,B,C,q9,q10,f1,f2,f3,f4,ar,ai]<;>rfl
      .simp
      .simp only[go_sem,a5,Ap,Ci,AM,bi,bh,t,w,x,B,C,q9,q10,f1,f2,f3,f4,ar,ai]<;>rfl
      .exact zAV
      .exact Ba
      .exact Ba
      .exact Ba
      .exact zCC
def AI7{p:Aa}{sz:Al}{ai:Nat}(bk:Ao p sz)(be:aU p sz ai){h:S}{c:u}{m:u}{V:MV}{st:Cy}(A:XV p h m V st)(Y:Dr c V m)(R:Wj p sz ai st){f:GL}{a:CQ}(cx:U f.env<=10000){d:Bd}(B:Gb p sz st.em f a d):
 ∃bc a6,kT (.fn 144) [.ptr m 0,.agg [nI a.op,nI a.n,.d (.co (a.args.map Bm)),.d (.co (a.kids.map AX))],nI f.at_,.d (.co (f.env.map BC))] h c X I=.ok (bc,a6)/\Kc p c m V h (R5 (J9 p ai) (KI p a f st)) bc a6:=by
 have F:=A.box;have P:=Y m (V.q_i m);simp[BX]at F;have cn:=AN P;have cp:=Av P;have cq:=XE P;have cs:=oV P;have bn:=B.ip;have cu:=B.n0;have cv:=l_ bn;have cl:=B.ok.ac;have cm:=B.ok.be;have a0:=GQ f.env z;have a':=R.qr.small;simp[BQ.small]at a';obtain⟨c0,c2,c3,c4⟩:=a';refine Zt ?_ A Y B R;clear A Y B R;intro A Y B R;have O:=Tc A.1.arr;have N:=Og (A.1.sl 0 z);rw[A.1.ac.len]at O;simp[BT]at N;have⟨q,ag⟩:=C6 (U st.em.ac);have⟨x,ad⟩:=C6 (U st.em.be);rw[<-ag]at O;rw[<-ad]at N;have b2:q<=60:=z;have c1:x<=24:=z;replace ag:=AB ag;replace ad:=AB ad;by_cases az:U f.env=0;all_goals
  first
  |simp only[KR,D4 az]at a0
  |simp only[KR,Co az]at a0
  have fa:=Gw;refine Bf func144 ?_;refine Qg 5 λbh a1=>?_;have bo:AR (∀(s:CW) (H:S) (o:Nat),s.get 0=.ptr m 0->s.get 2=(nI f.at_)->s.get 5=.ptr (0::0::c) 0->s.get 8=.ptr (0::10::c) 0->s.get 9=.ptr (0::18::c) 0->(∀i,AE c i=Z->H.get i=h.get i)->H.get (0::0::c)=J (.box [nI a.op,nI a.n,.d (.co (a.args.map Bm)),.d (.co (a.kids.map AX))])->H.get (0::10::c)=J (.box [.d (.co (d.ac.map BW)),.d (.co (d.be.map BH)),.d (.co (d.rules.map BR))])->(∃ev,H.get (0::18::c)=J (.box [nI a.n,nI f.at_,ev])/\PC .emp c H (o+32) ev (f.env++HZ q (U d.ac)++NI x (U d.be)))->Wp cfg kT ⟨144,c,X,I,Z,221⟩ 0 bh ⟨s,H,o+32,[]⟩ (MY cfg I [] c X (Kc p c m V h (R5 (J9 p ai) (KI p a f st))))):=⟨λs H o b5 b6 b7 b8 b9 l cc cd bs=>by
   obtain⟨ev,ch,D⟩:=bs;rw[a1];refine sM bk be A.1 Y.1 R.1 B.1 rfl b5 b6 b7 b8 b9 z l cc cd ch ?_;have:(Ae st.em d a.n f).env=f.env++HZ q (U d.ac)++NI x (U d.be):=by rw[ag.1,ad.1,Ae,Hb,F0];rfl
   rw[this];exact D⟩
  replace a1:=AB a1;simp[R4];refine ax ?_;clear a0;refine Aj d.ac (B0:=λe (j:S×Nat)=>⟨[(0,.ptr m 0),(2,nI f.at_),(5,.ptr (0::0::c) 0),(8,.ptr (0::10::c) 0),(9,.ptr (0::18::c) 0),(10,nI e)],j.1,j.2+21,[]⟩)
   (Inv:=λe b1 j=>AR (∀i,AE c i=Z->j.1.get i=h.get i)/\j.1.get (0::0::c)=J (.box [nI a.op,nI a.n,.d (.co (a.args.map Bm)),.d (.co (a.kids.map AX))])/\j.1.get (0::10::c)=J (.box [.d (.co (d.ac.map BW)),.d (.co (d.be.map BH)),.d (.co (d.rules.map BR))])/\AR (∃ev,j.1.get (0::18::c)=J (.box [nI a.n,nI f.at_,ev])/\PC .emp c j.1 (j.2+21) ev (f.env++HZ q e))) (b0:=(_,0)) ⟨⟨λi b=>?_⟩,?_,?_,⟨?_⟩⟩ ?_ ?_
  .have r:=AN b;have ar:=AN (AL b 16) 1 3;exact Ba
  .simp only[go_sem]
  .simp only[go_sem]
  .first
   |(refine⟨.emp,?_,.inl ⟨by simp[HZ,CE az],rfl⟩⟩
     simp only[go_sem]
     done)
   |(refine⟨.ii (1::3::16::c) 0 (U f.env),?_,.inr ⟨_,by simp[HZ],?_,16,z,q_a.2 ⟨[1,3],rfl⟩,_,rfl⟩⟩
     .simp only[go_sem]
     .simp only[HZ,List.range'_zero,Ci,CS];simp only[go_sem])
  .rintro e b' ⟨g,o⟩ bx C ac ⟨l,v,w,n⟩ Q;dsimp only at*;have⟨ev,k5,n⟩:=n.1;have bi:=(l.1 m P).trans F;have b3:SE.wrap ((e:Int)+1)=(e:Int)+1:=w_ z z;have b4:SE.wrap ((q:Int)+(e:Int))=(q:Int)+(e:Int):=w_ z z;have⟨L,t⟩:=C6 (f.env++HZ q e);have T:AR (f.env++HZ q (e+1)=L++[⟨3,(q:Int)+(e:Int)⟩]):=⟨by rw[jx,<-F0,<-t];simp⟩;rw[<-t]at n;have bl:U L<=20000:=by rw[t];simp[HZ];omega
   replace t:=AB t;rcases n with⟨a5,rfl⟩|⟨i,rfl,bv,b0,W,K,D⟩
   ·(repeat' (first|simp only[*,go_sem,↓O,↓N]|(refine sx ?_ ?_<;>intro a2)|refine sy z λa a4 F=>?_|simp(disch:=first|assumption|omega) only[Ad]))
    refine Q.1 (_,_) ⟨⟨λi k=>?_⟩,?_,?_,⟨.ii (1::(o+38)::c) 0 1,?_,?_⟩⟩
    .have r:=AN k;have ar:=XE k;simp only[go_sem,r,ar,l.1 i k,AM]
    .simp only[go_sem,v]
    .simp only[go_sem,w]
    .simp only[go_sem]
    .rw[T.1,a5];refine Q1 z rfl ?_;simp only[go_sem]
   .have⟨f1,f2,f3,f4⟩:=GI W K D;have a3:=AR.mk (Bt K);clear D K W
    (repeat' (first|simp only[*,go_sem,↓O,↓N,AM]|(refine sx ?_ ?_<;>intro a2)|refine sy z λa a4 F=>?_|simp(disch:=first|assumption|omega) only[Ad]))
    refine Q.1 (_,_) ⟨⟨λaa k=>?_⟩,?_,?_,⟨.ii (1::(o+38)::c) 0 (U L+1),?_,?_⟩⟩
    .exact zBh
    .exact Ba
    .exact Ba
    .simp only[go_sem]
    .rw[T.1];refine Q1 z AG ?_;simp only[go_sem,f1,f2,Ap,AM]
  .clear b2;rintro e ⟨g,o⟩ C ac ⟨l,v,w,n⟩;dsimp only at*;have av:=C.1;subst av;clear C;replace O:=AB O;refine aw ?_;refine Aj d.be (B0:=λe (j:S×Nat)=>⟨[(0,.ptr m 0),(2,nI f.at_),(5,.ptr (0::0::c) 0),(8,.ptr (0::10::c) 0),(9,.ptr (0::18::c) 0),(11,nI e)],j.1,j.2+27,[]⟩)
    (Inv:=λe b1 j=>AR (∀i,AE c i=Z->j.1.get i=h.get i)/\j.1.get (0::0::c)=J (.box [nI a.op,nI a.n,.d (.co (a.args.map Bm)),.d (.co (a.kids.map AX))])/\j.1.get (0::10::c)=J (.box [.d (.co (d.ac.map BW)),.d (.co (d.be.map BH)),.d (.co (d.rules.map BR))])/\AR (∃ev,j.1.get (0::18::c)=J (.box [nI a.n,nI f.at_,ev])/\PC .emp c j.1 (j.2+27) ev (f.env++HZ q (U d.ac)++NI x e))) (b0:=(_,o)) ⟨l,v,w,⟨by obtain⟨ev,r,M⟩:=n.1;exact⟨ev,r,by simpa[NI]using Td M z⟩⟩⟩ ?_ ?_
   .clear n l v w g o;rintro e b' ⟨g,o⟩ bx C ac ⟨l,v,w,n⟩ Q;dsimp only at*;have⟨ev,k5,n⟩:=n.1;have bi:=(l.1 m P).trans F;have b3:SE.wrap ((e:Int)+1)=(e:Int)+1:=w_ z z;have b4:SE.wrap ((x:Int)+(e:Int))=(x:Int)+(e:Int):=w_ z z;have⟨L,t⟩:=C6 (f.env++HZ q (U d.ac)++NI x e);have T:AR (f.env++HZ q (U d.ac)++NI x (e+1)=L++[⟨4,(x:Int)+(e:Int)⟩]):=⟨by rw[qD,<-F0,<-t];simp⟩;rw[<-t]at n;have bl:U L<=20000:=by rw[t];simp[HZ,NI];omega
    replace t:=AB t;rcases n with⟨a5,rfl⟩|⟨i,rfl,bv,b0,W,K,D⟩
    ·(repeat' (first|simp only[*,go_sem,↓N]|(refine sx ?_ ?_<;>intro a2)|refine sy z λa a4 F=>?_|simp(disch:=first|assumption|omega) only[Ad]))
     refine Q.1 (_,_) ⟨⟨λi k=>?_⟩,?_,?_,⟨.ii (1::(o+44)::c) 0 1,?_,?_⟩⟩
     .have r:=AN k;have ar:=XE k;simp only[go_sem,r,ar,l.1 i k,AM]
     .simp only[go_sem,v]
     .simp only[go_sem,w]
     .simp only[go_sem]
     .rw[T.1,a5];refine Q1 z rfl ?_;simp only[go_sem]
    .have⟨f1,f2,f3,f4⟩:=GI W K D;have a3:=AR.mk (Bt K);clear D K W
     (repeat' (first|simp only[*,go_sem,↓N,AM]|(refine sx ?_ ?_<;>intro a2)|refine sy z λa a4 F=>?_|simp(disch:=first|assumption|omega) only[Ad]))
     refine Q.1 (_,_) ⟨⟨λaa k=>?_⟩,?_,?_,⟨.ii (1::(o+44)::c) 0 (U L+1),?_,?_⟩⟩
     .exact zBh
     .exact Ba
     .exact Ba
     .simp only[go_sem]
     .rw[T.1];refine Q1 z AG ?_;simp only[go_sem,f1,f2,Ap,AM]
   .clear n l v w g o ac;rintro e ⟨g,o⟩ C ac ⟨l,v,w,n⟩;dsimp only at*;have av:=C.1;subst av;clear C;refine aw ?_;exact bo.1 _ _ _ rfl rfl rfl rfl rfl l.1 v w (by obtain⟨ev,r,M⟩:=n.1;exact⟨ev,r,Td M z⟩)
theorem gx{q:MV}{H t:S}{a:Nat}{x:BG}(w:Dr c V m)(k:CH (BX p Z) Z c m V h b q st H)(A:b<=a)(v:Kc p (a::c) m q H r x t):x=.ret (.kw [])/\Wq p c m V h (a+1) [] (gc (a::c) t) r:=by
 have C:=AL (w m (V.q_i m)) a;rcases r with _|K
 .obtain⟨e,⟨f,D,i⟩,j⟩:=v;refine⟨e,⟨f,D,(An _ _ _ C).trans i⟩,λo s g=>?_,λB n=>by cases n⟩;rw[An _ _ _ (AL g a),j o (λl=>?_) (AL g a)]
  .exact k.frame o s g
  .rcases k.ids o l with l|⟨F,_,e,_⟩
   .exact s l
   grind [Bt]
 .obtain⟨e,i⟩:=v;have⟨f,j,h6⟩:=k.callL w A i;exact⟨e,f,j,λB n=>by cases n⟩
def TA{p:Aa}{sz:Al}(bn:Ao p sz):∀T,aU p sz T
 |0=>λh c m V st e bo ag bs bx eg ej ek d7=>z|T+1=>λh c m V st e bo ag bs bx eg ej ek d7=>by
  have cl:=TA bn T;obtain⟨A,e5,cd,c7,b3,bc,ex⟩:=Lz bn bx;have d0:=c7;simp only[Cw,As,D3,EL]at c7;obtain⟨b9,cc,dj,cp⟩:=c7;have e0:=bx.n0;have e4:=l_ cd;have a':=bo.box;have cv:=ag m (V.q_i m);simp only[BX]at a';have n:=AN cv;have t:=Av cv;have e7:SE.wrap (st.work+1)=st.work+1:=w_ z z;obtain⟨o,a0⟩:∃s,s={st with work:=st.work+1}:=⟨_,rfl⟩
  have d2:=bn.small;simp only[Aa.small,As,D3]at d2;obtain⟨e8,e9,e'⟩:=d2;have dr:AR (J9 p (T+1) e st=if st.work<400 then R5 (J9 p T) (Kn p e o)else I):=⟨by rw[a0];rfl⟩;have b4:AR (∀H:S,H.get m=J (.box (BX p Z V (st.work+1)))->(∀k,AJ m k=Z->AE c k=Z->H.get k=h.get k)->CH (BX p Z) Z c m V h 0 V o H):=⟨λH bl b5=>by have:=ABj (d8:=o) bo ag (by rw[a0];exact bl) (by rw[a0];exact⟨rfl,rfl⟩) λk j ac=>b5 k (AI λR=>j R.symm) ac;exact⟨this.1,λk cq=>.inl cq,this.2.frame⟩⟩
  have a6:AR (st.work<400->Wj p sz T o):=⟨λh=>by rw[a0];exact⟨bs,AZ,AZ,AZ,AZ⟩⟩;have b8:AR (Cb p sz o.em e):=⟨by rw[a0];exact bx⟩;have c9:AR (o.em=st.em):=⟨by rw[a0]⟩;have d8:AR (U o.ev<=1000000):=⟨by rw[a0];dsimp only;omega⟩;have e2:AR (o.work=st.work+1):=⟨by rw[a0]⟩;replace a0:=AB a0;replace bo:=AB bo;replace ag:=AB ag;replace bs:=AB bs;replace bx:=AB bx;replace cp:=AB cp;replace d0:=AB d0;replace bc:=AB bc;replace b3:=AB b3;by_cases c':st.work<400
  .have ef:st.work+1<=400:=z;have e1:¬400<st.work+1:=z;rw[dr.1,D4 c'];have bk:AR (Kn p e o=if A.op=2 then(Ff p A e o).map λst=>(st,[])else if A.op=3 then J (o,Bh A 0 e.at_ e.env++Bh A 1 e.at_ e.env)else if A.op=4 then KI p A e o else if A.op=5 then J (o,Bh A (TU A e.env) e.at_ e.env)else if O8 A.op=X then(Gg e o).map λst=>(st,[])else J (o,[])):=⟨by rw[Kn,cd]⟩;have a6:=a6.1 c';replace a6:=AB a6;have df:=AB dj;clear dj;rcases AGw b9 with D|D|D|D|D|D|D|D
   .rw[bk.1];simp only[D,Int.reduceEq,IS,Ge,O8,decide_false,Bool.or_self,AM,R5,ED];refine Bf func87 ?_;refine aw ?_;exact HA (b:=0) (E:=[]) ⟨V,b4.1 _ zCb (λk j ac=>by have g:=AN ac;simp only[go_sem,g,j,AM]),λi az=>by cases az⟩
   .rw[bk.1];simp only[D,Int.reduceEq,IS,Ge,kY];have dx:0<=A.n/\A.n<U e.env:=by simpa[cW,D]using cc
    have d5:U A.args<=3:=by simpa[GA,D]using df.1
    have cn:∀R∈A.args,R.formed (U e.env)=true:=λR d6=>by have:=cp.1 R d6;simp only[CC.ok,As]at this;exact this.2.2
    have c5:AR (∀H a,CH (BX p Z) Z c m V h 0 V o H->∃aa b7,kT (.fn 143) [.ptr m 0,.agg [nI 2,nI A.n,.d (.co (A.args.map Bm)),.d (.co (A.kids.map AX))],nI e.at_,.d (.co (e.env.map BC))] H (a::c) X I=.ok (aa,b7)/\(aa=.ret (.kw [])/\Wq p c m V h (a+1) [] (gc (a::c) b7) (Ff p A e o))):=⟨λH a av=>by obtain⟨aa,Y,g,dc⟩:=AHR (st:=o) av.rep (av.apart ag.1 (n:=a) (F9 _)) e z d5 cn dx.1 dx.2 (by rw[c9.1];exact bx.1.wd) (λa5 e6 bc=>by rw[c9.1]at bc⊢;exact Ix bn bs.1 bc) d8.1;rw[D]at g;exact⟨aa,Y,g,gx ag.1 av (F9 _) dc⟩⟩
    clear cn;exact zAd
   .rw[bk.1];simp only[D,Int.reduceEq,IS,Ge];have b':U A.kids=2:=by simpa[DX,D]using b9.symm
    obtain⟨ad,ai,a3⟩:=qf b';have cu:Cb p sz o.em ⟨ad,e.at_,e.env⟩:=U9 b8.1 z b3.1 bc.1 0 _ zDL;have c6:Cb p sz o.em ⟨ai,e.at_,e.env⟩:=U9 b8.1 z b3.1 bc.1 1 _ zDL;have c8:R5 (J9 p T) (J (o,Bh A 0 e.at_ e.env++Bh A 1 e.at_ e.env))=((J o).bind (J9 p T ⟨ad,e.at_,e.env⟩)).bind (J9 p T ⟨ai,e.at_,e.env⟩):=by simp only[Bh,a3,He,Hm,F4,Cs,R5,ED,GC];cases J9 p T ⟨ad,e.at_,e.env⟩ o with|none=>rfl|some s=>simp only[GC];cases J9 p T ⟨ai,e.at_,e.env⟩ s<;>rfl
    rw[c8];have dm:AR (∀H a,36<=a->CH (BX p Z) Z c m V h 0 V o H->∃aa Y,kT (.fn 87) [.ptr m 0,nI ad,nI e.at_,.d (.co (e.env.map BC))] H (a::c) X I=.ok (aa,Y)/\aa=.ret (.kw [])/\wO p c m V h 36 a [] H (gc (a::c) Y) ((J o).bind (J9 p T ⟨ad,e.at_,e.env⟩))):=⟨λH a cc av=>Km cl ag.1 (r:=J o) (E:=[]) ⟨V,av.up z,λi az=>by cases az⟩ ⟨ad,e.at_,e.env⟩ (λdd R=>by cases R;exact⟨a6.1,cu⟩) H a cc (λ_ _=>rfl) λi az=>by cases az⟩;have dn:AR (∀H a b,b<=a->36<=b->Wq p c m V h b [] H ((J o).bind (J9 p T ⟨ad,e.at_,e.env⟩))->∃aa Y,kT (.fn 87) [.ptr m 0,nI ai,nI e.at_,.d (.co (e.env.map BC))] H (a::c) X I=.ok (aa,Y)/\aa=.ret (.kw [])/\wO p c m V h b a [] H (gc (a::c) Y) (((J o).bind (J9 p T ⟨ad,e.at_,e.env⟩)).bind (J9 p T ⟨ai,e.at_,e.env⟩))):=⟨λH a b cc et av=>Km cl ag.1 av ⟨ai,e.at_,e.env⟩ (λdd R=>by have ds:=Hi bn T _ _ _ a6.1.qr cu R;exact⟨a6.1.post ds,Oc c6 ds.ext⟩) H a cc (λ_ _=>rfl) λi az=>by cases az⟩
    replace cu:=AB cu;replace c6:=AB c6;replace c8:=AB c8;obtain⟨en,cx,d4,em⟩:=A;dsimp only at a3 D b' cd⊢;subst a3;subst D;refine Bf func87 ?_;refine aw ?_;refine Ak (dm.1 _ _ z (b4.1 _ zCb (λk j ac=>by have g:=AN ac;simp only[go_sem,g,j,AM]))) (λch Y a1=>?_)
    obtain⟨a2,P⟩:=a1;subst a2;have es:=(P.box 35 z).trans (show _=J (.box [nI 3,nI cx,.d (.co (d4.map Bm)),.d (.co ([ad,ai].map AX))]) by simp only[go_sem]);have ea:=AB P.run;clear P;refine aw ?_;refine Ak (dn.1 _ _ _ ?_ ?_ ea.1) (λch Y a1=>?_)
    .omega
    .omega
    obtain⟨a2,P⟩:=a1;subst a2;replace P:=AB P;refine aw ?_;exact HA P.1.run
   .rw[bk.1];simp only[D,Int.reduceEq,IS,Ge];obtain⟨d,c3⟩:=fA bn (s:=o.em) (by rw[c9.1];exact bs.1) b8.1 cd D;have c5:AR (∀H a,CH (BX p Z) Z c m V h 0 V o H->∃aa b7,kT (.fn 144) [.ptr m 0,.agg [nI 4,nI A.n,.d (.co (A.args.map Bm)),.d (.co (A.kids.map AX))],nI e.at_,.d (.co (e.env.map BC))] H (a::c) X I=.ok (aa,b7)/\(aa=.ret (.kw [])/\Wq p c m V h (a+1) [] (gc (a::c) b7) (R5 (J9 p T) (KI p A e o)))):=⟨λH a av=>by obtain⟨aa,Y,g,dc⟩:=AI7 bn cl av.rep (av.apart ag.1 (n:=a) (F9 _)) a6.1 z c3;rw[D]at g;exact⟨aa,Y,g,gx ag.1 av (F9 _) dc⟩⟩
    replace c3:=AB c3;exact zAd
   .rw[bk.1];simp only[D,Int.reduceEq,IS,Ge];have b':U A.kids=2:=by simpa[DX,D]using b9.symm
    obtain⟨ad,ai,a3⟩:=qf b';have de:U A.args=1:=by simpa[GA,D]using df.1
    obtain⟨b0,c4⟩:∃R,A.args=[R]:=by match hxa:A.args,de with|[R],_=>exact⟨R,rfl⟩
    have cn:b0.formed (U e.env)=true:=by have:=cp.1 b0 (by rw[c4];simp);simp only[CC.ok,As]at this;exact this.2.2
    have d9:AR (Cb p sz o.em ⟨ad,e.at_,e.env⟩):=⟨U9 b8.1 z b3.1 bc.1 0 _ zDL⟩;have d':AR (Cb p sz o.em ⟨ai,e.at_,e.env⟩):=⟨U9 b8.1 z b3.1 bc.1 1 _ zDL⟩;have dq:AR (∀(a5:Int),Cb p sz o.em ⟨a5,e.at_,e.env⟩->∀H a,CH (BX p Z) Z c m V h 0 V o H->∃aa Y,kT (.fn 87) [.ptr m 0,nI a5,nI e.at_,.d (.co (e.env.map BC))] H (a::c) X I=.ok (aa,Y)/\aa=.ret (.kw [])/\wO p c m V h 0 a [] H (gc (a::c) Y) (J9 p T ⟨a5,e.at_,e.env⟩ o)):=⟨λa5 bv H a av=>Km cl ag.1 (r:=J o) (E:=[]) ⟨V,av,λi az=>by cases az⟩ ⟨a5,e.at_,e.env⟩ (λdd R=>by cases R;exact⟨a6.1,bv⟩) H a (F9 _) (λ_ _=>rfl) λi az=>by cases az⟩;obtain⟨v,q⟩:∃v,v=b0.value e.env:=⟨_,rfl⟩;have ec:=ACx e.env b0 cn;rw[<-q]at ec;obtain⟨en,cx,d4,em⟩:=A;dsimp only at a3 D b' cd de c4 bk⊢;subst a3;subst D;subst c4;have cs:AR (TU ⟨5,cx,[b0],[ad,ai]⟩ e.env=if v.kind=1/\v.n≠0 then 0 else 1):=⟨by simp only[TU,He,q]⟩;have d1:AR (∀i,R5 (J9 p T) (J (o,Bh ⟨5,cx,[b0],[ad,ai]⟩ i e.at_ e.env))=match [ad,ai][i]? with|some a5=>J9 p T ⟨a5,e.at_,e.env⟩ o|none=>J o):=⟨λi=>by simp only[R5,Bh];cases [ad,ai][i]? with|none=>rfl|some a5=>exact m9 _ _ _⟩
    replace q:=AB q;by_cases bv:v.kind=1/\v.n≠0
    .rw[cs.1,D4 bv,d1.1];clear cs;obtain⟨dm,dn⟩:=bv;refine Bf func87 ?_;refine aw ?_;refine Ak (dq.1 ad d9.1 _ _ (b4.1 _ zCb (λk j ac=>by
     have g:=AN ac;simp only[go_sem,g,j,AM]))) (λch Y a1=>?_)
     exact zBH
    .rw[cs.1,Co bv,d1.1];clear cs;have Q:(if v.kind=1 then v.n else 0)=0:=by
      split
      .rename_i b9;by_cases b2:v.n=0
       .exact b2
       .exact absurd ⟨b9,b2⟩ bv
      .rfl
     clear bv;refine Bf func87 ?_;refine aw ?_;refine Ak (dq.1 ai d'.1 _ _ (b4.1 _ zCb (λk j ac=>by
     have g:=AN ac;simp only[go_sem,g,j,AM]))) (λch Y a1=>?_)
     exact zBH
   all_goals
    rw[bk.1];simp only[D,Int.reduceEq,IS,Ge,kY,O8,decide_true,decide_false,Bool.true_or,Bool.or_true,Bool.or_self,AM];have eb:=a0.1;clear bk;subst eb;have bi:=GQ e.env z;have fa:=Gw;have w:=λa=>AN (AL cv a) 1 3;have x:=λa=>Av (AL cv a) 1 3;have go:=AR.mk (Hr (d8:={st with work:=st.work+1,em:={st.em with waits:=st.em.waits++[⟨e.at_,e.node,e.env⟩]}}) 2 z bo.1 ag.1 (pv rfl rfl rfl) rfl)
    have e3:U st.em.waits<=40:=by have:=bs.1.small;simp only[BQ.small,As,D3]at this;omega
    have ar:AR (∀(N a:Nat) (H:S),U st.em.waits<40->a=U st.em.waits+1->H.get m=J (.box (BX p Z (V.nl 2 (.ii (1::N::c) 0 a)) (st.work+1)))->H.get (1::N::c)=J (.f8 3 ((st.em.waits++[(⟨e.at_,e.node,e.env⟩:Ia)]).map Bj))->(∀k,AJ m k=Z->(∀i∈AD (V.s 2),AJ i k=Z)->AE c k=Z->H.get k=h.get k)->Kc p c m V h (Gg e {em:=st.em,ev:=st.ev,work:=st.work+1}) (.ret (.kw [])) H):=⟨λN a H bi c2 bl b5 b6=>by rw[Gg,D4 bi];exact⟨rfl,go.1 _ H bl (.inl (BO [] (by rw[c2];simp[BT]) (by rw[CS];exact b5))) (.inr λk cq=>by simp only[AD,AS]at cq;subst cq;exact⟨Aq [1,N],_,rfl⟩) b6⟩⟩
    have c1:AR (∀{W:u} (a4:List (List Ar)) (H:S),U st.em.waits<40->V.s 2=.ii W 0 (U st.em.waits)->H.get m=J (.box (BX p Z (V.nl 2 (.ii W 0 (U st.em.waits+1))) (st.work+1)))->H.get W=J (.f8 3 ((st.em.waits++[(⟨e.at_,e.node,e.env⟩:Ia)]).map Bj++a4))->(∀k,AJ m k=Z->(∀i∈AD (V.s 2),AJ i k=Z)->AE c k=Z->H.get k=h.get k)->Kc p c m V h (Gg e {em:=st.em,ev:=st.ev,work:=st.work+1}) (.ret (.kw [])) H):=⟨λ{W} a4 H bi c2 bl b5 b6=>by rw[Gg,D4 bi];exact⟨rfl,go.1 _ H bl (.inl (BO a4 (by simp[BT]) b5)) (.inl (by rw[c2];rfl)) b6⟩⟩
    have bh:AR (∀(c0:MV) (H:S),¬(U st.em.waits)<40->H.get m=J (.box (BX p X c0 (st.work+1)))->(∀k,AJ m k=Z->(∀i∈AD (V.s 2),AJ i k=Z)->AE c k=Z->H.get k=h.get k)->Kc p c m V h (Gg e {em:=st.em,ev:=st.ev,work:=st.work+1}) (.ret (.kw [])) H):=⟨λc0 H bi bl b6=>by rw[Gg,Co bi];exact⟨rfl,⟨c0,_,bl⟩,λk cm ac=>b6 k (AI λR=>cm (by rw[<-R];exact V.q_i m)) (λi az=>AI λR=>cm (by rw[<-R];exact V.q_j m (i:=2) z az)) ac⟩⟩
    by_cases b2:U e.env=0;all_goals
     first
     |(simp only[KR,D4 b2]at bi;rw[CE b2]at ar c1)
     |simp only[KR,Co b2]at bi
    all_goals rcases dR (bo.1.sl 2 z)with⟨d3,Q⟩|⟨W,a4,q,b1⟩
    all_goals try simp only[Ie,BT,BV]at q
    .exact zAE
    .exact zAB
    .exact zAE
    .exact zAB
  .have ef:400<st.work+1:=z;rw[dr.1,Co c'];refine Bf func87 ?_;refine aw ?_;refine⟨rfl,⟨V,st.work+1,by simp only[go_sem,BX]⟩,λk cm ac=>?_⟩;have j:AJ m k=false:=AI λR=>cm (by rw[<-R];exact V.q_i m);have g:=AN ac;simp only[go_sem,g,j,AM]
theorem AI9{p:Aa}{sz:Al}(c5:Ao p sz){h:S}{c:u}{m:u}{V:MV}{st:Cy}(ai:XV p h m V st)(w:Dr c V m)(Q:Ed p sz st.em){at_:Int}(ar:Jh st.em.be at_):
 ∃b9 a3,kT (.fn 164) [.ptr m 0,nI at_] h c X I=.ok (b9,a3)/\Kc p c m V h (J ⟨OH st.em at_,st.ev,st.work⟩) b9 a3:=by
 have az:=ai.box;simp[BX]at az;have cc:=w m (V.q_i m);have dr:=AN cc;have cp:=Av cc;have b8:=Q.small;simp[BQ.small]at b8;obtain⟨ea,eb,ec,ef⟩:=b8;have ch:=ar.1;have b0:=ar.2;have b4:AR (CH (BX p Z) Z c m V h 0 V st h):=⟨RK ai w λs b=>rfl⟩;refine Zt ?_ ai w Q ar;clear ai w Q ar;intro ai w Q ar;refine Bf func164 ?_;refine ax ?_;refine rounds (B0:=λ(a:Nat×S×Nat)=>⟨[(0,.ptr m 0),(1,nI at_),(4,nI a.1)],a.2.1,a.2.2+1,[]⟩)
  (Inv:=λa=>a.1<=(U st.em.be)/\AR (∃k,CH (BX p Z) Z c m V h (a.2.2+1) k ⟨{st.em with be:=Pr st.em.be at_ a.1},st.ev,st.work⟩ a.2.1)) (m:=λa=>U st.em.be-a.1) (a:=(0,h,0)) ⟨F9 _,⟨V,by rw[zt];exact b4.1.up z⟩⟩ ?_
 clear az b4;rintro⟨i,g,b⟩ ⟨hil,e⟩ IH;dsimp only at*;have⟨k,e⟩:=e.1;have⟨D,q⟩:=C6 (Pr st.em.be at_ i);have r:U D=U st.em.be:=by rw[q];exact X5 _ _ z
 have l:=e.rep.box;simp[BX]at l;have Y:=Og (e.rep.sl 0 z);simp[BT,<-q,r]at Y;by_cases c8:i<U st.em.be
 .have c9:(i:Int)<U st.em.be:=z;have⟨O,a1⟩:=g_ c8;have b3:D[i]?=J O:=by rw[q];exact AI8 a1
  have ad:∀i,Cd D i=Cd st.em.be i:=λj=>by grind [AEX]
  have ag:AR (Pr st.em.be at_ (i+1)=D.set i {O with dead:=O.dead||Ea st.em.be i at_}):=⟨by rw[q];exact zr a1⟩
  have a6:=ACU ad r Q.1.tree;have a5:=po ad r (i:Int) at_;rw[<-q]at e;replace q:=AB q;have⟨B0,ys,hSs,gS,xS,lS,lS2⟩:=NH (e.rep.sl 0 z) b3;simp[Ie]at gS;have bv:=cA D (.co (st.em.bv.map Cf)) (.co (st.em.ac.map C0)) (.co (st.em.waits.map Bj)) (i:Int) at_ z a6 ⟨z,z⟩ ch;rw[a5]at bv;have dj:SE.wrap ((i:Int)+1)=(i:Int)+1:=w_ z z;have⟨c0,d0⟩:=DS (e.rep.sl 0 z);have⟨c1,cl⟩:=DS (e.rep.sl 1 z);have⟨c2,cm⟩:=QU (e.rep.sl 2 z);have⟨c4,cn⟩:=Lr e.rep.arr;have cq:=TN (e.rep.sl 0 z);have cs:=TN (e.rep.sl 1 z);have cu:=TP (e.rep.sl 2 z);have cv:=mI e.rep.arr e.rep.ac;simp[BT]at cq cs cu cv;refine Zt ?_ ad a6 a5 e;clear ad a6 a5 e;intro ad a6 a5 e;have c3:=AB r;have dx:(i:Int)<U D:=z;rcases M:Ea st.em.be i at_ with _|_
  .rw[M,Bool.or_false]at ag;rw[M]at bv;replace r:=AB r;clear Y;refine ax ?_;refine IH.1 (i+1,g,b+18) AZ ⟨AZ,⟨k,?_⟩⟩;have:Pr st.em.be at_ (i+1)=D:=by rw[ag.1];exact px b3
   dsimp only;rw[this];exact e.1.up z
  .rw[M]at bv ag;rw[Bool.or_true]at ag;replace r:=AB r;clear Y;refine ax ?_;have c6:AJ B0 m=false:=Rn gS l;have dc:(D.set i {O with dead:=X}).map Ch++ys=(D.map Ch++ys).set i [.int .i64 O.in_,.bool X]:=by rw[List.set_append_left _ _ (by simpa using lS),I2];rfl
   have⟨ac,hR2,_⟩:=e.1.step (b':=b+28) z (Hr (N:=FJ (b+1) (b+28) c) (st:=⟨{st.em with be:=D},st.ev,st.work⟩) (d8:=⟨{st.em with be:=Pr st.em.be at_ (i+1)},st.ev,st.work⟩) 0 z e.1.rep (e.1.q_v w.1) (mo rfl rfl rfl) rfl (.ii B0 0 (U D)) (g.put B0 (.f8 2 ((D.map Ch++ys).set i [.int .i64 O.in_,.bool X]))) (by rw[p_,c6];exact l.trans (by rw[<-hSs];rfl)) (BO ys (by simp[BT];rw[X5 _ _ z];exact c3.1) (by rw[p_,q_c,<-dc,<-ag.1];rfl)) (.inl (by rw[hSs])) λs a2 bh b2=>by grind [p_,AD])
   exact IH.1 (i+1,_,b+27) AZ ⟨AZ,⟨ac,hR2⟩⟩
 .have M:i=U st.em.be:=z;have c9:¬(i:Int)<U st.em.be:=z;rw[q,M,kU]at r;rw[M,kU]at e;clear q D;have⟨D,q⟩:=C6 (K2 st.em.be at_);rw[xL,<-q];rw[<-q]at e r;refine Zt ?_ q M e r;clear q M e r;intro q M e r
  (repeat' (first|simp only[*,go_sem,↓Y,AM]|(refine sx ?_ ?_<;>intro b5)|refine sy z λO a1 az=>?_|simp(disch:=first|assumption|omega) only[Ad]))
  refine Aj st.em.waits (B0:=λj (a:(S×y)×Nat)=>⟨[(0,.ptr m 0),(5,a.1.2),(6,nI j)],a.1.1,a.2+11,[]⟩)
   (Inv:=λj df a=>b<=a.2/\AR (CH (BX p Z) Z c m V h (b+11) k ⟨{st.em with be:=D},st.ev,st.work⟩ a.1.1)/\AR ((a.1.2=.d9/\(st.em.waits.take j).filter (λo=> !BA D o.at_)=[])\/∃n,b+11<=n/\n<a.2+11/\a.1.2=.ii (1::n::c) 0 ((st.em.waits.take j).filter λo=> !BA D o.at_).length/\a.1.1.get (1::n::c)=J (.f8 3 (((st.em.waits.take j).filter λo=> !BA D o.at_).map Bj)))) (b0:=((g,.d9),b)) ⟨D2 _,⟨e.1.up z⟩,⟨.inl ⟨rfl,rfl⟩⟩⟩ ?_ ?_
  .clear e Y l;rintro j o ⟨⟨g,v⟩,f⟩ bc av P ⟨bn,e,x⟩ T;dsimp only at*;have l:=e.1.rep.box;simp[BX]at l;have bl:=r.1;have a0:=Q.1.wait o (AP bc);simp only[IC,As,D3]at a0;have⟨w0,dj⟩:=a0.1;have⟨sp,hsp⟩:=g_ (l:=D) (i:=o.at_.toNat) z;have⟨B0,ys,hSs,gS,xS,lS,lS2⟩:=NH (e.1.rep.sl 0 z) hsp;have⟨W,zs,hWs,gW,xW,lW,lW2⟩:=NH (vd (e.1.rep.sl 2 z) bc) bc;simp[Ie]at gS gW;rw[hSs,hWs]at l;have d2:=P;have dm:SE.wrap ((j:Int)+1)=(j:Int)+1:=w_ z z;have C:BA D o.at_=sp.dead:=by rw[BA,hsp];rfl
   have⟨F,B⟩:=C6 ((st.em.waits.take j).filter λo=> !BA D o.at_);have L:(st.em.waits.take (j+1)).filter (λo=> !BA D o.at_)=if sp.dead=X then F else F++[o]:=by rw[Ex,bc,List.filter_append,B,Option.toList_some,List.filter_cons,C];cases sp.dead<;>simp
   rw[<-B]at x;have ds:U F<=40:=by rw[B];exact Gt (List.length_filter_le _ _) zCI
   have d7:=GJ (b':=0) w.1 (e.1.ids m (k.q_i m));have d8:=GJ (b':=0) w.1 (e.1.ids B0 (k.q_j m (i:=0) z (by rw[hSs];simp[AD])));have d9:=GJ (b':=0) w.1 (e.1.ids W (k.q_j m (i:=2) z (by rw[hWs];simp[AD])));refine Zt ?_ C B bl a0;clear C B bl a0;intro C B bl a0;rcases hsd:sp.dead with _|_
   .rw[hsd,Co AG]at L;replace L:=AB L;rcases x.1 with⟨rfl,R⟩|⟨n,be,bx,rfl,bi⟩
    .replace R:=AB R;refine ax ?_;refine T.1 ((_,_),f+41) ⟨AZ,⟨e.1.loc w.1 λs t=>?_⟩,⟨.inr ⟨f+47,z,AZ,?_,?_⟩⟩⟩
     .have b':=t 1 (f+46) z;have de:=t 1 (f+47) z;exact Ba
     .rw[L.1,R.1];rfl
     .rw[L.1,R.1];exact Ba
    .have eg:TL (U F) (F.map Bj)=F.map Bj:=Bv AG;have cl:¬f+46=n:=z;have cm:¬n=f+46:=z;have dq:¬f+47=n:=z;have cn:¬n=f+47:=z;refine ax ?_;refine T.1 ((_,_),f+41) ⟨AZ,⟨e.1.loc w.1 λs t=>?_⟩,⟨.inr ⟨f+47,z,AZ,?_,?_⟩⟩⟩
     .have b':=t 1 (f+46) z;have de:=t 1 (f+47) z;exact Ba
     .rw[L.1,Dl];rfl
     .rw[L.1,Ap];exact Ba
   .rw[hsd,D4 rfl]at L;refine ax ?_;refine T.1 ((_,_),f+29) ⟨AZ,e,⟨?_⟩⟩;dsimp only;rw[L];rcases x.1 with h|⟨n,be,bx,d6⟩
    .exact .inl h
    grind
  .clear e Y l;rintro j ⟨⟨g,v⟩,f⟩ av P ⟨bn,e,x⟩;dsimp only at*;rw[av.1,F2]at x;have⟨F,B⟩:=C6 (st.em.waits.filter λo=> !BA D o.at_);rw[<-B]at x⊢;have l:=e.1.rep.box;simp[BX]at l;have a':=AKK (e.1.rep.sl 2 z);simp[BT]at a';have N:=Tc e.1.rep.arr;rw[e.1.rep.ac.len]at N;dsimp only at N;have c':=P;have dd:v.q_b=X/\v.cells=[v]:=by rcases x.1 with⟨rfl,_⟩|⟨n,_,_,rfl,_⟩<;>exact⟨rfl,rfl⟩
   obtain⟨v0,v1⟩:=dd;replace B:=AB B;have bs:AR (∀H:S,H.get m=J (.box (BX p Z (k.nl 2 v) st.work))->(∀s,AJ m s=Z->H.get s=g.get s)->∃ac,CH (BX p Z) Z c m V h (f+26) ac ⟨⟨D,st.em.bv,Ra D st.em.ac 0,F⟩,st.ev,st.work⟩ H):=⟨λH b0 b1=>by
    rw[zn];have⟨ac,hR2,_⟩:=e.1.step (b':=f+26) z (Hr (N:=FJ (b+11) (f+26) c) (st:=⟨{st.em with be:=D},st.ev,st.work⟩) (d8:=⟨{st.em with be:=D,waits:=F},st.ev,st.work⟩) 2 z e.1.rep (e.1.q_v w.1) (pv rfl rfl rfl) rfl v H b0 (by
     refine Or.inl ?_;rcases x.1 with⟨rfl,R⟩|⟨n,be,bx,rfl,bi⟩
     .exact .inl ⟨rfl,by show F.map Bj=[];rw[R];rfl⟩
     .exact BO [] (by simp[BT]) (by rw[b1 _ (cp 1 n),bi,CS];rfl)) (.inr λs t=>by
     rcases x.1 with⟨rfl,R⟩|⟨n,be,bx,rfl,bi⟩
     .simp[AD]at t
     .simp[AD]at t;subst t;exact⟨De n [1] be z,_,rfl⟩) λs a2 bh b2=>b1 s a2)
    exact⟨ac,hR2⟩⟩
   replace x:=AB x
   (repeat' (first|simp only[*,go_sem,↓a',↓N,AM]|(refine sx ?_ ?_<;>intro b5)|refine sy z λO a1 az=>?_|simp(disch:=first|assumption|omega) only[Ad]))
   refine Aj st.em.ac (B0:=λj (a:S×Nat)=>⟨[(0,.ptr m 0),(7,nI j)],a.1,a.2+26,[]⟩)
    (Inv:=λj df a=>AR (∃k,CH (BX p Z) Z c m V h (a.2+26) k ⟨⟨D,st.em.bv,Ra D st.em.ac j,F⟩,st.ev,st.work⟩ a.1)) (b0:=(_,f)) ⟨bs.1 _ ?_ λs a2=>?_⟩ ?_ ?_
   .simp only[go_sem,BX]<;>rfl
   .exact Ba
   .clear bs e x v0 v1 a' N l bn g v f k;rintro j K ⟨g,f⟩ aa av P e T;dsimp only at*;have⟨k,e⟩:=e.1;have l:=e.rep.box;simp[BX]at l;have b7:=(Ix c5 Q.1 aa).at_;have d':=b7.1;have b':=b7.2;have⟨qv,hrow,hqs⟩:=e.rep.ac.row _ _ (ey (l:=D) aa);rcases e.rep.arr with⟨_,a4⟩|⟨A,a4,cx⟩
    .rw[a4]at hrow;simp at hrow
    have d5:=l_ hrow;have d3:U k.rows=U st.em.ac:=by have:=e.rep.ac.len;simp only at this;rw[this,AER _ _ (by have:=l_ aa;omega)]
    have bk:=r.1;have⟨sp,hsp⟩:=g_ (l:=D) (i:=K.at_.toNat) z;have⟨B0,ys,hSs,gS,xS,lS,lS2⟩:=NH (e.rep.sl 0 z) hsp;simp[Ie]at gS;rw[hSs,a4]at l;have dm:SE.wrap ((j:Int)+1)=(j:Int)+1:=w_ z z;have d1:=P;have b6:AR (Ra D st.em.ac (j+1)=(Ra D st.em.ac j).set j (Ic D K)):=⟨zm aa⟩;have C:BA D K.at_=sp.dead:=by rw[BA,hsp];rfl
    have c7:=AB λa3=>ZL (N:=FJ (f+26) (f+63) c) e.rep (e.q_v w.1) a4 (ey (l:=D) aa) hrow [] .d9 a3;have d4:=AB hrow;simp[CF]at hrow;refine M9 ?_ bk e C;clear bk e C;intro bk e C;rcases hsd:sp.dead with _|_
    .refine ax ?_;have bo:Ic D K=K:=by rw[Ic,C.1,hsd,Co AG]
     refine T.1 (_,f+28) ⟨k,?_⟩;dsimp only;rw[b6.1,bo,px (ey (l:=D) aa)];exact e.1.up z
    .refine ax ?_;have bo:Ic D K={K with queue:=[]}:=by rw[Ic,C.1,hsd,D4 rfl]
     have cd:AJ A m=false:=Rn cx l;have⟨V3,hR3,_⟩:=e.1.step (b':=f+63) z (c7.1 (g.put A (.arr 4 (k.rows.set j [nI K.group,nI K.index,nI K.at_,.d9]))) (by rw[p_,cd];exact e.1.rep.box) zDJ (.inl (.inl ⟨rfl,rfl⟩)) (.inr λs t=>by simp[AD]at t) λs a2 bh b2 dn=>by rw[p_,bh];rfl);refine T.1 (_,f+37) ⟨V3,?_⟩;dsimp only at hR3⊢;rw[b6.1,bo];exact hR3
   .clear bs e x v0 v1 a' N l bn g v f k;rintro j ⟨g,f⟩ av P e;dsimp only at*;have⟨k,e⟩:=e.1;rw[av.1,AEQ]at e;have l:=e.rep.box;simp[BX]at l;have N:=Tc e.rep.arr;rw[e.rep.ac.len]at N;simp at N;have c':=P;replace e:=AB e
    (repeat' (first|simp only[*,go_sem,↓N,AM]|(refine sx ?_ ?_<;>intro b5)|refine sy z λO a1 az=>?_|simp(disch:=first|assumption|omega) only[Ad]))
    exact⟨rfl,k,e.1.rep,λs t=>(e.1.ids s t).imp_right λ⟨n,_,h2,h3⟩=>⟨Bt h2,h3⟩,e.1.frame⟩
theorem qh{p:Aa}{sz:Al}(b4:Ao p sz){h:S}{c:u}{m:u}{V:MV}{st:Cy}(x:Dr c V m)(bv:Ed p sz st.em){i:Nat}{a:Ia}(bc:st.em.waits[i]?=J a)(d':ws p st.em a=X)(en:U st.ev<=400000){j:BQ}(s:j={st.em with waits:=BK st.em.waits i}){o:CW} {g:S} {b:Nat} {A:MV} (ej:o.get 0=.ptr m 0) (ek:o.get 4=.ptr (0::8::c) 0) (em:30<=b) (F:CH (BX p Z) Z c m V h b A ⟨j,st.ev,0⟩ g)(et:g.get (0::8::c)=J (.box [nI a.at_,nI a.node,.d (.co (a.env.map BC))])):
 Wp cfg kT ⟨105,c,X,I,Z,139⟩ 0 (MW 2 (Tryz.f105.body.get rfl)) ⟨o,g,b,[]⟩ (MY cfg I [] c X (Kc p c m V h (QW p st.em st.ev ⟨i,0,0,[]⟩))):=by
 have d1:=x m (V.q_i m);have R:=AN d1;have T:=Av d1;have b6:=bv.small;simp[BQ.small]at b6;obtain⟨e0,e1,e2,e3⟩:=b6;have cx:=bv.wait a (AP bc);obtain⟨bk,K⟩:=O7 b4 cx;have cv:Ed p sz j:=by rw[s];exact Nw bv zDQ λv bx=>bv.wait v (Js bx)
 have ar:=K.node;have er:=K.n0;have es:=l_ ar;have dn:=K.op;have bs:=F.rep.box;simp[BX]at bs;obtain⟨N,ea⟩:∃N,b=N+30:=⟨b-30,z⟩;subst ea;replace x:=AB x;replace F:=AB F;replace bv:=AB bv;replace K:=AB K;replace cx:=AB cx;replace s:=AB s;have df:AR (∀(H:S) (e:Nat) (E:Ij),(∃B,CH (BX p Z) Z c m V h e B ⟨j,st.ev++[E],0⟩ H)->∃a3 w,kT (.fn 164) [.ptr m 0,nI a.at_] H (e::c) X I=.ok (a3,w)/\a3=.ret (.kw [])/\Kc p c m V h (J ⟨OH j a.at_,st.ev++[E],0⟩) (.ret (.kw [])) (gc (e::c) w)):=⟨λH e E az=>by obtain⟨B,az⟩:=az;obtain⟨a3,w,a4,a5⟩:=AI9 (st:=⟨j,st.ev++[E],0⟩) b4 az.rep (az.apart x.1 (n:=e) (D2 _)) cv (at_:=a.at_) (by rw[s.1];exact K.1.at_);obtain⟨a6,b2⟩:=gx x.1 az (D2 _) a5;exact⟨a3,w,a4,a6,HA b2⟩⟩
 have cs:AR (∀(n:Int) (b7:BQ),Ed p sz b7->Cb p sz b7 ⟨n,a.at_,a.env⟩->∀(H:S) (e:Nat) (E:Ij),(∃B,CH (BX p Z) Z c m V h e B ⟨b7,st.ev++[E],0⟩ H)->∃a3 w,kT (.fn 87) [.ptr m 0,nI n,nI a.at_,.d (.co (a.env.map BC))] H (e::c) X I=.ok (a3,w)/\a3=.ret (.kw [])/\Kc p c m V h (J9 p 401 ⟨n,a.at_,a.env⟩ ⟨b7,st.ev++[E],0⟩) (.ret (.kw [])) (gc (e::c) w)):=⟨λn b7 d4 d5 H e E az=>by
  obtain⟨B,az⟩:=az;obtain⟨a3,w,a4,a5,a6⟩:=Km (TA b4 401) x.1 (r:=J ⟨b7,st.ev++[E],0⟩) (E:=[]) ⟨B,az,λi a0=>by cases a0⟩ ⟨n,a.at_,a.env⟩ (λeg o=>by cases o;exact⟨⟨d4,AZ,AZ,AZ,BP⟩,d5⟩) H e (D2 _) (λ_ _=>rfl) λi a0=>by cases a0
  exact⟨a3,w,a4,a5,HA a6.run⟩⟩
 have b9:AR (∀(E:Ij) (D:Nat),N+30<=D->∀H:S,(∃t,H.get m=J (.box (BX p Z (A.nl 3 t) 0))/\PV H 5 t ((st.ev++[E]).map NX)/\(AD t=AD (A.s 3)\/∀id∈AD t,FJ (N+30) D c id=X/\∃c9,id=1::c9))->(∀id,AJ m id=Z->(∀c8∈AD (A.s 3),AJ c8 id=Z)->FJ (N+30) D c id=Z->H.get id=g.get id)->∃B,CH (BX p Z) Z c m V h D B ⟨j,st.ev++[E],0⟩ H):=⟨λE D c5 H ⟨t,A1,A2,A3⟩ A4=>by obtain⟨B,b3,_⟩:=F.1.step (b':=D) c5 (Hr (d8:=⟨j,st.ev++[E],0⟩) 3 z F.1.rep (F.1.q_v x.1) (nn rfl) rfl t H A1 A2 A3 A4);exact⟨B,b3⟩⟩
 have ai:AR (∀bi,st.em.be[a.at_.toNat]?=J bi->∀e:Int,∃B0 Y,A.s 0=.ii B0 0 (U st.em.be)/\g.get B0=J (.f8 2 (st.em.be.map Ch++Y))/\(st.em.be.map Ch++Y)[a.at_.toNat]?=J (Ch bi)/\a.at_.toNat<U st.em.be/\a.at_.toNat<U st.em.be+U Y/\(∀C e,N+30<=e->AJ (C::e::c) B0=Z)/\(∀C e,N+30<=e->AJ B0 (C::e::c)=Z)/\(∀b0,AJ B0 (0::b0::c)=Z)/\AJ B0 m=Z/\AJ m B0=Z/\(∀i∈AD (A.s 3),AJ B0 i=Z/\AJ i B0=Z)/\
  ∀(E:Ij) (D:Nat),N+30<=D->∀H:S,(∃t,H.get m=J (.box (BX p Z (A.nl 3 t) 0))/\PV H 5 t ((st.ev++[E]).map NX)/\(AD t=AD (A.s 3)\/∀id∈AD t,FJ (N+30) D c id=X/\∃c9,id=1::c9))->H.get B0=J (.f8 2 ((st.em.be.map Ch++Y).set a.at_.toNat [.int .i64 e,.bool bi.dead]))->(∀id,AJ m id=Z->AJ B0 id=Z->(∀c8∈AD (A.s 3),AJ c8 id=Z)->FJ (N+30) D c id=Z->H.get id=g.get id)->∃B,CH (BX p Z) Z c m V h D B ⟨{j with be:=Gj j.be a.at_ e},st.ev++[E],0⟩ H):=⟨λbi b5 e=>by
  have b6:j.be=st.em.be:=by rw[s.1]
  obtain⟨B0,Y,cp,bo,c1,cl,c0⟩:=NH (F.1.rep.sl 0 z) (show j.be[a.at_.toNat]?=J bi by rw[b6];exact b5);simp[Ie,b6]at bo c1 cl c0 cp;have c4:=A.q_j m (i:=0) z (id:=B0) (by rw[cp];simp[AD]);have d0:=F.1.ids B0 c4;have av:AJ B0 m=false:=Rn bo bs;have b1:AJ m B0=false:=AI λo=>by grind
  have ad:∀i∈AD (A.s 3),g.get i≠J (.f8 2 (st.em.be.map Ch++Y)):=λi a0=>by
   rcases F.1.rep.sl 3 z with⟨bx,_⟩|⟨E,a',bx,c2⟩
   .grind [AD]
   grind [AD,Ie]
  refine⟨B0,Y,cp,bo,c1,cl,c0,λC e c7=>GJ (b':=0) x.1 d0 C e c7,λC e c7=>JS x.1 d0 C e c7,λb0=>AI λo=>Iu F.1 x.1 b0 (by rw[<-o];exact c4),av,b1,λi a0=>⟨AI λo=>ad i a0 (by rw[<-o];exact bo),AI λo=>ad i a0 (by rw[o];exact bo)⟩,λE D c5 H ⟨t,A1,A2,A3⟩ A5 A4=>?_⟩;have el:∀i∈AD t,AJ B0 i=false:=λi a0=>AI λo=>by
   rcases A3 with C|C
   .grind
   .have:=(C i a0).1;rw[<-o,F.1.q_v x.1 B0 c4]at this;cases this
  have dd:(H.put B0 (.f8 2 (st.em.be.map Ch++Y))).get m=J (.box (BX p Z (A.nl 3 t) 0)):=by rw[p_,av];exact A1
  obtain⟨B,b3⟩:=b9.1 E D c5 (H.put B0 (.f8 2 (st.em.be.map Ch++Y))) ⟨t,dd,by
   rcases A2 with C|⟨i,ef,C,d⟩
   .exact .inl C
   .exact .inr ⟨i,ef,C,by grind [p_,AD]⟩,A3⟩ λid bn ag f=>by grind [AI,p_]
  have de:B.s 0=.ii B0 0 (U st.em.be):=by have:=Obj.box.inj (KW (dd.symm.trans b3.rep.box));simp only[BX,List.cons.injEq]at this;rw[<-cp];exact this.2.2.2.2.1.symm
  obtain⟨d3,ec,_⟩:=b3.step (b':=D) (D2 _) (Hr (d8:=⟨{j with be:=Gj j.be a.at_ e},st.ev++[E],0⟩) 0 z b3.rep (b3.q_v x.1) (mo rfl rfl rfl) rfl (.ii B0 0 (U st.em.be)) H (by
   have o:=b3.rep.box;rw[p_,av]at o;rw[show H.get m=_ from o];simp only[BX,de];rfl) (BO Y (by grind [BT,Nj]) (by
    rw[A5,BT,List.set_append_left _ _ (by simpa using cl)];have:Gj j.be a.at_ e=st.em.be.set a.at_.toNat {bi with in_:=e}:=by rw[Gj,b6];simp[b5]
    rw[this,I2];rfl)) (.inl (by rw[de])) λid bn ag f=>by grind [p_,AD])
  exact⟨d3,ec⟩⟩
 have dj:AR (∀n,bk.kids=[n]->Cb p sz j ⟨n,a.at_,a.env⟩):=⟨λn q=>by have:=KY b4 cx.1 ar 0;rw[show Bh bk 0 a.at_ a.env=[⟨n,a.at_,a.env⟩] by rw[Bh,q];rfl]at this;rw[s.1];grind [IM]⟩
 have cn:AR (∀(n:Int) (v:C8),bk.op=6->bk.kids=[n]->Hj a.env bk.n=v->Ed p sz {j with be:=Gj j.be a.at_ v.n}/\Cb p sz {j with be:=Gj j.be a.at_ v.n} ⟨n,a.at_,a.env⟩):=⟨λn v cn q W=>by
  obtain⟨t,_,ds,cc⟩:=K.1.val z;rw[W]at ds;subst ds;have be:=d';rw[ws,ar]at be;simp only[cn,Int.reduceEq,Ge,W]at be;have dm:v.kind=4:=by
   by_cases eb:v.kind=4
   .exact eb
   .grind
  rw[D4 dm]at be;obtain⟨d2,_⟩:=cc dm;simp only[As,D3,It]at be;have dq:0<a.at_:=by have:=K.1.at_.1;omega
  refine⟨KO cv dq (by rw[s.1];exact K.1.at_) (by rw[s.1];exact d2) (by rw[s.1];exact be.2.1) (by rw[s.1];exact be.2.2),?_⟩;have:=KY b4 ((KO bv.1 dq K.1.at_ d2 be.2.1 be.2.2).wait a (AP bc)) ar 0;rw[show Bh bk 0 a.at_ a.env=[⟨n,a.at_,a.env⟩] by rw[Bh,q];rfl]at this;rw[s.1];exact IM (this _ AG) (BK st.em.waits i)⟩
 have val:=λc3:¬bk.op=7=>K.1.val c3;have q:=λc3:¬bk.op=7=>AIH b4 K.1 c3;have cu:=K.1.n;have cq:=K.1.at_;have dr:=AB cv;clear cv;rcases F.1.rep.sl 3 z with⟨l,bh⟩|⟨E,a',l,c2⟩
 .have L:=trivial;have Q:=trivial;have O:=trivial;have P:=trivial;have d9:=trivial;rw[l]at bs;replace l:=AB l;replace bh:AR (st.ev=[]):=⟨D7.1 bh⟩;simp[Tryz.f105,MW];rcases dn with M|M|M
  .obtain⟨v,bx,W,cc⟩:=val z;obtain⟨n,q⟩:=q z;obtain⟨c',dc⟩:=cu z;have d6:=cq.1;have d7:=cq.2;obtain⟨bi,b5⟩:=g_ (l:=st.em.be) (i:=a.at_.toNat) z;obtain⟨B0,Y,b',bo,c1,cl,c0,cd,ch,b8,av,b1,a2,ai⟩:=ai.1 _ b5 v.n;have bl:=trivial;have ad:=trivial;try replace bl:=(a2 E zCo).1
   try replace ad:=(a2 E zCo).2
   replace a2:=AB a2;replace ai:=AB ai;have a1:=cn.1 n v M q W;rw[qE bc ar M q W,show({st.em with waits:=BK st.em.waits i,be:=Gj st.em.be a.at_ v.n}:BQ)={j with be:=Gj j.be a.at_ v.n} by rw[s.1]]
   rw[b']at bs;replace a1:=AB a1;refine aw ?_;refine Ak (cs.1 _ _ a1.1.1 a1.1.2 _ _ ⟨2,a.at_,v.n,0,[]⟩ (ai.1 _ _ z _ ?_ ?_ λid bn d8 ag f=>?_)) (λcm w aa=>?_)
   .apply Exists.intro;refine⟨?_,?_,?_⟩
    .exact zB8
    .first
     |(refine BO [] (by simp[bh.1]) ?_
       simp only[CS,Ap,By,Ci,bh.1];exact Ba)
     |(refine BO a' AG ?_
       simp only[Ap,By,Ci,F0,F4,Cs];simp only[go_sem,b8,cd,ch,av,b1,ad,bl,R,T,O,P,L,Q,AM]
       done)
    .first
     |exact .inl zCt
     |exact .inr λid r=>by exact zBA
   .exact Ba
   .have a4:=Aw f 0 (N+39) z z;have a5:=Aw f 1 (N+62) z z;have a6:=Aw f 1 (N+63) z z;exact Ba
   obtain⟨ac,k⟩:=aa;subst ac;replace k:=AB k;refine aw ?_;exact k.1
  .rw[Zd bc ar M,<-s.1];refine aw ?_;refine Ak (df.1 _ _ ⟨3,a.at_,0,0,[]⟩ (b9.1 _ _ z _ ?_ λid bn ag f=>?_)) (λcm w aa=>?_)
   .apply Exists.intro;refine⟨?_,?_,?_⟩
    .exact zBV
    .exact zAs
    .first
     |exact .inl zCt
     |exact .inr λid r=>by exact zBB
   .have a4:=Aw f 0 (N+39) z z;have a5:=Aw f 1 (N+55) z z;have a6:=Aw f 1 (N+56) z z;exact Ba
   obtain⟨ac,k⟩:=aa;subst ac;replace k:=AB k;refine aw ?_;exact k.1
  .obtain⟨v,bx,W,cc⟩:=val z;obtain⟨n,q⟩:=q z;obtain⟨c',dc⟩:=cu z;rw[Ze bc ar M q W,<-s.1];have c6:=dj.1 _ q;refine aw ?_;refine Ak (cs.1 _ _ dr.1 c6 _ _ ⟨4,a.at_,v.n,0,[]⟩ (b9.1 _ _ z _ ?_ λid bn ag f=>?_)) (λcm w aa=>?_)
   .apply Exists.intro;refine⟨?_,?_,?_⟩
    .exact zBV
    .exact zAs
    .first
     |exact .inl zCt
     |exact .inr λid r=>by exact zBC
   .have a4:=Aw f 0 (N+39) z z;have a5:=Aw f 1 (N+64) z z;have a6:=Aw f 1 (N+65) z z;exact Ba
   obtain⟨ac,k⟩:=aa;subst ac;replace k:=AB k;refine aw ?_;exact k.1
 .have dx:=F.1.ids E (A.q_j m (i:=3) z (by rw[l];simp[AD]));have d9:∀b0,AJ E (0::b0::c)=false:=λb0=>AI λo=>Iu F.1 x.1 b0 (by rw[<-o];exact A.q_j m (i:=3) z (by rw[l];simp[AD]));have O:=GJ (b':=0) x.1 dx;have P:=JS x.1 dx;have L:AJ E m=false:=Rn c2 bs;have Q:AJ m E=false:=AI λo=>by grind
  simp[Ie,BT]at c2 l;rw[l]at bs;replace l:=AB l;rcases a' with _|⟨ex,a'⟩;all_goals
   simp[Tryz.f105,MW];rcases dn with M|M|M
   .obtain⟨v,bx,W,cc⟩:=val z;obtain⟨n,q⟩:=q z;obtain⟨c',dc⟩:=cu z;have d6:=cq.1;have d7:=cq.2;obtain⟨bi,b5⟩:=g_ (l:=st.em.be) (i:=a.at_.toNat) z;obtain⟨B0,Y,b',bo,c1,cl,c0,cd,ch,b8,av,b1,a2,ai⟩:=ai.1 _ b5 v.n;have bl:=trivial;have ad:=trivial;try replace bl:=(a2 E zCo).1
    try replace ad:=(a2 E zCo).2
    replace a2:=AB a2;replace ai:=AB ai;have a1:=cn.1 n v M q W;rw[qE bc ar M q W,show({st.em with waits:=BK st.em.waits i,be:=Gj st.em.be a.at_ v.n}:BQ)={j with be:=Gj j.be a.at_ v.n} by rw[s.1]]
    rw[b']at bs;replace a1:=AB a1;refine aw ?_;refine Ak (cs.1 _ _ a1.1.1 a1.1.2 _ _ ⟨2,a.at_,v.n,0,[]⟩ (ai.1 _ _ z _ ?_ ?_ λid bn d8 ag f=>?_)) (λcm w aa=>?_)
    .apply Exists.intro;refine⟨?_,?_,?_⟩
     .exact zB8
     .first
      |(refine BO [] AG ?_
        simp;simp only[go_sem,b8,cd,ch,av,b1,ad,bl,R,T,O,P,L,Q,AM,Cs]
        done)
      |(refine BO a' AG ?_
        simp;exact Ba)
     .first
      |exact .inl zCt
      |exact .inr λid r=>by exact zBA
    .exact Ba
    .have a4:=Aw f 0 (N+39) z z;have a5:=Aw f 1 (N+62) z z;have a6:=Aw f 1 (N+63) z z;exact zBR
    obtain⟨ac,k⟩:=aa;subst ac;replace k:=AB k;refine aw ?_;exact k.1
   .rw[Zd bc ar M,<-s.1];refine aw ?_;refine Ak (df.1 _ _ ⟨3,a.at_,0,0,[]⟩ (b9.1 _ _ z _ ?_ λid bn ag f=>?_)) (λcm w aa=>?_)
    .apply Exists.intro;refine⟨?_,?_,?_⟩
     .exact zBV
     .exact zBY
     .first
      |exact .inl zCt
      |exact .inr λid r=>by exact zBB
    .have a4:=Aw f 0 (N+39) z z;have a5:=Aw f 1 (N+55) z z;have a6:=Aw f 1 (N+56) z z;exact zBR
    obtain⟨ac,k⟩:=aa;subst ac;replace k:=AB k;refine aw ?_;exact k.1
   .obtain⟨v,bx,W,cc⟩:=val z;obtain⟨n,q⟩:=q z;obtain⟨c',dc⟩:=cu z;rw[Ze bc ar M q W,<-s.1];have c6:=dj.1 _ q;refine aw ?_;refine Ak (cs.1 _ _ dr.1 c6 _ _ ⟨4,a.at_,v.n,0,[]⟩ (b9.1 _ _ z _ ?_ λid bn ag f=>?_)) (λcm w aa=>?_)
    .apply Exists.intro;refine⟨?_,?_,?_⟩
     .exact zBV
     .exact zBY
     .first
      |exact .inl zCt
      |exact .inr λid r=>by exact zBC
    .have a4:=Aw f 0 (N+39) z z;have a5:=Aw f 1 (N+64) z z;have a6:=Aw f 1 (N+65) z z;exact zBR
    obtain⟨ac,k⟩:=aa;subst ac;replace k:=AB k;refine aw ?_;exact k.1
