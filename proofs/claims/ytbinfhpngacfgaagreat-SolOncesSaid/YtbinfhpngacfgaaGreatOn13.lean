/- P -/
import Derived.Test.YtbinfhpngacfgaaGreatOn12
set_option linter.all false
set_option maxRecDepth 99999
set_option maxHeartbeats 0
open Go renaming Code->KH
open List renaming replicate->Sm,length->U
open Go.IntKind renaming i64->SE
open Option renaming some->J,none->I
open Bool renaming true->X,false->Z
namespace Go
variable{p:Prop}
def zCO(h:p:=by rw[<-r,EO _ _ _ AG];simp only[go_sem]):p:=h
def zCS(h:p:=by rw[<-n,EO _ _ _ AG];simp only[go_sem]):p:=h
def zCY(h:p:=by simpa using i):p:=h
def zC8(h:p:=by rw[<-f.len];exact l_ hu):p:=h
def zDJ(h:p:=by rw[p_,q_c];rfl):p:=h
def zDK(h:p:=by simp[Gr]):p:=h
def zDR(h:p:=by rw[c];simp):p:=h
end Go
namespace Go
variable{p:Prop}
def zAA(h:p:=by
 (repeat' (first|simp only[*,go_sem,AM,D1,DL,BD]|(refine sx ?_ ?_<;>intro F)|refine sy z λR Q O=>?_|simp(disch:=first|assumption|omega) only[Ad]))
 .have m:=A.1;rw[D4 Cc]at m;refine ac.1 (_,_) ?_;exact⟨_,t,C.1.up AZ λ_ _=>rfl,v.1,m⟩
 .have m:=A.1;rw[Co Cc,M.1]at m;rw[<-N.1];refine zE q.1 b4 b7 bx b8 b9 ?_ ?_ ?_ ?_ ?_ (AY:=0::(x+4)::b) ?_ bo ⟨_,rfl⟩ be.1 jl y0 y1 (C.1.up z λ_ _=>rfl) v.1 ⟨λcm cd cl cq w h=>?_⟩
  iterate 6
   .simp only[*,go_sem]
  have az:=h 0 AG;have a0:=h 1 AG;have a1:=h 2 AG;have a2:=h 6 AG;have a3:=h 7 AG;have a':=h 8 AG;have bc:=h 9 AG;have a4:=h 74 AG;have a5:=h 75 AG;have a6:=h 76 AG;clear h;rw[N.1];simp only[go_sem]at az a0 a1 a2 a3 a' bc a4 a5 a6;replace w:=AB w;have ag:=AR.mk (v.1.mono (Ir (λs=>sS p T D n.node s) n.d7 (L+d.own) t));generalize KE (λs=>sS p T D n.node s) n.d7 (L+d.own) t=L5 at*;replace m:=AB m
  (repeat' (first|simp only[*,go_sem,AM,D1,DL,BD]|(refine sx ?_ ?_<;>intro F)|refine sy z λR Q O=>?_|simp(disch:=first|assumption|omega) only[Ad]))
  refine ac.1 (_,_) ?_;exact⟨_,L5,w.1.up AZ λ_ _=>rfl,ag.1,by rw[M.1];exact m.1⟩):p:=h
def zAJ(h:p:=by
 refine Bf func196 ?_;refine ax (G8 (q.1 _ _ λY W=>?_) (λac Q n=>?_))
 .rfl
 rw[<-f.1]at n;subst n;exact af):p:=h
def zAR(h:p:=by exact⟨this.b0,this.b9,this.b11,this.arr,this.args.mono AZ λ_ _=>rfl,this.cvm.mono AZ λ_ _=>rfl,this.rvm.mono AZ λ_ _=>rfl,this.dj,this.fr,by have:=this.base;dsimp only;omega⟩):p:=h
def zAW(h:p:=by
 rw[Co m]at f;replace f:=AB f;replace k:=AB k;by_cases R:t.op=2
 .have a4:¬t.n=pl:=λr=>m ⟨R,r⟩;replace m:=AB m;refine ax ?_;refine x.1 ((a,_),_) ⟨⟨f.1,v,AZ⟩,?_⟩;dsimp only;simp only[*,go_sem,AM]
 .replace m:=AB m;refine ax ?_;refine x.1 ((a,_),_) ⟨⟨f.1,v,AZ⟩,?_⟩;dsimp only;simp only[*,go_sem,AM]):p:=h
def zAZ(h:p:=by (repeat' (first|simp only[*,go_sem,AM,D1,DL]|(refine sx ?_ ?_<;>intro t)|refine sy z λY M o=>?_|simp(disch:=first|assumption|omega) only[Ad]))):p:=h
def zAh(h:p:=by
 refine Bf func177 ?_;refine ax (DN (w.1 _ _ λag t=>?_) (λai Y s=>?_))
 .have v:=t;rw[Nt]at v;exact Ba
 subst s;refine ax (DN (aa.1 _ _ λag t=>?_) (λai Y s=>?_))
 .have v:=t;rw[Nt]at v;exact Ba
 subst s;refine ax ?_;rw[f.1]):p:=h
def zAp(h:p:=by simp only[*,go_sem]):p:=h
def zAw(h:p:=by
 have⟨r,hr⟩:=g_ (l:=dx) (i:=c) (by rw[ar.len];exact d4);obtain⟨d',e9,d7,rfl,_,av,_⟩:=ar.each c r A8 hr hTu;have e':=l_ hr;rcases ar.arr with⟨_,bs⟩|⟨em,rfl,eg⟩
 .rw[bs]at hr;simp at hr
 .replace ar:=AB ar;rcases ep av hkk with rfl|⟨en,fo,rfl,d3,dq⟩
  .replace av:=AB av
   exact zAA
  .have fc:=l_ dq;replace av:=AB av
   exact zAA):p:=h
def zBI(h:p:=by have N:=v.is;have cc:=AI λn=>t (Eq.symm n);have cd:=AI λn=>Q (Eq.symm n);have ds:=AI λn=>ar (by rw[AD,AS];exact Eq.symm n);exact Ba):p:=h
def zBL(h:p:=by
 refine⟨⟨?_,?_,?_⟩,?_⟩
 .rw[q.1];simp only[s,IS,Ge]
 .unfold Z2;dsimp only;omega
 .dsimp only;omega
 .dsimp only;simp only[go_sem]):p:=h
def zBQ(h:p:=by refine ax ?_;exact A.1 (_,_) ⟨i.1,by have:=j.1;dsimp only;omega⟩):p:=h
def zBb(h:p:=by rw[V,show AE c (0::(b+8)::c)=X from Aq [0,b+8]]at i;cases i):p:=h
def zBm(h:p:=by obtain⟨bv,n,q⟩:=ac.1.eat;exact⟨⟨bv,n,λg i=>(q g i).imp_right λj=>j.mono AZ⟩,ac.1.frame⟩):p:=h
def zBr(h:p:=by have bi:=b3.1.1.is;have b0:=AI λH=>b3.1.2 (Eq.symm H);rw[<-ai];simp only[go_sem,bi,b0,AM]):p:=h
def zB0(h:p:=by
 rcases N g i with j|j
 .exact(x.1 g j).imp_right λj=>j.mono z
 .exact .inr ⟨_,z,j⟩):p:=h
def zB1(h:p:=by have N:=v.is;have cc:=AI λn=>t (Eq.symm n);have cd:=AI λn=>Q (Eq.symm n);exact Ba):p:=h
end Go
namespace Go.Proofs
open Abs Tryz
def FL(t:BQ)(C:Nat):Bool:=BA t.be (((t.ac[C]?).map Fo.at_).getD 0)
def C4(p:Aa)(s:BQ)(x:Dp)(C:Nat):Nat:=if x.wait<0 then(match s.bv[x.group.toNat]? with
 |some g=>match p.defs[g.ip.toNat]? with
  |some d=>match d.rules[x.pp.toNat]? with|some r=>Ji d g C r.d7|none=>0
  |none=>0
 |none=>0)else 0
def Mw(p:Aa)(s:BQ)(x:Dp)(B:ik)(t:BQ):ik:=⟨λC=>B.base C+C4 p s x C+(if FL t C=X then CG s C else 0),if x.wait<0 then ML B.rx x.group.toNat x.pp.toNat else B.rx⟩
theorem xD{B a:ik}(c:∀b,B.base b=a.base b)(e:B.rx=a.rx):B=a:=by cases B;cases a;grind [ik.mk.injEq]
section
variable{p:Aa}{a:Al}{T:List Au}{D:List BJ}{B:ik}{s:BQ}
theorem AI3(c:List CN){b:Nat}{a:Fo}(f:s.ac[b]?=J a)(e:BQ)(g:e.ac=s.ac.map (Ic c)):CG e b=if BA c a.at_=X then 0 else (U a.queue):=by grind [CG,Ic]
def AC2{l:List Ia}{i:Nat}{w:Ia}(h:l[i]?=J w)(C:Nat):H0 p T D C (BK l (i:Int))+wS (sN p T D w.node) C 0 w.env=H0 p T D C l:=dY (λ(w:Ia)=>wS (sN p T D w.node) C 0 w.env) (by rw[Es];exact h)
theorem vp{a:Type}(b:a->Nat)(e:a->Bool):∀c:List a,((c.filter e).map b).sum<=(c.map b).sum
 :=by intro f;induction f<;>grind
theorem AHv(az:Ed p a s)(k:GM p T D B s [])(f:Int)(i:Int):GM p T D ⟨λe=>B.base e+(if FL (OH {s with waits:=BK s.waits f} i) e=X then CG s e else 0),B.rx⟩ (OH {s with waits:=BK s.waits f} i) []:=by
 have K:(OH {s with waits:=BK s.waits f} i)=⟨K2 s.be i,s.bv,s.ac.map (Ic (K2 s.be i)),(BK s.waits f).filter λc=> !BA (K2 s.be i) c.at_⟩:=xL _ _
 rw[K];generalize K2 s.be i=l;have r:∀{e:Nat} {b:Fo},s.ac[e]?=J b->(s.ac.map (Ic l))[e]?=J (Ic l b):=λh=>by rw[Be,h];rfl
 have j:∀b,(Ic l b).group=b.group/\(Ic l b).index=b.index/\(Ic l b).at_=b.at_:=λb=>by grind [Ic]
 have A:∀{H:Int} {x:List C8},Gd D s H x->Gd D ⟨l,s.bv,s.ac.map (Ic l),(BK s.waits f).filter λc=> !BA l c.at_⟩ H x:=λP=>YE P (λ_ _ m=>m) λw b h=>⟨_,r h,(j b).1,(j b).2.1⟩;refine⟨λc W=>A (k.envW c (Js (Qr.1 W).1)),λn m d q v t=>A (k.envG n m d q v t),λa0 Q=>(by cases Q),λe ac R=>?_,λe o=>?_,k.rx0,λY n d aa v m q t w O=>Gt (k.react Y n d aa v m q t w O) (Nat.le_add_right ..)⟩
 .have⟨b,h⟩:=g_ (l:=s.ac) (i:=e) zCI;have C:(s.ac.map (Ic l))[e]?=J ac:=R;rw[r h]at C;cases C;have V:=k.tot e b h;have L:IX T ⟨l,s.bv,s.ac.map (Ic l),(BK s.waits f).filter λc=> !BA l c.at_⟩ (Ic l b)=IX T s b:=by rw[IX,IX,DT,DT,(j b).1,(j b).2.1]
  rw[L];refine C3 (Ha ?_) V;have ad:=AI3 l h ⟨l,s.bv,s.ac.map (Ic l),(BK s.waits f).filter λc=> !BA l c.at_⟩ rfl;have ag:=Ja h;have ai:FL ⟨l,s.bv,s.ac.map (Ic l),(BK s.waits f).filter λc=> !BA l c.at_⟩ e=BA l b.at_:=by rw[FL];dsimp only;rw[r h,Gs,F7,(j b).2.2]
  have ar:Pk T e ⟨l,s.bv,s.ac.map (Ic l),(BK s.waits f).filter λc=> !BA l c.at_⟩ (s.ac.map (Ic l))<=Pk T e s s.ac:=by
   unfold Pk;rw[Ol];have:∀g:List Fo,(g.map ((λb=>qW T e (DT ⟨l,s.bv,s.ac.map (Ic l),(BK s.waits f).filter λc=> !BA l c.at_⟩ b,b.index) b.queue) ∘Ic l)).sum<=(g.map λb=>qW T e (DT s b,b.index) b.queue).sum:=by
    intro g;induction g with
    |nil=>exact D2 _
    |cons b g F=>
     simp at F⊢;refine S2 ?_ F;rw[DT,DT,(j b).1,(j b).2.1];dsimp only;unfold Ic;split
     .exact F9 _
     .exact D2 _
   exact this _
  have av:H0 p T D e ((BK s.waits f).filter λc=> !BA l c.at_)<=H0 p T D e s.waits:=by
   refine Gt (vp _ _ _) ?_;unfold BK;have:=congrArg (λg=>(g.map λc=>wS (sN p T D c.node) e 0 c.env).sum) (I8 f.toNat s.waits);simp only[Ap,List.sum_append]at this⊢;unfold H0;rw[<-this];have M:∀g:u,(g.drop 1).sum<=g.sum:=λg=>by cases g<;>simp
   have N:=M ((s.waits.drop f.toNat).map λc=>wS (sN p T D c.node) e 0 c.env);rw[<-Rx,List.drop_drop]at N;omega
  grind [tot]
 .dsimp only at o⊢;rw[BV]at o;rw[k.base0 e o];grind [CG]
theorem zp{s e:BQ}(c:rB s e){b:Nat}(f:b<U s.ac)(a:FL s b=X):FL e b=true:=by
 have⟨q,hq⟩:=g_ f;have⟨q',hq',ha,_⟩:=c.ch b q hq;rw[FL,hq'];rw[FL,hq]at a;simp at a⊢;rw[ha];rw[BA]at a⊢;rcases hs:s.be[q.at_.toNat]? with _|g
 .rw[hs]at a;cases a
 .rw[hs]at a;have⟨A6,hz,hzz⟩:=c.sp _ g hs;rw[hz,hzz a];exact a
theorem Uw(g:Ao p a)(c:Ed p a s){b:Nat}(h:FL s b=X):CG s b=0:=by
 rw[CG];rcases hq:s.ac[b]? with _|f
 .rfl
 .rcases(c.que b f hq).dead with e|e
  .exact e
  grind [FL]
theorem RR(o:Ao p a)(V:Dz p)(R:Fh p a D)(ar:Da p a D T)(v:Ed p a s)(x:GM p T D B s []){g:Dp}(m:HX p s g){f:Cy}(r:Cz p s g=J f):GM p T D (Mw p s g B f.em) f.em []/\∀b,C4 p s g b<=1:=by
 have⟨hgr,_⟩:=MQ o v m r;have bc:∀b,(FL s b=FL f.em b\/CG s b=0)->(if FL f.em b=X then CG s b else 0)=0:=λb Q=>by grind [Uw]
 cases m with
 | @wait i e M k=>
   have F:∀b,C4 p s ⟨i,0,0,[]⟩ b=0:=λb=>by grind [C4]
   have b1:∀L,(Mw p s ⟨i,0,0,[]⟩ B L).rx=B.rx:=λL=>by show(if ((i:Nat):Int)<0 then ML B.rx ((0:Int).toNat) ((0:Int).toNat)else B.rx)=B.rx;rw[Co z]
   refine⟨?_,λb=>by rw[F];omega⟩;have bk:=v.wait e (AP M);have⟨g,m⟩:=O7 o bk;have bl:Cz p s ⟨i,0,0,[]⟩=MU p {s with waits:=BK s.waits i} e g:=by rw[Cz,Co AZ,Qf];simp[M,m.node]
   rw[bl,MU]at r;by_cases ai:g.op=7
   .grind [AHv,Mw]
   .rw[Co ai]at r;have b0:g.op=6\/g.op=8:=by have:=m.op;omega
    have key:∀(w:List CN) (ev:List Ij),Ed p a {s with waits:=BK s.waits i,be:=w}->(∀j∈Bh g 0 e.at_ e.env,Cb p a {s with waits:=BK s.waits i,be:=w} j)->(∀h,BA w h=BA s.be h)->
     ED (J9 p 401) (Bh g 0 e.at_ e.env) ⟨{s with waits:=BK s.waits i,be:=w},ev,0⟩=J f->GM p T D (Mw p s ⟨i,0,0,[]⟩ B f.em) f.em []:=λw ev K A b3 bh=>by
     have a1:∀{n:Int} {a2:List C8},Gd D s n a2->Gd D {s with waits:=BK s.waits i,be:=w} n a2:=λbn=>YE bn (λ_ _ k=>k) λc q t=>⟨q,t,rfl,rfl⟩
     have az:GM p T D B {s with waits:=BK s.waits i,be:=w} (Bh g 0 e.at_ e.env++[]):=by
      rw[CS];refine⟨λb6 b4=>a1 (x.envW b6 (Js b4)),λC k d r H aa=>a1 (x.envG C k d r H aa),λj bo=>?_,λb q t=>?_,x.base0,x.rx0,x.react⟩
      .exact ff (j:=⟨e.node,e.at_,e.env⟩) o R m.n0 m.node z (a1 (x.envW e (AP M))) j bo
      .have F:=x.tot b q t;refine C3 (Ha ?_) F;have b8:=AC2 (p:=p) (T:=T) (D:=D) M b;have b9:=TX (p:=p) (T:=T) (D:=D) b g 0 e.at_ e.env;have b':wS (sN p T D (DW g 0)) b 0 e.env=wS (sN p T D e.node) b 0 e.env:=by congr 1;funext h;exact AO9 o V m.n0 m.node b0 h
       grind [tot,CG,Pk,DT]
     have Y:=Nf (λj f ac=>Hi o 401 j f ac) (Bh g 0 e.at_ e.env) ⟨{s with waits:=BK s.waits i,be:=w},ev,0⟩ f K A bh
     have a0:=Qc (λj f ac b5=>UO o V R ar 401 j f ac b5) (Bh g 0 e.at_ e.env) [] ⟨{s with waits:=BK s.waits i,be:=w},ev,0⟩ f K (by rw[CS];exact A) az bh
     have av:Mw p s ⟨i,0,0,[]⟩ B f.em=B:=by
      refine xD (λb=>?_) (b1 _);show B.base b+C4 p s ⟨i,0,0,[]⟩ b+_=_;have N:FL s b=FL f.em b\/CG s b=0:=?_
      .rw[F,bc b N];rfl
      by_cases Q:b<U s.ac
      .left;have⟨q,t⟩:=g_ Q;have⟨l,hl⟩:=Y.ext.ch b q t;have be:=(Ix o K (c:=b) (q:=q) t).at_;have:=Gv Y.ext be;grind [FL]
      .grind [CG]
     rw[av];exact a0
    have W:=m.at_;have b7:=W.1;have⟨A6,N⟩:=g_ (l:=s.be) (i:=e.at_.toNat) (by have:=W.2;omega);have K:Ed p a {s with waits:=BK s.waits i}:=by have b2:=v.small;simp[BQ.small]at b2;exact Nw v zDQ λO bi=>v.wait O (Js bi)
    have⟨O,bi,hn,hk⟩:=m.val ai;rw[ws,m.node]at k;simp only[ai,Ge,hn]at k;split at k
    .rename_i bs;have⟨aa,A9,hy,hyd⟩:=hk bs;by_cases a':g.op=6
     .rw[D4 a',hn]at r;rw[Co z]at k;simp only[As,D3,It]at k;have bv:=KO K (i:=e.at_) (n:=O.n) z W aa k.2.1 k.2.2;have bx:=KO v (i:=e.at_) (n:=O.n) z W aa k.2.1 k.2.2;exact key (Gj s.be e.at_ O.n) _ bv (λj A=>IM (KY o (bx.wait e (AP M)) m.node 0 j A) (BK s.waits i)) (λh=>Q4 N h) r
     .rw[Co a',hn]at r;exact key s.be _ K (λj A=>IM (KY o bk m.node 0 j A) (BK s.waits i)) (λh=>rfl) r
    .cases k
 | @pp i h C d H L ad P ag a5 a6=>
   have⟨htk,A⟩:=Ns o v ad P ag a5 a6;have a3:s.bv[((i:Nat):Int).toNat]?=J C:=ad;have a4:d.rules[((h:Nat):Int).toNat]?=J H:=ag;have⟨az,hal,hle⟩:=RQ o V R ar v x ad P ag a5 a6 (C.place d H.at_);have F:∀b,C4 p s ⟨-1,i,h,L⟩ b=Ji d C b H.d7:=λb=>by rw[C4,D4 AZ];simp only[a3,(Cr P).2,a4]
   refine⟨?_,λb=>by rw[F];exact hle b⟩;rw[Cz,D4 AZ,react]at r;simp only[a3,(Cr P).2,a4,RI]at r;have⟨Y,a0⟩:=UO o V R ar 401 _ _ _ [] htk.qr A AG az r;have av:Mw p s ⟨-1,i,h,L⟩ B f.em=vr B d C H i h:=by
    refine xD (λb=>?_) ?_
    .show B.base b+C4 p s ⟨-1,i,h,L⟩ b+_=B.base b+Ji d C b H.d7;have N:FL s b=FL f.em b\/CG s b=0:=?_
     .rw[F,bc b N];rfl
     by_cases Q:b<U s.ac
     .left;have⟨q,t⟩:=g_ Q;have⟨q',hq',ha',_⟩:=hgr.ch b q t;have be:=(Ix o v (c:=b) (q:=q) t).at_;have b3:=htk.only.be;have cc:=Gv Y.ext (i:=q.at_) zCI;grind [FL]
     grind [CG]
    .show(if (-1:Int)<0 then ML B.rx ((i:Nat):Int).toNat ((h:Nat):Int).toNat else B.rx)=ML B.rx i h;grind
   rw[av];exact a0
structure wX(B:ik)(s:BQ)(i:Nat):Prop:=
 all:∀C,B.base C+CG s C<=12+i
 live:∀C,FL s C=Z->B.base C<=i
def yI(c:Ed p a s)(b:Nat):CG s b<=12:=by
 rw[CG];rcases hq:s.ac[b]? with _|e
 .exact F9 _
 .exact(c.que b e hq).len
theorem AGm(j:Ao p a)(o:Ed p a s){c:Dp}(q:HX p s c){g:Cy}(m:Cz p s c=J g)(k:∀b,C4 p s c b<=1)(r:GM p T D B s []){f:Nat}(l:wX B s f):wX (Mw p s c B g.em) g.em (f+1):=by
 have⟨hgr,_⟩:=MQ j o q m;have⟨hs',_⟩:=Vc j o q m;have n:∀b,FL g.em b=Z->(Mw p s c B g.em).base b<=f+1:=λb i=>by
  by_cases x:b<U s.ac
  .have h:FL s b=false:=by
    rcases e:FL s b with _|_
    .rfl
    .grind [zp]
   have:=l.live b h;have:=k b;show B.base b+C4 p s c b+_<=f+1;grind
  .have t:CG s b=0:=by rw[CG,MT.2 z];rfl
   have:=k b;have h:=r.base0 b z;show B.base b+C4 p s c b+_<=f+1;grind
 refine⟨λb=>?_,n⟩;have A:=yI hs' b;rcases i:FL g.em b with _|_
 .have:=n b i;omega
 .have h:=Uw j hs' i;have v:=l.all b;have w:=k b;rw[h];show B.base b+C4 p s c b+_+0<=12+(f+1);split<;>omega
end
def UW(a:Aa)(D:List BJ)(b c:Int):Int:=EV a D (U a.nodes+1) b c
def dW(b:Aa)(D:List BJ)(a c:Int):Nat:=(UW b D a c).toNat
section
variable{p:Aa}{e:Al}{D:List BJ}{n:Int}{x:CQ}
theorem iH{f:Int->Int}(e:∀b,0<=f b):∀{c:Al} {a:Int},0<=a->Rb f c a=a+((c.map λb=>(f b).toNat).sum:Nat)
 :=by intro x;induction x<;>grind [Rb]
theorem MR(p:Aa)(D:List BJ):∀(b:Nat) (n a:Int),0<=EV p D b n a
 |0,n,a=>by rw[EV];omega|b+1,n,a=>by have c:=λn=>MR p D b n a;rw[EV];grind [dZ,PE,N9,iH]
def vo(p:Aa)(D:List BJ)(n a:Int):0<=UW p D n a:=MR ..
theorem qN(l:Ao p e)(o:Dz p)(m:0<=n)(k:p.nodes[n.toNat]?=J x)(f:Int):UW p D n f=
 if x.op=2 then dZ p D n x f
  else if x.op=3 then UW p D (DW x 0) f+UW p D (DW x 1) f
  else if x.op=5 then PE (UW p D (DW x 0) f) (UW p D (DW x 1) f)
  else if x.op=4 then N9 (λr=>UW p D r f) p x else 0:=by
 have j:=Hy l k;have h:∀i∈HC p n,EV p D (U p.nodes) i f=UW p D i f:=λi q=>(da l D f (xI o m k i q) (T6 _)).symm;rw[UW,EV,k];dsimp only;split
 .rfl
 split
 .rename_i g;have⟨a,b⟩:=j.two (.inl g);rw[h _ a,h _ b]
 split
 .rename_i g;have⟨a,b⟩:=j.two (.inr g);rw[h _ a,h _ b]
 split
 .rename_i g;have⟨d,hd,a,b,c⟩:=j.defn g;grind [N9,Zh]
 .rfl
def AK2(g:Ao p e)(h:Dz p)(f:0<=n)(k:p.nodes[n.toNat]?=J x)(j:x.op=4){d:Bd}(i:p.defs[x.n.toNat]?=J d)(a:Int):dW p D n a=dW p D (DW x 0) a+(d.be.map λb=>dW p D b.node a).sum:=by rw[dW,qN g h f k,Co z,Co z,Co z,D4 j,N9,i];dsimp only;rw[iH (f:=λc=>UW p D c a) (λc=>vo ..) (vo ..),Ol];have:=vo p D (DW x 0) a;show(UW p D (DW x 0) a+((d.be.map λb=>dW p D b.node a).sum:Nat)).toNat=_;unfold dW at*;omega
structure eP(D:List BJ)(C:Nat)(i:Int)(c:Int×Int)(n:Int)(e:List C8):Prop:=
 den:HG (den D n) i=J c
 val:e[i.toNat]?=J ⟨3,(C:Int)⟩
def jC(s:BQ)(C:Nat)(c:Int×Int):Prop:=∃q g,s.ac[C]?=J q/\Jh s.be q.at_/\BA s.be q.at_=Z/\q.index=c.2/\s.bv[q.group.toNat]?=J g/\g.ip=c.1
variable{s a:BQ}
def cL{c:Nat}{e:Int×Int}(h:jC s c e)(b:Vl s a):jC a c e:=by obtain⟨o,f,i,g,j,k,m,n⟩:=h;have⟨l,h7⟩:=b.ch c o i;exact⟨_,f,h7,JO b.ns g,by rw[Gv b g];exact j,k,b.gr _ f m,n⟩
theorem Tw(c:Vl s a)(b:Nat):CG s b<=CG a b:=by
 rcases hq:s.ac[b]? with _|e
 .grind [CG]
 .have⟨l,hl⟩:=c.ch b e hq;rw[Ja hq,Ja hl];simp
def X0(p:Aa)(e:Al)(D:List BJ)(t:BQ)(C:Nat):Prop:=∀q,t.ac[C]?=J q->∀(n:Int) x,0<=n->p.nodes[n.toNat]?=J x->x.op=4->x.n=DT t q->dW p D n ((e[n.toNat]?).getD 0+q.index)<=CG t C
def AJ2(o:Ed p e s)(c:Vl s a){b:Nat}(j:b<U s.ac)(h:X0 p e D s b):X0 p e D a b:=λt f n x i r m k=>by
 have⟨q,hq⟩:=g_ j;have⟨l,hl⟩:=c.ch b q hq;rw[hl]at f;cases f;have g:DT a {q with queue:=q.queue++l}=DT s q:=by show DT a q=_;exact Ux o c hq
 exact Gt (h q hq n x i r m (by rw[k,g])) (Tw c b)
structure k7(p:Aa)(sz:Al)(D:List BJ)(s s':BQ)(js:List GL):Prop:=
 ext:Vl s s'
 qr:Ed p sz s'
 old:∀C i c,jC s C c->(∀j∈js,eP D C i c j.node j.env)->CG s C+(js.map λj=>dW p D j.node i).sum<=CG s' C
 new:∀C,U s.ac<=C->X0 p sz D s' C
def Yt{q:GL->Cy->Option Cy}(s:∀f a c,Ed p e a.em->Cb p e a.em f->q f a=J c->k7 p e D a.em c.em [f]):
 ∀(k:List GL) (a c:Cy),Ed p e a.em->(∀f∈k,Cb p e a.em f)->ED q k a=J c->k7 p e D a.em c.em k
 |[],a,c,hs,hj,l=>by cases l;refine⟨JE _,hs,λb n m _ _=>AG,λb r H C=>?_⟩;have:=l_ C;omega|f::k,a,c,hs,hj,l=>by
  rw[ED]at l;obtain⟨o,x,A⟩:=HE.1 l;have g:=s f a o hs (hj f AG) x;have i:=Yt s k o c g.qr (λj h=>Oc (hj j (by simp[h])) g.ext) A;refine⟨Uy g.ext i.ext,i.qr,λb n m t v=>?_,λb r=>?_⟩
  .have w:=g.old b n m t λj h=>by rw[AS]at h;subst h;exact v j (CO ..)
   have F:=i.old b n m (cL t g.ext) λj h=>v j (Bi _ h);simp only[By,Ci,List.sum_cons,List.sum_nil]at w⊢;omega
  .by_cases B:b<U o.em.ac
   .exact AJ2 g.qr i.ext B (g.new b r)
   .exact i.new b z
variable{k:Nat}
theorem Mm(a:Ao p e)(b:p.nodes[n.toNat]?=J x)(f:x.op=3\/x.op=5\/x.op=6\/x.op=8\/x.op=4)(c:k<(if x.op=3\/x.op=5 then 2 else 1)):x.kids[k]?=J (DW x k):=by have⟨s,l,hs,h0,h1,hok,hsub,_⟩:=a.node _ x b;grind [Cw,DX,DW]
theorem Oe(c:Ao p e)(h:p.nodes[n.toNat]?=J x)(g:x.op=3\/x.op=5\/x.op=6\/x.op=8\/x.op=4)(f:k<(if x.op=3\/x.op=5 then 2 else 1))(a:Int)(b:List C8):Bh x k a b=[⟨DW x k,a,b⟩]:=by grind [Bh,Mm]
theorem AHY(b:Int)(c:Ay):∀(a:List Dy) (k:Nat) (d:Bd),((Cg d c k a).map λe=>dW p D e.node b).sum=(a.map λf=>dW p D f.node b).sum
 :=by intro x;induction x<;>grind [Cg]
theorem VD{f:GL}{g:BQ}{j:List GL}(k:Vl s g)(w:Ed p e g)(v:U g.ac=U s.ac\/∀b,U s.ac<=b->b<U g.ac->X0 p e D a b)(i:k7 p e D g a j)(o:∀b c h,jC s b h->eP D b c h f.node f.env->CG s b+dW p D f.node c<=CG g b+(j.map λf=>dW p D f.node c).sum/\∀m∈j,eP D b c h m.node m.env):k7 p e D s a [f]:=by
 refine⟨Uy k i.ext,i.qr,λb c h l q=>?_,λb t=>?_⟩
 .have⟨n,h2⟩:=o b c h l (q f (AS.2 rfl));have r:=i.old b c h (cL l k) h2;grind
 .by_cases n:b<U g.ac
  .grind
  .exact i.new b z
def PT(e:Al)(D:List BJ)(n:Int):Prop:=∀q∈den D n,0<=q.1/\q.1<(e[n.toNat]?).getD 0
theorem AFt(m:Ao p e)(t:Fh p e D)(r:0<=n)(h:p.nodes[n.toNat]?=J x)(j:PT e D n){b:Int}(a:b∈HC p n):PT e D b:=by
 have⟨s,l,hs,s0,_,hok,c,hq⟩:=m.node _ x h;have B:=l_ h;unfold PT at j⊢;rw[hs]at j;rw[t.sub n r z b (K6.2 a),aO,h];simp only[F7]at j⊢;rw[HC,h]at a;dsimp only at a;by_cases g:x.op=4
 .rw[D4 g]at a⊢;have⟨n1,n2,_⟩:=E6 m h g;have⟨d,hd⟩:=g_ (l:=p.defs) (i:=x.n.toNat) z;rw[hd]at a⊢;rw[IB,D4 g,hd]at c;dsimp only at c a;split at c
  .rename_i A;cases c;have w:=(VK A).chan;have key:∃o,e[b.toNat]?=J o/\s+d.own<=o:=by
    rcases Ac.1 a with a|a
    .obtain⟨i,C,rfl⟩:=EX.1 a;have f:0<=i.node/\e[i.node.toNat]?=J (s+d.own+CJ d i.d7):=hq (i.node,_) (by grind [DP]);exact⟨_,f.2,by have:=(OB (λq v=>(w q v).2.2) i.d7).1;omega⟩
    .rcases Ac.1 a with a|a
     .obtain⟨k,F,rfl⟩:=EX.1 a;have f:0<=k.node/\e[k.node.toNat]?=J (s+d.own):=hq (k.node,_) (by grind [Cx]);grind
     .have f:0<=b/\e[b.toNat]?=J (s+d.own):=hq (b,_) (by grind [Cn]);grind
   grind [Bd.own,GZ]
  .cases c
 .rw[Co g]at a⊢;rw[IB,Co g]at c;cases c;have f:0<=b/\e[b.toNat]?=J s:=hq (b,s) (by grind [Cn]);rw[f.2];exact j
def cF(g:Ao p e)(f:Fh p e D):∀{k:Nat} {n c:Int},UX p k n->PT e D n->c∈FK p k n->PT e D c
 |0,_,_,b,_,_=>b.elim|k+1,n,c,b,hk,a=>by
  rw[FK]at a;rcases DO.1 a with rfl|a
  .exact hk
  .obtain⟨j,h,a⟩:=BE.1 a;obtain⟨x,i⟩:=b.2.1;exact cF g f (b.2.2 j h) (AFt g f b.1 i hk h) a
def xe(f:Ao p e)(b:Dz p)(a:Fh p e D)(c:0<=n)(g:n<U p.nodes):PT e D n:=cF f a b.main (by unfold PT;rw[a.main];intro i h;cases h) (b.all n c g)
def ez:∀{b:BJ} {a:Int} {c:Int×Int},(∀e∈b,e.1≠a)->HG b a=I
 |[],a,c,h=>rfl|(k,c2)::b,a,c,h=>by rw[HG,Co (h _ (CO ..)),ez (c:=c) λe f=>h e (Bi _ f)]
theorem kL{size d:Int}{e a:Nat}(g:a<e):HG (GZ size d e) (size+a)=J (d,(a:Int)):=by
 have:∀(b:u),a∈b->HG (b.map λ(c:Nat)=>(size+c,(d,(c:Int)))) (size+a)=J (d,(a:Int)):=by intro b;induction b with|nil=>intro f;cases f|cons h b i=>grind [HG]
 exact this _ (OL.2 g)
theorem fm(h:Ao p e)(M:Dz p)(L:Fh p e D):∀(k:Nat) (a:GL) (b t:Cy),Ed p e b.em->Cb p e b.em a->J9 p k a b=J t->k7 p e D b.em t.em [a]
 |0,a,b,t,_,_,s=>by cases s|k+1,a,b,t,hs,hj,s=>by
  rw[J9]at s;split at s
  .rename_i cq;rcases f:Kn p a {b with work:=b.work+1}with _|b4
   .rw[f]at s;cases s
   .obtain⟨b5,bx⟩:=b4;rw[f]at s;have i:=R6 (st:={b with work:=b.work+1}) h hs hj f
    have q:=Yt (λa b t=>fm h M L k a b t) bx b5 t i.qr i.jobs s;have⟨x,l,hx,hok,hsub,A,_⟩:=Lz h hj;have C:=hj.n0;simp[Kn,hx]at f;have a2:=λj=>qN (D:=D) h M C hx j;have T:∀{k:Nat} {B:Int},¬x.op=4->x.kids[k]?=J B->den D B=den D a.node:=λc N=>xH h L C hx c N;split at f
    .rename_i c;have⟨st2,hs2,H⟩:=BY.1 f;cases H;refine VD i.ext i.qr ?_ q λo j w v g=>⟨?_,AG⟩
     .grind [Ff,Oz,Vt]
     .simp;have ai:=Tw i.ext o;rw[dW,a2 j,D4 c,dZ,g.den];dsimp only at ai⊢;split
      .rename_i W;obtain⟨F,b9,a5,a6,cs,b0,b1,b2⟩:=v;have a4:=g.val;rw[<-W.1]at a4;have bl:Hj a.env x.n=⟨3,(o:Int)⟩:=by rw[Hj,a4];rfl
       simp only[Ff,bl]at hs2;rw[Co Af,D4 trivial]at hs2;obtain⟨cu,Q,rfl⟩:=BY.1 hs2;rw[Oz,Es,a5]at Q;dsimp only at Q;have N:EE p b.em F=((x.args.map (·.value a.env)).length:Int):=by have:=cQ hs a5 b1 (k:=EE p b.em F) rfl;have ad:=W.2;rw[Nb,D3]at ad;rw[b2,b0]at this;rw[BV,<-ad,this]
       grind [Vt,CG]
      .exact ai
    split at f
    .rename_i c;cases f;have O:=Oe h hx (.inl c) (k:=0) zC1 a.at_ a.env;have P:=Oe h hx (.inl c) (k:=1) zC1 a.at_ a.env;rw[O,P]at q;refine VD i.ext i.qr (.inl rfl) q λo j w v g=>⟨?_,λn r=>?_⟩
     .grind [dW]
     .simp at r;rcases r with rfl|rfl
      .exact⟨by rw[T z (Mm h hx (.inl c) (k:=0) zC1)];exact g.den,g.val⟩
      .exact⟨by rw[T z (Mm h hx (.inl c) (k:=1) zC1)];exact g.den,g.val⟩
    split at f
    .rename_i c;have⟨d,hdi⟩:=fA h hs hj hx c;have bo:=i.qr;simp only[KI,hdi.ip]at f;split at f
     .cases f;have⟨d2,aa,k1,k2,k3⟩:=(Hy h hx).defn c;rw[hdi.ip]at aa;cases aa;rw[Oe h hx (.inr (.inr (.inr (.inr c)))) (k:=0) zC1]at q;have ac:∀B∈HC p a.node,den D B=den D a.node++GZ ((e[a.node.toNat]?).getD 0) x.n (U d.ac):=λB N=>xF L C hx c hdi.ip N;have av:∀n∈Cg d (Ae b.em d x.n a) 0 d.be++[(⟨DW x 0,a.at_,(Ae b.em d x.n a).env⟩:GL)],n.node∈HC p a.node/\n.env=a.env++Hb (U b.em.ac) (U b.em.be) d:=λn r=>by
       rcases Ac.1 r with K|K
       .obtain⟨m,b7,P,rfl⟩:=LK K;exact⟨k2 b7.node (MP (AP P)),rfl⟩
       .rw[AS]at K;subst K;exact⟨k1,rfl⟩
      have a3:∀j,((Cg d (Ae b.em d x.n a) 0 d.be++[(⟨DW x 0,a.at_,(Ae b.em d x.n a).env⟩:GL)]).map λn:GL=>dW p D n.node j).sum=dW p D a.node j:=λj=>by rw[Ap,List.sum_append,AHY,AK2 h M C hx c hdi.ip j];grind
      refine VD i.ext bo (.inr λo cn R=>?_) q λo j w v g=>⟨?_,λn r=>?_⟩
      ·
       have R:o<(b.em.ac++Eh d (Ae b.em d x.n a) (U b.em.bv) 0 d.ac).length:=R;rw[Dl,JR]at R;obtain⟨m,rfl⟩:∃m,o=U b.em.ac+m:=⟨o-U b.em.ac,z⟩;have V:m<U d.ac:=z;have⟨ch,hch⟩:=g_ V;have a0:(Br b.em d (Ae b.em d x.n a)).ac[U b.em.ac+m]?=J ⟨(U b.em.bv:Int),((0+m:Nat):Int),(Ae b.em d x.n a).place d ch.at_,[]⟩:=by show(b.em.ac++_)[_]?=_;rw[D6 z,Mt,Gz,hch];rfl
       have ag:(Br b.em d (Ae b.em d x.n a)).bv[((U b.em.bv:Nat):Int).toNat]?=J (Ae b.em d x.n a):=by show(b.em.bv++[_])[_]?=_;rw[Es,D6 (D2 _),IF];rfl
       have Y:=hdi.ok.chan ch (AP hch);have a1:Jh (Br b.em d (Ae b.em d x.n a)).be ((Ae b.em d x.n a).place d ch.at_)/\BA (Br b.em d (Ae b.em d x.n a)).be ((Ae b.em d x.n a).place d ch.at_)=false:=hdi.spot Y.1 Y.2.1;have be:jC (Br b.em d (Ae b.em d x.n a)) (U b.em.ac+m) (x.n,(m:Int)):=⟨_,_,a0,a1.1,a1.2,AZ,ag,rfl⟩;have bc:=xe h M L C (by have:=l_ hx;omega);have bs:(e[a.node.toNat]?).getD 0=(U a.env:Int):=by rw[hj.size];rfl
       have bk:HG (den D a.node) ((e[a.node.toNat]?).getD 0+(m:Int))=none:=ez (c:=(0,0)) λF A H=>by have:=bc F A;omega
       have g:∀n∈Cg d (Ae b.em d x.n a) 0 d.be++[(⟨DW x 0,a.at_,(Ae b.em d x.n a).env⟩:GL)],eP D (U b.em.ac+m) ((e[a.node.toNat]?).getD 0+(m:Int)) (x.n,(m:Int)) n.node n.env:=λn r=>by
        have⟨m1,m2⟩:=av n r;refine⟨?_,?_⟩
        .rw[ac _ m1,S6,bk];exact kL V
        .rw[m2,bs,show((U a.env:Int)+m).toNat=U a.env+m by omega,D6 z,Mt,KN _ _ _ V];simp
       have bh:=q.old _ _ _ be g;rw[a3]at bh;intro F A b3 b6 b' bv bn az;have⟨a6,hl2⟩:=q.ext.ch _ _ a0;rw[hl2]at A;cases A;have a':DT t.em ⟨(U b.em.bv:Int),((0+m:Nat):Int),(Ae b.em d x.n a).place d ch.at_,[]++a6⟩=x.n:=by rw[DT];dsimp only;rw[q.ext.gr _ _ ag];rfl
       rw[a']at az;have b8:b3=a.node:=by have:=Classical.byContradiction λbi=>h.diff _ _ b6 x bi bv bn hx c (by rw[az]);omega
       grind
      .rw[a3 j];exact Nat.add_le_add_right (Tw hdi.ext o) _
      .have⟨m1,m2⟩:=av n r;refine⟨?_,?_⟩
       .rw[ac _ m1,S6,g.den];rfl
       .rw[m2,D8 (l_ g.val)];exact g.val
     .cases f
    split at f
    .rename_i cp c;cases f;have ar:TU x a.env<2:=by
      unfold TU;split
      .split<;>omega
      .omega
     have O:=Oe h hx (.inr (.inl c)) (k:=TU x a.env) (by simp[c];exact ar) a.at_ a.env;rw[O]at q;refine VD i.ext i.qr (.inl rfl) q λo j w v g=>⟨?_,λn r=>?_⟩
     .grind [dW,PE]
     .simp at r;subst r;exact⟨by rw[T z (Mm h hx (.inr (.inl c)) (k:=TU x a.env) (by simp[c];exact ar))];exact g.den,g.val⟩
    split at f
    .rename_i c;have⟨st2,hs2,H⟩:=BY.1 f;cases H;refine VD i.ext i.qr (.inl ?_) q λo j w v g=>⟨?_,AG⟩
     .grind [Gg]
     .rw[dW,a2 j,Co z,Co z,Co z,Co z];exact Tw i.ext o
    .rename_i Q cc cd cl cm;cases f;refine VD i.ext i.qr (.inl rfl) q λo j w v g=>⟨?_,AG⟩;grind [dW]
  .cases s
end
structure Su:=
 s:BQ
 jp:Al
 ge:List Al
def KC(p:Aa)(g:Ay):Nat:=((p.defs[g.ip.toNat]?).map λd=>U d.rules).getD 0
def Mq(s:BQ)(n:Nat):Al:=(s.ac.drop n).map λq=>(U q.queue:Int)
def IU(p:Aa)(s:BQ)(n:Nat):List Al:=(s.bv.drop n).map λg=>Sm (KC p g) (0:Int)
def Mo(p:Aa)(s:BQ)(jp:Al)(ge:List Al):Su:=⟨s,jp++Mq s (U jp),ge++IU p s (U ge)⟩
def Lq(p:Aa)(s:BQ)(x:Dp)(t:BQ)(C:Nat)(n:Int):Int:=if FL t C=X then n else n+(CG t C:Int)-(CG s C:Int)+(C4 p s x C:Int)
def Pj(p:Aa)(s:BQ)(x:Dp)(t:BQ):Nat->Al->Al
 |_,[]=>[]|C,n::l=>Lq p s x t C n::Pj p s x t (C+1) l
def P4(l:Al)(k:Nat):Al:=match l[k]? with|some n=>l.set k (n+1)|none=>l
def LB(L:List Al)(x:Dp):List Al:=if x.wait<0 then(match L[x.group.toNat]? with|some l=>L.set x.group.toNat (P4 l x.pp.toNat)|none=>L)else L
def PF(b:Aa)(a:Su)(c:Dp)(e:BQ):Su:=Mo b e (Pj b a.s c e 0 a.jp) (LB a.ge c)
theorem R0(p:Aa)(s:BQ)(x:Dp)(t:BQ):∀(l:Al) (C:Nat),(Pj p s x t C l).length=U l
 :=by intro x;induction x<;>grind [Pj]
theorem Xq(p:Aa)(s:BQ)(x:Dp)(t:BQ):∀(l:Al) (C i:Nat),(Pj p s x t C l)[i]?=(l[i]?).map (Lq p s x t (C+i))
 :=by intro x;induction x<;>grind [Pj]
theorem AA2(l:Al)(k:Nat):(P4 l k).length=U l:=by unfold P4;split<;>simp
theorem AA1(l:Al)(k i:Nat):(P4 l k)[i]?=(l[i]?).map λn=>n+if i=k then 1 else 0:=by grind [P4]
theorem WV(L:List Al)(x:Dp):(LB L x).length=U L:=by grind [LB]
theorem pW(L:List Al)(x:Dp)(i:Nat):(LB L x)[i]?=(L[i]?).map λl=>if x.wait<0/\i=x.group.toNat then P4 l x.pp.toNat else l:=by grind [LB]
def hO:ik:=⟨λ_=>0,λ_ _=>0⟩
def N4(c:Aa)(f:Al)(D:List BJ)(e:List Au):Prop:=∀(a:Int) x d (b:Nat),0<=a->c.nodes[a.toNat]?=J x->x.op=4->c.defs[x.n.toNat]?=J d->b<U d.ac->CB e x.n b=2->UW c D a ((f[a.toNat]?).getD 0+b)=1
section
variable{p:Aa}{a:Al}{T:List Au}{D:List BJ}{B:ik}{s:BQ}
def Zl(e:Ao p a)(k:Dz p)(c:Fh p a D)(j:Da p a D T){b:Cy}(h:JG p=J b):GM p T D hO b.em []:=by
 have i:GM p T D hO Db [⟨p.main,0,Dq (U p.free)⟩]:=by refine⟨λw n=>(by cases n),λr l=>(by cases l),λt g=>?_,λo v m=>(by simp[Db]at m),λ_ _=>rfl,λ_ _ _=>rfl,λ_ _ _ _ _ _ _ _ _ _=>D2 _⟩;rw[AS]at g;subst g;intro s q f;rw[show den D p.main=[]from c.main]at f;cases f
 exact(UO e k c j 401 _ ⟨Db,[],0⟩ b [] (Qw p a) (Qv e) AG i h).2
def ABK(e:Ao p a)(h:Dz p)(g:Fh p a D){b:Cy}(f:JG p=J b)(c:Nat):X0 p a D b.em c:=(fm e h g 401 _ ⟨Db,[],0⟩ b (Qw p a) (Qv e) f).new c (F9 _)
def AF7(g:Ao p a)(n:Dz p)(m:Fh p a D)(i:Ed p a s){j:Dp}(o:HX p s j){b:Cy}(h:Cz p s j=J b){c:Nat}(t:U s.ac<=c):X0 p a D b.em c:=by
 have⟨s1,e,js,hm,hk⟩:=dV g i o;have r:U s1.ac=U s.ac:=by have f:=hm.qr.tot;have l:=i.tot;rw[hk.gr,l]at f;exact(congrArg Prod.fst f).symm
 rw[hm.run]at h;exact(Yt (λq b k=>fm g n m 401 q b k) js ⟨s1,[e],0⟩ b hm.qr hm.jobs h).new c AZ
structure YA(p:Aa)(sz:Al)(B:ik)(i:Nat)(x:Su):Prop:=
 qr:Ed p sz x.s
 lc:U x.jp=U x.s.ac
 jp:∀C n,x.jp[C]?=J n->n=((B.base C+CG x.s C:Nat):Int)
 lr:U x.ge=U x.s.bv
 ge:∀(j:Nat) l g,x.ge[j]?=J l->x.s.bv[j]?=J g->(U l)=KC p g/\∀k n,l[k]?=J n->n=((B.rx j k:Nat):Int)
 num:wX B x.s i
 rxn:∀j k,B.rx j k<=i
theorem xx{B:ik}{s:BQ}{jp:Al}{ge:List Al}{i:Nat}(l:Ed p a s)(m:U jp<=(U s.ac))(n:∀c f,jp[c]?=J f->f=((B.base c+CG s c:Nat):Int))(o:∀c,U jp<=c->B.base c=0)(q:U ge<=(U s.bv)) (r:∀(b:Nat) g h,ge[b]?=J g->s.bv[b]?=J h->(U g)=KC p h/\∀e f,g[e]?=J f->f=((B.rx b e:Nat):Int)) (t:∀b,U ge<=b->∀e,B.rx b e=0) (j:wX B s i) (k:∀b e,B.rx b e<=i):YA p a B i (Mo p s jp ge):=by
 refine⟨l,?_,λc f x=>?_,?_,λb g h w v=>?_,j,k⟩
 .grind [Mo,Mq]
 .grind [Mo,Mq,Ja]
 .grind [Mo,IU]
 grind [Mo,IU]
def AAJ(g:Ao p a){e:Cy}(f:JG p=J e):YA p a hO 0 (Mo p e.em [] []):=by have c:=(YM g f).1;refine xx c (F9 _) (λb m i=>by simp at i) (λ_ _=>rfl) (F9 _) (λk l j h=>by simp at h) (λ_ _ _=>rfl) ⟨λb=>?_,λb _=>F9 _⟩ λ_ _=>F9 _;have:=yI c b;show 0+_<=_;omega
theorem qK(l:Ao p a)(P:Dz p)(O:Fh p a D)(M:Da p a D T){m:Nat}{h:Su}(r:GM p T D B h.s [])(f:YA p a B m h){b:Dp}(t:HX p h.s b){n:Cy}(s:Cz p h.s b=J n):YA p a (Mw p h.s b B n.em) (m+1) (PF p h b n.em):=by
 have⟨hU1,ht⟩:=RR l P O M f.qr r t s;have⟨hgr,_⟩:=MQ l f.qr t s;have ag:=(Vc l f.qr t s).1;have H:=AGm l f.qr t s ht r f.num;have a4:∀e,FL n.em e=X->C4 p h.s b e=0:=λe N=>?_
 .refine xx ag ?_ (λe be H=>?_) (λe N=>?_) ?_ (λi bc v W V=>?_) (λi A g=>?_) H λi g=>?_
  .rw[R0,f.lc];exact hgr.cl
  .rw[Xq]at H;obtain⟨ar,ac,rfl⟩:=BY.1 H;rw[I7,Lq,f.jp e ar ac];show _=((B.base e+C4 p h.s b e+(if FL n.em e=X then CG h.s e else 0)+CG n.em e:Nat):Int);grind [Uw]
  .rw[R0,f.lc]at N;show B.base e+C4 p h.s b e+_=0;have av:CG h.s e=0:=by rw[CG,MT.2 z];rfl
   have az:C4 p h.s b e=0:=?_
   .rw[r.base0 e N,az,av];simp
   by_cases a0:e<U n.em.ac
   .cases t with|wait k j=>grind [C4]| @pp m g v d K aa k j o w x=>have C:h.s.bv[((m:Nat):Int).toNat]?=J v:=k;have F:d.rules[((g:Nat):Int).toNat]?=J K:=o;rw[C4,D4 AZ];simp only[C,(Cr j).2,F];exact NU λc Q L=>by have:=(RQ l P O M f.qr r k j o w x 0).2.1 c Q;omega
   .have:=hU1.base0 e z;grind [Mw]
  .rw[WV,f.lr];exact hgr.gl
  .rw[pW]at W;obtain⟨ai,Y,rfl⟩:=BY.1 W;have⟨g0,hg0⟩:=g_ (l:=h.s.bv) (i:=i) (by have:=l_ Y;rw[f.lr]at this;exact this);rw[hgr.gr i g0 hg0]at V;cases V;have⟨r1,r2⟩:=f.ge i ai v Y hg0;have a6:∀g,(Mw p h.s b B n.em).rx i g=B.rx i g+if b.wait<0/\i=b.group.toNat/\g=b.pp.toNat then 1 else 0:=λg=>by show(if b.wait<0 then ML B.rx b.group.toNat b.pp.toNat else B.rx) i g=_;grind [ML]
   grind [AA2,AA1]
  .rw[WV,f.lr]at A;show(if b.wait<0 then ML B.rx b.group.toNat b.pp.toNat else B.rx) i g=0;by_cases R:b.wait<0
   .rw[D4 R,ML,r.rx0 i A g,Co λL=>?_];cases t with|wait k j=>dsimp only at R;omega| @pp m g v d K aa k j o w x=>grind
   .rw[Co R];exact r.rx0 i A g
  .show(if b.wait<0 then ML B.rx b.group.toNat b.pp.toNat else B.rx) i g<=m+1;have:=f.rxn i g;grind [ML]
 .cases t with|wait k j=>grind [C4]| @pp m g v d K aa k j o w x=>have C:h.s.bv[((m:Nat):Int).toNat]?=J v:=k;have F:d.rules[((g:Nat):Int).toNat]?=J K:=o;rw[C4,D4 AZ];simp only[C,(Cr j).2,F];refine NU λc Q L=>?_;have⟨a1,a2⟩:=(RQ l P O M f.qr r k j o w x 0).2.1 c Q;have⟨htk,A⟩:=Ns l f.qr k j o w x;rw[L]at a1 a2;have⟨q,hq⟩:=g_ a1;have⟨q',hq',ha',_⟩:=hgr.ch e q hq;rw[hq]at a2;rw[Cz,D4 AZ,react]at s;simp only[C,(Cr j).2,F,RI]at s;have ad:=Hi l 401 _ _ _ htk.qr A s;have a5:=(Ix l f.qr (c:=e) (q:=q) hq).at_;have a':=htk.only.be;have a3:=Gv ad.ext (i:=q.at_) zCI;grind [FL]
theorem AGt{A:Nat}{e:Su}(m:YA p a B A e)(n:Ao p a)(w:GM p T D B e.s [])(v:N4 p a D T){h:Nat}{b:Fo}(t:X0 p a D e.s h)(K:B.base h=0)(i:e.s.ac[h]?=J b)(x:CB T (DT e.s b) b.index=2):U b.queue=1:=by
 have⟨j,c,g,d,ch,hc⟩:=Ed.chn m.qr.grp m.qr.tot i;have r:DT e.s b=g.ip:=by rw[DT,hc.group,Es,hc.grp];rfl
 have k:=w.tot h b i;have s:IX T e.s b=1:=by rw[IX,x];rfl
 have C:U b.queue<=1:=by rw[s]at k;unfold LR tot at k;rw[Ja i]at k;omega
 have l:=Cr hc.st.ip;have⟨f,A9,hy,ho,hyn⟩:=n.used g.ip.toNat (l_ l.2);have o:A9.n=g.ip:=by have:=(E6 n hy ho).1;have:=l.1;omega
 have q:p.nodes[((f:Nat):Int).toNat]?=J A9:=hy;have F:=t b i f A9 (HU f) q ho (by rw[r];exact o);have L:=hc.index;have H:=v f A9 d c (HU f) q ho (by rw[o];exact l.2) (l_ hc.cha) zCI;grind [dW,Ja]
end
def GH(T:List Au)(d:Int):Al->Int->Int
 |[],a=>a|c::l,a=>GH T d l (PE a (NF (CB T d c)))
def Ib(f:Int->Int):Al->Int->Al
 |[],_=>[]|a::l,q=>Fq a (f q)::Ib f l (q+1)
def Ny(A:List Al)(c:Int):Al:=(A[c.toNat]?).getD []
def KE(f:Int->Int):Al->Int->List Al->List Al
 |[],_,A=>A|c::l,q,A=>KE f l (q+(Ny A c).length) (A.set c.toNat (Ib f (Ny A c) q))
def NM(c:Int->Int->Int)(a:List Au)(b e:Int):Nat->List DI->List Al->List Al
 |_,[],A=>A|i,r::l,A=>NM c a b e (i+1) l (if NF (Bc a b i)=0 then A else KE (c r.node) r.d7 e A)
def Re(b:Al)(a:Int):Int:=(b[a.toNat]?).getD 0
def OC(e:Aa)(f:Al)(D:List BJ)(b:List Au)(a:Int)(d:Bd):Al:=(List.range (U d.ac)).map λ(c:Nat)=>Fu (sS e b D a (Re f a+c))
def MJ(a:List Au)(b:Int)(d:Bd):Al:=d.rules.map λc=>Fu (GH a b c.d7 2)
def Gr(d:Bd):List Al:=d.ac.map λa=>Sm a.many.toNat (0:Int)
def NN(f:Aa)(h:Al)(D:List BJ)(a:List Au)(c b:Int)(d:Bd):List Al:=NM (λe g=>sS f a D e g) a b (Re h c+d.own) 0 d.rules (Gr d)
def NP(e:Aa)(f:Al)(D:List BJ)(a:List Au)(c b:Int)(d:Bd):Au:=⟨OC e f D a c d,MJ a b d,(NN e f D a c b d).map (·.map Fu)⟩
def ab(c:Aa)(e:Al)(D:List BJ)(b:Al)(a:List Au):Nat->List Bd->List Au
 |_,[]=>[]|i,d::l=>NP c e D a ((b[i]?).getD 0) i d::ab c e D b a (i+1) l
def Gl(a:Aa)(e:Al)(D:List BJ)(c:Al)(b:List Au):List Au:=ab a e D c b 0 a.defs
theorem yu(g:Aa)(h:Al)(D:List BJ)(e:Al)(c:List Au):∀(f:List Bd) (b a:Nat),(ab g h D e c b f)[a]?=(f[a]?).map (NP g h D c ((e[b+a]?).getD 0) ((b+a:Nat):Int))
 :=by intro i;induction i<;>grind [ab]
theorem Im(b:Aa)(f:Al)(D:List BJ)(e:Al)(c:List Au)(a:Nat):(Gl b f D e c)[a]?=(b.defs[a]?).map (NP b f D c ((e[a]?).getD 0) (a:Int)):=by grind [Gl,yu]
structure Mz(p:Aa)(hs:Al):Prop:=
 len:U hs=U p.defs
 at_:∀(n:Int) x,0<=n->p.nodes[n.toNat]?=J x->x.op=4->hs[x.n.toNat]?=J n
structure Wz(AQ T:List Au):Prop:=
 chan:∀d c,NF (CB AQ d c)<=NF (CB T d c)
 pp:∀d r,NF (Bc AQ d r)<=NF (Bc T d r)
 arg:∀c i,NF (FP AQ c i)<=NF (FP T c i)
theorem Wz.refl(T:List Au):Wz T T:=⟨λ_ _=>Ms _,λ_ _=>Ms _,λ_ _=>Ms _⟩
theorem Ts{a:Int}(h:0<=a/\a<=2):NF (Fu a)=a:=by have:a=0\/a=1\/a=2:=z;rcases this with rfl|rfl|rfl<;>rfl
theorem cK(T:List Au)(d:Int):∀(l:Al) (a:Int),GH T d l a=a\/∃c∈l,GH T d l a=NF (CB T d c)
 :=by intro x;induction x<;>grind [GH,PE]
theorem tU(T:List Au)(d:Int)(l:Al){a:Int}(h:0<=a/\a<=2):0<=GH T d l a/\GH T d l a<=2:=by
 rcases cK T d l a with e|⟨c,_,e⟩<;>rw[e]
 .exact h
 .exact ER _
theorem Ll(f:Int->Int):∀(l:Al) (q:Int),(Ib f l q).length=U l
 :=by intro x;induction x<;>grind [Ib]
theorem Pc(f:Int->Int):∀(l:Al) (q:Int) (k:Nat),(Ib f l q)[k]?=(l[k]?).map λa=>Fq a (f (q+k))
 :=by intro x;induction x<;>grind [Ib]
structure Zq(A B:List Al):Prop:=
 len:U A=U B
 each:∀c,(Ny A c).length=(Ny B c).length
 le:∀c (k:Nat) a b,(Ny A c)[k]?=J a->(Ny B c)[k]?=J b->a<=b
theorem Zq.refl(A:List Al):Zq A A:=⟨rfl,λ_=>rfl,λc g a b e f=>by grind⟩
theorem Zq.trans{A B g:List Al}(c:Zq A B)(e:Zq B g):Zq A g:=⟨c.len.trans e.len,λa=>(c.each a).trans (e.each a),λa f i b h j=>by have⟨m,hm⟩:=g_ (l:=Ny B a) (i:=f) (by rw[<-c.each a];exact l_ h);exact OF (c.le a f i m h hm) (e.le a f m b hm j)⟩
theorem N8(A:List Al)(a:Int)(c:Al)(b:Int)(e:a.toNat<U A):Ny (A.set a.toNat c) b=if b.toNat=a.toNat then c else Ny A b:=by grind [Ny]
theorem mY(a b:Int):a<=Fq a b/\b<=Fq a b:=by grind [Fq]
theorem Yb{a b c d:Int}(e:a<=c)(f:b<=d):Fq a b<=Fq c d:=by grind [Fq]
def AKJ{A B:List Al}(a:Zq A B){b:Int}{j k:Int->Int}(t:∀f,j f<=k f)(f:Int):Zq (A.set b.toNat (Ib j (Ny A b) f)) (B.set b.toNat (Ib k (Ny B b) f)):=by
 by_cases i:b.toNat<U A
 .have l:b.toNat<U B:=by rw[<-a.len];exact i
  refine⟨by simp[a.len],λg=>?_,λg m n p e c=>?_⟩
  .rw[N8 _ _ _ _ i,N8 _ _ _ _ l];split
   .rw[Ll,Ll,a.each]
   .exact a.each g
  .rw[N8 _ _ _ _ i]at e;rw[N8 _ _ _ _ l]at c;split at e
   .rename_i h;rw[D4 h]at c;rw[Pc]at e c;obtain⟨o,r,rfl⟩:=BY.1 e;obtain⟨q,s,rfl⟩:=BY.1 c;exact Yb (a.le b m o q r s) (t _)
   .rename_i h;rw[Co h]at c;exact a.le g m n p e c
 .rw[Of z,Of (by rw[<-a.len];omega)];exact a
theorem Yl(A:List Al)(b:Int)(h:Int->Int)(j:Int):Zq A (A.set b.toNat (Ib h (Ny A b) j)):=by
 by_cases i:b.toNat<U A
 .refine⟨AG,λf=>?_,λf n k l c a=>?_⟩
  .grind [Ll,Ny]
  .rw[N8 _ _ _ _ i]at a;split at a
   .rename_i g;rw[Pc]at a;obtain⟨m,e,rfl⟩:=BY.1 a;rw[Ny,g]at c;rw[Ny,c]at e;cases e;exact(mY _ _).1
   grind
 grind [List.set_eq_of_length_le,Zq.refl]
theorem a7{e f:Int->Int}(g:∀a,e a<=f a):∀(b:Al) (a:Int) {A B:List Al},Zq A B->Zq (KE e b a A) (KE f b a B)
 |[],a,A,B,h=>h|c::b,a,A,B,h=>by rw[KE,KE,h.each c];exact a7 g b _ (AKJ h g a)
theorem Ir(f:Int->Int):∀(l:Al) (q:Int) (A:List Al),Zq A (KE f l q A)
 |[],q,A=>Zq.refl A|c::l,q,A=>(Yl A c f q).trans (Ir f l _ _)
theorem a8{i j:Int->Int->Int}(m:∀l b,i l b<=j l b){f g:List Au}(k:Wz f g)(c b:Int):∀(e:List DI) (a:Nat) {A B:List Al},Zq A B->Zq (NM i f c b a e A) (NM j g c b a e B)
 |[],a,A,B,h=>h|r::e,a,A,B,h=>by
  rw[NM,NM];refine a8 m k c b e (a+1) ?_;have n:=k.pp c a;have o:=(ER (Bc f c a)).1;split
  .split
   .exact h
   .exact h.trans (Ir _ _ _ _)
  grind [a7]
theorem wm(c:Int->Int->Int)(a:List Au)(b g:Int):∀(f:List DI) (e:Nat) (A:List Al),Zq A (NM c a b g e f A)
 :=by intro h;induction h<;>grind [Zq.refl,NM,Zq.trans,Ir]
def Sl(d:Bd)(A:List Al):Prop:=U A=U d.ac/\∀(c:Nat) ch,d.ac[c]?=J ch->(((Ny A (c:Int)).length:Nat):Int)=ch.many
theorem Sl.mono{d:Bd}{A B:List Al}(a:Sl d A)(b:Zq A B):Sl d B:=⟨b.len▸a.1,λc e f=>by rw[<-b.each];exact a.2 c e f⟩
theorem Rz{d:Bd}(e:∀a∈d.ac,0<=a.many):Sl d (Gr d):=by refine⟨by simp[Gr],λb a c=>?_⟩;grind [Ny,Gr]
theorem wh{d:Bd}{f:Int->Int}{i:Int}{b:Nat}{j:HV}(m:d.ac[i.toNat]?=J j)(p:(b:Int)<j.many):∀{l:Al} {q:Int} {A:List Al} {e:Nat},Sl d A->(∀a∈l,0<=a/\a<U d.ac)->l[e]?=J i->∃c,(Ny (KE f l q A) i)[b]?=J c/\f (q+CJ d (l.take e)+b)<=c
 |[],q,A,e,_,_,h=>by simp at h|a::l,q,A,0,hA,hl,h=>by
  simp at h;subst h;have k:=(hl a (CO ..)).1;have n:=hA.2 _ j m;rw[Hw k]at n;have⟨v0,hv0⟩:=g_ (l:=Ny A a) (i:=b) z;have o:=Ir f l (q+(Ny A a).length) (A.set a.toNat (Ib f (Ny A a) q));have g:(Ny (A.set a.toNat (Ib f (Ny A a) q)) a)[b]?=J (Fq v0 (f (q+b))):=by rw[N8 _ _ _ _ (by rw[hA.1];exact l_ m),D4 rfl,Pc,hv0];rfl
  have⟨c,hv⟩:=g_ (l:=Ny (KE f l (q+(Ny A a).length) (A.set a.toNat (Ib f (Ny A a) q))) a) (i:=b) (by rw[<-o.each];exact l_ g);rw[KE];refine⟨c,hv,OF ?_ (o.le a b _ c g hv)⟩;rw[Lw,show CJ d []=0 from rfl,Int.add_zero];exact(mY _ _).2
 |a::l,q,A,e+1,hA,hl,h=>by rw[Hm]at h;have⟨k,h1⟩:=hl a (CO ..);have⟨ce,hce⟩:=g_ (l:=d.ac) (i:=a.toNat) z;have n:=hA.2 _ ce hce;rw[Hw k]at n;have s:=wh (f:=f) m p (l:=l) (q:=q+(Ny A a).length) (A:=A.set a.toNat (Ib f (Ny A a) q)) (hA.mono (Yl A a f q)) (λr g=>hl r (Bi _ g)) h;grind [KE,CJ]
theorem wj{d:Bd}{f:Int->Int->Int}{T:List Au}{dn q c:Int}{e k:Nat}{l:HV}(n:d.ac[c.toNat]?=J l)(o:(e:Int)<l.many):∀{b:List DI} {i j:Nat} {a:DI} {A:List Al},Sl d A->(∀a∈b,∀m∈a.d7,0<=m/\m<U d.ac)->b[j]?=J a->0<NF (Bc T dn ((i+j:Nat):Int))->a.d7[k]?=J c->∃g,(Ny (NM f T dn q i b A) c)[e]?=J g/\f a.node (q+CJ d (a.d7.take k)+e)<=g
 |[],i,j,a,A,_,_,h,_,_=>by simp at h|r0::b,i,0,a,A,hA,hl,h,h0,hj=>by simp at h;subst h;rw[NM,Co zCI];have⟨v0,hv0,h1⟩:=wh (f:=f r0.node) (q:=q) n o hA (hl r0 (CO ..)) hj;have p:=wm f T dn q b (i+1) (KE (f r0.node) r0.d7 q A);have⟨g,hv⟩:=g_ (l:=Ny (NM f T dn q (i+1) b (KE (f r0.node) r0.d7 q A)) c) (i:=e) (by rw[<-p.each];exact l_ hv0);exact⟨g,hv,OF h1 (p.le c e v0 g hv0 hv)⟩|r0::b,i,j+1,a,A,hA,hl,h,h0,hj=>by
  rw[Hm]at h;rw[NM];refine wj n o ?_ (λs r=>hl s (Bi _ r)) h zCI hj;split
  .exact hA
  .exact hA.mono (Ir _ _ _ _)
theorem RE{a b c d:Int}(e:a<=c)(f:b<=d):IE a b<=IE c d:=by grind [IE]
theorem vz{a b c d:Int}(j:0<=a/\a<=2)(k:0<=b/\b<=2)(l:0<=c/\c<=2)(m:0<=d/\d<=2)(h:a<=c)(i:b<=d):Ke a b<=Ke c d:=by have e:a=0\/a=1\/a=2:=z;have f:b=0\/b=1\/b=2:=z;have g:c=0\/c=1\/c=2:=z;grind [Ke]
theorem ABC{a b c d:Int}(e:a<=c)(f:b<=d):PE a b<=PE c d:=by grind [PE]
section
variable{p:Aa}{a:Al}{D:List BJ}{T b:List Au}
theorem MM(i:Wz T b)(j:Option (Int×Int))(g:Int):∀(c:List CC) (a:Nat) {h f:Int},h<=f->f<=2->HB T j g a c h<=HB b j g a c f
 |[],a,h,f,hab,_=>hab|e::c,a,h,f,hab,hb=>by
  rw[HB,HB];split
  .rcases j with _|k
   .exact MM i I g c (a+1) (Ms _) (Ms _)
   .refine MM i (J k) g c (a+1) (RE hab (i.arg k a)) ?_;grind [pq,IE]
  .exact MM i j g c (a+1) hab hb
def vW(a:Wz T b)(c:Int)(f:CQ)(e:Int):KV p T D c f e<=KV p b D c f e:=by
 rw[KV,KV];split
 .split
  .exact MM a _ _ _ _ (Ms _) zCh
  .exact Ms _
 .exact MM a _ _ _ _ (Ms _) zCh
variable{f g:Int->Int}
def dX(e:∀i,f i<=g i):∀(c:Al) {a b:Int},a<=b->O5 f c a<=O5 g c b
 |[],a,b,h=>h|k::c,a,b,h=>by rw[O5,O5];exact dX e c (RE h (e k))
def dJ(m:∀a,f a<=g a)(k:∀a,0<=f a/\f a<=2)(l:∀a,0<=g a/\g a<=2)(j:Wz T b)(d:Int):∀(i:List DI) (c:Nat) {e h:Int},e<=h->Ox f T d c i e<=Ox g b d c i h
 |[],c,e,h,hab=>hab|r::i,c,e,h,hab=>by rw[Ox,Ox];exact dJ m k l j d i (c+1) (RE hab (vz (ER _) (k _) (ER _) (l _) (j.pp d c) (m _)))
def Wc(h:Wz T b):∀(f:Nat) (g c:Int),Ca p T D f g c<=Ca p b D f g c
 |0,g,c=>Ms _|f+1,g,c=>by
  have e:=λa=>Wc h f a c;rw[Ca,Ca];split
  .split
   .exact vW h _ _ _
   split
   .exact RE (e _) (e _)
   split
   .exact Yb (e _) (e _)
   split
   .exact e _
   split
   .rw[Kh,Kh];split
    .exact dJ (f:=λa=>Ca p T D f a c) (g:=λa=>Ca p b D f a c) e (λa=>J1 ..) (λa=>J1 ..) h _ _ _ (dX (f:=λa=>Ca p T D f a c) (g:=λa=>Ca p b D f a c) e _ (e _))
    .exact Ms _
   .exact Ms _
  .exact Ms _
def yL(e:Wz T b)(a c:Int):sS p T D a c<=sS p b D a c:=Wc e _ a c
def V9(g:Wz T b)(d:Int):∀(f:Al) {a e:Int},a<=e->GH T d f a<=GH b d f e
 |[],a,e,hab=>hab|c::f,a,e,hab=>by rw[GH,GH];exact V9 g d f (ABC hab (g.chan d c))
variable{c:Int}
theorem Xb(p:Aa)(a:Al)(D:List BJ)(e:Al)(T:List Au){d:Bd}(f:p.defs[c.toNat]?=J d){b:Int}(g:b.toNat<U d.ac):NF (CB (Gl p a D e T) c b)=sS p T D ((e[c.toNat]?).getD 0) (Re a ((e[c.toNat]?).getD 0)+(b.toNat:Int)):=by rw[CB,Im,f];grind [NP,OC,Ts,VY]
theorem Xd(p:Aa)(a:Al)(D:List BJ)(g:Al)(T:List Au)(h:0<=c){d:Bd}(f:p.defs[c.toNat]?=J d){b:Int}{e:DI}(i:d.rules[b.toNat]?=J e):NF (Bc (Gl p a D g T) c b)=GH T c e.d7 2:=by rw[Bc,Im,f];grind [NP,MJ,Ts,tU]
theorem eW(p:Aa)(a:Al)(D:List BJ)(e:Al)(T:List Au)(g:0<=c){d:Bd}(h:p.defs[c.toNat]?=J d)(b:Int)(f:Nat):FP (Gl p a D e T) (c,b) f=(((Ny (NN p a D T ((e[c.toNat]?).getD 0) c d) b)[f]?).map Fu).getD 1:=by grind [FP,Im,NP,Ny]
def ADq(i:∀b,0<=f b/\f b<=2){e:Al}{b:Int}(g:∀a∈e,0<=a/\a<=2):∀a∈Ib f e b,0<=a/\a<=2:=λa h=>by obtain⟨l,c⟩:=Ce h;rw[Pc]at c;obtain⟨k,j,rfl⟩:=BY.1 c;exact Xm (g k (AP j)) (i _)
def yl(A:List Al):Prop:=∀c,∀a∈Ny A c,0<=a/\a<=2
theorem jZ(i:∀b,0<=f b/\f b<=2):∀{j:Al} {b:Int} {A:List Al},yl A->yl (KE f j b A)
 |[],b,A,h=>h|c::j,b,A,h=>by
  rw[KE];refine jZ i λg e a=>?_;by_cases k:c.toNat<U A
  .rw[N8 _ _ _ _ k]at a;split at a
   .exact ADq i (h c) e a
   .exact h g e a
  .rw[Of z]at a;exact h g e a
theorem ADo{f:Int->Int->Int}(i:∀b a,0<=f b a/\f b a<=2)(c a:Int):∀{g:List DI} {e:Nat} {A:List Al},yl A->yl (NM f T c a e g A)
 :=by intro h;induction h<;>grind [NM,jZ]
def zA(d:Bd):yl (Gr d):=λb a c=>by grind [Ny,Gr]
theorem Uj(p:Aa)(a:Al)(D:List BJ)(T:List Au)(h c:Int)(d:Bd):yl (NN p a D T h c d):=ADo (λm q=>VY ..) _ _ (zA d)
theorem Zj(b:p.defs[c.toNat]?=I)(e:Al):(Gl p a D e T)[c.toNat]?=none:=by rw[Im,b];rfl
theorem jL(q:Ao p a)(c:Al)(h:Wz T b):Wz (Gl p a D c T) (Gl p a D c b):=by
 have i:∀d:Int,(d.toNat:Int).toNat=d.toNat:=λd=>Es _;refine⟨λd e=>?_,λd k=>?_,λe j=>?_⟩
 .rcases hd:p.defs[d.toNat]? with _|f
  .grind [CB,Zj]
  .by_cases l:e.toNat<U f.ac
   .rw[Xb p a D c T hd l,Xb p a D c b hd l];exact yL h _ _
   grind [CB,Im,NP,OC]
 .have key:∀T:List Au,Bc T d k=Bc T (d.toNat:Int) k:=λT=>by rw[Bc,Bc,i]
  rw[key,key];rcases hd:p.defs[d.toNat]? with _|f
  .grind [Bc,Zj]
  .have g:p.defs[(d.toNat:Int).toNat]?=J f:=by rw[i];exact hd
   rcases hr:f.rules[k.toNat]? with _|w
   .grind [Bc,Im,NP,MJ]
   .rw[Xd p a D c T (HU _) g hr,Xd p a D c b (HU _) g hr];exact V9 h _ _ (Ms _)
 .obtain⟨d,e⟩:=e;have key:∀T:List Au,FP T (d,e) j=FP T ((d.toNat:Int),e) j:=λT=>by grind [FP]
  rw[key,key];rcases hd:p.defs[d.toNat]? with _|f
  .grind [FP,Zj]
  .have g:p.defs[(d.toNat:Int).toNat]?=J f:=by rw[i];exact hd
   rw[eW p a D c T (HU _) g,eW p a D c b (HU _) g];have m:Zq (NN p a D T ((c[(d.toNat:Int).toNat]?).getD 0) (d.toNat:Int) f) (NN p a D b ((c[(d.toNat:Int).toNat]?).getD 0) (d.toNat:Int) f):=a8 (λn o=>yL h n o) h _ _ _ _ (Zq.refl _);have t:=Uj p a D T ((c[(d.toNat:Int).toNat]?).getD 0) (d.toNat:Int) f e;have v:=Uj p a D b ((c[(d.toNat:Int).toNat]?).getD 0) (d.toNat:Int) f e;have r:=m.le e j;have s:=m.each e;grind [Ts]
theorem Sw(w:Ao p a){i:Al}(x:Mz p i)(o:Wz (Gl p a D i T) T):Da p a D T:=by
 refine⟨λc e d f q m l g k=>?_,λc d r n g h=>?_,λc e d r n R f s t q m l g h O K F M=>?_⟩
 .have b:=o.chan e.n f;rw[Xb p a D i T g zCX,x.at_ c e q m l]at b;exact b
 .have⟨n0,hd2⟩:=Cr g;have b:=o.pp c r;rw[Xd p a D i T n0 hd2 zCP]at b;rcases cK T c n.d7 2 with j|⟨f,k,j⟩
  .rw[j]at b;have:=ER (Bc T c r);exact .inl z
  grind
 .have N:=(E6 w m l).1;have A:=(Bk w g).ok;have b:=o.arg (e.n,f) s;rw[eW p a D i T N g f s,x.at_ c e q m l]at b;have L:=λn h j H=>by have B:=A.pp n h;simp[Bx]at B;exact Jv B.2.2.2 j H
  have⟨v,hv,hle⟩:=wj (f:=λP Q=>sS p T D P Q) (T:=T) (dn:=e.n) (q:=Re a c+d.own) (i:=0) F M (Rz λt k=>(A.chan t k).2.2.1) L h (by rw[I7];exact O) K;have C:(Ny (NN p a D T c e.n d) f)[s]?=J v:=hv;simp at b;rw[C]at b;simp at b;rw[Ts (Uj p a D T c e.n d f v (AP C))]at b;exact OF hle b
end
def Qb(is:Int->Int->Bool->Bool)(o:Bool):Al->Al->Bool
 |x::xs,A9::ys=>if is x A9 o then Qb is o xs ys else Z|_,_=>X
def J5(is:Int->Int->Bool->Bool):List Al->List Al->Bool
 |x::xs,A9::ys=>if Qb is Z x A9 then J5 is xs ys else Z|_,_=>X
def eA(is:Int->Int->Bool->Bool)(A8 v:Au):Bool:=Qb is X A8.ac v.ac&&(Qb is Z A8.rules v.rules&&J5 is A8.args v.args)
def DA(is:Int->Int->Bool->Bool):List Au->List Au->Bool
 |A8::us,v::vs=>if eA is A8 v then DA is us vs else Z|_,_=>X
def B9(a b:Int)(_:Bool):Bool:=decide (a=b)
def aA(a b:Int)(_:Bool):Bool:=decide (NF b<=NF a)
def nW(a b:Int)(_:Bool):Bool:=decide (NF a<=NF b)
theorem iV{is:Int->Int->Bool->Bool}{j:Bool}:∀{c e:Al},Qb is j c e=X↔ ∀(a:Nat) x A9,c[a]?=J x->e[a]?=J A9->is x A9 j=X
 |[],e=>by simp[Qb]|x::c,[]=>by simp[Qb]|x::c,A9::e=>by
  rw[Qb];constructor
  .intro b a f g h i;split at b
   .rename_i k;rcases a with _|a
    .grind
    .exact iV.1 b a f g zCP zCY
   .cases b
  .intro b;rw[D4 (b 0 x A9 rfl rfl)];exact iV.2 λa f g h i=>b (a+1) f g zCP zCY
theorem Xh{is:Int->Int->Bool->Bool}:∀{c e:List Al},J5 is c e=X↔ ∀(a:Nat) x A9,c[a]?=J x->e[a]?=J A9->Qb is Z x A9=X
 |[],e=>by simp[J5]|x::c,[]=>by simp[J5]|x::c,A9::e=>by
  rw[J5];constructor
  .intro b a f g h i;split at b
   .rename_i j;rcases a with _|a
    .grind
    .exact Xh.1 b a f g zCP zCY
   .cases b
  .intro b;rw[D4 (b 0 x A9 rfl rfl)];exact Xh.2 λa f g h i=>b (a+1) f g zCP zCY
theorem HK{is:Int->Int->Bool->Bool}:∀{c e:List Au},DA is c e=X↔ ∀(a:Nat) x A9,c[a]?=J x->e[a]?=J A9->eA is x A9=X
 |[],e=>by simp[DA]|x::c,[]=>by simp[DA]|x::c,A9::e=>by
  rw[DA];constructor
  .intro b a f g h i;split at b
   .rename_i j;rcases a with _|a
    .grind
    .exact HK.1 b a f g zCP zCY
   .cases b
  .intro b;rw[D4 (b 0 x A9 rfl rfl)];exact HK.2 λa f g h i=>b (a+1) f g zCP zCY
variable{b v:Au}
theorem LG{is:Int->Int->Bool->Bool}:eA is b v=X↔(∀(i:Nat) x A9,b.ac[i]?=J x->v.ac[i]?=J A9->is x A9 X=X)/\(∀(i:Nat) x A9,b.rules[i]?=J x->v.rules[i]?=J A9->is x A9 Z=X)/\∀(i k:Nat) l m x A9,b.args[i]?=J l->v.args[i]?=J m->l[k]?=J x->m[k]?=J A9->is x A9 Z=true:=by grind [eA,iV,Xh]
structure wZ(A8 v:Au):Prop:=
 ac:U A8.ac=U v.ac
 rules:U A8.rules=U v.rules
 args:U A8.args=U v.args
 each:∀(c:Nat) l m,A8.args[c]?=J l->v.args[c]?=J m->(U l)=U m
structure NK(T AQ:List Au):Prop:=
 len:U T=U AQ
 each:∀(d:Nat) b v,T[d]?=J b->AQ[d]?=J v->wZ b v
def wZ.symm(a:wZ b v):wZ v b:=⟨a.ac.symm,a.rules.symm,a.args.symm,λc g h e f=>(a.each c h g f e).symm⟩
def NK.symm{a c:List Au}(e:NK a c):NK c a:=⟨e.len.symm,λd b v f g=>(e.each d v b g f).symm⟩
variable{i:Type}
theorem Ya{a b:List i}(e:U a=U b)(f:∀(c:Nat) x A9,a[c]?=J x->b[c]?=J A9->x=A9):a=b:=by apply Lt;grind
theorem AFw{i j:List Au}(k:NK i j)(p:DA B9 i j=X):i=j:=by refine Ya k.len λa b v l m=>?_;have⟨h1,h2,h3⟩:=LG.1 (HK.1 p a b v l m);have h:=k.each a b v l m;have t:=Ya h.ac λa f g c e=>of_decide_eq_true (h1 a f g c e);have w:=Ya h.rules λa f g c e=>of_decide_eq_true (h2 a f g c e);have x:=Ya h.args λa f g c e=>Ya (h.each a f g c e) λs n o q r=>of_decide_eq_true (h3 a s f g n o c e q r);cases b;simp_all
theorem AOx{c e:List Au}(f:NK c e)(g:DA nW c e=X):Wz c e:=by
 have g:=HK.1 g;refine⟨λd a=>?_,λd l=>?_,λa k=>?_⟩
 .rw[CB,CB];rcases hu:c[d.toNat]? with _|b
  .exact(ER _).1
  .have⟨v,hv⟩:=g_ (l:=e) (i:=d.toNat) zC8;rw[hv];simp;rcases hx:b.ac[a.toNat]? with _|h
   .exact(ER _).1
   .have⟨A9,hy⟩:=g_ (l:=v.ac) (i:=a.toNat) (by rw[<-(f.each _ b v hu hv).ac];exact l_ hx);rw[hy];exact of_decide_eq_true ((LG.1 (g _ b v hu hv)).1 _ h A9 hx hy)
 .rw[Bc,Bc];rcases hu:c[d.toNat]? with _|b
  .exact(ER _).1
  .have⟨v,hv⟩:=g_ (l:=e) (i:=d.toNat) zC8;rw[hv];simp;rcases hx:b.rules[l.toNat]? with _|h
   .exact(ER _).1
   .have⟨A9,hy⟩:=g_ (l:=v.rules) (i:=l.toNat) (by rw[<-(f.each _ b v hu hv).rules];exact l_ hx);rw[hy];exact of_decide_eq_true ((LG.1 (g _ b v hu hv)).2.1 _ h A9 hx hy)
 .rw[FP,FP];rcases hu:c[a.1.toNat]? with _|b
  .exact(ER _).1
  .have⟨v,hv⟩:=g_ (l:=e) (i:=a.1.toNat) zC8;have j:=f.each _ b v hu hv;rw[hv];simp only[GC];rcases hl:b.args[a.2.toNat]? with _|i
   .exact(ER _).1
   .have⟨m,hm⟩:=g_ (l:=v.args) (i:=a.2.toNat) (by rw[<-j.args];exact l_ hl);rw[hm];simp only[GC];rcases hx:i[k]? with _|h
    .exact(ER _).1
    .have⟨A9,hy⟩:=g_ (l:=m) (i:=k) (by rw[<-j.each _ i m hl hm];exact l_ hx);rw[hy];exact of_decide_eq_true ((LG.1 (g _ b v hu hv)).2.2 _ _ i m h A9 hl hm hx hy)
def AO5{i j:List Au}(f:Wz i j):DA nW i j=true:=by
 refine HK.2 λd b v g h=>LG.2 ⟨λe k l a c=>?_,λe k l a c=>?_,λe o p q k l m n a c=>?_⟩
 .have:=f.chan d e;simp[CB,g,h,a,c]at this;exact GO this
 .have:=f.pp d e;simp[Bc,g,h,a,c]at this;exact GO this
 .have:=f.arg (d,e) o;simp[FP,g,h,m,n,a,c]at this;exact GO this
theorem AOo{h i:List Au}(j:DA aA h i=X):DA nW i h=true:=by refine HK.2 λd b v m n=>LG.2 ?_;have⟨h1,h2,h3⟩:=LG.1 (HK.1 j d v b n m);exact⟨λe f g a c=>h1 e g f c a,λe f g a c=>h2 e g f c a,λe o p q f g k l a c=>h3 e o q p g f l k c a⟩
theorem Wz.trans{e f V:List Au}(b:Wz e f)(c:Wz f V):Wz e V:=⟨λd a=>OF (b.chan d a) (c.chan d a),λd a=>OF (b.pp d a) (c.pp d a),λd a=>OF (b.arg d a) (c.arg d a)⟩
def qP(l:Al):Nat:=(l.map Rp).sum
def qQ(b:Au):Nat:=qP b.ac+qP b.rules+(b.args.map qP).sum
def l4(T:List Au):Nat:=(T.map qQ).sum
def yN(b:Au):Nat:=U b.ac+U b.rules+(b.args.map U).sum
def yO(T:List Au):Nat:=(T.map yN).sum
variable{f:i->Nat}
theorem Vd{g:i->Nat}(h:∀a,f a<=2*g a):∀l:List i,(l.map f).sum<=2*(l.map g).sum
 :=by intro x;induction x<;>grind
theorem iJ(a:Al):qP a<=2*U a:=by
 have b:=Vd (f:=Rp) (g:=λ_=>1) (λc=>by have:=uo c;omega) a;have e:(a.map λ_=>1).sum=U a:=by clear b;induction a with|nil=>rfl|cons g a f=>grind
 rw[e]at b;exact b
theorem AK5(a:List Au):l4 a<=2*yO a:=Vd (λb=>by have c:=iJ b.ac;have e:=iJ b.rules;have f:=Vd iJ b.args;rw[qQ,yN];omega) a
def Zi:∀{b c:List i},U b=U c->(∀(a:Nat) x A9,b[a]?=J x->c[a]?=J A9->f x=f A9)->(b.map f).sum=(c.map f).sum
 |[],[],_,_=>rfl|[],_::_,h,_=>by simp at h|_::_,[],h,_=>by simp at h|x::b,A9::c,h,he=>by simp;rw[he 0 x A9 rfl rfl,Zi zCP λa e g j k=>he (a+1) e g zCc zCX]
theorem ACe{c e:List Au}(f:NK c e):yO c=yO e:=Zi f.len λd b v j k=>by have a:=f.each d b v j k;rw[yN,yN,a.ac,a.rules,Zi a.args λg l m h i=>a.each g l m h i]
theorem iK:∀{l m:List i},U l=U m->(∀(a:Nat) c e,l[a]?=J c->m[a]?=J e->f c<=f e)->(l.map f).sum<=(m.map f).sum/\((l.map f).sum=(m.map f).sum->∀(a:Nat) c e,l[a]?=J c->m[a]?=J e->f c=f e)
 |[],[],_,_=>⟨D2 _,λ_ a c e b _=>by simp at b⟩|[],_::_,b,_=>by simp at b|_::_,[],b,_=>by simp at b|c::l,e::m,b,he=>by have⟨h1,h2⟩:=iK (l:=l) (m:=m) (by simpa using b) λa g h j k=>he (a+1) g h zCc zCX;grind [List.getElem?_cons_zero]
def eE(k:Int):Prop:=k=1\/k=3\/k=4
structure APr(A8:Au):Prop:=
 ac:∀k∈A8.ac,eE k
 rules:∀k∈A8.rules,eE k
 args:∀l∈A8.args,∀k∈l,eE k
def yg(T:List Au):Prop:=∀b∈T,APr b
theorem VA(a:Int):eE (Fu a):=by grind [Fu,eE]
variable{a e:Int}
def rk(c:eE a)(f:eE e)(b:Rp a=Rp e):a=e:=by unfold eE at*;rcases c with rfl|rfl|rfl<;>rcases f with rfl|rfl|rfl<;>first|rfl|(exact absurd b Af)
def AGo(h:NF a<=NF e):Rp a<=Rp e:=by unfold Rp;omega
theorem AHg{l m:List Au}(A:NK l m)(B:Wz l m)(C:yg l)(D:yg m)(M:DA B9 l m=Z):l4 l<l4 m:=by
 have F:=HK.1 (AO5 B);have t:∀{h i:Al},U h=U i->(∀(a:Nat) c e,h[a]?=J c->i[a]?=J e->NF c<=NF e)->qP h<=qP i/\(qP h=qP i->∀(a:Nat) c e,h[a]?=J c->i[a]?=J e->Rp c=Rp e):=λj H=>iK j λa c e f g=>AGo (H a c e f g);have K:∀(d:Nat) b v,l[d]?=J b->m[d]?=J v->qQ b<=qQ v/\(qQ b=qQ v->eA B9 b v=X):=λd b v n o=>by
  have q:=A.each d b v n o;have⟨p,h2,h3⟩:=LG.1 (F d b v n o);have⟨a1,a2⟩:=t q.ac λa c e f g=>of_decide_eq_true (p a c e f g);have⟨b1,b2⟩:=t q.rules λa c e f g=>of_decide_eq_true (h2 a c e f g);have x:=λa h i j k=>t (q.each a h i j k) λw c e f g=>of_decide_eq_true (h3 a w h i c e j k f g);have⟨c1,c2⟩:=iK q.args λa h i j k=>(x a h i j k).1;have r:=C b (AP n);have s:=D v (AP o);rw[qQ,qQ];refine⟨z,λL=>LG.2 ⟨λa c e f g=>?_,λa c e f g=>?_,λa w h i c e j k f g=>?_⟩⟩
  .exact GO (rk (r.ac c (AP f)) (s.ac e (AP g)) (a2 z a c e f g))
  .exact GO (rk (r.rules c (AP f)) (s.rules e (AP g)) (b2 z a c e f g))
  .exact GO (rk (r.args h (AP j) c (AP f)) (s.args i (AP k) e (AP g)) ((x a h i j k).2 (c2 z a h i j k) w c e f g))
 have⟨s1,s2⟩:=iK A.len λd b v n o=>(K d b v n o).1;rcases Nat.lt_or_eq_of_le s1 with p|p
 .exact p
 grind [HK]
structure W1(p:Aa)(T:List Au):Prop:=
 len:U T=U p.defs
 each:∀(d:Nat) x b,p.defs[d]?=J x->T[d]?=J b->(U b.ac)=U x.ac/\(U b.rules)=U x.rules/\(U b.args)=U x.ac/\∀(c:Nat) ch l,x.ac[c]?=J ch->b.args[c]?=J l->(U l:Int)=ch.many
def PJ(d:Bd):Au:=⟨Sm (U d.ac) 1,Sm (U d.rules) 1,d.ac.map λa=>Sm a.many.toNat 1⟩
def Kr(p:Aa):List Au:=p.defs.map PJ
def WQ(b:Aa)(e:Al)(D:List BJ)(a:Int):Nat->Al->Al
 |_,[]=>[]|c,k::l=>(if k=3/\UW b D a (Re e a+c)=1 then 2 else k)::WQ b e D a (c+1) l
def VM(c:Aa)(e:Al)(D:List BJ)(a:Al):Nat->List Au->List Au
 |_,[]=>[]|i,b::l=>⟨WQ c e D ((a[i]?).getD 0) 0 b.ac,b.rules,b.args⟩::VM c e D a (i+1) l
def JU(c:Aa)(e:Al)(D:List BJ)(b:Al)(a:List Au):List Au:=VM c e D b 0 a
theorem ct(g:Aa)(h:Al)(D:List BJ)(a:Int):∀(f:Al) (c b:Nat),(WQ g h D a c f)[b]?=(f[b]?).map λe=>if e=3/\UW g D a (Re h a+((c+b:Nat):Int))=1 then 2 else e
 :=by intro i;induction i<;>grind [WQ]
theorem cw(e:Aa)(f:Al)(D:List BJ)(c:Int):∀(a:Al) (b:Nat),(WQ e f D c b a).length=U a
 :=by intro g;induction g<;>grind [WQ]
theorem L7(g:Aa)(h:Al)(D:List BJ)(e:Al):∀(c:List Au) (f a:Nat),(VM g h D e f c)[a]?=(c[a]?).map λb=>⟨WQ g h D ((e[f+a]?).getD 0) 0 b.ac,b.rules,b.args⟩
 :=by intro i;induction i<;>grind [VM]
theorem Y9(e:Aa)(f:Al)(D:List BJ)(b:Al):∀(a:List Au) (c:Nat),(VM e f D b c a).length=U a
 :=by intro g;induction g<;>grind [VM]
section
variable{p:Aa}{sz:Al}{D:List BJ}{hs:Al}{T c:List Au}
theorem QT(a:W1 p T)(e:W1 p c):NK T c:=by refine⟨a.len.trans e.len.symm,λd b v f h=>?_⟩;have⟨x,hx⟩:=g_ (l:=p.defs) (i:=d) (by rw[<-a.len];exact l_ f);have⟨a1,a2,a3,a4⟩:=a.each d x b hx f;have⟨b1,b2,b3,b4⟩:=e.each d x v hx h;refine⟨a1.trans b1.symm,a2.trans b2.symm,a3.trans b3.symm,λg k l i j=>?_⟩;have⟨ch,hch⟩:=g_ (l:=x.ac) (i:=g) zCI;grind
def X2(e:Ao p sz){d:Nat}{b:Bd}(c:p.defs[d]?=J b):∀a∈b.ac,0<=a.many:=λa f=>((Bk e c).ok.chan a f).2.2.1
theorem AGj(h:Ao p sz):W1 p (Kr p):=by refine⟨by simp[Kr],λd k b f e=>?_⟩;rw[Kr,Be,f]at e;cases e;refine⟨by simp[PJ],by simp[PJ],by simp[PJ],λi g j a c=>?_⟩;rw[PJ,Be,a]at c;cases c;have:=X2 h f g (AP a);grind
def AGh:yg (Kr p):=λb f=>by obtain⟨d,h,rfl⟩:=EX.1 f;refine⟨λc a=>.inl (I0.1 a).2,λc a=>.inl (I0.1 a).2,λi e c a=>?_⟩;obtain⟨g,_,rfl⟩:=EX.1 e;exact .inl (I0.1 a).2
def AHh{T:List Au}(h:∀b∈T,(∀e∈b.ac,e=1)/\(∀e∈b.rules,e=1)/\∀g∈b.args,∀e∈g,e=1)(c:List Au):Wz T c:=by
 refine⟨λd a=>?_,λd a=>?_,λa e=>?_⟩
 .have:CB T d a=1:=by
   rw[CB];rcases hu:T[d.toNat]? with _|b
   .rfl
   .rw[GC];rcases hx:b.ac[a.toNat]? with _|f
    .rfl
    .exact(h b (AP hu)).1 f (AP hx)
  rw[this];exact(ER _).1
 .have:Bc T d a=1:=by
   rw[Bc];rcases hu:T[d.toNat]? with _|b
   .rfl
   .rw[GC];rcases hx:b.rules[a.toNat]? with _|f
    .rfl
    .exact(h b (AP hu)).2.1 f (AP hx)
  rw[this];exact(ER _).1
 .have:FP T a e=1:=by
   rw[FP];rcases hu:T[a.1.toNat]? with _|b
   .rfl
   .rw[GC];rcases hl:b.args[a.2.toNat]? with _|g
    .rfl
    .rw[GC];rcases hx:g[e]? with _|f
     .rfl
     .exact(h b (AP hu)).2.2 g (AP hl) f (AP hx)
  rw[this];exact(ER _).1
theorem AKZ(c:List Au):Wz (Kr p) c:=AHh (λb g=>by obtain⟨d,i,rfl⟩:=EX.1 g;refine⟨λe a=>(I0.1 a).2,λe a=>(I0.1 a).2,λj f e a=>?_⟩;obtain⟨h,_,rfl⟩:=EX.1 f;grind) c
theorem ae(p:Aa)(sz:Al)(D:List BJ)(hs:Al)(T:List Au):∀(l:List Bd) (i:Nat),(ab p sz D hs T i l).length=U l
 :=by intro x;induction x<;>grind [ab]
theorem Qj(m:Ao p sz)(hs:Al)(T:List Au):W1 p (Gl p sz D hs T):=by refine⟨ae ..,λd a b k j=>?_⟩;rw[Im,k]at j;cases j;have i:=(Rz (X2 m k)).mono (wm (λe f=>sS p T D e f) T (d:Int) (Re sz ((hs[d]?).getD 0)+a.own) a.rules 0 (Gr a));refine⟨by simp[NP,OC],by simp[NP,MJ],by simp[NP];exact i.1,λg l s n h=>?_⟩;simp only[NP,Be]at h;obtain⟨r,o,rfl⟩:=BY.1 h;rw[BV];have c:=i.2 g l n;rw[Ny,Es]at c;have q:(NM (λe f=>sS p T D e f) T (d:Int) (Re sz ((hs[d]?).getD 0)+a.own) 0 a.rules (Gr a))[g]?=J r:=o;rw[q]at c;exact c
theorem we:yg (Gl p sz D hs T):=λb f=>by
 obtain⟨c,a⟩:=Ce f;rw[Im]at a;obtain⟨j,g,rfl⟩:=BY.1 a;refine⟨λc a=>?_,λc a=>?_,λh e c a=>?_⟩
 .obtain⟨_,_,rfl⟩:=EX.1 a;exact VA _
 .obtain⟨_,_,rfl⟩:=EX.1 a;exact VA _
 .obtain⟨i,_,rfl⟩:=EX.1 e;grind [VA]
structure Ss(p:Aa)(sz:Al)(D:List BJ)(hs:Al)(T:List Au):Prop:=
 shp:W1 p T
 can:yg T
 le:Wz T (Gl p sz D hs T)
def db(a:Ao p sz):Ss p sz D hs (Kr p):=⟨AGj a,AGh,AKZ _⟩
def qU(a:Ao p sz)(b:Ss p sz D hs T):Ss p sz D hs (Gl p sz D hs T):=⟨Qj a hs T,we,jL a hs b.le⟩
def qS(T:List Au):Nat:=2*yO T-l4 T
theorem qT(b:Ao p sz)(a:Ss p sz D hs T)(c:DA B9 T (Gl p sz D hs T)=Z):qS (Gl p sz D hs T)<qS T:=by have e:=QT a.shp (Qj (D:=D) b hs T);have f:=AHg e a.le a.can we c;grind [ACe,AK5,qS]
theorem oc(T:List Au)(d c:Int):CB (JU p sz D hs T) d c=if CB T d c=3/\UW p D ((hs[d.toNat]?).getD 0) (Re sz ((hs[d.toNat]?).getD 0)+(c.toNat:Int))=1 then 2 else CB T d c:=by grind [CB,JU,L7,ct]
theorem AKd(T:List Au):Wz T (JU p sz D hs T)/\Wz (JU p sz D hs T) T:=by
 have g:∀d a,NF (CB (JU p sz D hs T) d a)=NF (CB T d a):=λd a=>by
  rw[oc];split
  .rename_i e;rw[e.1];rfl
  .rfl
 have h:∀d c,Bc (JU p sz D hs T) d c=Bc T d c:=λd c=>by grind [Bc,JU,L7]
 have f:∀a b,FP (JU p sz D hs T) a b=FP T a b:=λa b=>by grind [FP,JU,L7]
 exact⟨⟨λd a=>by grind,λd a=>by grind,λd a=>by grind⟩,⟨λd a=>by grind,λd a=>by grind,λd a=>by grind⟩⟩
theorem AGu(a:W1 p T):W1 p (JU p sz D hs T):=by refine⟨by rw[JU,Y9];exact a.len,λd g b f c=>?_⟩;rw[JU,L7]at c;obtain⟨v,e,rfl⟩:=BY.1 c;have⟨h1,h2,h3,h4⟩:=a.each d g v f e;grind [cw]
theorem AIv(h:yg T)(d c:Int):CB T d c≠2:=λe=>by
 rw[CB]at e;rcases hu:T[d.toNat]? with _|b
 .grind
 .rw[hu,GC]at e;rcases hx:b.ac[c.toNat]? with _|x
  .grind
  .rw[hx]at e;have:=(h b (AP hu)).ac x (AP hx);grind [eE]
def AK6(b:Ao p sz)(f:Mz p hs)(a:Ss p sz D hs T)(j:DA B9 T (Gl p sz D hs T)=X):Da p sz D (JU p sz D hs T)/\N4 p sz D (JU p sz D hs T)/\W1 p (JU p sz D hs T):=by
 have g:=AFw (QT a.shp (Qj (D:=D) b hs T)) j;have⟨h1,h2⟩:=AKd (p:=p) (sz:=sz) (D:=D) (hs:=hs) T;refine⟨Sw b f ?_,λm n d o h l k r q c=>?_,AGu a.shp⟩
 .have e:=jL (D:=D) b hs h2;rw[<-g]at e;exact e.trans h1
 .rw[oc,f.at_ m n h l k]at c;split at c
  .rename_i i;have:=i.2;simp at this;exact this
  .exact absurd c (AIv a.can _ _)
theorem AIe(b:Ao p sz)(c:Mz p hs)(a:W1 p T)(e:DA aA T (Gl p sz D hs T)=X):Da p sz D T:=by grind [Sw,AOx,QT,Qj,AOo]
def vY(c:W1 p T):U p.defs=U T/\∀(d:Nat) a b,p.defs[d]?=J a->T[d]?=J b->(U a.ac)=U b.ac/\(U a.rules)=U b.rules:=⟨c.len.symm,λd a b f e=>⟨(c.each d a b f e).1.symm,(c.each d a b f e).2.1.symm⟩⟩
end
def iw(f:Aa)(D:List BJ):Prop:=∀e c a,HG (den D e) c=J a->0<=a.1/\0<=a.2/\∃d b,f.defs[a.1.toNat]?=J d/\d.ac[a.2.toNat]?=J b
def Z2(a:Int):Prop:=0<=a/\a<=2
theorem gI(k:Int):Z2 (NF k):=by grind [Z2,NF]
theorem gP{a e:Int}(b:Z2 a)(c:Z2 e):Z2 (IE a e):=by grind [Z2,IE]
theorem AHn{a e:Int}(b:Z2 a)(c:Z2 e):Z2 (Ke a e):=by obtain⟨f,g⟩:=b;obtain⟨h,i⟩:=c;have:a=0\/a=1\/a=2:=z;grind [Z2,Ke]
section
variable{p:Aa}{h:Al}{D:List BJ}{j:Al}{g k:S}{B:u}{V:TV}{c:u}{T:List Au}
def AHt(C:Dh p h D j g B V)(N:Sr c B V)(a6:W1 p T)(b3:iw p D)(c5:U D=U p.nodes){o pl:Int}{i:CQ}(b7:0<=o)(ad:p.nodes[o.toNat]?=J i)(c8:U i.args<=1000000):
 ∃bc bx,kT (.fn 208) [.ptr B 0,Dv T,nI o,nI pl] g c X (J c)=.ok (bc,bx)/\bc=.ret (nI (KV p T D o i pl)):=by
 have bk:=N B zCL;have cp:=AN bk;have cq:=Av bk;have c4:=C.box;have b9:=l_ ad;have cx:o<U p.nodes:=z;have bi:=N V.N zCL;have cu:=AN bi;have cv:=Av bi;have c3:=C.arr;obtain⟨K,M⟩:=g_ (l:=V.ms) (i:=o.toNat) (by rw[C.len];exact b9);have c9:(V.ms.map λK=>[y.mp K])[o.toNat]?=J [.mp K]:=by rw[Be,M];rfl
 obtain⟨cs,c6,b4⟩:=C.maps _ K M;have bh:=N K (by simp[TV.ids,AP M]);have dc:=AN bh;have dd:=Av bh;have a0:=b4.get i.n;have cd:=l_ M;have de:o.toNat<(V.ms.map λK=>[y.mp K]).length:=by simpa using cd
 have c1:o<U V.ms:=z;have L:=λn d W b0 f w s H ag=>qZ (C.new N (g':=H) ag) (N.ext 32) (c:=n) (d:=d) (ch:=W) b0 f w s b7 ad;replace L:=AB L;have av:=b3 o i.n;have b5:(D[o.toNat]?).getD []=den D o:=rfl;rw[b5]at a0;replace C:=AB C;replace av:=AB av;cases w:HG (den D o) i.n with
 |none=>
  rw[w]at a0;have r:KV p T D o i pl=HB T I pl 0 i.args (if i.n=pl then 1 else 0):=by rw[KV,w]
  rw[r];obtain⟨A,q⟩:∃A,A=HB T I pl 0 i.args (if i.n=pl then 1 else 0):=⟨_,rfl⟩;rw[<-q];replace q:=AB q;refine Bf func208 ?_
  (repeat' (first|simp only[*,go_sem,AM]|(refine sx ?_ ?_<;>intro s)|refine sy z λi ad M=>?_|simp(disch:=first|assumption|omega) only[Ad]))
  all_goals
   refine Aj i.args (B0:=λl (a:(Int×S)×Nat)=>⟨[(1,Dv T),(3,nI pl),(10,.ptr (0::24::c) 0),(11,.d (.bool (Z))),(12,nI a.1.1),(49,.d (.co (i.args.map Bm))),(50,nI (U i.args)),(51,nI l)],a.1.2,a.2,[]⟩)
    (Inv:=λl a5 a=>AR (HB T I pl l a5 a.1.1=A/\Z2 a.1.1/\30<=a.2)/\a.1.2.get (0::24::c)=J (.box [nI 0,nI 0])) (b0:=((_,_),_)) ?_ ?_ ?_
   .exact zBL
   .rintro l t ⟨⟨a,H⟩,e⟩ b8 F az ⟨k,ar⟩ x;have cn:SE.wrap ((l:Int)+1)=(l:Int)+1:=w_ z z;have ch:∀O,¬e+O=24:=λO=>by have:=k.1.2.2;dsimp only at this;omega
    obtain⟨f,v,b2⟩:=k.1;dsimp only at*;rw[HB]at f;replace s:=AB s;by_cases m:t.op=2/\t.n=pl
    .rw[D4 m]at f;obtain⟨R,a4⟩:=m;replace f:=AB f;replace k:=AB k;refine ax ?_;refine x.1 ((2,_),_) ⟨⟨f.1,by unfold Z2;dsimp only;omega,AZ⟩,?_⟩;dsimp only;simp only[*,go_sem,AM]
    .exact zAW
   .rintro l ⟨⟨a,H⟩,e⟩ F az ⟨k,ar⟩;have f:=k.1.1;dsimp only at*;rw[HB]at f;rw[<-f];replace f:=AB f;replace k:=AB k;replace q:=AB q;exact af
 |some n=>
  rw[w]at a0;obtain⟨bl,bn,d,W,aa,Y⟩:=av.1 n w;have L:=AB λH ag=>L.1 n d W bl bn aa Y H ag;cases ac:Nb p n i with
  |false=>
   have r:KV p T D o i pl=0:=by rw[KV,w];simp[ac]
   rw[r];refine Bf func208 ?_;refine ax ?_;refine G8 (L.1 _ λl F=>?_) (λcl bv a3=>?_)
   .have Q:=F;rw[Nt]at Q;simp only[go_sem,Q,AM]
   subst a3;exact af
  |true=>
   have r:KV p T D o i pl=HB T (J n) pl 0 i.args (if i.n=pl then 1 else 0):=by rw[KV,w];simp[ac]
   rw[r];obtain⟨A,q⟩:∃A,A=HB T (J n) pl 0 i.args (if i.n=pl then 1 else 0):=⟨_,rfl⟩;rw[<-q];replace q:=AB q;have cc:=l_ aa;have b':=l_ Y;obtain⟨b,ai⟩:=g_ (l:=T) (i:=n.1.toNat) (by rw[a6.len];exact cc);obtain⟨_,_,cm,be⟩:=a6.each _ _ _ aa ai;obtain⟨a2,a1⟩:=g_ (l:=b.args) (i:=n.2.toNat) (by rw[cm];exact b');have dj:=l_ a1;have df:=l_ ai;have c0:n.1<U T:=z;have c2:n.2<U b.args:=z;have a':U a2=U i.args:=by
    have bo:R2 p n=J W:=by rw[R2,aa];exact Y
    rw[Nb,bo]at ac;have f:=of_decide_eq_true ac;have v:=be _ _ _ Y a1;simp only[Gs,F7]at f;omega
   clear be;refine Bf func208 ?_;refine ax ?_;refine G8 (L.1 _ λl F=>?_) (λcl bv a3=>?_)
   .have Q:=F;rw[Nt]at Q;simp only[go_sem,Q,AM]
   subst a3
   (repeat' (first|simp only[*,go_sem,AM]|(refine sx ?_ ?_<;>intro s)|refine sy z λi ad M=>?_|simp(disch:=first|assumption|omega) only[Ad]))
   all_goals
    refine Aj i.args (B0:=λl (a:(Int×S)×Nat)=>⟨[(1,Dv T),(3,nI pl),(10,.ptr (0::24::c) 0),(11,.d (.bool (X))),(12,nI a.1.1),(49,.d (.co (i.args.map Bm))),(50,nI (U i.args)),(51,nI l)],a.1.2,a.2,[]⟩)
     (Inv:=λl a5 a=>AR (HB T (J n) pl l a5 a.1.1=A/\Z2 a.1.1/\30<=a.2)/\a.1.2.get (0::24::c)=J (.box [nI n.1,nI n.2])) (b0:=((_,_),_)) ?_ ?_ ?_
    .exact zBL
    .rintro l t ⟨⟨a,H⟩,e⟩ b8 F az ⟨k,ar⟩ x;have cn:SE.wrap ((l:Int)+1)=(l:Int)+1:=w_ z z;have ch:∀O,¬e+O=24:=λO=>by have:=k.1.2.2;dsimp only at this;omega
     obtain⟨f,v,b2⟩:=k.1;dsimp only at*;rw[HB]at f;replace s:=AB s;by_cases m:t.op=2/\t.n=pl
     .rw[D4 m]at f;obtain⟨R,a4⟩:=m;obtain⟨P,b6⟩:=g_ (l:=a2) (i:=l) z;have bs:FP T n l=P:=by rw[FP,ai,GC,a1,GC,b6];rfl
      rw[pq,bs]at f;have c7:(l:Int)<U a2:=z;have c':=XG (a:=a) (b:=NF P) v (gI P);have b1:=gP v (gI P);replace f:=AB f;replace k:=AB k;replace a':=AB a';refine ax ?_;refine x.1 ((IE a (NF P),_),_) ⟨⟨f.1,b1,AZ⟩,?_⟩;dsimp only;simp only[*,go_sem,AM]
     .exact zAW
    .rintro l ⟨⟨a,H⟩,e⟩ F az ⟨k,ar⟩;have f:=k.1.1;dsimp only at*;rw[HB]at f;rw[<-f];replace f:=AB f;replace k:=AB k;replace q:=AB q;exact af
end
def m3(a e:Int)(o:Bool):Bool:=xO a o
structure AMG(A8:Au):Prop:=
 ac:U A8.ac<=1000000
 rules:U A8.rules<=1000000
 args:U A8.args<=1000000
 each:∀l∈A8.args,U l<=1000000
def N5(T:List Au):Prop:=U T<=1000000/\∀b∈T,AMG b
variable{F:Int->Int->Bool->Bool}
theorem iU{n:Nat}(K:∀i k f,Bq kT n [nI i,nI k,.d (.bool f)] []=.ok (.ret (.d (.bool (F i k f))),[]))(M:cfg.mode n=.auto){H:S}{t:u}{e:u}(D:H.get e=J (.box [.fn n [] []]))(B:AE t e=Z){g h:Al}(m:U g=U h)(q:U g<=1000000)(f:Bool):
 ∃s o,kT (.fn 176) [.d (.co (g.map AX)),.d (.co (h.map AX)),.d (.bool (f)),.ptr e 0] H t X I=.ok (s,o)/\s=.ret (.d (.bool (Qb F f g h)))/\o=H:=by
 have⟨R,j⟩:=C6 (Qb F f g h);rw[<-j];replace j:=AB j;replace m:=AB m;have C:=AN B;refine Bf func176 ?_
 (repeat' (first|simp only[*,go_sem,AM]|(refine sx ?_ ?_<;>intro w)|refine sy z λi r q=>?_|simp(disch:=first|assumption|omega) only[Ad]))
 refine Aj g (B0:=λc (a:Nat)=>⟨[(0,.d (.co (g.map AX))),(1,.d (.co (h.map AX))),(2,.d (.bool (f))),(3,.ptr e 0),(10,nI (U g)),(11,nI c)],H,a,[]⟩)
  (Inv:=λc A a=>AR (Qb F f A (h.drop c)=R)) (b0:=_) ⟨j.1.symm⟩ ?_ ?_
 .rintro c i a r p x l v;have N:SE.wrap ((c:Int)+1)=(c:Int)+1:=w_ z z;have⟨k,hy⟩:=g_ (l:=h) (i:=c) (by rw[<-m.1];exact p);have L:(c:Int)<U h:=by have:=l_ hy;omega
  have b:=l.1;rw[EY hy,Qb]at b;rcases hq:F i k f with _|_
  .rw[hq,Co Af]at b;rw[<-b];replace b:=AB b;exact af
  .rw[hq,D4 rfl]at b;replace b:=AB b
   (repeat' (first|simp only[*,go_sem,AM]|(refine sx ?_ ?_<;>intro w)|refine sy z λi r q=>?_|simp(disch:=first|assumption|omega) only[Ad]))
   exact v.1 _ b
 .rintro c a p x l;have b:=l.1;rw[Qb]at b
  .rw[<-b];replace b:=AB b;exact af
  grind
theorem VB{o:Nat}(Q:∀k ad ac,Bq kT o [nI k,nI ad,.d (.bool ac)] []=.ok (.ret (.d (.bool (F k ad ac))),[]))(T:cfg.mode o=.auto){l m:List Au}(x:NK l m)(c:N5 l):Bq kT 134 [Dv l,Dv m,.fn o [] []] []=.ok (.ret (.d (.bool (DA F l m))),[]):=by
 have⟨R,t⟩:=C6 (DA F l m);rw[<-t];refine M9 ?_ t x c;clear t x c;intro t x c;refine BM func134 ?_
 (repeat' (first|simp only[*,go_sem]|(refine sx ?_ ?_<;>intro h)|refine sy z λk i c=>?_|simp(disch:=first|assumption|omega) only[Ad]))
 refine Aj l (B0:=λg (_:Unit)=>⟨[(0,Dv l),(1,Dv m),(7,.fn 176 [] [.ptr [0,0] 0]),(12,nI (U l)),(13,nI g)],[([0,0],.box [.fn o [] []])],1,[]⟩)
  (Inv:=λg V _=>AR (DA F V (m.drop g)=R)) (b0:=()) ⟨t.1.symm⟩ ?_ ?_
 .rintro g b _ aa Y av N ag;have a1:SE.wrap ((g:Int)+1)=(g:Int)+1:=w_ z (by have:=c.1.1;omega);have⟨v,hv⟩:=g_ (l:=m) (i:=g) (by rw[<-x.1.len];exact Y);have a0:(g:Int)<U m:=by have:=l_ hv;omega
  have r:=x.1.each g b v aa hv;have q:=c.1.2 b (AP aa);have a:=N.1;rw[EY hv,DA,eA]at a;have A:=AB λ(H:S) (C:u) (e:u) (w:H.get e=J (.box [.fn o [] []])) (B:AE C e=Z)=>iU Q T w B r.ac q.ac X;have K:=AB λ(H:S) (C:u) (e:u) (w:H.get e=J (.box [.fn o [] []])) (B:AE C e=Z)=>iU Q T w B r.rules q.rules Z;replace r:=AB r;replace q:=AB q;rcases q1:Qb F X b.ac v.ac with _|_
  .rw[q1]at a A;rw[Co AG]at a;rw[<-a];replace a:=AB a
   (repeat' (first|simp only[*,go_sem]|(refine sx ?_ ?_<;>intro h)|refine sy z λk i c=>?_|simp(disch:=first|assumption|omega) only[Ad]))
   refine Ak (A.1 _ _ _ rfl rfl) (λs p j=>?_);obtain⟨rfl,rfl⟩:=j;exact au
  .rw[q1]at a A;rcases q2:Qb F Z b.rules v.rules with _|_
   .rw[q2]at a K;rw[Co AG]at a;rw[<-a];replace a:=AB a
    (repeat' (first|simp only[*,go_sem]|(refine sx ?_ ?_<;>intro h)|refine sy z λk i c=>?_|simp(disch:=first|assumption|omega) only[Ad]))
    refine Ak (A.1 _ _ _ rfl rfl) (λs p j=>?_);obtain⟨rfl,rfl⟩:=j
    (repeat' (first|simp only[*,go_sem]|(refine sx ?_ ?_<;>intro h)|refine sy z λk i c=>?_|simp(disch:=first|assumption|omega) only[Ad]))
    refine Ak (K.1 _ _ _ rfl rfl) (λs p j=>?_);obtain⟨rfl,rfl⟩:=j;exact au
   .rw[q2]at a K
    (repeat' (first|simp only[*,go_sem]|(refine sx ?_ ?_<;>intro h)|refine sy z λk i c=>?_|simp(disch:=first|assumption|omega) only[Ad]))
    refine Ak (A.1 _ _ _ rfl rfl) (λs p j=>?_);obtain⟨rfl,rfl⟩:=j
    (repeat' (first|simp only[*,go_sem]|(refine sx ?_ ?_<;>intro h)|refine sy z λk i c=>?_|simp(disch:=first|assumption|omega) only[Ad]))
    refine Ak (K.1 _ _ _ rfl rfl) (λs p j=>?_);obtain⟨rfl,rfl⟩:=j;replace a:=AB a
    (repeat' (first|simp only[*,go_sem]|(refine sx ?_ ?_<;>intro h)|refine sy z λk i c=>?_|simp(disch:=first|assumption|omega) only[Ad]))
    have⟨B0,D⟩:=C6 (J5 F b.args v.args);rw[<-D]at a;replace D:=AB D;refine Aj b.args (B0:=λn (_:Unit)=>⟨[(0,Dv l),(1,Dv m),(7,.fn 176 [] [.ptr [0,0] 0]),(8,nI g),(12,nI (U l)),(13,nI g),(49,nI (U b.args)),(50,nI n)],[([0,0],.box [.fn o [] []])],1,[]⟩)
     (Inv:=λn V _=>AR (J5 F V (v.args.drop n)=B0)) (b0:=()) ⟨D.1.symm⟩ ?_ ?_
    .rintro n W _ i h ar O ai;have a2:SE.wrap ((n:Int)+1)=(n:Int)+1:=w_ z (by have:=q.1.args;omega);have⟨ys,hy⟩:=g_ (l:=v.args) (i:=n) (by rw[<-r.1.args];exact h);have az:(n:Int)<U v.args:=by have:=l_ hy;omega
     have f:=O.1;rw[EY hy,J5]at f;have L:=AB λ(H:S) (C:u) (e:u) (w:H.get e=J (.box [.fn o [] []])) (B:AE C e=Z)=>iU Q T w B (r.1.each n W ys i hy) (q.1.each W (AP i)) Z;rcases q3:Qb F Z W ys with _|_
     .rw[q3]at f L;rw[Co AG]at f;have P:R=false:=by have:=a.1;rw[<-f]at this;simpa using this.symm
      rw[P];replace P:=AB P;replace f:=AB f
      (repeat' (first|simp only[*,go_sem]|(refine sx ?_ ?_<;>intro h)|refine sy z λk i c=>?_|simp(disch:=first|assumption|omega) only[Ad]))
      refine Ak (L.1 _ _ _ rfl rfl) (λs p j=>?_);obtain⟨rfl,rfl⟩:=j;exact au
     .rw[q3,D4 rfl]at f;rw[q3]at L;replace f:=AB f
      (repeat' (first|simp only[*,go_sem]|(refine sx ?_ ?_<;>intro h)|refine sy z λk i c=>?_|simp(disch:=first|assumption|omega) only[Ad]))
      refine Ak (L.1 _ _ _ rfl rfl) (λs p j=>?_);obtain⟨rfl,rfl⟩:=j
      (repeat' (first|simp only[*,go_sem]|(refine sx ?_ ?_<;>intro h)|refine sy z λk i c=>?_|simp(disch:=first|assumption|omega) only[Ad]))
      exact ai.1 () f
    .rintro n _ h ar O;have f:=O.1;rw[J5]at f
     .have M:DA F (l.drop (g+1)) (m.drop (g+1))=R:=by have:=a.1;rw[<-f]at this;simpa using this
      replace f:=AB f;replace M:=AB M
      (repeat' (first|simp only[*,go_sem]|(refine sx ?_ ?_<;>intro h)|refine sy z λk i c=>?_|simp(disch:=first|assumption|omega) only[Ad]))
      exact ag.1 () M
     grind
 .rintro g _ Y av N;have a:=N.1;rw[DA]at a
  .rw[<-a];replace a:=AB a;exact au
  grind
def nJ{a b:List Au}(e:NK a b)(c:N5 a):Bq kT 134 [Dv a,Dv b,.fn 135 [] []] []=.ok (.ret (.d (.bool (DA B9 a b))),[]):=VB AMc xu e c
def nK{a b:List Au}(e:NK a b)(c:N5 a):Bq kT 134 [Dv a,Dv b,.fn 141 [] []] []=.ok (.ret (.d (.bool (DA aA a b))),[]):=VB AMs xv e c
def nP{a b:List Au}(e:NK a b)(c:N5 a):Bq kT 134 [Dv a,Dv b,.fn 179 [] []] []=.ok (.ret (.d (.bool (DA m3 a b))),[]):=VB AEq xw e c
structure ob(ci:Option u)(id:u)(C:u->Prop)(Ai:Al->S->Prop)(π:u):Prop:=
 own:C id
 apart:∀i,C i->AE π i=Z
 loop:∀{l:Al} {H:S},Ai l H->∃r,H.get id=J (.loop r)
 eat:∀{x:Int} {l:Al} {H:S} {ρ:u} {r:Lp},Ai (x::l) H->H.get id=J (.loop r)->(∀i,AE π i=Z->AE ρ i=Z)->
  ∃o h',kT (.round id r) [nI x] H ρ X ci=.ok (o,h')/\o=.ret (.d (.bool (X)))/\Ai l h'/\∀i,¬C i->AE ρ i=Z->h'.get i=H.get i
 same:∀{l:Al} {H H':S},Ai l H->(∀i,AE π i=Z->H'.get i=H.get i)->Ai l H'
structure Wk(ci:Option u)(π:u):Prop:=
 nil:J4 ci []=X
 new:∀(a j:Nat) (o:Abs.Obj) (δ:S),J4 ci ((a::j::π,o)::δ)=J4 ci δ
def Wk.none(a:u):Wk I a:=⟨rfl,λ_ _ _ _=>rfl⟩
def Wk.some{c b:u}(f:AE c b=X):Wk (J c) b:=⟨rfl,λa e g h=>by have⟨t,ht⟩:=q_a.1 f;rw[qk,show AE c (a::e::b)=X from q_a.2 ⟨a::e::t,by rw[<-ht];rfl⟩,Jp]⟩
section
variable{p:Aa}{g:Al}{D:List BJ}{j:Al}{h:S}{B:u}{V:TV}{c:u}
def Xj{ci:Option u}{q:u}{s:u->Prop}{n:Al->S->Prop}(f:ob ci q s n c)(F:Wk ci c)(x:Dh p g D j h B V)(K:Sr c B V){AY Y:u}{o:Int}{d:Bd}(aa:0<=o) (P:p.defs[o.toNat]?=J d) (ai:U d.be<=1000000) (ac:h.get AY=J (.box [.ptr B 0])) (ad:h.get Y=J (.box [nI o])) (v:n (d.be.map Dy.node) h):
 ∃L t,kT (.fn 198) [.yld q,.ptr AY 0,.ptr Y 0] h c X ci=.ok (L,t)/\L=.ret (.kw [])/\n [] t/\∀b,¬s b->AE c b=Z->t.get b=h.get b:=by
 have ag:=x.box;have a1:=l_ P;have W:o<U p.defs:=z;have uid:=f.apart q f.own;have T:=AN uid;have az:=F.nil;have a0:=F.new;replace x:=AB x;replace K:=AB K;replace f:=AB f;replace v:=AB v;refine Bf func198 ?_;refine ax ?_;refine Aj d.be (B0:=λb (a:S×Nat)=>⟨[(0,.yld q),(14,.d (.co (d.be.map BH))),(15,nI (U d.be)),(16,nI b)],a.1,a.2,[]⟩)
  (Inv:=λb R a=>AR (n (R.map Dy.node) a.1/\∀b,¬s b->AE c b=Z->a.1.get b=h.get b)) (b0:=(_,_)) ⟨v.1,λ_ _ _=>rfl⟩ ?_ ?_
 .rintro b a5 ⟨H,e⟩ av i Q k N;have a4:SE.wrap ((b:Int)+1)=(b:Int)+1:=w_ z z;obtain⟨l,w⟩:=k.1;dsimp only at*;rw[By]at l;obtain⟨a3,ar⟩:=f.1.loop l;replace l:=AB l;replace w:=AB w;replace k:=AB k;refine ax ?_;refine Ak (f.1.eat (f.1.same l.1 λb i=>?_) ?_ λb i=>AL i _) (λa2 O m=>?_)
  .have C:=AN i;simp only[go_sem,C,AM]
  .simp only[*,go_sem,AM]
  obtain⟨rfl,m,A⟩:=m;replace m:=AB m;replace A:=AB A;refine ax ?_;refine N.1 (_,_) ⟨f.1.same m.1 λb i=>An _ _ _ (AL i _),λb M r=>?_⟩;show(gc ((e+8)::c) O).get b=h.get b;rw[An _ _ _ (AL r _),A.1 b M (AL r _)];have C:=AN r;simp only[go_sem,C,AM];exact w.1 b M r
 .rintro b ⟨H,e⟩ i Q k;dsimp only at*;refine ax ?_;exact⟨k.1.1,k.1.2⟩
end
theorem EO(c:u)(b:S)(a:u)(e:U a<=(U c)+2):S.get (gc (0::0::c) b) a=S.get b a:=by
 refine SF (λa=>match a with|0::l=> !AE (0::0::c) l|_=>X) b _ ?_
 grind [IZ]
def AKH(c:Nat)(a:u):AJ (c::a) a=false:=AI λb=>by exact zBW
attribute [go_sem] AKH
theorem BU(b:S){c a:u}(e:Abs.Obj)(f:a≠c):S.get (b.put c e) a=S.get b a:=by grind [p_,AI]
def Oi{K:Ah}{ci:Option u}{j b:u}{a:u}{g:CW}{e:Nat}{f:List Df}{Q:Di->St->Prop}{i:gG}{args:List y}{H:S}{c:Lp}(k:∀h,h=c->MG j b a g e f Q (K i args (H.put a (.loop h)) b X ci)):MG j b a g e f Q (K i args (H.put a (.loop c)) b X ci):=k c rfl
def Um{ci:Option u}{a:u}(e:Wk ci a)(b:S)(B:u)(d:Int):
 ∃f c,kT (.fn 178) [.ptr B 0,nI d] b a X ci=.ok (f,c)/\f=.ret (.fn 198 [] [.ptr (0::0::a) 0,.ptr (0::1::a) 0])/\c=(b.put (0::0::a) (.box [.ptr B 0])).put (0::1::a) (.box [nI d]):=by
 have g:=e.nil;have h:=e.new;refine Bf func178 ?_;exact af
section
variable{p:Aa}{j:Al}{D:List BJ}{h:Al}{g:S}{B:u}{V:TV}{c:u}{T:List Au}
structure APw(f:Int->Int)(g:S)(B:u)(ρ:u)(T:List Au)(pl:Int)(x:CQ)(r0:Lp)(B0:Int)(M:Int->Prop)(l:Al)(H:S):Prop:=
 b0:H.get (0::0::ρ)=J (.box [.ptr B 0])
 b1:H.get (0::1::ρ)=J (.box [Dv T])
 b2:H.get (0::2::ρ)=J (.box [nI pl])
 b12:H.get (0::12::ρ)=J (.box [nI x.op,nI x.n,.d (.co (x.args.map Bm)),.d (.co (x.kids.map AX))])
 acc:∃a,H.get (0::22::ρ)=J (.box [nI a])/\Z2 a/\O5 f l a=B0
 lp:H.get (0::28::ρ)=J (.loop r0)
 nw:∀i,AE ρ i=Z->H.get i=g.get i
 mem:∀m∈l,M m
structure APy(f:Int->Int)(g:S)(B:u)(ρ:u)(T:List Au)(pl:Int)(x:CQ)(R:Int)(i:Nat)(l:List DI)(H:S)(b:Nat):Prop:=
 b0:H.get (0::0::ρ)=J (.box [.ptr B 0])
 b1:H.get (0::1::ρ)=J (.box [Dv T])
 b2:H.get (0::2::ρ)=J (.box [nI pl])
 b12:H.get (0::12::ρ)=J (.box [nI x.op,nI x.n,.d (.co (x.args.map Bm)),.d (.co (x.kids.map AX))])
 acc:∃a,H.get (0::22::ρ)=J (.box [nI a])/\Z2 a/\Ox f T x.n i l a=R
 nw:∀i,AE ρ i=Z->H.get i=g.get i
 base:30<=b
def mw(K:Dh p j D h g B V)(v:Sr c B V)(a2:W1 p T){t pl L:Int}{n:CQ}{d:Bd}{f:Int->Int}(c':0<=t)(dd:p.nodes[t.toNat]?=J n)(cq:n.kids[0]?=J L)(c4:0<=n.n)(a5:p.defs[n.n.toNat]?=J d)(c8:U d.be<=1000000) (d7:U d.rules<=1000000)(aa:∀s,s=L\/s∈d.be.map Dy.node\/s∈d.rules.map DI.node->Z2 (f s)/\∀H ar,Dh p j D h H B V->Sr ar B V->∃ag be,kT (.fn 196) [.ptr B 0,Dv T,nI s,nI pl] H ar X (J ar)=.ok (ag,be)/\ag=.ret (nI (f s))):
 ∃ag be,kT (.fn 193) [.ptr B 0,Dv T,nI t,nI pl] g c X (J c)=.ok (ag,be)/\ag=.ret (nI (Kh f p T n)):=by
 have bx:=v B zCL;have dx:=AN bx;have d0:=Av bx;have c5:=K.box;have d9:=l_ dd;have d1:t<U p.nodes:=z;have df:=l_ a5;have d3:n.n<U p.defs:=z;have d':=l_ cq;have d4:(0:Int)<U n.kids:=z;obtain⟨P,a1⟩:∃P,P=Kh f p T n:=⟨_,rfl⟩;have bh:P=Ox f T n.n 0 d.rules (O5 f (d.be.map Dy.node) (f L)):=by rw[a1,Kh,a5];simp only[DW,cq,F7]
 rw[<-a1];obtain⟨⟨bs,ai⟩,bl⟩:=aa L (.inl rfl);have bl:=AB λm H r=>bl H (m::c) (K.new v (g':=H) r) (v.ext _);replace a1:=AB a1;replace bh:=AB bh;replace aa:=AB aa;replace K:=AB K;replace v:=AB v;replace a2:=AB a2;refine Bf func193 ?_;refine ax ?_;refine DN (bl.1 _ _ λi k=>?_) (λa6 C o=>?_)
 .have w:=k;rw[Nt]at w;simp only[go_sem,w,AM]
 subst o;refine ax ?_;refine Ak (Um (Wk.some (q_a.2 (FD 27 c))) _ _ _) (λa6 C o=>?_);obtain⟨rfl,rfl⟩:=o;rw[G7,YZ];generalize r:gc (0::0::27::c) _=q;have b0:q.get (0::0::c)=J (.box [.ptr B 0]):=zCO
 have av:q.get (0::1::c)=J (.box [Dv T]):=zCO
 have az:q.get (0::2::c)=J (.box [nI pl]):=zCO
 have b4:q.get (0::12::c)=J (.box [nI n.op,nI n.n,.d (.co (n.args.map Bm)),.d (.co (n.kids.map AX))]):=zCO
 have b5:q.get (0::22::c)=J (.box [nI (f L)]):=zCO
 have b6:q.get (0::0::27::c)=J (.box [.ptr B 0]):=zCO
 have b7:q.get (0::1::27::c)=J (.box [nI n.n]):=zCO
 have Y:∀i,AE c i=Z->q.get i=g.get i:=λi k=>by have w:=AN k;have ai:=AN (AL k 27);rw[<-r,An _ _ _ (AL (AL (AL k 27) 0) 0)];simp only[go_sem,w,ai,AM]
 clear r;replace Y:=AB Y;refine ax ?_;refine Oi λc0 cv=>?_;obtain⟨B0,a3⟩:∃B0,B0=O5 f (d.be.map Dy.node) (f L):=⟨_,rfl⟩;have cl:AR (P=Ox f T n.n 0 d.rules B0):=⟨by rw[a3];exact bh.1⟩;have ch:ob (J c) (0::28::c) (λi=>i=0::28::c\/i=0::22::c) (APw f g B c T pl n c0 B0 λs=>s∈d.be.map Dy.node) (29::c):=by
  refine⟨.inl rfl,?_,?_,?_,?_⟩
  .rintro i (rfl|rfl)<;>exact BN c z
  .intro cx H l;exact⟨_,l.lp⟩
  .intro s cx H ar el l cu bn;rw[l.lp]at cu;cases cu;subst cv;obtain⟨a,cn,N,a4⟩:=l.acc;rw[O5]at a4;obtain⟨⟨ac,ad⟩,A⟩:=aa.1 s (.inr (.inl (l.mem s (CO ..))));have A:=AB λm q (r:∀i,AE c i=Z->q.get i=H.get i)=>A q (m::ar) (K.1.mono λi k=>(r i (v.1 i k)).trans (l.nw i (v.1 i k))) λi k=>AL (bn i (AL (v.1 i k) _)) _;have dc:=XG (a:=a) (b:=f s) N ⟨ac,ad⟩;have bk:=gP N ⟨ac,ad⟩;have b1:=l.b0;have b2:=l.b1;have b3:=l.b2;have er:=l.lp;replace l:=AB l;replace bn:=AB bn;replace N:=AB N;replace a4:=AB a4;replace a3:=AB a3;replace b0:=AB b0;replace av:=AB av;replace az:=AB az;refine Ow rfl ?_;refine ax ?_;refine DN (A.1 _ _ λi k=>?_) (λa6 C o=>?_)
   .have w:=AN k;simp only[go_sem,w,AM]
   subst o;refine ax ?_;have dr:=l.1.b12;refine⟨⟨?_,?_,?_,?_,⟨_,?_,bk,a4.1⟩,?_,λi k=>?_,λs c9=>l.1.mem s (Bi _ c9)⟩,λi k d6=>?_⟩
   .simp only[go_sem,b1]
   .simp only[go_sem,b2]
   .simp only[go_sem,b3]
   .simp only[go_sem,dr]
   .simp only[go_sem]
   .simp only[go_sem]
   .have w:=AN k;simp only[go_sem,w,AM];exact l.1.nw i k
   .rw[not_or]at k;have bs:=AI λW=>k.1 (Eq.symm W);have ai:=AI λW=>k.2 (Eq.symm W);simp only[bs,ai,AM,Ge]
  .intro cx H c1 l h;have O:∀t,t≠29->c1.get (0::t::c)=H.get (0::t::c):=λt c'=>h _ (BN c z);obtain⟨a,cn,N⟩:=l.acc;exact⟨(O _ z).trans l.b0,(O _ z).trans l.b1,(O _ z).trans l.b2,(O _ z).trans l.b12,⟨a,(O _ z).trans cn,N⟩,(O _ z).trans l.lp,λi k=>(h i (AL k _)).trans (l.nw i k),l.mem⟩
 refine Mv (Xj ch (Wk.some (q_a.2 (FD 29 c))) (K.1.mono (g':=q.put (0::28::c) (.loop c0)) λi k=>?_) (λi k=>AL (v.1 i k) 29) c4 a5 c8 ?_ ?_ ⟨?_,?_,?_,?_,⟨f L,?_,⟨bs,ai⟩,a3.symm⟩,?_,λi k=>?_,λs A=>A⟩) (λa6 C o=>?_)
 .rw[BU _ _ λW=>?_]
  .exact Y.1 i (v.1 i k)
  .have:=v.1 i k;rw[W,show AE c (0::28::c)=X from Aq [0,28]]at this;cases this
 .simp only[go_sem,b6]
 .simp only[go_sem,b7]
 .simp only[go_sem,b0]
 .simp only[go_sem,av]
 .simp only[go_sem,az]
 .simp only[go_sem,b4]
 .simp only[go_sem,b5]
 .simp only[go_sem]
 .have w:=AN k;simp only[go_sem,w,AM];exact Y.1 i k
 obtain⟨rfl,o,dj⟩:=o;obtain⟨a,R,Q,F⟩:=o.acc;rw[O5]at F;subst F;generalize a0:gc (28::c) (gc (29::c) C)=H3;rw[MH,o.lp,a0];have M:∀t,t≠28->t≠29->H3.get (0::t::c)=C.get (0::t::c):=λt ea eb=>by rw[<-a0,An _ _ _ (BN c z),An _ _ _ (BN c z)]
 have b8:=(M 0 z z).trans o.b0;have b9:=(M 1 z z).trans o.b1;have cc:=(M 2 z z).trans o.b2;have b':=(M 12 z z).trans o.b12;rw[<-M 22 z z]at R;have bc:AR (∀i,AE c i=Z->H3.get i=g.get i):=⟨λi k=>by rw[<-a0,An _ _ _ (AL k _),An _ _ _ (AL k _)];exact o.nw i k⟩;clear M o dj a0 C ch Y b0 av az b4 b5 b6 b7 q;subst cv;have c6:=(bc.1 B bx).trans c5;refine ax ?_;refine Aj d.rules (B0:=λi (a:S×Nat)=>⟨[(4,.ptr (0::0::c) 0),(5,.ptr (0::1::c) 0),(7,.ptr (0::2::c) 0),(9,.ptr (0::12::c) 0),(10,.ptr (0::22::c) 0),(51,.d (.co (d.rules.map BR))),(52,nI (U d.rules)),(53,nI i)],a.1,a.2,[.mark (0::28::c)]⟩)
  (Inv:=λi dm a=>AR (APy f g B c T pl n P i dm a.1 a.2)) (b0:=(_,_)) ⟨⟨b8,b9,cc,b',⟨a,R,Q,cl.1.symm⟩,bc.1,AZ⟩⟩ ?_ ?_
 .rintro i dn ⟨H,e⟩ de k c7 x c2;have em:SE.wrap ((i:Int)+1)=(i:Int)+1:=w_ z z;have cp:=x.1.base;dsimp only at cp;have ek:∀m,¬e+m=22:=λm=>z;have eg:∀m,¬e+m=12:=λm=>z;have ej:∀m,¬e+m=2:=λm=>z;have ef:∀m,¬e+m=1:=λm=>z;have ec:∀m,¬e+m=0:=λm=>z;clear cp;clear b8 b9 cc b' R bc Q cl c6;obtain⟨c3,R,Q,F⟩:=x.1.acc;obtain⟨b,bi⟩:=g_ (l:=T) (i:=n.n.toNat) (by rw[a2.1.len];exact df);obtain⟨_,bv,_,_⟩:=a2.1.each _ _ _ a5 bi;obtain⟨bo,cs⟩:=g_ (l:=b.rules) (i:=i) (by rw[bv];exact k);have cd:Bc T n.n i=bo:=by rw[Bc,bi,GC,Es,cs];rfl
  have d2:n.n<U T:=by have:=l_ bi;omega
  have d5:(i:Int)<U b.rules:=by have:=l_ cs;omega
  rw[Ox,cd]at F;obtain⟨⟨ac,ad⟩,A⟩:=aa.1 dn.node (.inr (.inr (MP (AP de))));have A:=AB λm q (r:∀i,AE c i=Z->q.get i=H.get i)=>A q (m::c) (K.1.mono λi k=>(r i (v.1 i k)).trans (x.1.nw i (v.1 i k))) (v.1.ext m);have d8:=AHo (gI bo) ⟨ac,ad⟩;have a':=AHn (gI bo) ⟨ac,ad⟩;have dc:=XG Q a';have bk:=gP Q a';have b1:=x.1.b0;have b2:=x.1.b1;have b3:=x.1.b2;have dq:=x.1.b12;dsimp only at R b1 b2 b3 dq;replace bv:=AB bv;replace a':=AB a';replace F:=AB F;clear cd;refine ax ?_;refine DN (A.1 _ _ λi k=>?_) (λa6 C o=>?_)
  .have w:=AN k;simp only[go_sem,w,AM]
  subst o;refine ax ?_;refine c2.1 (_,_) ⟨⟨?_,?_,?_,?_,⟨_,?_,bk,F.1⟩,λi k=>?_,by have:=x.1.base;dsimp only at*;omega⟩⟩
  .exact zAp
  .exact zAp
  .exact zAp
  .exact zAp
  .exact zAp
  .have w:=AN k;simp only[go_sem,w,AM];exact x.1.nw i k
 .rintro i ⟨H,e⟩ k c7 x;obtain⟨c3,en,ds,cm⟩:=x.1.acc;rw[Ox]at cm;subst cm;dsimp only at*;exact af
end
section
variable{p:Aa}{h:Al}{D:List BJ}{j:Al}{g:S}{B:u}{V:TV}{b:u}{T:List Au}
def ADy(c:Dh p h D j g B V)(a:Sr b B V){o pl i k:Int}{n:CQ}{f:Int->Int}(ac:0<=o)(L:p.nodes[o.toNat]?=J n)(aa:n.kids[0]?=J i)(K:n.kids[1]?=J k)(e:∀l,l=i\/l=k->Z2 (f l)/\∀H x,Dh p h D j H B V->Sr x B V->∃m q,kT (.fn 196) [.ptr B 0,Dv T,nI l,nI pl] H x X (J x)=.ok (m,q)/\m=.ret (nI (f l))):
 ∃m q,kT (.fn 209) [.ptr B 0,Dv T,nI o,nI pl,.fn 206 [] []] g b X (J b)=.ok (m,q)/\m=.ret (nI (IE (f i) (f k))):=by
 have A:=a B zCL;have O:=AN A;have P:=Av A;have Y:=c.box;have ag:=l_ L;have Q:o<U p.nodes:=z;have ai:=l_ K;have R:(1:Int)<U n.kids:=z;have W:(0:Int)<U n.kids:=z;have⟨⟨q1,q2⟩,r⟩:=e i (.inl rfl);have⟨⟨q3,q4⟩,s⟩:=e k (.inr rfl);have r:=AB λv H t=>r H (v::b) (c.new a (g':=H) t) (a.ext _);have s:=AB λv H t=>s H (v::b) (c.new a (g':=H) t) (a.ext _);have ad:=XG (a:=f i) (b:=f k) ⟨q1,q2⟩ ⟨q3,q4⟩;refine M9 ?_ e c a;clear e c a;intro e c a;refine Bf func209 ?_;refine ax (DN (r.1 _ _ λM F=>?_) (λN C w=>?_))
 .rfl
 subst w;refine ax (DN (s.1 _ _ λM F=>?_) (λN C w=>?_))
 .rfl
 subst w;exact af
def ADx(c:Dh p h D j g B V)(a:Sr b B V){o pl i k:Int}{n:CQ}{f:Int->Int}(ac:0<=o)(L:p.nodes[o.toNat]?=J n)(aa:n.kids[0]?=J i)(K:n.kids[1]?=J k)(e:∀l,l=i\/l=k->Z2 (f l)/\∀H x,Dh p h D j H B V->Sr x B V->∃m q,kT (.fn 196) [.ptr B 0,Dv T,nI l,nI pl] H x X (J x)=.ok (m,q)/\m=.ret (nI (f l))):
 ∃m q,kT (.fn 209) [.ptr B 0,Dv T,nI o,nI pl,.fn 195 [] []] g b X (J b)=.ok (m,q)/\m=.ret (nI (Fq (f i) (f k))):=by
 have A:=a B zCL;have O:=AN A;have P:=Av A;have Y:=c.box;have ag:=l_ L;have Q:o<U p.nodes:=z;have ai:=l_ K;have R:(1:Int)<U n.kids:=z;have W:(0:Int)<U n.kids:=z;have⟨_,r⟩:=e i (.inl rfl);have⟨_,s⟩:=e k (.inr rfl);have r:=AB λv H t=>r H (v::b) (c.new a (g':=H) t) (a.ext _);have s:=AB λv H t=>s H (v::b) (c.new a (g':=H) t) (a.ext _);have ad:=mV (f i) (f k);refine M9 ?_ e c a;clear e c a;intro e c a;refine Bf func209 ?_;refine ax (DN (r.1 _ _ λM F=>?_) (λN C w=>?_))
 .rfl
 subst w;refine ax (DN (s.1 _ _ λM F=>?_) (λN C w=>?_))
 .rfl
 subst w;exact af
theorem Xi(c:Ao p h){b:Nat}{a:CQ}(e:p.nodes[b]?=J a):U a.args<=3:=by have⟨s,l,j,h0,h1,hok,hsub,_⟩:=c.node b a e;grind [Cw,GA]
theorem ZY(M:Ao p h)(a0:W1 p T)(a2:iw p D)(a3:U D=U p.nodes)(o:Int):∀(k:Nat) {L:Int},UX p k L->∀(g:S) (b:u),Dh p h D j g B V->Sr b B V->∃aa az,kT (.fn 196) [.ptr B 0,Dv T,nI L,nI o] g b X (J b)=.ok (aa,az)/\aa=.ret (nI (Ca p T D k L o))
 |0,_,a6,_,_,_,_=>a6.elim|k+1,L,hd,g,b,l,i=>by
  obtain⟨ai,⟨v,r⟩,ar⟩:=hd;have a5:=i B zCL;have bi:=AN a5;have bk:=Av a5;have bo:=l.box;have bs:=l_ r;have bl:L<U p.nodes:=z;have x:=Hy M r;have K:∀m∈HC p L,Z2 (Ca p T D k m o)/\∀H ad,Dh p h D j H B V->Sr ad B V->∃aa az,kT (.fn 196) [.ptr B 0,Dv T,nI m,nI o] H ad X (J ad)=.ok (aa,az)/\aa=.ret (nI (Ca p T D k m o)):=λm ag=>⟨J1 ..,λH ad=>ZY M a0 a2 a3 o k (ar m ag) H ad⟩;have⟨R,N⟩:=C6 (Ca p T D (k+1) L o);have f:=N;rw[<-N];rw[Ca,r]at f;dsimp only at f;have al:=Xi M r;have A:=λa' k x=>Mm M r a' (k:=k) x;refine YO ?_ N x K A ar;clear N x K A ar;intro N x K A ar;by_cases O:v.op=2
  .rw[D4 O]at f;have q:=AB λs H w=>AHt (T:=T) (pl:=o) (l.new i (g':=H) w) (i.ext s) a0 a2 a3 ai r z;refine M9 ?_ l i f;clear l i f;intro l i f;exact zAJ
  rw[Co O]at f;by_cases t:v.op=3
  .rw[D4 t]at f;have⟨a,e⟩:=x.1.two (.inl t);have q:=AB λs H w=>ADy (T:=T) (pl:=o) (f:=λm=>Ca p T D k m o) (l.new i (g':=H) w) (i.ext s) ai r (A.1 (.inl t) 0 (by simp[t])) (A.1 (.inl t) 1 (by simp[t])) λm ag=>K.1 m zCI;refine M9 ?_ l i f;clear l i f;intro l i f;clear O;exact zAJ
  rw[Co t]at f;by_cases C:v.op=5
  .rw[D4 C]at f;have⟨a,e⟩:=x.1.two (.inr C);have q:=AB λs H w=>ADx (T:=T) (pl:=o) (f:=λm=>Ca p T D k m o) (l.new i (g':=H) w) (i.ext s) ai r (A.1 (.inr (.inl C)) 0 (by simp[C])) (A.1 (.inr (.inl C)) 1 (by simp[C])) λm ag=>K.1 m zCI;refine M9 ?_ l i f;clear l i f;intro l i f;clear O t;exact zAJ
  rw[Co C]at f;by_cases F:v.op=6\/v.op=8
  .rw[D4 F]at f;have a:=x.1.one F;have⟨_,q⟩:=K.1 _ a;have q:=AB λs H w=>q H (s::b) (l.new i (g':=H) w) (i.ext s);have a4:=A.1 z 0 zCI;have⟨K0,hK0⟩:=C6 (DW v 0);rw[<-hK0]at q f a4;clear hK0;have bv:=l_ a4;have bn:(0:Int)<U v.kids:=z;refine M9 ?_ l i f;clear l i f;intro l i f;clear O t C a;rcases F with bc|be
   .exact zAJ
   .exact zAJ
  rw[Co F]at f;by_cases P:v.op=4
  .rw[D4 P]at f;have⟨d,hdd,a,e,c⟩:=x.1.defn P;have a1:=(Bk M hdd).ok;have bh:=(E6 M r P).1;have q:=AB λs H w=>mw (T:=T) (pl:=o) (f:=λm=>Ca p T D k m o) (l.new i (g':=H) w) (i.ext s) a0 ai r (A.1 (.inr (.inr (.inr (.inr P)))) 0 (by simp[P])) bh hdd (by have:=a1.be;omega) (by have:=a1.rules;omega) λm ag=>K.1 m (by grind)
   refine M9 ?_ l i f;clear l i f;intro l i f;clear O t C F a e c a1;exact zAJ
  rw[Co P]at f;have bc:¬v.op=6:=λav=>F (.inl av);have be:¬v.op=8:=λav=>F (.inr av);rw[f];clear f N F;replace l:=AB l;replace i:=AB i;refine Bf func196 ?_;exact af
end
theorem VJ:∀(N:Nat) (b:Al),b.Nodup->(∀c∈b,0<=c/\c<N)->(U b)<=N
 |0,b,_,e=>by
  rcases b with _|⟨a,b⟩
  .exact D2 _
  .grind [List.mem_cons_self]
 |N+1,b,hn,e=>by
  by_cases h:(N:Int)∈b
  .have g:=VJ N (b.erase (N:Int)) (hn.erase _) λc f=>by grind
   grind
  .have:=VJ N b hn λc f=>by grind
   omega
theorem YN{i e:Type}{f c:i->List e}:∀{b:List i},(∀a∈b,f a=c a)->b.flatMap f=b.flatMap c
 :=by intro a;induction a<;>grind
def di{f:Aa}:∀{a e:Nat} {c:Int},UX f a c->a<=e->FK f e c=FK f a c
 |0,_,_,b,_=>b.elim|a+1,0,_,_,b=>z|a+1,e+1,c,b,hm=>by rw[FK,FK];congr 1;exact YN λh g=>di (b.2.2 h g) z
theorem YS{i c:Type}(f:i->List c):∀{b:List i} {a:i},a∈b->(f a).Sublist (b.flatMap f)
 :=by intro a;induction a<;>grind
def dp{c:Aa}:∀{a:Nat} {h g:Int},UX c a h->g∈FK c a h->∃e,e<=a/\UX c e g/\(FK c e g).Sublist (FK c a h)
 |0,_,_,f,_=>f.elim|a+1,h,g,f,b=>by
  rw[FK]at b;rcases DO.1 b with rfl|b
  .exact⟨a+1,D2 _,f,List.Sublist.refl _⟩
  .obtain⟨l,i,b⟩:=BE.1 b;obtain⟨e,m,j,k⟩:=dp (f.2.2 l i) b;refine⟨e,z,j,k.trans ?_⟩;rw[FK];exact(YS (FK c a) i).trans (List.sublist_cons_self _ _)
def AHq{a:Aa}(b:Dz a){c:Int}(f:0<=c)(g:c<U a.nodes):(FK a (U a.nodes+1) c).length<=(U a.nodes):=by have e:=b.all c f g;have⟨j,h2,h3,h4⟩:=dp b.main e;rw[di h3 h2];exact Gt h4.length_le (VJ _ _ b.nd λh e=>iR b.main e)
section
variable{p:Aa}{b:Al}{D:List BJ}
theorem nD(h:Ao p b){j:Int}{c:CQ}(g:p.nodes[j.toNat]?=J c)(f:c.op=3\/c.op=5):c.kids=[DW c 0,DW c 1]:=by
 have⟨s,l,hs,h0,h1,hok,hsub,_⟩:=h.node _ c g;simp only[Cw,As,D3]at hok;have k:=hok.1;have i:U c.kids=2:=by rcases f with f|f<;>(grind [DX])
 unfold DW
 match g:c.kids,i with|[a,e],_=>rfl
theorem AFu(g:Ao p b){j:Int}{c:CQ}(f:p.nodes[j.toNat]?=J c)(i:c.op=4):c.kids=[DW c 0]:=by
 have⟨s,l,hs,h0,h1,hok,hsub,_⟩:=g.node _ c f;simp only[Cw,As,D3]at hok;have e:=hok.1;have h:U c.kids=1:=by rw[i]at e;simpa[DX]using e.symm
 unfold DW
 match f:c.kids,h with|[a],_=>rfl
theorem AEw{f:Int->Int}{g:Int->Al}(e:∀a,0<=f a):∀{b:Al},(∀a∈b,f a<=(g a).length)->(b.map λa=>(f a).toNat).sum<=(b.flatMap g).length
 :=by intro c;induction c<;>grind
theorem iL(k:Ao p b)(i:Int):∀{g:Nat} {h:Int},UX p g h->EV p D g h i<=(FK p g h).length
 |0,_,j=>j.elim|g+1,h,j=>by
  obtain⟨v,⟨A,l⟩,s⟩:=j;have m:=λt r=>iL k i (s t r);have n:=Hy k l;rw[EV,l,FK,ID];dsimp only;split
  .grind [dZ]
  split
  .grind [HC,nD]
  split
  .grind [HC,nD,PE]
  split
  .rename_i q;have⟨d,hd,a,e,c⟩:=n.defn q;rw[N9,hd];dsimp only;rw[iH (f:=λf=>EV p D g f i) (λf=>MR ..) (MR ..)];have w:=m _ a;have x:=AEw (f:=λf=>EV p D g f i) (g:=FK p g) (λf=>MR ..) λf o=>m f (e f o);grind [HC,AFu]
  .omega
end
theorem AK3{f:Int->Int}(g:∀c,0<=f c):∀(b:Al) (a:Int),a<=Rb f b a
 :=by intro e;induction e<;>grind [Rb]
section
variable{p:Aa}{h:Al}{D:List BJ}{c:Al}{g:S}{B:u}{V:TV}{b:u}
structure APq(f:Int->Int)(g:S)(B:u)(ρ:u)(pl:Int)(r0:Lp)(B0:Int)(M:Int->Prop)(l:Al)(H:S):Prop:=
 b0:H.get (0::0::ρ)=J (.box [.ptr B 0])
 b1:H.get (0::1::ρ)=J (.box [nI pl])
 acc:∃a,H.get (0::20::ρ)=J (.box [nI a])/\0<=a/\Rb f l a=B0
 lp:H.get (0::26::ρ)=J (.loop r0)
 nw:∀i,AE ρ i=Z->H.get i=g.get i
 mem:∀m∈l,M m
theorem je(v:Dh p h D c g B V)(o:Sr b B V){l pl r:Int}{w:CQ}{d:Bd}{f:Int->Int}(b0:0<=l)(b1:p.nodes[l.toNat]?=J w)(bo:w.kids[0]?=J r)(bk:0<=w.n)(bl:p.defs[w.n.toNat]?=J d)(bs:U d.be<=1000000) (C:∀k,0<=f k) (W:Rb f (d.be.map Dy.node) (f r)<=1000)(Q:∀k,k=r\/k∈d.be.map Dy.node->∀H K,Dh p h D c H B V->Sr K B V->∃F T,kT (.fn 177) [.ptr B 0,nI k,nI pl] H K X (J K)=.ok (F,T)/\F=.ret (nI (f k))):
 ∃F T,kT (.fn 136) [.ptr B 0,nI l,nI pl] g b X (J b)=.ok (F,T)/\F=.ret (nI (Rb f (d.be.map Dy.node) (f r))):=by
 have bc:=o B zCL;have b6:=AN bc;have b7:=Av bc;have b':=v.box;have cd:=l_ b1;have b8:l<U p.nodes:=z;have ch:=l_ bo;have b9:(0:Int)<U w.kids:=z;obtain⟨B0,N⟩:∃B0,B0=Rb f (d.be.map Dy.node) (f r):=⟨_,rfl⟩;rw[<-N]at W⊢;have aa:=Q r (.inl rfl);have aa:=AB λad H n=>aa H (ad::b) (v.new o (g':=H) n) (o.ext _);replace Q:=AB Q;replace v:=AB v;replace o:=AB o;replace C:=AB C;replace N:=AB N;refine Bf func136 ?_;refine ax ?_;refine DN (aa.1 _ _ λe i=>?_) (λai t q=>?_)
 .have s:=i;rw[Nt]at s;exact Ba
 subst q;refine ax ?_;refine Ak (Um (Wk.some (q_a.2 (FD 25 b))) _ _ _) (λai t q=>?_);obtain⟨rfl,rfl⟩:=q;rw[G7,YZ];generalize n:gc (0::0::25::b) _=m;have L:m.get (0::0::b)=J (.box [.ptr B 0]):=zCS
 have M:m.get (0::1::b)=J (.box [nI pl]):=zCS
 have ar:m.get (0::20::b)=J (.box [nI (f r)]):=zCS
 have av:m.get (0::0::25::b)=J (.box [.ptr B 0]):=zCS
 have az:m.get (0::1::25::b)=J (.box [nI w.n]):=zCS
 have x:∀e,AE b e=Z->m.get e=g.get e:=λe i=>by have s:=AN i;have cn:=AN (AL i 25);rw[<-n,An _ _ _ (AL (AL (AL i 25) 0) 0)];exact Ba
 clear n;replace x:=AB x;refine ax ?_;refine Oi λa' a6=>?_;have a1:ob (J b) (0::26::b) (λe=>e=0::26::b\/e=0::20::b) (APq f g B b pl a' B0 λk=>k∈d.be.map Dy.node) (27::b):=by
  refine⟨.inl rfl,?_,?_,?_,?_⟩
  .grind [BN]
  .intro ag H j;exact⟨_,j.lp⟩
  .intro k ag H K cp j a5 ac;rw[j.lp]at a5;cases a5;subst a6;obtain⟨a,a4,O,P⟩:=j.acc;rw[Rb]at P;have A:=Q.1 k (.inr (j.mem k (CO ..)));have A:=AB λad m (n:∀e,AE b e=Z->m.get e=H.get e)=>A m (ad::K) (v.1.mono λe i=>(n e (o.1 e i)).trans (j.nw e (o.1 e i))) λe i=>AL (ac e (AL (o.1 e i) _)) _;have bv:=C.1 k;have bn:=AK3 C.1 ag (a+f k);have cq:SE.wrap (a+f k)=a+f k:=w_ z z;have Y:0<=a+f k:=z;have b3:=j.b0;have b4:=j.b1;have cs:=j.lp;clear bn bv;replace j:=AB j;replace ac:=AB ac;replace O:=AB O;replace P:=AB P;replace Y:=AB Y;replace L:=AB L;replace M:=AB M;replace W:=AB W;refine Ow rfl ?_;refine ax ?_;refine DN (A.1 _ _ λe i=>?_) (λai t q=>?_)
   .have s:=AN i;exact Ba
   subst q;refine ax ?_;refine⟨⟨?_,?_,⟨_,?_,Y.1,P.1⟩,?_,λe i=>?_,λk bx=>j.1.mem k (Bi _ bx)⟩,λe i cc=>?_⟩
   .simp only[go_sem,b3]
   .simp only[go_sem,b4]
   .simp only[go_sem]
   .simp only[go_sem]
   .have s:=AN i;simp only[go_sem,s,AM];exact j.1.nw e i
   grind [AI]
  .intro ag H be j c;have R:∀l,l≠27->be.get (0::l::b)=H.get (0::l::b):=λl b0=>c _ (BN b z);obtain⟨a,a4,O⟩:=j.acc;exact⟨(R _ z).trans j.b0,(R _ z).trans j.b1,⟨a,(R _ z).trans a4,O⟩,(R _ z).trans j.lp,λe i=>(c e (AL i _)).trans (j.nw e i),j.mem⟩
 refine Mv (Xj a1 (Wk.some (q_a.2 (FD 27 b))) (v.1.mono (g':=m.put (0::26::b) (.loop a')) λe i=>?_) (λe i=>AL (o.1 e i) 27) bk bl bs ?_ ?_ ⟨?_,?_,⟨f r,?_,C.1 r,N.1.symm⟩,?_,λe i=>?_,λk A=>A⟩) (λai t q=>?_)
 .rw[BU _ _ λbi=>?_]
  .exact x.1 e (o.1 e i)
  .have:=o.1 e i;rw[bi,show AE b (0::26::b)=X from Aq [0,26]]at this;cases this
 .simp only[go_sem,av]
 .simp only[go_sem,az]
 .simp only[go_sem,L]
 .simp only[go_sem,M]
 .simp only[go_sem,ar]
 .simp only[go_sem]
 .have s:=AN i;simp only[go_sem,s,AM];exact x.1 e i
 obtain⟨rfl,q,b2⟩:=q;obtain⟨a,bh,b5,a3⟩:=q.acc;rw[Rb]at a3;subst a3;generalize a2:gc (26::b) (gc (27::b) t)=H3;rw[MH,q.lp,a2];have a0:∀l,l≠26->l≠27->H3.get (0::l::b)=t.get (0::l::b):=λl cl cm=>by grind [An,BN]
 rw[<-a0 20 z z]at bh;clear a0 q b2 a2 t a1 x L M ar av az m;subst a6;exact af
theorem yX(O:Ao p h)(a3:iw p D)(b2:U D=U p.nodes)(l:Int):∀(k:Nat) {n:Int},UX p k n->(FK p k n).length<=1000->∀(g:S) (b:u),Dh p h D c g B V->Sr b B V->∃be bx,kT (.fn 177) [.ptr B 0,nI n,nI l] g b X (J b)=.ok (be,bx)/\be=.ret (nI (EV p D k n l))
 |0,_,bv,_,_,_,_,_=>bv.elim|k+1,n,C,htl,g,b,j,i=>by
  have b5:=iL (D:=D) O l C;obtain⟨a6,⟨m,L⟩,az⟩:=C;have bk:=i B zCL;have cc:=AN bk;have cd:=Av bk;have cq:=j.box;have b6:=l_ L;have cm:n<U p.nodes:=z;have F:=Hy O L;have M:=λo Q H b'=>yX O a3 b2 l k (az o Q) (by grind [FK,YS]) H b'
  have P:EV p D (k+1) n l<=1000:=z;have⟨R,f⟩:=C6 (EV p D (k+1) n l);rw[<-f]at P⊢;have T:=λo=>MR p D k o l;rw[EV,L]at f;dsimp only at f;have al:=Xi O L;have K:=λb3 k F=>Mm O L b3 (k:=k) F;clear b5 htl;refine YO ?_ F M K az T;clear F M K az T;intro F M K az T;by_cases ar:m.op=2
  .rw[D4 ar,dZ]at f;have bi:=i V.N zCL;have ch:=AN bi;have cl:=Av bi;have cp:=j.arr;have⟨o,Q⟩:=g_ (l:=V.ms) (i:=n.toNat) (by rw[j.len];exact b6);have cu:(V.ms.map λo=>[y.mp o])[n.toNat]?=J [.mp o]:=by rw[Be,Q];rfl
   have⟨es,hes,hMO⟩:=j.maps _ o Q;have bh:=i o (by grind [TV.ids]);have cv:=AN bh;have cx:=Av bh;have a2:=hMO.get l;have b8:=l_ Q;have c0:n.toNat<(V.ms.map λo=>[y.mp o]).length:=by simpa using b8
   have cn:n<U V.ms:=z;have ac:=λA d a0 b0 b1 C w H q=>qZ (j.new i (g':=H) q) (i.ext 41) (c:=A) (d:=d) (ch:=a0) b0 b1 C w a6 L;replace ac:=AB ac;have av:=a3 n l;have a4:(D[n.toNat]?).getD []=den D n:=rfl;rw[a4]at a2;refine M9 ?_ j i av;clear j i av;intro j i av;clear P a4;rcases C:HG (den D n) l with _|A
   .rw[C]at a2 f;dsimp only at f;subst f;refine Bf func177 ?_;exact af
   .rw[C]at a2 f;dsimp only at f;have⟨bl,c1,d,a0,hdd,hch⟩:=av.1 A C;have ac:=AB λH q=>ac.1 A d a0 bl c1 hdd hch H q;by_cases b4:m.n=l
    .have f:R=if Nb p A m=X then 1 else 0:=by
      rw[f];by_cases cs:Nb p A m=X
      .grind
      .grind
     replace f:=AB f;refine Bf func177 ?_;refine ax (G8 (ac.1 _ λag t=>?_) (λai Y s=>?_))
     .have v:=t;rw[Nt]at v;exact Ba
     subst s;exact af;all_goals
      rw[f.1];simp[w]
    .rw[Co λbn=>b4 bn.1]at f;subst f;refine Bf func177 ?_;exact af
  rw[Co ar]at f;by_cases x:m.op=3
  .rw[D4 x]at f;have⟨a,e⟩:=F.1.two (.inl x);have w:=AB λr H q=>M.1 _ a H (r::b) (j.new i (g':=H) q) (i.ext r);have aa:=AB λr H q=>M.1 _ e H (r::b) (j.new i (g':=H) q) (i.ext r);have a1:=K.1 (.inl x) 0 (by simp[x]);have ad:=K.1 (.inl x) 1 (by simp[x]);have a':=T.1 (DW m 0);have bc:=T.1 (DW m 1);generalize DW m 0=K0 at w a1 f a';generalize DW m 1=K1 at aa ad f bc;have c2:SE.wrap (EV p D k K0 l+EV p D k K1 l)=EV p D k K0 l+EV p D k K1 l:=w_ z z;have b7:=l_ ad;have bo:(0:Int)<U m.kids:=z;have bs:(1:Int)<U m.kids:=z;refine M9 ?_ j i f;clear j i f;intro j i f;clear ar a' bc P;exact zAh
  rw[Co x]at f;by_cases N:m.op=5
  .rw[D4 N]at f;have⟨a,e⟩:=F.1.two (.inr N);have w:=AB λr H q=>M.1 _ a H (r::b) (j.new i (g':=H) q) (i.ext r);have aa:=AB λr H q=>M.1 _ e H (r::b) (j.new i (g':=H) q) (i.ext r);have a1:=K.1 (.inr (.inl N)) 0 (by simp[N]);have ad:=K.1 (.inr (.inl N)) 1 (by simp[N]);generalize DW m 0=K0 at w a1 f;generalize DW m 1=K1 at aa ad f;have b7:=l_ ad;have bo:(0:Int)<U m.kids:=z;have bs:(1:Int)<U m.kids:=z;rw[PE]at f;refine M9 ?_ j i f;clear j i f;intro j i f;clear ar x P;exact zAh
  rw[Co N]at f;by_cases W:m.op=4
  .rw[D4 W]at f;have⟨d,hdd,a,e,A⟩:=F.1.defn W;have a5:=(Bk O hdd).ok;have b9:=(E6 O L W).1;rw[N9,hdd]at f;dsimp only at f;have w:=AB λr H q=>je (pl:=l) (f:=λo=>EV p D k o l) (j.new i (g':=H) q) (i.ext r) a6 L (K.1 (.inr (.inr (.inr (.inr W)))) 0 (by simp[W])) b9 hdd (by have:=a5.be;omega) T.1 (by rw[<-f];exact P) λo Q=>M.1 o (by grind)
   refine M9 ?_ j i f;clear j i f;intro j i f;clear ar x N a e A a5 P;refine Bf func177 ?_;refine ax (G8 (w.1 _ _ λag t=>?_) (λai Y s=>?_))
   .have v:=t;rw[Nt]at v;exact Ba
   rw[<-f.1]at s;subst s;exact af
  rw[Co W]at f;subst f;clear P;replace j:=AB j;replace i:=AB i;refine Bf func177 ?_;exact af
end
structure aV(ci:Option u)(id:u)(C:u->Prop)(Ai:Al->(u->Prop)->S->Prop)(π:u):Prop:=
 own:C id
 apart:∀i,C i->AE π i=Z
 tag:∀{l:Al} {M:u->Prop} {H:S},Ai l M H->∀i,M i->∃l,i=1::l
 loop:∀{l:Al} {M:u->Prop} {H:S},Ai l M H->∃r,H.get id=J (.loop r)
 eat:∀{x:Int} {l:Al} {M:u->Prop} {H:S} {ρ:u} {r:Lp},Ai (x::l) M H->H.get id=J (.loop r)->(∀i,AE π i=Z->AE ρ i=Z)->(∀i,M i->AE ρ i=Z)->
  ∃o h',kT (.round id r) [nI x] H ρ X ci=.ok (o,h')/\o=.ret (.d (.bool (X)))/\∃M',Ai l M' h'/\(∀i,M' i->M i\/Zr ρ i)/\∀i,¬C i->¬M i->AE ρ i=Z->h'.get i=H.get i
 same:∀{l:Al} {M:u->Prop} {H H':S},Ai l M H->(∀i,(AE π i=Z\/M i)->H'.get i=H.get i)->Ai l M H'
theorem aV.gcI{ci:Option u}{j:u}{h:u->Prop}{b:Al->(u->Prop)->S->Prop}{g:u}(f:aV ci j h b g){c:Al}{M:u->Prop}{H:S}(e:b c M H)(k:Nat):b c M (gc (k::g) H):=f.same e λi a=>by
 rcases a with a|a
 .grind [An,AL]
 .obtain⟨c,rfl⟩:=f.tag e i a;exact FC _ _ _
section
variable{p:Aa}{sz:Al}{D:List BJ}{f:Al}{h:S}{B:u}{V:TV}{c:u}
structure yi(C:u->Prop)(Ai:Al->(u->Prop)->S->Prop)(π:u)(M:u->Prop)(h:S)(l:Al)(H:S)(b:Nat):Prop:=
 eat:∃M',Ai l M' H/\∀i,M' i->M i\/Ru π b i
 frame:∀i,¬C i->¬M i->AE π i=Z->H.get i=h.get i
variable{M e:u->Prop}{b:Nat}
def XD(i:∀a,M a->AE c a=Z){f:Nat}(h:∀a,e a->M a\/Ru c b a)(k:b<=f):∀a,e a->AE (f::c) a=false:=λa j=>(h a j).elim (λg=>AL (i a g) f) λg=>g.sib k
def Tp(h:∀a,e a->M a\/Ru c b a){a:u}(i:¬M a)(g:AE c a=Z):¬e a:=λj=>by
 rcases h a j with f|f
 .exact i f
 .rw[f.up.up]at g;cases g
def rb{ci:Option u}{t:u}{v:u->Prop}{q:Al->(u->Prop)->S->Prop}(j:aV ci t v q c)(F:Wk ci c){Q R T:y}(a2:h.get B=J (.box [.d (.co (p.free.map CK)),.d (.co (p.nodes.map Bl)),.d (.co (p.defs.map Bw)),nI p.main,Q,R,T])){AY Y:u}{r:Int}{d:Bd}(az:0<=r) (ac:p.defs[r.toNat]?=J d) (a3:U d.be<=1000000) (a0:h.get AY=J (.box [.ptr B 0])) (a1:h.get Y=J (.box [nI r]))  (s:∀f,M f->AE c f=Z) (x:q (d.be.map Dy.node) M h):
 ∃K w,kT (.fn 198) [.yld t,.ptr AY 0,.ptr Y 0] h c X ci=.ok (K,w)/\K=.ret (.kw [])/\∃e,q [] e w/\(∀f,e f->M f\/Zr c f)/\∀f,¬v f->¬M f->AE c f=Z->w.get f=h.get f:=by
 have bc:=l_ ac;have av:r<U p.defs:=z;have uid:=j.apart t j.own;have ar:=AN uid;have a6:=F.nil;have a':=F.new;replace j:=AB j;replace s:=AB s;replace x:=AB x;refine Bf func198 ?_;refine ax ?_;refine Aj d.be (B0:=λf (a:S×Nat)=>⟨[(0,.yld t),(14,.d (.co (d.be.map BH))),(15,nI (U d.be)),(16,nI f)],a.1,a.2,[]⟩)
  (Inv:=λf ai a=>AR (yi v q c M h (ai.map Dy.node) a.1 a.2)) (b0:=(_,_)) ⟨⟨_,x.1,λf g=>.inl g⟩,λ_ _ _ _=>rfl⟩ ?_ ?_
 .rintro f bk ⟨H,b⟩ a5 g ad l O;have bi:SE.wrap ((f:Int)+1)=(f:Int)+1:=w_ z z;obtain⟨D,m,k⟩:=l.1.eat;dsimp only at*;rw[By]at m;obtain⟨bh,a4⟩:=j.1.loop m;replace m:=AB m;replace k:=AB k;refine ax ?_;refine Ak (j.1.eat (j.1.same m.1 λf g=>?_) ?_ (λf g=>AL g _) (XD s.1 k.1 z)) (λbe V n=>?_)
  .have i:∀a ag,AJ (a::ag::c) f=false:=by
    rcases g with g|g
    .exact AN g
    .rcases k.1 f g with i|i
     .exact AN (s.1 f i)
     .exact i.not
   exact Ba
  .exact Ba
  obtain⟨rfl,P,n,A,C⟩:=n;replace n:=AB n;replace A:=AB A;replace C:=AB C;refine ax ?_;refine O.1 (_,_) ⟨⟨P,j.1.gcI n.1 _,λf g=>?_⟩,λf L N o=>?_⟩
  .rcases A.1 f g with i|i
   .exact(k.1 f i).imp_right λi=>i.mono AZ
   .exact .inr ⟨_,AZ,i⟩
  .show(gc ((b+8)::c) V).get f=h.get f;rw[An _ _ _ (AL o _),C.1 f L (Tp k.1 N o) (AL o _)];have i:=AN o;simp only[go_sem,i,AM];exact l.1.frame f L N o
 .rintro f ⟨H,b⟩ g ad l;dsimp only at*;refine ax ?_;obtain⟨D,W,aa⟩:=l.1.eat;exact⟨D,W,λf g=>(aa f g).imp_right λi=>i.up,l.1.frame⟩
structure AQi(C:u->Prop)(Ai:Al->(u->Prop)->S->Prop)(π:u)(M:u->Prop)(h:S)(id:u)(x:CQ)(l:Al)(H:S)(b:Nat):Prop:=
 fed:yi C Ai π M h l H b
 b0:H.get (0::0::π)=J (.box [.yld id])
 b9:H.get (0::9::π)=J (.box [nI x.op,nI x.n,.d (.co (x.args.map Bm)),.d (.co (x.kids.map AX))])
 base:10<=b
structure AQh(C:u->Prop)(Ai:Al->(u->Prop)->S->Prop)(π:u)(M:u->Prop)(h:S)(id:u)(x:CQ)(R:Al)(b:Nat)(r0:Lp)(l:Al)(M1:u->Prop)(H:S):Prop:=
 eat:Ai (l++R) M1 H
 new:∀i,M1 i->M i\/Ru π (b+10) i
 frame:∀i,¬C i->¬M i->AE π i=Z->H.get i=h.get i
 b0:H.get (0::0::π)=J (.box [.yld id])
 b9:H.get (0::9::π)=J (.box [nI x.op,nI x.n,.d (.co (x.args.map Bm)),.d (.co (x.kids.map AX))])
 lp:H.get (0::(b+8)::π)=J (.loop r0)
theorem ACv{ci:Option u}{aa:u}{F:u->Prop}{P:Al->(u->Prop)->S->Prop}(k:aV ci aa F P c)(a4:∀dm,AE c dm=X->Wk ci dm)(bx:Ao p sz){ds dx d0:y}(cn:h.get B=J (.box [.d (.co (p.free.map CK)),.d (.co (p.nodes.map Bl)),.d (.co (p.defs.map Bw)),nI p.main,ds,dx,d0]))(bo:AE c B=Z)(c8:¬F B){AY Y:u}{o:Int}{t:CQ}(c3:0<=o) (bn:p.nodes[o.toNat]?=J t) (cm:h.get AY=J (.box [.ptr B 0])) (d8:h.get Y=J (.box [nI o])) (b8:AE c AY=Z) (c':¬F AY) (df:AE c Y=Z) {M:u->Prop} (ad:∀g,M g->AE c g=Z) (c6:¬M B) (c7:¬M AY) (b2:P (PO p o) M h):
 ∃R ch,kT (.fn 203) [.yld aa,.ptr AY 0,.ptr Y 0] h c X ci=.ok (R,ch)/\R=.ret (.kw [])/\∃e,P [] e ch/\(∀g,e g->M g\/Zr c g)/\∀g,¬F g->¬M g->AE c g=Z->ch.get g=h.get g:=by
 have ej:=l_ bn;have d4:o<U p.nodes:=z;have uid:=k.apart aa k.own;have ex:=AN uid;have e0:=AN b8;have e2:=AN df;have e3:=Av b8;have e4:=Av bo;have e5:=Av df;have e1:=AN bo;have ef:=(a4 c (Aq [])).nil;have eg:=(a4 c (Aq [])).new;replace a4:=AB a4;obtain⟨a1,bh⟩:∃a1,PO p o=t.kids++a1/\(¬t.op=4->a1=[])/\(t.op=4->∃d,p.defs[t.n.toNat]?=J d/\a1=d.be.map Dy.node++d.rules.map DI.node):=by
  rw[PO,bn];dsimp only;by_cases ag:t.op=4
  .obtain⟨d,bi,_⟩:=(Hy bx bn).defn ag;rw[D4 ag,bi];grind
  .rw[Co ag];exact⟨[],AG,λ_=>rfl,λh=>absurd h ag⟩
 rw[bh.1]at b2;have e7:U t.kids<=1000000:=by
  obtain⟨fi,v,_,_,_,c4,_⟩:=bx.node _ t bn;simp only[Cw,As,D3]at c4;have be:=c4.1;unfold DX at be
  repeat' split at be
  all_goals first|(have:=KW be;omega)|cases be
 replace k:=AB k;replace ad:=AB ad;replace b2:=AB b2;replace bh:=AB bh;refine Bf func203 ?_;refine ax ?_;have ar:∀s,¬F (0::s::c):=λs cp=>by have:=k.1.apart _ cp;rw[show AE c (0::s::c)=X from Aq [0,s]]at this;cases this
 have c9:∀s,¬M (0::s::c):=λs cp=>by have:=ad.1 _ cp;rw[show AE c (0::s::c)=X from Aq [0,s]]at this;cases this
 replace ar:=AB ar;replace c9:=AB c9;refine Aj t.kids (B0:=λg (a:S×Nat)=>⟨[(1,.ptr AY 0),(3,.ptr (0::0::c) 0),(4,.ptr (0::9::c) 0),(7,CW.get [] 7),(19,.d (.co (t.kids.map AX))),(20,nI (U t.kids)),(21,nI g),(37,CW.get [] 37),(38,CW.get [] 38),(39,CW.get [] 39),(40,CW.get [] 40),(41,CW.get [] 41)],a.1,a.2,[]⟩)
  (Inv:=λg cv a=>AR (AQi F P c M h aa t (cv++a1) a.1 a.2)) (b0:=(_,_)) ⟨⟨⟨_,k.1.same b2.1 λg i=>?_,λg i=>.inl i⟩,λg _ _ j=>?_⟩,?_,?_,AZ⟩ ?_ ?_
 .have j:=AN (i.elim (λj=>j) λj=>ad.1 g j);exact Ba
 .have j:=AN j;exact Ba
 .simp only[go_sem]
 .simp only[go_sem]
 .rintro g er ⟨H,b⟩ ec i ea r cc;have em:SE.wrap ((g:Int)+1)=(g:Int)+1:=w_ z z;obtain⟨w,K,x⟩:=r.1.fed.eat;have av:=r.1.b0;have a6:=r.1.b9;have A:=r.1.base;dsimp only at*;rw[F4]at K;obtain⟨cu,a5⟩:=k.1.loop K;have dc:∀s,¬b+s=9:=λs=>z;have cs:∀s,¬b+s=0:=λs=>z;replace K:=AB K;replace x:=AB x;replace A:=AB A;have T:=AR.mk (k.1.tag K.1);refine ax ?_;refine Ak (k.1.eat K.1 a5 (λg i=>AL i _) (XD ad.1 x.1 z)) (λb6 C l=>?_);obtain⟨rfl,a0,l,N,D⟩:=l;have L:∀v,¬w (0::v):=λv bk=>by obtain⟨b7,bl⟩:=T.1 _ bk;cases bl
  have az:∀o,o<10->(gc ((b+6)::c) C).get (0::o::c)=H.get (0::o::c):=λo ek=>by have:=A.1;rw[An _ _ _ (BN c z),D _ (ar.1 o) (L _) (BN c z)]
  have ac:yi F P c M h (t.kids.drop (g+1)++a1) (gc ((b+6)::c) C) (b+7):=⟨⟨a0,k.1.gcI l _,λg i=>?_⟩,λg n q m=>?_⟩
  rotate_left
  .exact zB0
  .rw[An _ _ _ (AL m _),D g n (Tp x.1 q m) (AL m _)];exact r.1.fed.frame g n q m
  have b':=(az 0 z).trans av;have es:=(az 9 z).trans a6;clear az;replace l:=AB l;replace N:=AB N;replace D:=AB D;replace L:=AB L;replace ac:=AB ac;refine ax ?_;refine cc.1 (_,_) ⟨⟨?_,?_,?_,?_⟩⟩
  .exact zBm
  .exact b'
  .exact es
  grind
 .rintro g ⟨H,b⟩ i ea r;rw[Cs]at r;have av:=r.1.b0;have a6:=r.1.b9;have A:=r.1.base;dsimp only at*;have dc:∀s,¬b+s=9:=λs=>z;have cs:∀s,¬b+s=0:=λs=>z;replace A:=AB A;by_cases ag:t.op=4
  .obtain⟨d,bi,d6⟩:=bh.1.2.2 ag;have en:=(E6 bx bn ag).1;have c1:=(Bk bx bi).ok;have et:=(r.1.fed.frame AY c' c7 b8).trans cm;have dj:=(r.1.fed.frame B c8 c6 bo).trans cn;have e9:=l_ bi;have e6:t.n<U p.defs:=z;have d7:=AB cm;have d9:=AB cn;clear ej d4 cm cn d8;refine ax ?_;refine Ak (Um (a4.1 _ (q_a.2 (FD (b+7) c))) _ _ _) (λb6 C l=>?_);obtain⟨rfl,rfl⟩:=l;rw[G7,YZ];generalize W:gc (0::0::(b+7)::c) _=H2;have b0:H2.get (0::0::c)=J (.box [.yld aa]):=by rw[<-W,EO _ _ _ AG];simp only[go_sem,av]
   have cd:H2.get (0::9::c)=J (.box [nI t.op,nI t.n,.d (.co (t.args.map Bm)),.d (.co (t.kids.map AX))]):=by rw[<-W,EO _ _ _ AG];simp only[go_sem,a6]
   have dq:H2.get (0::0::(b+7)::c)=J (.box [.ptr B 0]):=by rw[<-W,EO _ _ _ AG];simp only[go_sem]
   have dr:H2.get (0::1::(b+7)::c)=J (.box [nI t.n]):=by rw[<-W,EO _ _ _ AG];simp only[go_sem]
   have b3:∀g,AE c g=Z->H2.get g=H.get g:=λg i=>by have j:=AN i;have q:=AN (AL i (b+7));rw[<-W,An _ _ _ (AL (AL (AL i (b+7)) 0) 0)];exact Ba
   have b4:∀v,H2.get (1::v)=H.get (1::v):=λv=>by rw[<-W,FC,BU _ _ AG,BU _ _ AG]
   clear W;replace b3:=AB b3;replace b4:=AB b4;refine ax ?_;refine Oi λdd c5=>?_;have c2:aV ci (0::(b+8)::c) (λg=>F g\/g=0::(b+8)::c) (AQh F P c M h aa t (d.rules.map DI.node) b dd) ((b+9)::c):=by
    refine⟨.inr rfl,?_,?_,?_,?_,?_⟩
    .rintro g (i|rfl)
     .exact AL (k.1.apart g i) _
     grind [BN]
    .intro v w H h;exact k.1.tag h.eat
    .intro v w H h;exact⟨_,h.lp⟩
    .intro e' v w H a' cu h a5 Q cl;rw[h.lp]at a5;cases a5;subst c5;have O:=h.eat;rw[F4]at O;obtain⟨cu,a5⟩:=k.1.loop O;have T:=k.1.tag O;have v0:=h.b0;have el:=h.b9;have fo:=h.lp;have fc:¬b+8=0:=z;have e8:AJ (0::(b+8)::c) aa=false:=AI λV=>ar.1 (b+8) (V▸k.1.own);have cq:=AB λ(R:Abs.Obj)=>k.1.same (H':=H.put (0::(b+8)::c) R) O λg i=>(by
      refine BU _ _ λV=>?_;rcases i with i|i
      .exact zBb
      grind)
     replace h:=AB h;replace Q:=AB Q;replace cl:=AB cl;replace O:=AB O;replace T:=AB T;replace b0:=AB b0;replace cd:=AB cd;replace av:=AB av;replace a6:=AB a6;have fp:J4 ci [((0::(b+8)::c),.box [])]=true:=by rw[eg];exact ef
     have de:AE a' (0::(b+8)::c)=false:=Q.1 _ (BN c z);refine Ow rfl ?_;refine ax ?_;refine Ak (k.1.eat (cq.1 _) zCk (λg i=>AL (Q.1 g (AL i _)) _) (λg i=>AL (cl.1 g i) _)) (λb6 C l=>?_);obtain⟨rfl,a0,l,N,D⟩:=l;have L:∀v,¬w (0::v):=λv bk=>by obtain⟨b7,bl⟩:=T.1 _ bk;cases bl
     have d5:=(An (3::a') C _ (AL de _)).trans (D _ (ar.1 _) (L _) (AL de _));rw[p_,q_c]at d5;have a3:∀R g,¬F g->¬w g->¬g=0::(b+8)::c->AE a' g=Z->((gc (3::a') C).put (0::(b+8)::c) R).get g=H.get g:=λR g n q m fd=>by grind [BU,An,AL]
     have cx:∀R,P (v++d.rules.map DI.node) a0 ((gc (3::a') C).put (0::(b+8)::c) R):=λR=>k.1.same l λg i=>by
      have fl:=k.1.tag l;have ne:g≠0::(b+8)::c:=λV=>by
       rcases i with i|i
       .exact zBb
       grind
      rw[BU _ _ ne];rcases i with i|i
      .exact An _ _ _ (AL (Q.1 g (AL i _)) _)
      grind [FC]
     have b9:=λg i=>(N g i).imp_right λj=>j.out;clear l N D;replace a3:=AB a3;replace cx:=AB cx;replace b9:=AB b9;replace L:=AB L;refine ax ?_;have b':∀o,o<10->o≠b+8->AE a' (0::o::c)=false:=λo c3 be=>Q.1 _ (BN c (by have:=A.1;omega));refine⟨a0,⟨cx.1 _,λg i=>?_,λg n q m=>?_,?_,?_,?_⟩,b9.1,λg n q m=>?_⟩
     .rcases b9.1 g i with j|j
      .exact h.1.new g j
      .exact .inr ⟨b+9,z,j.wide Q.1⟩
     .refine(a3.1 _ g n (Tp h.1.new q m) (λV=>?_) (Q.1 g (AL m _))).trans (h.1.frame g n q m);rw[V,show AE c (0::(b+8)::c)=X from Aq [0,b+8]]at m;cases m
     .exact(a3.1 _ _ (ar.1 0) (L.1 _) AG (Q.1 _ (BN c z))).trans v0
     .exact(a3.1 _ _ (ar.1 9) (L.1 _) (by simp;have:=A.1;omega) (Q.1 _ (BN c (by have:=A.1;omega)))).trans el
     .rw[p_,q_c];rfl
     .rw[not_or]at n;have j:=a3.1 (.box []) g n.1 q n.2 m;grind [BU,AI]
    .intro v w H bs h f;have ai:∀o,o≠b+9->bs.get (0::o::c)=H.get (0::o::c):=λo c3=>f _ (.inl (BN c z));have:=A.1;exact⟨k.1.same h.eat λg i=>f g (i.imp_left λj=>AL j _),h.new,λg n q m=>(f g (.inl (AL m _))).trans (h.frame g n q m),(ai _ z).trans h.b0,(ai _ z).trans h.b9,(ai _ z).trans h.lp⟩
   obtain⟨w,O,x⟩:=r.1.fed.eat;rw[d6]at O;have T:=k.1.tag O;have ai:∀g,(AE c g=Z\/w g)->(H2.put (0::(b+8)::c) (.loop dd)).get g=H.get g:=λg i=>by
    have ne:g≠0::(b+8)::c:=λV=>by
     rcases i with i|i
     .exact zBb
     grind
    rw[BU _ _ ne];rcases i with i|i
    .exact b3.1 g i
    .obtain⟨b7,rfl⟩:=T g i;exact b4.1 b7
   have fr:=A.1;refine Mv (rb (M:=w) c2 (a4.1 _ (q_a.2 (FD (b+9) c))) ((ai B (.inl bo)).trans dj) en bi (by have:=c1.be;omega) ?_ ?_ (XD ad.1 x z) ⟨k.1.same O ai,λg i=>(x g i).imp_right λj=>j.mono z,λg n q m=>(ai g (.inl m)).trans (r.1.fed.frame g n q m),?_,?_,by rw[p_,q_c];rfl⟩) (λb6 C l=>?_)
   .grind [BU]
   .grind [BU]
   .grind [BU]
   .grind [BU]
   obtain⟨rfl,dn,l,N,D⟩:=l;generalize b1:gc ((b+8)::c) (gc ((b+9)::c) C)=H3;rw[MH,l.lp,b1];have az:∀o,o<10->H3.get (0::o::c)=C.get (0::o::c):=λo ek=>by grind [An,BN]
   have c0:=(az 0 z).trans l.b0;have d1:=(az 9 z).trans l.b9;have a2:yi F P c M h (d.rules.map DI.node) H3 (b+10):=by
    refine⟨⟨dn,?_,l.new⟩,λg n q m=>?_⟩
    .rw[<-b1];exact k.1.gcI (k.1.gcI l.eat _) _
    .rw[<-b1,An _ _ _ (AL m _),An _ _ _ (AL m _)];exact l.frame g n q m
   have d3:=(a2.frame AY c' c7 b8).trans d7.1;have d2:=(a2.frame B c8 c6 bo).trans d9.1;replace a2:=AB a2;clear az l N D b1 C c2 b3 b4 b0 cd dq dr H2 ai T O x et dj av a6 r dc cs A;subst c5;refine ax ?_;refine Aj d.rules (B0:=λg (a:S×Nat)=>⟨[(3,.ptr (0::0::c) 0),(51,.d (.co (d.rules.map BR))),(52,nI (U d.rules)),(53,nI g)],a.1,a.2,[.mark (0::(b+8)::c)]⟩)
    (Inv:=λg cv a=>AR (yi F P c M h (cv.map DI.node) a.1 a.2/\10<=a.2)/\a.1.get (0::0::c)=J (.box [.yld aa])) (b0:=(H3,b+22)) ⟨⟨⟨a2.1.eat.imp λbv j=>⟨j.1,λg i=>(j.2 g i).imp_right λj=>j.mono AZ⟩,a2.1.frame⟩,AZ⟩,c0⟩ ?_ ?_
   .rintro b5 er ⟨H,bc⟩ ec d' eb ⟨r,av⟩ cc;have em:SE.wrap ((b5:Int)+1)=(b5:Int)+1:=w_ z (by have:=c1.rules;omega);obtain⟨w,K,x⟩:=r.1.1.eat;have A:=r.1.2;dsimp only at*;rw[By]at K;obtain⟨cu,a5⟩:=k.1.loop K;have T:=AR.mk (k.1.tag K);have cs:∀s,¬bc+s=0:=λs=>z;have cq:=AB λ(bs:S) (W:∀g,Nt c g->bs.get g=H.get g)=>k.1.same (H':=bs) K λg i=>W g (by
     rcases i with i|i
     .exact AN i
     .rcases x g i with j|j
      .exact AN (ad.1 g j)
      .exact j.not)
    replace K:=AB K;replace x:=AB x;replace A:=AB A;clear c0 d1 d3 d2;refine ax ?_;refine Ak (k.1.eat (cq.1 _ λg i=>?_) ?_ (λg i=>AL i _) (XD ad.1 x.1 z)) (λb6 C l=>?_)
    .have j:=i;rw[Nt]at j;exact Ba
    .exact Ba
    obtain⟨rfl,a0,l,N,D⟩:=l;have L:∀v,¬w (0::v):=λv bk=>by obtain⟨b7,bl⟩:=T.1 _ bk;cases bl
    have ac:yi F P c M h ((d.rules.drop (b5+1)).map DI.node) (gc ((bc+8)::c) C) (bc+9):=⟨⟨a0,k.1.gcI l _,λg i=>?_⟩,λg n q m=>?_⟩
    rotate_left
    .exact zB0
    .rw[An _ _ _ (AL m _),D g n (Tp x.1 q m) (AL m _)];have j:=AN m;simp only[go_sem,j,AM];exact r.1.1.frame g n q m
    have b':(gc ((bc+8)::c) C).get (0::0::c)=J (.box [.yld aa]):=by rw[An _ _ _ (BN c z),D _ (ar.1 0) (L _) (BN c z)];simp only[*,go_sem,AM]
    replace l:=AB l;replace N:=AB N;replace D:=AB D;replace L:=AB L;replace ac:=AB ac;refine ax ?_;refine cc.1 (_,_) ⟨⟨?_,?_⟩,b'⟩
    .exact zBm
    grind
   .rintro b5 ⟨H,bc⟩ d' eb ⟨r,av⟩;obtain⟨w,n,q⟩:=r.1.1.eat;rw[Ci]at n;dsimp only at*;refine ax ?_;exact⟨w,n,λg i=>(q g i).imp_right λj=>j.up,r.1.1.frame⟩
  .rw[bh.1.2.1 ag]at r;obtain⟨w,n,q⟩:=r.1.fed.eat;refine ax ?_;exact⟨w,n,λg i=>(q g i).imp_right λj=>j.up,r.1.fed.frame⟩
end
end Go.Proofs
namespace Go.Abs
def MW:Nat->KH->KH
 |n+1,.seq _ A9=>MW n A9|_,c=>c
def R4:Nat->KH->KH->KH
 |n+1,.seq x A9,t=>.seq x (R4 n A9 t)|0,_,t=>t|_,c,_=>c
def vm:∀(n:Nat) (c:KH),R4 n c (MW n c)=c
 |0,c=>by cases c<;>rfl|n+1,c=>by cases c with|seq x A9=>rw[MW,R4,vm n A9]|_=>rfl
def Qg{b:DH}{K:Ah}{f:Fr}{e:Nat}{a:KH}{h:St}{Q:Di->St->Prop}(g:Nat)(i:∀c,c=MW g a->Wp b K f e (R4 g a c) h Q):Wp b K f e a h Q:=by
 have:=i _ rfl
 rwa [vm]at this
end Go.Abs
namespace Go.Proofs
open Abs Tryz
noncomputable def FJ(b c:Nat)(f:u)(e:u):Bool:= @decide (∃a,b<=a/\a<c/\AE (a::f) e=X) (Classical.propDecidable _)
theorem Gy{b c:Nat}{f:u}{e:u}:FJ b c f e=X↔ ∃a,b<=a/\a<c/\AE (a::f) e=true:=by unfold FJ;rw[@decide_eq_true_eq _ (Classical.propDecidable _)]
def Aw{e f:Nat}{b:u}{g:u}(i:FJ e f b g=Z)(c a:Nat)(j:e<=a)(k:a<f):AJ (c::a::b) g=false:=AI λh=>by subst h;have:FJ e f b (c::a::b)=true:=Gy.2 ⟨a,j,k,q_a.2 ⟨[c],rfl⟩⟩;rw[i]at this;cases this
def De{b c:Nat}{f:u}(a:Nat)(e:u)(g:b<=a)(h:a<c):FJ b c f (e++a::f)=true:=Gy.2 ⟨a,g,h,q_a.2 ⟨e,rfl⟩⟩
section
variable{p:Aa}{a:Al}{B:MV->Int->List y}{c:Bool}{e:u}{m:u}{V f:MV}{h g H k:S}{b b':Nat}{i j:Cy}
def CH.q_v(p:Dr e V m)(o:CH B c e m V h b f i g):PQ (FJ b b' e) f m:=λa l=>by
 rcases hx:FJ b b' e a with _|_
 .rfl
 .have⟨n,h1,_,h2⟩:=Gy.1 hx;rcases o.ids a l with k|⟨r,q,j,_⟩
  .have:=p a k;rw[Bt h2]at this;cases this
  .have:=CA j h2;omega
def CH.step(D:b<=b')(t:CH B c e m V h b f i g)(C:N3 B c (FJ b b' e) m f g j H):∃p,CH B c e m V h b' p j H/\∀k,k∉f.ids m->FJ b b' e k=Z->k∉p.ids m:=by
 obtain⟨p,v,s⟩:=C;refine⟨p,⟨v,λk w=>?_,λk q n=>?_⟩,λk q n o=>?_⟩
 .rcases s.ids k w with l|⟨l,x⟩
  .exact(t.ids k l).imp_right λ⟨r,a,c⟩=>⟨r,z,c⟩
  .have⟨r,_,n,o⟩:=Gy.1 l;exact .inr ⟨r,n,o,x⟩
 .have A:FJ b b' e k=false:=by
   rcases hx:FJ b b' e k with _|_
   .rfl
   .have⟨r,_,_,o⟩:=Gy.1 hx;rw[Bt o]at n;cases n
  rw[s.frame k (λl=>?_) A]
  .exact t.frame k q n
  .rcases t.ids k l with l|⟨F,_,o,_⟩
   .exact q l
   .rw[Bt o]at n;cases n
 .rcases s.ids k o with l|⟨l,_⟩
  .exact q l
  .rw[n]at l;cases l
end
def Tn{a e n:Nat}{c:u}{b:u}(g:n<a)(f:AE (n::c) b=X):FJ a e c b=false:=by
 rcases hx:FJ a e c b with _|_
 .rfl
 .have⟨k,h1,_,h2⟩:=Gy.1 hx;have:=CA f h2;omega
def AEJ{B:MV->Int->List y}{p:Bool}{N:u->Bool}{k:S}{g:u}{V:MV}{c:Cy}(e:Gm B p k g V c)(t:PQ N V g){q:Fo}(T:q.queue=[])(A:u)(j:S)(F:j.get g=J (.box (B {V with v3:=.ii A 0 (U V.rows+1)} c.work))) (D:j.get A=J (.arr 4 (V.rows++[CF q .d9]))) (H:N A=X/\∃W,A=1::W)(K:∀a,AJ g a=Z->(∀w∈AD V.v3,AJ w a=Z)->N a=Z->j.get a=k.get a):N3 B p N g V k {c with em:={c.em with ac:=c.em.ac++[q]}} j:=by
 have r:∀a,a≠g->a∉AD V.v3->N a=Z->j.get a=k.get a:=λa m n L=>K a (AI λf=>m f.symm) (λw b=>AI λf=>n (by rw[<-f];exact b)) L;have s:(V.rows++[CF q .d9]).flatMap Ab=V.rows.flatMap Ab:=by simp[DB,AD]
 refine WI (v3:=.ii A 0 (U V.rows+1)) (rows:=V.rows++[CF q .d9]) e t (F.trans (by rw[<-e.inv {V with v3:=.ii A 0 (U V.rows+1)} (V.rows++[CF q .d9]) c.work])) (.inr ⟨A,AG,D⟩) ⟨by simp[e.ac.len],λi C o=>?_⟩ (by rw[s];exact e.qd) (λa b=>?_) (λi o=>by match i,o with|0,_|1,_|2,_|3,_=>rfl) λa m n _ M=>r a m n M
 .have h:(c.em.ac++[q])[i]?=J C:=o;have P:=e.ac.len;by_cases O:i<U c.em.ac
  .rw[D8 O]at h;have⟨v,h1,h2⟩:=e.ac.row i C h;refine⟨v,by rw[D8 z];exact h1,MO h2 λa b=>?_⟩;have R:a∈V.rows.flatMap Ab:=BE.2 ⟨_,AP h1,by rw[DB];exact b⟩;have⟨x,l⟩:=Jd h2 b;refine r a (λf=>?_) (λf=>?_) (t _ (V.q_m g R))
   .rw[f,e.box]at l;cases l
   .rw[Ky e.arr f]at l;cases l
  .have Q:=l_ h;rw[Dl,I3]at Q;obtain rfl:i=U c.em.ac:=z;rw[D6 z]at h;simp only[IF,He,F1]at h;subst h;exact⟨.d9,by rw[D6 z,P];simp,SY (.inl ⟨rfl,by rw[T];rfl⟩)⟩
 .rw[s]at b;rcases b with b|b
  .simp only[AD,AS]at b;rw[b];exact .inr H
  .exact .inl (.inr b)
end Go.Proofs
namespace Go.Proofs
open Abs Tryz
theorem nr(b c:Int)(e:y):∀{a:List (Ar×y)},a.all JB=X->CD (Cj a (.int .i64 c) e) (.int .i64 b)=if c=b then J (J e)else CD a (.int .i64 b)
 :=by intro f;induction f<;>grind [Cj,CD,E5,JB]
theorem nq{c:Int}{b:Int×Int}:∀{a:List (Ar×y)},a.all JB=X->(Cj a (.int .i64 c) (cB b)).all JB=X
 :=by intro e;induction e<;>grind [Cj,JB]
theorem fw(e:Int)(f:y):∀{b:List (Ar×y)},b.all JB=X->∀a,a∈(Cj b (.int .i64 e) f).map (λc=>Yh c.1)↔a=e\/a∈b.map λc=>Yh c.1
 :=by intro a;induction a<;>grind [Cj,Yh,E5,JB]
theorem Yw{b:Int}{j:y}:∀{a:List (Ar×y)},a.all JB=X->(a.map λc=>Yh c.1).Nodup->((Cj a (.int .i64 b) j).map λc=>Yh c.1).Nodup
 |[],_,_=>by simp[Cj]|(k,w)::a,h,hn=>by
  rw[F6,As]at h;obtain⟨f,g⟩:=h;rw[By,IT]at hn;cases k with
  |int m n=>
   cases m with
   |i64=>
    rw[Cj];simp[E5];by_cases i:n=b
    .grind
    .simp only[beq_eq_false_iff_ne.2 i,By,IT];refine⟨λl=>?_,Yw g hn.2⟩;rcases(fw b j g _).1 l with e|e
     .exact i e
     .exact hn.1 e
   |_=>simp[JB]at f
  |_=>simp[JB]at f
def Lh.set{h:List (Ar×y)}{f g:BJ}(b:Lh h f){e:Int}{c:Int×Int}(i:∀a,HG g a=if e=a then J c else HG f a):Lh (Cj h (.int .i64 e) (cB c)) g:=by
 refine⟨λa=>?_,nq b.ent,Yw b.ent b.nd⟩;rw[nr a e (cB c) b.ent,i a];split
 .rfl
 .exact b.get a
theorem oI(size d:Int)(m:Nat):GZ size d (m+1)=GZ size d m++[(size+m,(d,(m:Int)))]:=by grind [GZ,List.range_succ]
def zo{b:BJ}{size d:Int}{a:Nat}(g:∀f∈b,f.1<size)(e:Int):HG (b++GZ size d (a+1)) e=if size+a=e then J (d,(a:Int))else HG (b++GZ size d a) e:=by
 rw[oI,<-F0,S6];have h:HG (b++GZ size d a) (size+a)=none:=by
  refine ez (c:=(0,0)) λf c heq=>?_;rcases Ac.1 c with c|c
  .have:=g f c;omega
  .grind [GZ]
 grind [HG]
section
variable{p:Aa}{j:Al}{D:List BJ}{h:S}{B N:u}{a:u}
structure eF(p:Aa)(sz:Al)(D:List BJ)(g:S)(B N:u)(hv:y)(cs:List y)(hs:Al)(M:u->Prop):Prop:=
 box:g.get B=J (.box [.d (.co (p.free.map CK)),.d (.co (p.nodes.map Bl)),.d (.co (p.defs.map Bw)),nI p.main,.ii N 0 (U cs),.d (.co (sz.map AX)),hv])
 arr:g.get N=J (.arr 1 (cs.map λc=>[c]))
 len:U cs=U p.nodes
 maps:∀(n:Nat) m,cs[n]?=J (.mp m)->M m/\∃es,g.get m=J (.map es)/\Lh es ((D[n]?).getD [])
 hd:(hv=.emp/\hs=[])\/∃id,hv=.ii id 0 (U hs)/\g.get id=J (.f8 1 (hs.map AX))
 hlen:U hs=U p.defs
 tag:∀i,M i->∃t,i=1::t
structure bA(B N:u)(hv:y):Prop:=
 bn:B≠N
 bh:B∉AD hv
 nh:N∉AD hv
structure B8(π:u)(B N:u)(hv:y)(M:u->Prop):Prop:=
 b:AE π B=Z
 n:AE π N=Z
 h:∀i∈AD hv,AE π i=Z
 m:∀i,M i->AE π i=Z
 mb:¬M B
 mn:¬M N
 mh:∀i∈AD hv,¬M i
def Fl(a:List y)(b:Int):Prop:=∃c,a[b.toNat]?=J (.mp c)
def Hd(p:Aa)(c:Al)(b:Int):Prop:=∀a,p.nodes[b.toNat]?=J a->a.op=4->c[a.n.toNat]?=J b
def AHz{ci:Option u}{a:u}(c:Wk ci a)(h:S)(B:u)(d:Int):
 ∃e b,kT (.fn 191) [.ptr B 0,nI d] h a X ci=.ok (e,b)/\e=.ret (.fn 203 [] [.ptr (0::0::a) 0,.ptr (0::1::a) 0])/\b=(h.put (0::0::a) (.box [.ptr B 0])).put (0::1::a) (.box [nI d]):=by
 have f:=c.nil;have g:=c.new;refine Bf func191 ?_;exact af
variable{b:y}{g g':S}{M:u->Prop}{c:List y}{f:Al}
theorem eF.mono(h:eF p j D g B N b c f M)(hi:∀i,i=B\/i=N\/i∈AD b\/M i->g'.get i=g.get i):eF p j D g' B N b c f M where
 box:=by rw[hi B (.inl rfl)];exact h.box
 arr:=by rw[hi N (.inr (.inl rfl))];exact h.arr
 len:=h.len
 maps n m hm:=by have⟨h1,h2⟩:=h.maps n m hm;grind
 hd:=by
  rcases h.hd with h1|⟨id,h1,h2⟩
  .exact .inl h1
  grind [AD]
 hlen:=h.hlen
 tag:=h.tag
def B8.all(h:B8 a B N b M){c:u}(e:c=B\/c=N\/c∈AD b\/M c):AE a c=false:=by
 rcases e with rfl|rfl|e|e
 .exact h.b
 .exact h.n
 .exact h.h c e
 .exact h.m c e
def wU(p:Aa)(j:Al)(D:List BJ)(B N:u)(b:y)(a:u)(g:S)(c:List y)(f:Al)(M:u->Prop)(L:Al)(n:BG)(m:S):Prop:=n=.ret (.kw [])/\∃k l i,eF p j D m B N b k l i/\(∀e,M e->i e)/\(∀e,i e->M e\/Zr a e)/\(∀e,e≠N->e∉AD b->AE a e=Z->m.get e=g.get e)/\(∀h,Fl c h->Fl k h)/\(∀h,0<=h->Hd p f h->Hd p l h)/\∀h∈L,Fl k h/\Hd p l h
structure AN9(p:Aa)(sz:Al)(D:List BJ)(B N:u)(hv:y)(π ρ:u)(g:S)(cs1:List y)(hs1:Al)(M1:u->Prop)(k:Nat)(n:Int)(me lo:u)(r0:Lp)(l:Al)(M':u->Prop)(H:S):Prop:=
 st:∃cs' hs',eF p sz D H B N hv cs' hs' M'/\(∀j,Fl cs1 j->Fl cs' j)/\(∀j,0<=j->Hd p hs1 j->Hd p hs' j)/\∀q∈PO p n,q∈l\/∀j∈FK p k q,Fl cs' j/\Hd p hs' j
 b0:H.get (0::0::π)=J (.box [.ptr B 0])
 b1:H.get (0::1::π)=J (.box [.mp me])
 lp:H.get lo=J (.loop r0)
 env:M' me/\∃es,H.get me=J (.map es)/\∀q∈PO p n,Lh es (den D q)
 sub:∀q∈l,q∈PO p n
 inc:∀i,M1 i->M' i
 new:∀i,M' i->M1 i\/Zr ρ i
 frame:∀i,i≠N->i∉AD hv->AE π i=Z->H.get i=g.get i
theorem bd(dj:Ao p j)(c0:bA B N b){b8:Nat}{v:Int}{d6:CQ}(cm:0<=v)(dr:p.nodes[v.toNat]?=J d6)(b7:∀k∈PO p v,∀(g:S) (a:u) (c:List y) (f:Al) (M:u->Prop) (me:u) es,eF p j D g B N b c f M->B8 a B N b M->M me->g.get me=J (.map es)->Lh es (den D k)->∃F bo,kT (.fn 173) [.ptr B 0,nI k,.mp me] g a X I=.ok (F,bo)/\wU p j D B N b a g c f M (FK p b8 k) F bo)(dn:∀k∈PO p v,UX p b8 k) {l:CW} (eb:l.get 3=.ptr (0::0::a) 0) (ea:l.get 1=nI v) (ec:l.get 5=.ptr (0::1::a) 0) {H:S} {m:Nat} (ef:2<=m) {me:u} (bl:H.get (0::0::a)=J (.box [.ptr B 0])) (bn:H.get (0::1::a)=J (.box [.mp me])) {a3:List y} {bc:Al} {M1:u->Prop}(ag:eF p j D H B N b a3 bc M1) (q:B8 a B N b M) (c2:M1 me) {es:List (Ar×y)} (dq:H.get me=J (.map es)) (bx:∀k∈PO p v,Lh es (den D k)) (ac:∀e,M1 e->M e\/(Zr a e/\∀A,m<=A->AE (A::a) e=Z)) (bv:∀e,M e->M1 e) (b4:∀e,e≠N->e∉AD b->AE a e=Z->H.get e=g.get e) (b3:∀o,Fl c o->Fl a3 o) (b5:∀o,0<=o->Hd p f o->Hd p bc o) (b2:Fl a3 v) (b6:Hd p bc v):
 Wp cfg kT ⟨173,a,X,I,Z,87⟩ 0 (MW 4 (Tryz.f173.body.get rfl)) ⟨l,H,m,[]⟩ (MY cfg I [] a X λF bo=>wU p j D B N b a g c f M (FK p (b8+1) v) F bo):=by
 replace ag:=AB ag;replace q:=AB q;refine xp ?_ bx ac bv b4 b3 b5 b2 b6 b7;clear bx ac bv b4 b3 b5 b2 b6 b7;intro bx ac bv b4 b3 b5 b2 b6 b7;simp[Tryz.f173,MW];refine ax (Ak (AHz (Wk.none _) _ _ _) (λc8 a5 C=>?_));obtain⟨rfl,rfl⟩:=C;rw[G7,YZ];generalize aa:gc (0::0::(m+2)::a) _=H2;have v0:H2.get (0::0::a)=J (.box [.ptr B 0]):=by rw[<-aa,EO _ _ _ AG];simp only[go_sem,bl]
 have v1:H2.get (0::1::a)=J (.box [.mp me]):=by rw[<-aa,EO _ _ _ AG];simp only[go_sem,bn]
 have d9:H2.get (0::0::(m+2)::a)=J (.box [.ptr B 0]):=by rw[<-aa,EO _ _ _ AG];simp only[go_sem]
 have d':H2.get (0::1::(m+2)::a)=J (.box [nI v]):=by rw[<-aa,EO _ _ _ AG];simp only[go_sem]
 have ad:∀e,AE a e=Z->H2.get e=H.get e:=λe i=>by have k:=AN i;have w:=AN (AL i (m+2));rw[<-aa,An _ _ _ (AL (AL (AL i (m+2)) 0) 0)];exact Ba
 have b0:∀ar,H2.get (1::ar)=H.get (1::ar):=λar=>by rw[<-aa,FC,BU _ _ AG,BU _ _ AG]
 clear aa;have n:∀e,e=B\/e=N\/e∈AD b\/M1 e->(∀r,e≠0::r::a)/\∀A,m<=A->AE (A::a) e=false:=λe i=>by
  have key:AE a e=Z\/(∃O,e=1::O)/\∀A,m<=A->AE (A::a) e=false:=by
   rcases i with i|i|i|i
   .exact .inl (q.1.all (.inl i))
   .exact .inl (q.1.all (.inr (.inl i)))
   .exact .inl (q.1.all (.inr (.inr (.inl i))))
   .rcases ac.1 e i with k|k
    .exact .inl (q.1.m e k)
    .exact .inr ⟨ag.1.tag e i,k.2⟩
  rcases key with k|⟨⟨O,rfl⟩,k⟩
  .refine⟨λr l=>?_,λA _=>AL k A⟩;rw[l,show AE a (0::r::a)=X from Aq [0,r]]at k;cases k
  grind
 refine M9 ?_ ad b0 n;clear ad b0 n;intro ad b0 n;refine ax (Oi λc9 c5=>?_);have c1:aV I (0::(m+3)::a) (λe=>e=0::(m+3)::a\/e=N\/e∈AD b) (AN9 p j D B N b a ((m+4)::a) g a3 bc M1 b8 v me (0::(m+3)::a) c9) ((m+4)::a):=by
  refine⟨.inl rfl,?_,?_,?_,?_,?_⟩
  .rintro e (rfl|i)
   .grind [BN]
   .exact(n.1 e zCI).2 _ z
  .intro ar Y H h;have⟨cs2,hs2,W,_⟩:=h.st;exact W.tag
  .intro ar Y H h;exact⟨_,h.lp⟩
  .intro A ar Y H a2 eg h c4 R cl;rw[h.lp]at c4;cases c4;subst c5;have⟨cs2,hs2,W,a6,ch,bs⟩:=h.st;have⟨m1,es2,av,az⟩:=h.env;have d4:=h.b0;have d5:=h.b1;have ek:=h.lp;have c3:=h.sub A (CO ..);have un:∀e,e=B\/e=N\/e∈AD b\/Y e->AE a2 e=false:=λe i=>by
    rcases i with i|i|i|i
    .exact R e ((n.1 e (.inl i)).2 _ z)
    .exact R e ((n.1 e (.inr (.inl i))).2 _ z)
    .exact R e ((n.1 e (.inr (.inr (.inl i)))).2 _ z)
    .exact cl e i
   have c7:AE a2 (0::(m+3)::a)=false:=R _ (BN a z);have V:∀e,e=B\/e=N\/e∈AD b\/Y e->e≠0::(m+3)::a:=λe i l=>by
    have:e=B\/e=N\/e∈AD b\/M1 e\/∃O,e=1::O:=by
     rcases i with i|i|i|i
     .exact .inl i
     .exact .inr (.inl i)
     .exact .inr (.inr (.inl i))
     .exact .inr (.inr (.inr (.inr (W.tag e i))))
    rcases this with i|i|i|i|⟨O,cn⟩
    .exact(n.1 e (.inl i)).1 _ l
    .exact(n.1 e (.inr (.inl i))).1 _ l
    .exact(n.1 e (.inr (.inr (.inl i)))).1 _ l
    .exact(n.1 e (.inr (.inr (.inr i)))).1 _ l
    .rw[l]at cn;simp at cn
   have bh:∀e,AE a e=Z->¬M e->¬Y e:=λe a1 cs cu=>by
    rcases h.new e cu with k|k
    .rcases ac.1 e k with k|k
     .exact cs k
     .rw[k.1.up]at a1;cases a1
    .rw[k.out.up]at a1;cases a1
   have dm:=AB λ(ds:Nat) (F:Abs.Obj)=>b7.1 A c3 (H.put (0::(m+3)::a) F) (ds::a2) cs2 hs2 Y me es2 (W.mono λe i=>BU _ _ (V e i)) ⟨AL (un B (.inl rfl)) _,AL (un N (.inr (.inl rfl))) _,λe i=>AL (un e (.inr (.inr (.inl i)))) _,λe i=>AL (un e (.inr (.inr (.inr i)))) _,λa'=>?_,λa'=>?_,λe i a'=>?_⟩ m1 ((BU _ _ (V me (.inr (.inr (.inr m1))))).trans av) (az A c3)
   rotate_left
   .exact bh B q.1.b q.1.mb a'
   .exact bh N q.1.n q.1.mn a'
   .exact bh e (q.1.h e i) (q.1.mh e i) a'
   replace h:=AB h;replace R:=AB R;replace cl:=AB cl;replace W:=AB W;replace a6:=AB a6;replace ch:=AB ch;refine xp ?_ bs az un V v0 v1 bl bn av;clear bs az un V v0 v1 bl bn av;intro bs az un V v0 v1 bl bn av;refine Ow rfl (ax ?_);refine Ak (dm.1 4 _) (λc8 a5 C=>?_);obtain⟨rfl,cx,c6,cv,x,w,s,T,bi,bk,cd⟩:=C;have d0:(0::(m+3)::a)≠N:=λl=>V.1 N (.inr (.inl rfl)) l.symm;have dx:(0::(m+3)::a) ∉AD b:=λl=>V.1 _ (.inr (.inr (.inl l))) rfl;have df:=(An (4::a2) a5 _ (AL c7 _)).trans (T _ d0 dx (AL c7 _));rw[p_,q_c]at df;refine gX ?_ x w s T bi bk cd;clear x w s T bi bk cd;intro x w s T bi bk cd;refine ax ?_;have a4:∀F e,e≠0::(m+3)::a->e≠N->e∉AD b->AE a2 e=Z->((gc (4::a2) a5).put (0::(m+3)::a) F).get e=H.get e:=λF e K a0 L c'=>by rw[BU _ _ K,An _ _ _ (AL c' _),T.1 e a0 L (AL c' _),BU _ _ K]
   have b':∀r,(0::r::a)≠N/\(0::r::a) ∉AD b:=λr=>⟨λl=>(n.1 N (.inr (.inl rfl))).1 r l.symm,λl=>(n.1 _ (.inr (.inr (.inl l)))).1 r rfl⟩;have d3:∀F,eF p j D ((gc (4::a2) a5).put (0::(m+3)::a) F) B N b cx c6 cv:=λF=>x.1.mono λe i=>by
    have ej:=x.1.tag;have ne:e≠0::(m+3)::a:=λl=>by
     rcases i with i|i|i|i
     .exact V.1 e (.inl i) l
     .grind
     .grind
     grind
    rw[BU _ _ ne];rcases i with i|i|i|i
    .exact An _ _ _ (AL (un.1 e (.inl i)) _)
    .exact An _ _ _ (AL (un.1 e (.inr (.inl i))) _)
    .exact An _ _ _ (AL (un.1 e (.inr (.inr (.inl i)))) _)
    grind [FC]
   refine⟨cv,⟨⟨cx,c6,d3 _,λo t=>bi.1 o (a6.1 o t),λo be t=>bk.1 o be (ch.1 o be t),λk P=>?_⟩,?_,?_,?_,⟨w.1 _ m1,es2,?_,az.1⟩,λk P=>h.1.sub k (Bi _ P),λe i=>w.1 e (h.1.inc e i),λe i=>?_,λe K a0 L=>?_⟩,λe i=>(s.1 e i).imp_right λk=>k.out,λe K a0 L=>?_⟩
   .rcases bs.1 k P with Q|Q
    .rcases DO.1 Q with rfl|Q
     .exact .inr cd.out
     .exact .inl Q
    .refine .inr λo t=>⟨bi.1 o (Q o t).1,?_⟩;exact bk.1 o (iR (dn k P) t).1 (Q o t).2
   .exact(a4 _ _ AG (b' 0).1 (b' 0).2 (R.1 _ (BN a z))).trans d4
   .exact(a4 _ _ AG (b' 1).1 (b' 1).2 (R.1 _ (BN a z))).trans d5
   .grind [p_,q_c]
   .exact(a4 _ me (V.1 me (.inr (.inr (.inr m1)))) (λl=>bh N q.1.n q.1.mn (l▸m1)) (λl=>bh me (q.1.h me l) (q.1.mh me l) m1) (un.1 me (.inr (.inr (.inr m1))))).trans av.1
   .rcases s.1 e i with k|k
    .exact h.1.new e k
    .exact .inr (k.out.wide R.1)
   .refine(a4 _ e (λl=>?_) K a0 (R.1 e (AL L _))).trans (h.1.frame e K a0 L);rw[l,show AE a (0::(m+3)::a)=X from Aq [0,m+3]]at L;cases L
   .rw[not_or,not_or]at K;have k:=a4 (.box []) e K.1 K.2.1 K.2.2 L;grind [BU,AI]
  .intro ar Y H dd h f;have ai:∀v,v≠m+4->dd.get (0::v::a)=H.get (0::v::a):=λv cm=>f _ (.inl (BN a z));have⟨cs2,hs2,W,a6⟩:=h.st;have⟨m1,es2,av,az⟩:=h.env;refine⟨⟨cs2,hs2,W.mono λe i=>f e ?_,a6⟩,(ai _ z).trans h.b0,(ai _ z).trans h.b1,(ai _ z).trans h.lp,⟨m1,es2,(f me (.inr m1)).trans av,az⟩,h.sub,h.inc,h.new,λe x w s=>(f e (.inl (AL s _))).trans (h.frame e x w s)⟩;rcases i with i|i|i|i
   .exact .inl ((n.1 e (.inl i)).2 _ z)
   .exact .inl ((n.1 e (.inr (.inl i))).2 _ z)
   .exact .inl ((n.1 e (.inr (.inr (.inl i)))).2 _ z)
   .exact .inr i
 have ai:∀e,e=B\/e=N\/e∈AD b\/M1 e->(H2.put (0::(m+3)::a) (.loop c9)).get e=H.get e:=λe i=>by
  rw[BU _ _ ((n.1 e i).1 _)];rcases i with i|i|i|i
  .exact ad.1 e (q.1.all (.inl i))
  .exact ad.1 e (q.1.all (.inr (.inl i)))
  .exact ad.1 e (q.1.all (.inr (.inr (.inl i))))
  .obtain⟨O,rfl⟩:=ag.1.tag e i;exact b0.1 O
 have b1:=ag.1.mono ai;have b9:∀e,AE a e=Z->¬M e->¬M1 e:=λe a1 cs cu=>by
  rcases ac.1 e cu with k|k
  .exact cs k
  .rw[k.1.up]at a1;cases a1
 have cc:∀(e:u),(∃O,e=0::O)->¬M1 e:=λe ⟨O,cn⟩ h=>by have⟨t2,ht2⟩:=ag.1.tag e h;grind
 have d8:(0::0::(m+2)::a)≠0::(m+3)::a:=AG;have dc:∀r,AE ((m+4)::a) (0::r::(m+2)::a)=false:=λr=>by grind [AE,CA,q_a]
 have d2:∀r,¬((0::r::(m+2)::a)=0::(m+3)::a\/(0::r::(m+2)::a)=N\/(0::r::(m+2)::a)∈AD b):=λr=>by
  have key:AE a (0::r::(m+2)::a)=true:=Aq [0,r,m+2];rintro(l|l|l)
  .grind
  .rw[l,q.1.n]at key;cases key
  .rw[q.1.h _ l]at key;cases key
 have d1:¬(B=0::(m+3)::a\/B=N\/B∈AD b):=by
  rintro(l|l|l)
  .exact(n.1 B (.inl rfl)).1 _ l
  .exact c0.bn l
  .exact c0.bh l
 refine Mv (ACv (M:=M1) (sz:=j) c1 (λd7 _=>Wk.none d7) dj ((ai B (.inl rfl)).trans ag.1.box) ((n.1 B (.inl rfl)).2 _ z) d1 cm dr ?_ ?_ (dc 0) (d2 0) (dc 1) (λe i=>(n.1 e (.inr (.inr (.inr i)))).2 _ z) (b9 B q.1.b q.1.mb) (cc _ ⟨_,rfl⟩) ⟨⟨a3,bc,b1,λ_ h=>h,λ_ _ h=>h,λk P=>.inl P⟩,?_,?_,?_,⟨c2,es,(ai me (.inr (.inr (.inr c2)))).trans dq,bx.1⟩,λk P=>P,λe i=>i,λe i=>.inl i,λe x w s=>?_⟩) (λc8 a5 C=>?_)
 .grind [BU]
 .grind [BU]
 .grind [BU]
 .grind [BU]
 .rw[p_,q_c];rfl
 .rw[BU _ _ λl=>?_]
  .exact(ad.1 e s).trans (b4.1 e x w s)
  .rw[l,show AE a (0::(m+3)::a)=X from Aq [0,m+3]]at s;cases s
 obtain⟨rfl,de,C,cp,cq⟩:=C;rw[MH,C.lp];have⟨cs2,hs2,x,w,s,T⟩:=C.st;replace C:=AB C;refine xp ?_ cp cq x w s T b1 b9 cc;clear cp cq x w s T b1 b9 cc;intro cp cq x w s T b1 b9 cc;clear c1;subst c5;refine ax ?_;refine⟨rfl,cs2,hs2,de,x.1.mono λe i=>?_,λe i=>C.1.inc e (bv.1 e i),λe i=>?_,λe K a0 L=>?_,λo t=>w.1 o (b3.1 o t),λo be t=>s.1 o be (b5.1 o be t),λo t=>?_⟩
 .rcases i with i|i|i|i
  .rw[An _ _ _ ((n.1 e (.inl i)).2 _ z),An _ _ _ ((n.1 e (.inl i)).2 _ z)]
  .rw[An _ _ _ ((n.1 e (.inr (.inl i))).2 _ z),An _ _ _ ((n.1 e (.inr (.inl i))).2 _ z)]
  .rw[An _ _ _ ((n.1 e (.inr (.inr (.inl i)))).2 _ z),An _ _ _ ((n.1 e (.inr (.inr (.inl i)))).2 _ z)]
  .obtain⟨O,rfl⟩:=x.1.tag e i;rw[FC,FC]
 .rcases C.1.new e i with k|k
  .exact(ac.1 e k).imp_right λk=>k.1
  .exact .inr k.out
 .rw[An _ _ _ (AL L _),An _ _ _ (AL L _)];exact C.1.frame e K a0 L
 .rw[FK]at t;rcases DO.1 t with rfl|t
  .exact⟨w.1 _ b2.1,s.1 _ cm b6.1⟩
  .have⟨k,P,t⟩:=BE.1 t;rcases T.1 k (K6.2 P)with Q|Q
   .cases Q
   .exact Q o t
variable{K:Ah}{l:Fr}{c i:Nat}{e:CW}{H:S}{k:List Df}{Q:Di->St->Prop}
def XJ{a:DH}{f:KH}(g:∀b,b=H->Wp a K l c f ⟨e,b,i,k⟩ Q):Wp a K l c f ⟨e,H,i,k⟩ Q:=g H rfl
variable{cs:List y}
def ACY{b:DH}{w x:KH}{id sid did:u}{off:Nat}{es:List (Ar×y)}(g:e.get 5=.ptr id off)(h:e.get 7=.mp did)(q:H.get id=J (.box cs))(r:cs[off]?=J (.mp sid))(f:H.get sid=J (.map es))(s:H.get did=J (.map []))(j:es.all JB=X) (m:(es.map λv=>Yh v.1).Nodup) (n:AJ sid did=Z) (p:J4 l.ci [(did,.map es)]=X) (t:∀a,a=H.put did (.map es)->Q .normal ⟨Kz e,a,i,k⟩):pr b K l c w x ⟨e,H,i,k⟩ Q (J ⟨Uu,J6⟩):=by
 have key:J6 l ⟨e,H,i,k⟩=.ok (.normal,⟨Kz e,H.put did (.map es),i,k⟩):=by simp only[J6,g,h,Xx,q,r,ew,f,s];rw[D4 ⟨j,m,n,p⟩]
 show(match J6 l ⟨e,H,i,k⟩with|.ok (o,d8)=>Q o d8|.err _=>False)
 rw[key];exact t _ rfl
abbrev vw:TI:={kind:=TK.map,size:=1,agg:=Z,str:=Z,zero:=[y.d Ar.nilm],flds:=[],elem:=276,key:=3,mix:=X}
def ABl{g:G}{b:u}{a:List (Ar×y)}{e:BJ}(j:g b=J (.map a))(i:Lh a e)(f h c:Int):q_l cfg.T g (J vw) (.mp b) (nI f) (.agg [nI h,nI c])=J ⟨.undef,[(b,.map (Cj a (.int .i64 f) (cB (h,c))))]⟩:=by unfold q_l;simp[Rj,T3,Kp,y.q_D,j,i.get f]
theorem y4{n:Int}{me:u}(c:n.toNat<U cs):(∀a,Fl cs a->Fl (cs.set n.toNat (.mp me)) a)/\Fl (cs.set n.toNat (.mp me)) n:=by
 refine⟨λa ⟨b,hm⟩=>?_,⟨me,by grind⟩⟩;by_cases h:n.toNat=a.toNat
 .exact⟨me,by grind⟩
 .exact⟨b,by grind⟩
theorem eF.cell(h:eF p j D g B N b cs f M){n:Int}(hl:n.toNat<U cs){me:u}{es:List (Ar×y)}(hm:M me)(hes:g.get me=J (.map es))(hMO:Lh es (den D n))(hA:bA B N b)(hU:B8 a B N b M)(hG:∀i,i≠N->AE a i=Z->g'.get i=g.get i)(hN:g'.get N=J (.arr 1 ((cs.map λc=>[c]).set n.toNat [.mp me]))):eF p j D g' B N b (cs.set n.toNat (.mp me)) f M where
 box:=by rw[hG B hA.bn hU.b,Kw];exact h.box
 arr:=by rw[hN,I2]
 len:=by rw[Kw];exact h.len
 maps i m hi:=by
  have hget:=λm hm=>hG m (λe=>hU.mn (e▸hm)) (hU.m m hm);rw[F5]at hi;by_cases e:n.toNat=i
  .rw[D4 e,D4 hl]at hi;cases hi;subst e;rw[hget me hm];exact⟨hm,es,hes,hMO⟩
  .rw[Co e]at hi;have⟨h1,h2⟩:=h.maps i m hi;grind
 hd:=by
  rcases h.hd with h1|⟨id,h1,h2⟩
  .exact .inl h1
  .have hi:id∈AD b:=by rw[h1];simp[AD]
   exact .inr ⟨id,h1,by rw[hG id (λe=>hA.nh (e▸hi)) (hU.h id hi)];exact h2⟩
 hlen:=h.hlen
 tag:=h.tag
theorem eF.head(h:eF p j D g B N b cs f M){n k:Int}(hl:n.toNat<U cs){me m2:u}{es:List (Ar×y)}(hm:M me)(hes:g.get me=J (.map es))(hMO:Lh es (den D n))(hA:bA B N b)(hU:B8 a B N b M){hid:u}(hvE:b=.ii hid 0 (U f))(hG:∀i,i≠N->i≠hid->AE a i=Z->g'.get i=g.get i)(hN:g'.get N=J (.arr 1 ((cs.map λc=>[c]).set n.toNat [.mp me])))(hH:g'.get hid=J (.f8 1 ((f.map AX).set k.toNat (AX n))))(ht:∃t,m2=1::t):eF p j D g' B N b (cs.set n.toNat (.mp me)) (f.set k.toNat n) (λi=>M i\/i=m2) where
 box:=by
  have hi:hid∈AD b:=by rw[hvE];simp[AD]
  rw[hG B hA.bn (λe=>hA.bh (e▸hi)) hU.b,Kw];exact h.box
 arr:=by rw[hN,I2]
 len:=by rw[Kw];exact h.len
 maps i m hi:=by
  have hin:hid∈AD b:=by rw[hvE];simp[AD]
  have hget:=λm hm=>hG m (λe=>hU.mn (e▸hm)) (λe=>hU.mh hid hin (e▸hm)) (hU.m m hm);rw[F5]at hi;by_cases e:n.toNat=i
  .rw[D4 e,D4 hl]at hi;cases hi;subst e;rw[hget me hm];exact⟨.inl hm,es,hes,hMO⟩
  .rw[Co e]at hi;have⟨h1,h2⟩:=h.maps i m hi;grind
 hd:=.inr ⟨hid,by grind,by rw[hH,I2]⟩
 hlen:=by rw[Kw];exact h.hlen
 tag i hi:=by
  rcases hi with hi|rfl
  .exact h.tag i hi
  .exact ht
def fE(c:Fh p j D){a:Int}{h:CQ}(e:0<=a)(g:p.nodes[a.toNat]?=J h){b:Int}(f:b∈PO p a):den D b=aO p j a (den D a):=c.sub a e (by have:=l_ g;omega) b f
theorem fM(K:Ao p j)(a':Dz p)(ag:Fh p j D)(o:bA B N b):∀(a4:Nat) {i:Int},UX p a4 i->∀(g:S) (a:u) (cs:List y) (f:Al) (M:u->Prop) (me:u) (es:List (Ar×y)),eF p j D g B N b cs f M->B8 a B N b M->M me->g.get me=J (.map es)->Lh es (den D i)->
 ∃cq b9,kT (.fn 173) [.ptr B 0,nI i,.mp me] g a X I=.ok (cq,b9)/\wU p j D B N b a g cs f M (FK p a4 i) cq b9
 |0,_,a1,_,_,_,_,_,_,_,_,_,_,_,_=>a1.elim|a4+1,i,a1,g,a,cs,f,M,me,es,x,m,t,hes,R=>by
  obtain⟨be,⟨r,P⟩,bh⟩:=a1;have bk:=λC (V:C∈PO p i)=>fM K a' ag o a4 (bh C (K6.1 V));have bc:=λC V=>bh C (K6.1 V);have dc:=l_ P;have d4:i<U p.nodes:=z;have dr:=AN m.b;have ds:=Av m.b;have aa:=AN m.n;have ac:=Av m.n;have dx:=AI λe=>o.bn e.symm;have d0:=AI o.bn;have b4:=x.box;have c3:=x.arr;have d':i.toNat<(cs.map λF=>[F]).length:=by rw[BV,x.len];exact dc
  have d6:i<U cs:=by rw[x.len];omega
  have bn:i.toNat<U cs:=z;have⟨c0,hc0⟩:=g_ (l:=cs) (i:=i.toNat) z;have c5:(cs.map λF=>[F])[i.toNat]?=J [c0]:=by rw[Be,hc0];rfl
  have b5:(cs.map λF=>[F]).set i.toNat [.mp me]=(cs.set i.toNat (.mp me)).map λF=>[F]:=by rw[I2]
  have b6:(cs.set i.toNat (.mp me)).length=U cs:=AG;refine M9 ?_ bk bc x;clear bk bc x;intro bk bc x;refine xp ?_ m R bh K a' ag o b5 b6;clear m R bh K a' ag o b5 b6;intro m R bh K a' ag o b5 b6;refine N1 rfl func173 rfl rfl rfl ?_;show Wp _ _ _ _ (Tryz.f173.body.get rfl) _ _;refine Qg 4 λdq bv=>?_;simp[Tryz.f173,R4];replace bv:=AB bv;by_cases bx:r.op=4
  .have⟨x0,x1,_⟩:=E6 K.1 P bx;have⟨d,a1⟩:=g_ (l:=p.defs) (i:=r.n.toNat) z;have a6:=(Bk K.1 a1).ok;have Y:=xe K.1 a'.1 ag.1 be z;have⟨s,l,hs0,s0,s1,_⟩:=K.1.node _ r P;unfold PT at Y;rw[hs0]at Y;replace Y:∀C∈den D i,C.1<s:=λC V=>(Y C V).2;have ea:=l_ hs0;have d7:i<U j:=z;obtain⟨q,a3,c7⟩:∃cm,b=.ii cm 0 (U f)/\g.get cm=J (.f8 1 (f.map AX)):=by
    rcases x.1.hd with⟨_,O⟩|O
    .have:=x.1.hlen;grind
    .exact O
   have T:q∈AD b:=by rw[a3];simp[AD]
   have b8:=m.1.h q T;have av:=AN b8;have az:=Av b8;have d1:AJ N q=false:=AI λe=>o.1.nh (e▸T);have c2:AJ q N=false:=AI λe=>o.1.nh (e▸T);have d2:AJ B q=false:=AI λe=>o.1.bh (e▸T);have d3:AJ q B=false:=AI λe=>o.1.bh (e▸T);have dd:r.n.toNat<U f:=by rw[x.1.hlen];omega
   have d5:r.n<U f:=z;have⟨hh0,hhs0⟩:=g_ dd;rw[a3]at b4;have cu:=m.1.m me t;have eb:=AN cu;have df:=Av cu;have ec:AJ N me=false:=AI λe=>m.1.mn (e▸t);have ef:AJ q me=false:=AI λe=>m.1.mh q T (e▸t);have eg:AJ me N=false:=AI λe=>m.1.mn (e▸t);have ej:AJ me q=false:=AI λe=>m.1.mh q T (e▸t);refine Zt ?_ Y a6 a3 t;clear Y a6 a3 t;intro Y a6 a3 t;refine ax (ACY (id:=0::1::a) (sid:=me) (did:=1::32::a) (off:=0) (cs:=[.mp me]) (es:=es) ?_ ?_ ?_ rfl ?_ ?_ R.1.ent R.1.nd (df 1 32) rfl λH w=>?_)
   .simp only[go_sem]
   .simp only[go_sem]
   .exact Ba
   .exact Ba
   .simp only[go_sem]
   have W:∀h,h≠N->h≠q->AE a h=Z->H.get h=g.get h:=λh O ad a0=>by have C:=AN a0;have b1:=AI (λe=>O (Eq.symm e));have b2:=AI (λe=>ad (Eq.symm e));exact Ba
   have bs:H.get N=J (.arr 1 ((cs.map λF=>[F]).set i.toNat [.mp me])):=by rw[w];simp only[go_sem,aa,ac,c2,AM]
   have cd:H.get q=J (.f8 1 ((f.map AX).set r.n.toNat (AX i))):=by rw[w];simp only[go_sem,av,az,AM]
   have v0:H.get (0::0::a)=J (.box [.ptr B 0]):=by rw[w];simp only[go_sem,aa,ac,av,az,AM]
   have v1:H.get (0::1::a)=J (.box [.mp me]):=by rw[w];simp only[go_sem,aa,ac,av,az,AM]
   have cv:H.get (0::18::a)=J (.box [nI 4,nI r.n,.d (.co (r.args.map Bm)),.d (.co (r.kids.map AX))]):=by rw[w];simp only[go_sem,aa,ac,av,az,AM]
   have cx:H.get (1::32::a)=J (.map es):=by rw[w];simp only[go_sem]
   have cl:=(W B o.1.bn (λe=>o.1.bh (e▸T)) m.1.b).trans b4;replace w:=AB w;replace W:=AB W;simp[Kz];have c6:=AB hes;clear c7 c3 b4 hes hc0 c5;refine ax ?_;have ch:Lh es (den D i++GZ s r.n 0):=by rw[show GZ s r.n 0=[]from rfl,CS];exact R.1
   refine Aj d.ac (B0:=λh (n:S×Nat)=>⟨[(1,nI i),(3,.ptr (0::0::a) 0),(5,.ptr (0::1::a) 0),(6,.ptr (0::18::a) 0),(7,.mp (1::32::a)),(11,CW.get [] 11),(59,nI (U d.ac)),(60,nI h),(82,CW.get [] 82),(83,CW.get [] 83),(84,CW.get [] 84),(85,CW.get [] 85)],n.1,n.2,[]⟩)
    (Inv:=λh ek n=>AR ((∃ar,n.1.get (1::32::a)=J (.map ar)/\Lh ar (den D i++GZ s r.n h))/\(∀k,k≠1::32::a->n.1.get k=H.get k)/\40<=n.2)) (b0:=(H,46)) ⟨⟨es,cx,ch⟩,λ_ _=>rfl,AZ⟩ ?_ ?_
   .rintro h a5 ⟨G,c⟩ bi A c9 b3 c1;have et:SE.wrap ((h:Int)+1)=(h:Int)+1:=w_ z (by have:=a6.1.ac;omega);have ex:SE.wrap (s+(h:Int))=s+(h:Int):=w_ z (by have:=a6.1.ac;omega);have⟨⟨ar,ai,Q⟩,v,L⟩:=b3.1;dsimp only at ai v L;have el:=(v (0::0::a) AG).trans v0;have en:=(v (0::18::a) AG).trans cv;have er:=(v B (λe=>by grind)).trans cl;have d8:=λa4 n c=>ABl (g:=G.get) ai Q a4 n c;refine M9 ?_ Q v L;clear Q v L;intro Q v L;clear v0 v1 cv cx cl ch bs cd;refine ax (c1.1 (_,_) ⟨⟨_,?_,Q.1.set (c:=(r.n,(h:Int))) (zo Y.1)⟩,λk a2=>?_,?_⟩)
    .grind [p_,q_c]
    .dsimp only;rw[BU _ _ a2];exact v.1 k a2
    .have:=L.1;dsimp only;omega
   .rintro h ⟨G,c⟩ A c9 b3;have⟨⟨ar,ai,Q⟩,v,L⟩:=b3.1;dsimp only at ai v L;have c8:=A.1;subst c8;replace Q:=AB Q;replace ai:=AB ai;have v:=AB v;have L:=AB L;have em:=(v.1 (0::1::a) AG).trans v1;refine ax (XJ λbl b'=>?_);have bo:∀k,k≠0::1::a->k≠1::32::a->bl.get k=H.get k:=λk O a0=>by grind [BU]
    have cc:∀k,k≠N->k≠q->AE a k=Z->bl.get k=g.get k:=λk O a0 ad=>(bo k (λe=>by
     rw[e,show AE a (0::1::a)=X from Aq [0,1]]at ad;cases ad) (λe=>by
     rw[e,show AE a (1::32::a)=X from Aq [1,32]]at ad;cases ad)).trans (W.1 k O a0 ad)
    have cp:∀n c,N≠n::c::a:=λn c e=>by have:=m.1.n;rw[e,show AE a (n::c::a)=X from Aq [n,c]]at this;cases this
    have cn:∀n c,q≠n::c::a:=λn c e=>by have:=b8;rw[e,show AE a (n::c::a)=X from Aq [n,c]]at this;cases this
    have dj:=(bo (0::0::a) AG AG).trans v0;have dm:bl.get (0::1::a)=J (.box [.mp (1::32::a)]):=by rw[b',p_,q_c];rfl
    have dn:bl.get (1::32::a)=J (.map ar):=by rw[b',BU _ _ AG];exact ai.1
    have c4:=x.1.head (m2:=1::32::a) bn t.1 c6.1 R.1 o.1 m.1 a3.1 cc ((bo N (cp _ _) (cp _ _)).trans bs) ((bo q (cn _ _) (cn _ _)).trans cd) ⟨_,rfl⟩;have⟨fl1,fl2⟩:=y4 (cs:=cs) (n:=i) (me:=me) bn;rw[bv.1];refine bd (M:=M) (M1:=λh=>M h\/h=1::32::a) (me:=1::32::a) (es:=ar) K.1 o.1 be P bk.1 bc.1 ?_ ?_ ?_ (by have:=L.1;omega) dj dm c4 m.1 (.inr rfl) dn (λC V=>?_) (λh A=>?_) (λh A=>.inl A) (λh b7 b1 b2=>cc h b7 (λe=>b1 (e▸T)) b2) fl1 (λk d9 a2 a5 bi b0=>?_) fl2 λa5 bi b0=>?_
    .simp only[go_sem]
    .simp only[go_sem]
    .simp only[go_sem]
    .rw[fE ag.1 be P V,aO,P];dsimp only;rw[D4 bx,hs0,a1];exact Q.1
    .rcases A with A|rfl
     .exact .inl A
     .exact .inr ⟨⟨32,a,rfl,Aq []⟩,λde t=>Fx de 1 32 a (by have:=L.1;omega)⟩
    .have O:=a2 a5 bi b0;rw[F5];by_cases e:r.n.toNat=a5.n.toNat
     .have:=Classical.byContradiction λc'=>K.1.diff _ _ r a5 c' P bx bi b0 e;grind
     grind
    grind
  .refine ax (XJ λH w=>?_);have W:∀h,h≠N->AE a h=Z->H.get h=g.get h:=λh O a0=>by have C:=AN a0;have b1:=AI (λe=>O (Eq.symm e));exact Ba
   have bs:H.get N=J (.arr 1 ((cs.map λF=>[F]).set i.toNat [.mp me])):=by rw[w];simp only[go_sem,aa,ac,AM]
   have v0:H.get (0::0::a)=J (.box [.ptr B 0]):=by rw[w];simp only[go_sem,aa,ac,AM]
   have v1:H.get (0::1::a)=J (.box [.mp me]):=by rw[w];simp only[go_sem,aa,ac,AM]
   have⟨av,az⟩:=y4 (cs:=cs) (n:=i) (me:=me) bn;rw[bv.1];refine bd (M:=M) (M1:=M) (me:=me) (es:=es) K.1 o.1 be P bk.1 bc.1 ?_ ?_ ?_ z v0 v1 (x.1.cell bn t hes R.1 o.1 m.1 W bs) m.1 t ((W me (λe=>m.1.mn (e▸t)) (m.1.m me t)).trans hes) (λC V=>?_) (λh A=>.inl A) (λh A=>A) (λh b7 b1 b2=>W h b7 b2) av (λk _ a2=>a2) az λa5 bi b0=>?_
   .simp only[go_sem]
   .simp only[go_sem]
   .simp only[go_sem]
   .rw[fE ag.1 be P V,aO,P];dsimp only;rw[Co bx];exact R.1
   grind
end
def ij(c:S)(b:y)(a:List (List Ar)):Prop:=b=.d (.co a)\/Ub c 1 b a
def Zw(g:S)(r:List y)(A8:Au):Prop:=∃c k a,r=[c,k,a]/\ij g c (A8.ac.map AX)/\ij g k (A8.rules.map AX)/\ij g a (A8.args.map E7)
structure Lj(g:S)(v:y)(rows:List (List y))(T:List Au):Prop:=
 arr:(v=.d9/\rows=[])\/∃id,v=.ii id 0 (U T)/\g.get id=J (.arr 3 rows)
 len:U rows=U T
 each:∀(i:Nat) r A8,rows[i]?=J r->T[i]?=J A8->Zw g r A8
 nd:(AD v++rows.flatMap Ab).Nodup
def Kt(f:u)(c:Nat)(a:u):Prop:=(∃b,b<c/\AE (b::f) a=X)/\∃e,a=1::e
variable{b:Nat}
theorem Kt.mono{e:u}{a:Nat}{c:u}(f:Kt e b c)(k:b<=a):Kt e a c:=by obtain⟨⟨i,j,g⟩,h⟩:=f;exact⟨⟨i,z,g⟩,h⟩
def Kt.up{c:u}{a:u}(e:Kt c b a):AE c a=true:=by obtain⟨⟨i,g,f⟩,h⟩:=e;exact Bt f
theorem Kt.sib{c:u}{m:Nat}{a:u}(e:Kt c b a)(i:b<=m):AE (m::c) a=false:=by obtain⟨⟨j,f,g⟩,h⟩:=e;grind [CA]
theorem Kt.ne{e:u}{a m:Nat}{c:u}(f:Kt e b c)(g:b<=m):c≠a::m::e:=λh=>by have:=f.sib g;grind [q_a]
def Kt.ne0{h:u}{c:u}(f:Kt h b c)(g:u):c≠0::g:=λe=>by obtain⟨_,i,a⟩:=f;rw[e]at a;simp at a
variable{g g':S}{v:y}
theorem ij.mono{b:List (List Ar)}(a:ij g v b)(e:∀c∈AD v,g'.get c=g.get c):ij g' v b:=by
 rcases a with a|a
 .exact .inl a
 .exact .inr (yP a e)
theorem Zw.mono{e:List y}{f:Au}(b:Zw g e f)(c:∀a∈Ab e,g'.get a=g.get a):Zw g' e f:=by obtain⟨i,m,h,rfl,j,k,l⟩:=b;exact⟨i,m,h,rfl,j.mono λa b=>c a (by simp[Ab,b]),k.mono λa b=>c a (by simp[Ab,b]),l.mono λa b=>c a (by simp[Ab,b])⟩
theorem Lj.mono{c:List (List y)}{e:List Au}(a:Lj g v c e)(h:∀b∈AD v++c.flatMap Ab,g'.get b=g.get b):Lj g' v c e:=by
 refine⟨?_,a.len,λb l m i j=>(a.each b l m i j).mono λk o=>h k ?_,a.nd⟩
 .rcases a.arr with f|⟨p,f,n⟩
  .exact .inl f
  grind [AD]
 grind
theorem Lj.snoc{g g':S}{v:y}{b:List (List y)}{h:List Au}(c:Lj g v b h){id:u}{e:List y}{l:Au}(A:Zw g' e l)(B:(Ab e).Nodup)(n:g'.get id=J (.arr 3 (b++[e])))(o:∀a∈b.flatMap Ab,g'.get a=g.get a)(s:∀a∈b.flatMap Ab,a∉Ab e)(t:id∉Ab e)(w:id∉b.flatMap Ab):Lj g' (.ii id 0 (U h+1)) (b++[e]) (h++[l]):=by
 refine⟨.inr ⟨id,AG,n⟩,by simp[c.len],λa k r f i=>?_,?_⟩
 .by_cases j:a<U b
  .rw[D8 j]at f;rw[D8 (by rw[<-c.len];exact j)]at i;exact(c.each a k r f i).mono λq p=>o q (BE.2 ⟨k,AP f,p⟩)
  .have:=l_ f;rw[Dl,I3]at this;have m:a=U b:=z;subst m;rw[D6 (D2 _),IF]at f;rw[D6 (by rw[c.len];exact D2 _),c.len,IF]at i;grind
 .have x:=c.nd;grind [AD]
def HF{a:DH}{K:Ah}{i:Fr}{f:KH}{h:CW}{H:S}{e:Nat}{g:List Df}{Q:Di->St->Prop}(j:∀c,c=H->Ud a K i b f ⟨h,c,e,g⟩ Q):Ud a K i b f ⟨h,H,e,g⟩ Q:=j H rfl
def Kb(f:u)(b:Nat)(e:u):Prop:=∀c a,b<=a->e≠c::a::f
def Kb.is{f:u}{c:u}(h:Kb f b c)(a e:Nat):AJ (a::(b+e)::f) c=false:=AI λg=>h a (b+e) z g.symm
theorem Kb.mono{e:u}{a:Nat}{c:u}(g:Kb e b c)(i:b<=a):Kb e a c:=λf h j=>g f h z
def Kt.old{c:u}{a:u}(e:Kt c b a):Kb c b a:=λg h f=>e.ne f
def Ot{a:u}{f:u}(e:AE a f=Z)(b:Nat):Kb a b f:=λc g _ h=>by rw[h,show AE a (c::g::a)=X from Aq [c,g]]at e;cases e
def gZ(a:Nat)(b:a<=1000000):Bq kT 174 [.d (.co [[.int .i64 1]]),nI a] []=.ok (.ret (.d (.co ((Sm a (1:Int)).map AX))),[]):=ANS a b
section
variable{p:Aa}{c:Al}{D:List BJ}{e:Al}{g:S}{B:u}{V:TV}{a:u}
theorem AHp(a0:Ao p c)(a6:Dh p c D e g B V)(bl:Sr a B V):
 ∃cp b1,kT (.fn 132) [.ptr B 0] g a X I=.ok (cp,b1)/\∃v q,cp=.ret v/\Lj b1 v q (Kr p)/\(∀j∈AD v++q.flatMap Ab,∃b,Kt a b j)/\∀j,AE a j=Z->b1.get j=g.get j:=by
 have cq:=bl B zCL;have c9:=AN cq;have c':=Av cq;have de:=a6.box;have cn:=a0.small;simp[Aa.small]at cn;obtain⟨_,dq,dj⟩:=cn;refine M9 ?_ a6 bl a0;clear a6 bl a0;intro a6 bl a0;refine Bf func132 ?_;refine ax ?_;refine Aj p.defs (B0:=λj (i:(y×S)×Nat)=>⟨[(3,i.1.1),(13,.d (.co (p.defs.map Bw))),(14,nI (U p.defs)),(15,nI j)],i.1.2,i.2,[]⟩)
  (Inv:=λj c5 i=>AR ((∃q,Lj i.1.2 i.1.1 q ((p.defs.take j).map PJ)/\∀f∈AD i.1.1++q.flatMap Ab,Kt a i.2 f)/\∀f,AE a f=Z->i.1.2.get f=g.get f)) (b0:=((.d9,g),9)) ⟨⟨[],⟨.inl ⟨rfl,rfl⟩,rfl,λj d4 d5 s=>by simp at s,Az⟩,Az⟩,λ_ _=>rfl⟩ ?_ ?_
 .rintro j d ⟨⟨bv,H⟩,b⟩ ch a' c1 b4 b';have⟨⟨q,t,k⟩,x⟩:=b4.1;dsimp only at t k x;have P:=(Bk a0.1 ch).ok;have c7:=P.ac;have c8:=P.rules;have cu:=gZ (U d.ac) z;have dc:=gZ (U d.rules) z;refine Zt ?_ P t k x;clear P t k x;intro P t k x
  (repeat' (first|simp only[*,go_sem,AM,D1,DL,BD]|(refine sx ?_ ?_<;>intro F)|refine sy z λbx W ad=>?_|simp(disch:=first|assumption|omega) only[Ad]))
  refine HF λb0 b3=>?_;have be:∀f,Kb a b f->b0.get f=H.get f:=λf h=>by have ag:=h.is;exact Ba
  have W:b0.get (0::(b+16)::a)=J (.box [.d (.co ((Sm (U d.ac) (1:Int)).map AX)),.d (.co ((Sm (U d.rules) (1:Int)).map AX)),.d9]):=by rw[b3];simp only[go_sem]
  replace b3:=AB b3;have⟨A,ac⟩:=C6 (d.ac.map λN=>Sm N.many.toNat (1:Int));have az:U A=U d.ac:=by rw[ac];simp
  refine M9 ?_ ac az be;clear ac az be;intro ac az be;refine Aj d.ac (B0:=λm (i:S×Nat)=>⟨[(3,bv),(6,.ptr (0::(b+16)::a) 0),(13,.d (.co (p.defs.map Bw))),(14,nI (U p.defs)),(15,nI j),(31,.d (.co (d.ac.map BW))),(32,nI (U d.ac)),(33,nI m)],i.1,i.2,[]⟩)
   (Inv:=λm c5 i=>AR (b+17<=i.2/\(∀f,Kb a b f->i.1.get f=H.get f)/\∃o,i.1.get (0::(b+16)::a)=J (.box [.d (.co ((Sm (U d.ac) (1:Int)).map AX)),.d (.co ((Sm (U d.rules) (1:Int)).map AX)),o])/\((o=.d9/\m=0)\/∃n,o=.ii (1::n::a) 0 m/\b+17<=n/\n<i.2/\i.1.get (1::n::a)=J (.f8 1 ((A.take m).map E7))))) (b0:=(b0,b+22)) ⟨AZ,be.1,_,W,.inl ⟨rfl,rfl⟩⟩ ?_ ?_
  .rintro m N ⟨G,l⟩ F df cx b5 cc;have⟨r,w,o,hav,K⟩:=b5.1;dsimp only at r w hav K;have d6:SE.wrap ((m:Int)+1)=(m:Int)+1:=w_ z z;obtain⟨n,ad⟩:∃n:Nat,N.many=n:=⟨N.many.toNat,by have:=(P.1.chan N (AP F)).2.2.1;omega⟩;have dn:n<=3:=by have:=(P.1.chan N (AP F)).2.2.2;omega
   have dd:=gZ n z;have d2:∀M,¬l+M=b+16:=λM=>z;clear W;replace w:=AB w;have b2:A[m]?=J (Sm n (1:Int)):=by rw[ac.1,Be,F];simp[ad]
   have T:(A.take (m+1)).map E7=(A.take m).map E7++[E7 (Sm n (1:Int))]:=by rw[Ex,b2];simp
   have c2:((A.take m).map E7).length=m:=by rw[BV,F3,az.1];omega
   replace T:=AB T;replace b2:=AB b2;have bh:∀f,Kb a b f->(∀i M,AJ (i::(l+M)::a) f=Z)/\∀i,AJ (i::(b+16)::a) f=false:=λf h=>⟨(h.mono z).is,λi=>h.is i 16⟩;replace bh:=AB bh;rcases K with⟨rfl,a5⟩|⟨Y,rfl,bo,bs,b7⟩
   .replace r:=AB r;replace a5:=AB a5;clear c2
    (repeat' (first|simp only[*,go_sem,AM,D1,DL,BD]|(refine sx ?_ ?_<;>intro F)|refine sy z λbx W ad=>?_|simp(disch:=first|assumption|omega) only[Ad]))
    refine cc.1 (_,_) (⟨?_,λf h=>?_,.ii (1::(l+12)::a) 0 1,?_,.inr ⟨l+12,?_,?_,?_,?_⟩⟩)
    .have:=r.1;dsimp only;omega
    .have⟨q1,ai⟩:=bh.1 f h;simp only[go_sem,q1,ai,AM];exact w.1 f h
    .simp only[go_sem]
    .rw[a5.1]
    .have:=r.1;omega
    .dsimp only;omega
    .rw[T.1,a5.1];exact zAp
   .have d3:∀M,¬l+M=Y:=λM=>z;generalize (A.take m).map E7=es at*;have ds:es.take m=es:=Bv z;replace r:=AB r
    (repeat' (first|simp only[*,go_sem,AM,D1,DL,BD]|(refine sx ?_ ?_<;>intro F)|refine sy z λbx W ad=>?_|simp(disch:=first|assumption|omega) only[Ad]))
    refine cc.1 (_,_) (⟨?_,λf h=>?_,.ii (1::(l+12)::a) 0 (m+1),?_,.inr ⟨l+12,rfl,?_,?_,?_⟩⟩)
    .grind
    .have⟨q1,ai⟩:=bh.1 f h;have c4:=AI λL=>h 1 Y z (Eq.symm L);simp only[go_sem,q1,ai,c4,AM];exact w.1 f h
    .simp only[go_sem]
    .have:=r.1;omega
    .dsimp only;omega
    .rw[T.1];exact zAp
  .rintro m ⟨G,l⟩ F cx b5;have⟨r,w,o,hav,K⟩:=b5.1;dsimp only at r w hav K;have k:=k.1;have b6:=F.1;rw[b6,<-az.1,F2]at K;have Q:ij G o (A.map E7)/\∀f∈AD o,Kt a l f/\∃n,b+17<=n/\f=1::n::a:=by
    rcases K with⟨rfl,av⟩|⟨Y,rfl,bo,bs,b7⟩
    .refine⟨.inr (.inl (.inl ⟨rfl,?_⟩)),λf h=>by cases h⟩;grind
    .refine⟨.inr (.inl (.inr ⟨_,[],by rw[BV],by grind⟩)),λf h=>?_⟩;simp[AD]at h;subst h;exact⟨⟨⟨Y,bs,q_a.2 (FD 1 _)⟩,_,rfl⟩,Y,bo,rfl⟩
   have O:=t.1.mono λf h=>w f (k f h).old;have bi:∀C,(∀f∈AD o,C.get f=G.get f)->Zw C [.d (.co ((Sm (U d.ac) (1:Int)).map AX)),.d (.co ((Sm (U d.rules) (1:Int)).map AX)),o] (PJ d):=λC cv=>⟨_,_,_,rfl,.inl rfl,.inl rfl,by show ij C o ((d.ac.map λN=>Sm N.many.toNat (1:Int)).map E7);rw[<-ac.1];exact Q.1.mono cv⟩;have T:(p.defs.take (j+1)).map PJ=(p.defs.take j).map PJ++[PJ d]:=by rw[Ex,ch];simp
   have a2:((p.defs.take j).map PJ).length=j:=zDH
   have b8:=O.len;rw[a2]at b8;have dr:q.take j=q:=Bv z;have⟨row,R⟩:=C6 ([y.d (.co ((Sm (U d.ac) (1:Int)).map AX)),y.d (.co ((Sm (U d.rules) (1:Int)).map AX)),o]);have aa:Ab row=AD o:=by rw[R];simp[Ab,AD]
   rw[<-R]at bi;have a4:(AD o).Nodup:=by rcases K with⟨rfl,av⟩|⟨Y,rfl,bo,bs,b7⟩<;>simp[AD]
   have ar:∀f,Kt a b f->f∉AD o:=λf h s=>by obtain⟨_,n,cu,rfl⟩:=Q.2 f s;exact h.ne (a:=1) (m:=n) z rfl
   have a3:∀(C:S),C.get (1::(l+4)::a)=J (.arr 3 (q++[row]))->(∀f,Kb a l f->f∉AD bv->C.get f=G.get f)->Lj C (.ii (1::(l+4)::a) 0 (j+1)) (q++[row]) ((p.defs.take (j+1)).map PJ):=λC cs cd=>by have cm:=O.nd;rw[D0]at cm;have:=O.snoc (id:=1::(l+4)::a) (bi C λf h=>cd f (Q.2 f h).1.old λs=>ar f (k f (Ac.2 (.inl s))) h) (by rw[aa];exact a4) cs (λf h=>cd f ((k f (Ac.2 (.inr h))).mono z).old λs=>cm.2.2 f s f h rfl) (λf h s=>ar f (k f (Ac.2 (.inr h))) (aa▸s)) (λs=>(Q.2 _ (aa▸s)).1.ne (a:=1) (m:=l+4) z rfl) (λs=>(k _ (Ac.2 (.inr s))).ne (a:=1) (m:=l+4) z rfl);grind
   have a1:∀f∈AD (.ii (1::(l+4)::a) 0 (j+1))++(q++[row]).flatMap Ab,Kt a (l+8) f:=λf h=>by
    simp only[AD,Ac,AS,JP,FN,Nl,CS,aa]at h;rcases h with rfl|h|h
    .exact⟨⟨l+4,z,q_a.2 (FD 1 _)⟩,_,rfl⟩
    .exact(k f (Ac.2 (.inr h))).mono z
    .exact(Q.2 f h).1.mono z
   have bk:=λf h=>k f (Ac.2 (.inl h));have c6:o.q_b=true:=by rcases K with⟨rfl,av⟩|⟨Y,rfl,bo,bs,b7⟩<;>rfl
   replace K:=AB K;replace b6:=AB b6;replace w:=AB w;replace Q:=AB Q;replace bi:=AB bi;replace T:=AB T;refine xp ?_ a2 R aa a4 ar a3 a1 bk k;clear a2 R aa a4 ar a3 a1 bk k;intro a2 R aa a4 ar a3 a1 bk k;rcases O.arr with⟨rfl,av⟩|⟨b9,rfl,c0⟩
   .replace O:=AB O;replace r:=AB r
    (repeat' (first|simp only[*,go_sem,AM,D1,DL,BD]|(refine sx ?_ ?_<;>intro F)|refine sy z λbx W ad=>?_|simp(disch:=first|assumption|omega) only[Ad]))
    have c3:j=0:=by rw[av]at b8;exact b8.symm
    refine b'.1 ((_,_),_) (⟨⟨q++[row],?_,?_⟩,λf h=>?_⟩)
    .have key:=a3.1;rw[c3]at key⊢;refine key _ ?_ ?_
     .rw[R.1,av];simp only[go_sem]
     .intro f h cl;have ag:=h.is;exact Ba
    .have:=a1.1;grind
    .have ag:=AN h;simp only[go_sem,ag,AM];exact(w.1 f (Ot h _)).trans (x.1 f h)
   .rw[a2.1];have bn:=bk.1 b9 Az;have dx:=(bn.mono (show b<=l by omega)).old.is;have d0:=λi M=>AI λL=>bn.ne (a:=i) (m:=l+M) z L;have dm:=c0;have d1:AJ b9 (0::(b+16)::a)=false:=AI λL=>bn.ne0 _ L;replace O:=AB O;replace r:=AB r
    (repeat' (first|simp only[*,go_sem,AM,D1,DL,BD]|(refine sx ?_ ?_<;>intro F)|refine sy z λbx W ad=>?_|simp(disch:=first|assumption|omega) only[Ad]))
    refine b'.1 ((_,_),_) (⟨⟨q++[row],a3.1 _ ?_ ?_,a1.1⟩,λf h=>?_⟩)
    .rw[R.1];exact zAp
    .intro f h cl;have ag:=h.is;have ai:=AI λL=>cl (by rw[AD,AS];exact Eq.symm L);exact Ba
    .have ag:=AN h;have ai:AJ b9 f=false:=AI λL=>by rw[<-L,bn.up]at h;cases h
     simp only[go_sem,ag,ai,AM];exact(w.1 f (Ot h _)).trans (x.1 f h)
 .rintro j ⟨⟨bv,H⟩,b⟩ a' c1 b4;have⟨⟨q,t,k⟩,x⟩:=b4.1;have bc:=a'.1;rw[bc,F2]at t;dsimp only at t k x;refine Zt ?_ bc t k x;clear bc t k x;intro bc t k x;refine ax ?_;exact⟨bv,q,rfl,t.1,λj a'=>⟨b,k.1 j a'⟩,x.1⟩
end
def p4(d:Bd)(A8:Au):Bool:=decide (U A8.ac=U d.ac)&&(decide (U A8.rules=U d.rules)&&decide (U A8.args=U d.ac))
def YK:List HV->List Al->Bool
 |ch::cs,l::ls=>if decide ((U l:Int)=ch.many)then YK cs ls else Z|_,_=>X
def xP(d:Bd)(A8:Au):Bool:=p4 d A8&&YK d.ac A8.args
def Pw:List Bd->List Au->Bool
 |d::ds,A8::us=>if xP d A8 then Pw ds us else Z|_,_=>X
def TH(p:Aa)(T:List Au):Bool:=decide (U T=U p.defs)&&(Pw p.defs T&&DA m3 T T)
theorem bf:∀{e:List HV} {f:List Al},YK e f=X->∀(b:Nat) ch l,e[b]?=J ch->f[b]?=J l->(U l:Int)=ch.many
 |[],_,_,b,ch,l,a,_=>by simp at a|_::_,[],_,b,ch,l,_,a=>by simp at a|c::e,x::f,a,b,ch,l,h1,h2=>by
  rw[YK]at a;split at a
  .rename_i g;rcases b with _|b
   .grind
   .exact bf a b ch l zC4 (by simpa using h2)
  .cases a
theorem YL:∀{e:List Bd} {f:List Au},Pw e f=X->∀(b:Nat) d A8,e[b]?=J d->f[b]?=J A8->xP d A8=X
 |[],_,_,b,d,A8,a,_=>by simp at a|_::_,[],_,b,d,A8,_,a=>by simp at a|c::cs,x::ls,a,b,d,A8,h1,h2=>by
  rw[Pw]at a;split at a
  .rename_i g;rcases b with _|b
   .grind
   .exact YL a b d A8 zC4 (by simpa using h2)
  .cases a
theorem lO{c:Aa}{a:List Au}(b:TH c a=X):W1 c a:=by simp[TH]at b;obtain⟨e,f,_⟩:=b;refine⟨e,λd j i h g=>?_⟩;have k:=YL f d j i h g;grind [xP,p4,bf]
theorem vU(b:List Au):NK b b:=⟨rfl,λd h v c a=>by rw[c]at a;cases a;exact⟨rfl,rfl,rfl,λe f g c a=>by grind⟩⟩
section
variable{p:Aa}{c:Al}{D:List BJ}{e:Al}{g:S}{B:u}{V:TV}{a:u}
theorem AJU(s:Ao p c)(F:Dh p c D e g B V)(L:Sr a B V){h:List Au}(o:N5 h):
 ∃az a',kT (.fn 140) [.ptr B 0,Dv h] g a X (J a)=.ok (az,a')/\az=.ret (.d (.bool (TH p h))):=by
 have a0:=L B zCL;have bn:=AN a0;have bo:=Av a0;have bs:=F.box;have ar:=s.small;simp[Aa.small]at ar;obtain⟨_,b2,bv⟩:=ar;have ag:=nP (vU h) o;have⟨R,n⟩:=C6 (TH p h);rw[<-n];rw[TH]at n;refine Zt ?_ F L s o;clear F L s o;intro F L s o;by_cases v:U h=U p.defs
 .rw[GO v,Jp]at n;have T:((U h:Int)=(U p.defs:Int)):=z;replace v:=AB v;have⟨K,Q⟩:=C6 (DA m3 h h);rw[<-Q]at ag n;replace n:=AB n;replace Q:=AB Q;refine Bf func140 ?_;refine ax ?_;refine Aj p.defs (B0:=λj (w:S×Nat)=>⟨[(1,Dv h),(23,.d (.co (p.defs.map Bw))),(24,nI (U p.defs)),(25,nI j)],w.1,w.2,[]⟩)
   (Inv:=λj W _=>AR ((Pw W (h.drop j)&&K)=R)) (b0:=(_,_)) ⟨n.1.symm⟩ ?_ ?_
  .rintro j d ⟨H,b⟩ be ad bh O a1;have b4:SE.wrap ((j:Int)+1)=(j:Int)+1:=w_ z z;have⟨A8,hT2⟩:=g_ (l:=h) (i:=j) (by rw[v.1];exact ad);have bx:(j:Int)<U h:=by have:=l_ hT2;omega
   have f:=O.1;rw[EY hT2,Pw,xP,p4]at f;have a6:=(Bk s.1 be).ok;have ai:=o.1.2 A8 (AP hT2);have bl:=a6.ac;have b3:∀av,¬b+3+av=b:=λav=>z;replace ai:=AB ai;replace T:=AB T;by_cases k:U A8.ac=U d.ac
   .have a4:((U A8.ac:Int)=(U d.ac:Int)):=z;by_cases q:U A8.rules=U d.rules
    .have a5:((U A8.rules:Int)=(U d.rules:Int)):=z;by_cases r:U A8.args=U d.ac
     .have x:((U A8.args:Int)=(U d.ac:Int)):=z;rw[GO k,GO q,GO r]at f;simp only[Jp]at f;refine Zt ?_ k q r f;clear k q r f;intro k q r f
      (repeat' (first|simp only[*,go_sem,AM,D1,DL]|(refine sx ?_ ?_<;>intro t)|refine sy z λY M o=>?_|simp(disch:=first|assumption|omega) only[Ad]))
      refine HF λaa N=>?_;have M:aa.get (0::(b+4)::a)=J (.box [.d (.co (d.ac.map BW)),.d (.co (d.be.map BH)),.d (.co (d.rules.map BR))]):=by rw[N];simp only[go_sem,DL,AM]
      replace N:=AB N;have⟨B0,m⟩:=C6 (YK d.ac A8.args);rw[<-m]at f;replace x:=AB x;refine CZ A8.args (U d.ac:Int) (B0:=λbk l (w:Nat)=>⟨[(1,Dv h),(6,.ptr (0::(b+4)::a) 0),(23,.d (.co (p.defs.map Bw))),(24,nI (U p.defs)),(25,nI j),(60,.d (.co (A8.args.map E7))),(61,nI bk),(62,nI l)],aa,w,[]⟩)
       (Inv:=λl W _=>AR (YK (d.ac.drop l) W=B0)) (b0:=_) x.1.symm ⟨m.symm⟩ ?_ ?_
      .rintro l bi a3 b1 t bc P a2;have b5:SE.wrap ((l:Int)+1)=(l:Int)+1:=w_ z z;have⟨ch,hch⟩:=g_ (l:=d.ac) (i:=l) (by have:=r.1;omega);have b0:(l:Int)<U A8.args:=z;have i:=P.1;rw[EY hch,YK]at i;by_cases ac:(U bi:Int)=ch.many
       .rw[GO ac,D4 rfl]at i;replace i:=AB i;replace m:=AB m;exact ax (a2.1 _ i)
       .rw[I6 ac,Co Af]at i;have C:R=false:=by have:=f.1;rw[<-i]at this;simpa using this.symm
        rw[C];refine M9 ?_ C i m;clear C i m;intro C i m;exact af
      .rintro l a3 t bc P;have i:B0=true:=by have:=P.1;rw[<-this];cases d.ac.drop l<;>rfl
       have A:(Pw (p.defs.drop (j+1)) (h.drop (j+1))&&K)=R:=by have:=f.1;rw[i]at this;simpa using this
       refine M9 ?_ i A m;clear i A m;intro i A m;exact ax (a1.1 (_,_) A)
     .have x:¬((U A8.args:Int)=(U d.ac:Int)):=z;rw[I6 r]at f;simp only[Ls,F8,AM,Ge]at f;rw[<-f];refine M9 ?_ k q f;clear k q f;intro k q f
      exact zAZ
    .have a5:¬((U A8.rules:Int)=(U d.rules:Int)):=z;rw[I6 q]at f;simp only[Ls,F8,AM,Ge]at f;rw[<-f];replace k:=AB k;replace f:=AB f
     exact zAZ
   .have a4:¬((U A8.ac:Int)=(U d.ac:Int)):=z;rw[I6 k]at f;simp only[F8,AM,Ge]at f;rw[<-f];replace f:=AB f
    exact zAZ
  .rintro j ⟨H,b⟩ ad bh O;have f:=O.1;rw[Pw]at f
   .rw[Jp]at f;rw[<-f];replace f:=AB f;exact af
   grind
 .rw[I6 v,F8]at n;have T:¬((U h:Int)=(U p.defs:Int)):=z;subst n;clear ag;refine Bf func140 ?_;exact af
end
section
variable{p:Aa}{a:Al}{D:List BJ}
def qu(p:Aa)(D:List BJ)(c:Int):Prop:=∀a∈den D c,0<=a.2.1/\0<=a.2.2/\∃d b,p.defs[a.2.1.toNat]?=J d/\d.ac[a.2.2.toNat]?=J b
theorem AEK(l:Ao p a)(k:Fh p a D){e:Int}{i:CQ}(j:0<=e)(f:p.nodes[e.toNat]?=J i)(g:qu p D e){h:Int}(m:h∈HC p e):qu p D h:=by
 unfold qu;rw[fE k j f (K6.2 m),aO,f];dsimp only;split
 .rename_i n;have⟨x0,x1,_⟩:=E6 l f n;have⟨d,hd⟩:=g_ (l:=p.defs) (i:=i.n.toNat) z;intro o b;rcases Ac.1 b with b|b
  .exact g o b
  .rw[GZ,EX]at b;obtain⟨q,c,rfl⟩:=b;have c:=OL.1 c;rw[hd]at c;simp at c;have⟨ch,hch⟩:=g_ (l:=d.ac) (i:=q) c;grind
 .exact g
def bH(i:Ao p a)(h:Fh p a D):∀{g:Nat} {e f:Int},UX p g e->qu p D e->f∈FK p g e->qu p D f
 |0,e,f,c,_,_=>c.elim|g+1,e,f,c,hk,b=>by
  rw[FK]at b;rcases DO.1 b with rfl|b
  .exact hk
  .have⟨q,hq,b⟩:=BE.1 b;have⟨x,hx⟩:=c.2.1;exact bH i h (c.2.2 q hq) (AEK i h c.1 hx hk hq) b
theorem fC(i:Ao p a)(e:Dz p)(c:Fh p a D):iw p D:=λg m h j=>by
 have f:=kK j;have key:∀b:Nat,b<U p.nodes->qu p D b:=λb n=>bH i c e.main (by unfold qu;rw[c.main];intro o l;cases l) (e.all b (HU b) z);by_cases k:g.toNat<U p.nodes
 .have:=key g.toNat k (m,h) (by grind [den]);exact this
 .rw[den,MT.2 (by rw[c.len];omega)]at f;cases f
def oG(b:List y):List u:=b.map λa=>match a with|.mp m=>m|_=>[]
theorem eF.text{k:S}{B N:u}{q:y}{b:List y}{o:Al}{M:u->Prop}(g:eF p a D k B N q b o M)(s:∀c:Nat,c<U p.nodes->Fl b c):Dh p a D o k B ⟨N,oG b,q⟩:=by
 have t:∀c:Nat,∀f,b[c]?=J f->∃i,f=.mp i:=λc f h=>by have⟨i,j⟩:=s c (by rw[<-g.len];exact l_ h);grind
 have r:b.map (λf=>[f])=(oG b).map λi=>[.mp i]:=by
  apply Lt;intro v;rw[Be,Be,oG,Be];rcases h:b[v]? with _|f
  .rfl
  .grind
 have n:(oG b).length=U b:=by simp[oG]
 refine⟨?_,?_,n.trans g.len,λc i j=>?_,?_⟩
 .rw[n];exact g.box
 .rw[<-r];exact g.arr
 .rw[oG,Be]at j;have⟨f,h,e⟩:=BY.1 j;obtain⟨x,rfl⟩:=t c f h;dsimp only at e;subst e;exact(g.maps c x h).2
 .rcases g.hd with⟨l,m⟩|⟨w,l,m⟩
  .exact .inr ⟨l,by rw[m];rfl⟩
  .exact .inl (.inr ⟨w,[],by grind,by grind⟩)
def wY(p:Aa)(a:Al)(D:List BJ)(f:u)(c:BG×S):Prop:=∃B V b,c.1=.ret (.ptr B 0)/\Dh p a D b c.2 B V/\Mz p b/\∀e∈V.ids B,AE f e=X
theorem nj(e:G)(b:u)(a:Nat)(h:0<a)(i:a<=1073741824):Gh e b a vw=J ⟨.ii (1::b) 0 a,[(1::b,.arr 1 (Sm a [.d .nilm]))]⟩:=by
 obtain⟨c,rfl⟩:∃c,a=c+1:=⟨a-1,z⟩;have g:Fm 1 (Sm (c+1) [y.d .nilm])=true:=by rw[<-MN];rw[EL];intro j f;rw[(I0.1 f).2];rfl
 show q_h e b vw (Sm (c+1) [.d .nilm])=_;grind [Q6,iB,BS,VH]
def AOp{a:Al}(g:U a=U p.defs)(e:∀b:Int,0<=b->b<U p.nodes->Hd p a b):Mz p a:=⟨g,λi j f c h=>e i f (by have:=l_ c;omega) j c h⟩
def cR:Lh [] []:=⟨λi=>by simp[CD,HG],rfl,AG⟩
def pY{j:Bu}(Y:Ao p j.eq)(o:Dz p){f l:Nat}{g:u}{B N:u}{k:y}{C n:S}{x:List y}{H:Al}{M:u->Prop}{w:BG}(Q:AE (f::g) B=X)(V:AE (f::g) N=X)(R:∀b∈AD k,AE (f::g) b=X)(T:∀b,M b->AE (f::g) b=X)(q:B8 (l::f::g) B N k M)(D:wU p j.eq (Dg p j.eq) B N k (l::f::g) C x H M (FK p (U p.nodes+1) p.main) w n):w=.ret (.kw [])/\wY p j.eq (Dg p j.eq) (f::g) (.ret (.ptr B 0),gc (l::f::g) n):=by
 obtain⟨F,A,K,W,i,aa,P,ac,ad,ag,t⟩:=D;refine⟨F,B,⟨N,oG A,k⟩,K,rfl,?_,AOp i.hlen λb L O=>(t b (o.all b L O)).2,λb a=>?_⟩
 .refine(i.mono (g':=gc (l::f::g) n) λb a=>?_).text λh r=>(t h (o.all h (HU h) z)).1;rcases a with a|a|a|a
  .exact An _ _ _ (q.all (.inl a))
  .exact An _ _ _ (q.all (.inr (.inl a)))
  .exact An _ _ _ (q.all (.inr (.inr (.inl a))))
  .obtain⟨ai,rfl⟩:=i.tag b a;exact FC _ _ _
 .simp[TV.ids]at a;rcases a with rfl|rfl|a|a
  .exact Q
  .exact V
  .obtain⟨h,r⟩:=Ce a;rw[oG,Be]at r;have⟨c,hc,e⟩:=BY.1 r;have⟨m,v⟩:=(t h (o.all h (HU h) (by have:=l_ hc;rw[i.len]at this;omega))).1;rw[Es,hc]at v;cases v;subst e;rcases P _ (i.maps h _ hc).1 with s|s
   .exact T _ s
   .exact s.out.up
  .exact R b a
theorem yJ{g:Bu}(n:∀O∈p.free,O.size<=maxLen)(k:looks p=J g)(a:Nat)(b:u):∃x,Bq kT 131 [pA p] (a::b)=.ok x/\wY p g.eq (Dg p g.eq) (a::b) x:=by
 have h:=En k;have f:=Oh k;have i:=Qq f g.eq;have w:=ADR p n;rw[k]at w;simp[O1]at w;have v:=h.small;simp[Aa.small]at v;obtain⟨_,T,Q⟩:=v;have R:0<U p.nodes:=by have:=f.main;obtain⟨P,⟨A,t⟩,_⟩:=this;have:=l_ t;omega
 have V:(0:Int)<U p.nodes:=z;refine YO ?_ h f i n k;clear h f i n k;intro h f i n k;by_cases K:U p.defs=0
 .refine XP func131 ?_
  (repeat' (first|simp only[*,go_sem]|(refine sx ?_ ?_<;>intro F)|refine sy z λA t s=>?_|simp(disch:=first|assumption|omega) only[Ad,Dm,nj]))
  have q:bA (0::12::a::b) (1::6::a::b) .emp:=⟨AG,Az,Az⟩;have l:B8 (27::a::b) (0::12::a::b) (1::6::a::b) .emp λe=>e=1::26::a::b:=⟨Fx 27 0 12 (a::b) z,Fx 27 1 6 (a::b) z,λe c=>(by cases c),λe c=>(by grind [Fx]),AG,AG,λe c=>(by cases c)⟩;have r:∀H,H.get (0::12::a::b)=J (.box [.d (.co (p.free.map CK)),.d (.co (p.nodes.map Bl)),.d (.co (p.defs.map Bw)),nI p.main,.ii (1::6::a::b) 0 (U p.nodes),.d (.co (g.eq.map AX)),.emp])->H.get (1::6::a::b)=J (.arr 1 (Sm (U p.nodes) [.d .nilm]))->eF p g.eq (Dg p g.eq) H (0::12::a::b) (1::6::a::b) .emp (Sm (U p.nodes) (.d .nilm)) [] λe=>e=1::26::a::b:=λH C o=>by refine⟨by grind,by rw[o,LM],AG,λM L s=>?_,.inl ⟨rfl,rfl⟩,by simp[K],λe c=>⟨_,c⟩⟩;grind
  refine Ak (fM h.1 f.1 i.1 q _ f.1.main _ _ _ _ _ _ [] (r _ ?_ ?_) l rfl ?_ (by rw[i.1.main];exact cR)) (λN B m=>?_)
  .simp only[go_sem]
  .simp only[go_sem]
  .simp only[go_sem]
  obtain⟨rfl,j⟩:=pY h.1 f.1 (Aq [0,12]) (Aq [1,6]) (λe c=>by cases c) (λe c=>by subst c;exact Aq [1,26]) l m;clear m;replace j:=AB j;exact aw j.1
 .refine XP func131 ?_
  (repeat' (first|simp only[*,go_sem]|(refine sx ?_ ?_<;>intro F)|refine sy z λA t s=>?_|simp(disch:=first|assumption|omega) only[Ad,Dm,nj]))
  have q:bA (0::12::a::b) (1::6::a::b) (.ii (1::10::a::b) 0 (U p.defs)):=⟨AG,Az,Az⟩;have l:B8 (27::a::b) (0::12::a::b) (1::6::a::b) (.ii (1::10::a::b) 0 (U p.defs)) λe=>e=1::26::a::b:=⟨Fx 27 0 12 (a::b) z,Fx 27 1 6 (a::b) z,λe c=>(by grind [AD,Fx]),λe c=>(by grind [Fx]),AG,AG,λe c=>(by grind [AD])⟩;have r:∀H,H.get (0::12::a::b)=J (.box [.d (.co (p.free.map CK)),.d (.co (p.nodes.map Bl)),.d (.co (p.defs.map Bw)),nI p.main,.ii (1::6::a::b) 0 (U p.nodes),.d (.co (g.eq.map AX)),.ii (1::10::a::b) 0 (U p.defs)])->H.get (1::6::a::b)=J (.arr 1 (Sm (U p.nodes) [.d .nilm]))->H.get (1::10::a::b)=J (.f8 1 ((Sm (U p.defs) (0:Int)).map AX))->eF p g.eq (Dg p g.eq) H (0::12::a::b) (1::6::a::b) (.ii (1::10::a::b) 0 (U p.defs)) (Sm (U p.nodes) (.d .nilm)) (Sm (U p.defs) 0) λe=>e=1::26::a::b:=λH C o D=>by refine⟨by grind,by rw[o,LM],AG,λM L s=>?_,.inr ⟨_,by rw[IN],D⟩,AG,λe c=>⟨_,c⟩⟩;grind
  refine Ak (fM h.1 f.1 i.1 q _ f.1.main _ _ _ _ _ _ [] (r _ ?_ ?_ ?_) l rfl ?_ (by rw[i.1.main];exact cR)) (λN B m=>?_)
  .simp only[go_sem]
  .simp only[go_sem]
  .simp only[go_sem]
  .simp only[go_sem]
  obtain⟨rfl,j⟩:=pY h.1 f.1 (Aq [0,12]) (Aq [1,6]) (λe c=>by simp[AD]at c;subst c;exact Aq [1,10]) (λe c=>by subst c;exact Aq [1,26]) l m;clear m;replace j:=AB j;exact aw j.1
end
def XW(e:S)(a:y)(b:List Au)(W:List u):Prop:=(a=Dv b/\W=[])\/∃c,Lj e a c b/\W=AD a++c.flatMap Ab
def Rq(g:S)(W:List u)(H:S):Prop:=∀i∈W,H.get i=g.get i
variable{g:S}{v:y}
theorem AKy{a:List (List Ar)}(b:Ub g 1 v a):Fz g.get v=J (.co a):=by
 rcases b with(⟨rfl,rfl⟩|⟨e,f,rfl,c⟩)|⟨rfl,rfl⟩
 .rfl
 .grind [Fz,Kj]
 .rfl
theorem AIw{b:List (List Ar)}(a:ij g v b):Fz g.get v=J (.co b):=by
 rcases a with rfl|a
 .rfl
 .exact AKy a
theorem QO{g:S}:∀{rows:List (List y)} {T:List Au},U rows=U T->(∀(c:Nat) a b,rows[c]?=J a->T[c]?=J b->Zw g a b)->EN g.get rows=J (T.map kf)
 |[],[],_,_=>rfl|[],_::_,h,_=>by simp at h|_::_,[],h,_=>by simp at h|a::rows,b::T,h,he=>by obtain⟨j,o,i,rfl,k,l,m⟩:=he 0 a b rfl rfl;have n:=QO (g:=g) (rows:=rows) (T:=T) zCP λc a b e f=>he (c+1) a b zCx zCm;grind [EN,Ef,AIw,kf]
theorem QZ{e:List (List y)}{b:List Au}(a:Lj g v e b):FM g.get v=J (Dv b):=by
 rcases a.arr with⟨rfl,c⟩|⟨i,rfl,h⟩
 .have:=a.len;rw[c]at this;rw[CE this.symm];rfl
 .have f:=QO a.len a.each;grind [FM,EB,Kj]
variable{H:S}{a:y}{W:List u}
theorem XW.mono{c:List Au}(b:XW g a c W)(f:Rq g W H):XW H a c W:=by
 rcases b with b|⟨h,e,rfl⟩
 .exact .inl b
 .exact .inr ⟨h,e.mono f,rfl⟩
def XW.frz{b:List Au}(c:XW g a b W):FM g.get a=J (Dv b):=by
 rcases c with⟨rfl,_⟩|⟨f,e,_⟩
 .rfl
 .exact QZ e
theorem ABV(e:∀a∈AD v,H.get a=g.get a):JQ H.get v=JQ g.get v:=by cases v with|ii f c b=>grind [JQ,AD]|_=>rfl
theorem uD:∀{l:List y},(∀i∈Ab l,H.get i=g.get i)->Ck H.get l=Ck g.get l
 :=by intro x;induction x<;>grind [Ck,ABV,Ab]
theorem XW.mark{j:List Au}(l:XW g a j W)(h:Rq g W H):Abs.mark H.get a=Abs.mark g.get a:=by
 rcases l with⟨rfl,_⟩|⟨v,f,rfl⟩
 .rfl
 .have A:=h;rcases f.arr with⟨rfl,x⟩|⟨s,rfl,m⟩
  .rfl
  .have o:=h s Az;simp[Abs.mark,MF,Ct,o,m];rw[QO f.len f.each,QO (g:=H) f.len λe b w c r=>(f.each e b w c r).mono λt p=>h t (Ac.2 (.inr (BE.2 ⟨b,AP c,p⟩)))];have:∀i:List (List y),(∀b∈i,∀e∈Ab b,H.get e=g.get e)->i.flatMap (Ck H.get)=i.flatMap (Ck g.get):=λi q=>YN λb c=>uD (q b c);have k:=this v λb c e n=>h e (Ac.2 (.inr (BE.2 ⟨b,c,n⟩)));dsimp only;rw[k]
theorem AGD{g:G}:∀a∈JQ g v,a.1∈AD v:=λa c=>by cases v with|ii f e b=>grind [JQ,AD]|_=>cases c
theorem Dk{i:u}:∀{l:List y} {v:y},v∈l->i∈AD v->i∈Ab l
 :=by intro x;induction x<;>grind [Ab]
theorem XW.mark_in{f:List Au}(h:XW g a f W):∀e∈Abs.mark g.get a,e.1∈W:=λe b=>by
 rcases h with⟨rfl,_⟩|⟨l,c,rfl⟩
 .cases b
 .rcases c.arr with⟨rfl,j⟩|⟨k,rfl,i⟩
  .cases b
  .simp only[Abs.mark,MF,FN,Nl,CS,Ct,i,QO c.len c.each]at b;rcases DO.1 b with rfl|b
   .simp[AD]
   .have⟨r,hr,b⟩:=BE.1 b;have⟨v,hv,b⟩:=BE.1 b;grind [Dk,AGD]
theorem QK{a:u}:∀{b H:S},(∀c∈b,c.1≠a)->(H.q_d b).get a=H.get a
 |[],H,_=>rfl|(k,o)::b,H,h=>by show((H.put k o).q_d b).get a=_;rw[QK λc e=>h c (Bi _ e),BU _ _ (h (k,o) (CO ..)).symm]
def B6(G:S)(v:y)(a:Al):Prop:=((v=.d9\/v=.emp)/\a=[])\/∃b,v=.ii b 0 (U a)/\G.get b=J (.f8 1 (a.map AX))
variable{h:S}{l:Al}
theorem B6.mono{G:S}(a:B6 G v l)(e:∀b∈AD v,h.get b=G.get b):B6 h v l:=by
 rcases a with a|⟨c,rfl,a⟩
 .exact .inl a
 .exact .inr ⟨c,rfl,by grind [AD]⟩
structure Zu(G:S)(ρ:u)(b:Nat)(vs:List y)(L:List Al):Prop:=
 len:U vs=U L
 each:∀(c:Nat) v l,vs[c]?=J v->L[c]?=J l->B6 G v l
 new:∀i∈Ab vs,∃m,16<=m/\m<b/\i=1::m::ρ
 nd:(Ab vs).Nodup
variable{b b':Nat}{L:List Al}
theorem Zu.mono{G:S}{i:u}{f:List y}(c:Zu G i b f L)(o:b<=b')(k:∀a∈Ab f,h.get a=G.get a):Zu h i b' f L:=⟨c.len,λj v l g n=>(c.each j v l g n).mono λa e=>k a (Dk (AP g) e),λa e=>by have⟨m,h1,h2,h3⟩:=c.new a e;grind,c.nd⟩
theorem P3{i:u}:∀{l:List y} {c:Nat} {v:y},i∈Ab (l.set c v)->i∈AD v\/i∈Ab l
 |[],c,v,h=>by cases h|w::l,0,v,h=>by grind [Ab]|w::l,c+1,v,h=>by
  rw[List.set_cons_succ,Ab,Ac]at h;rcases h with h|h
  .grind [Ab]
  .rcases P3 h with h|h
   .exact .inl h
   grind [Ab]
theorem SI:∀{l:List y} {a:Nat} {v:y},(Ab l).Nodup->(AD v).Nodup->(∀c∈AD v,c∉Ab l)->(Ab (l.set a v)).Nodup
 |[],a,v,h,_,_=>h|w::l,0,v,h,hv,hd=>by grind [Ab]|w::l,a+1,v,h,hv,hd=>by
  rw[Ab,D0]at h;rw[List.set_cons_succ,Ab,D0];refine⟨h.1,SI h.2.1 hv λc f b=>hd c f (by grind [Ab]),λj g k i e=>?_⟩;rcases P3 i with b|b
  .grind [Ab]
  .exact h.2.2 j g k b e
theorem Zu.set{G:S}{n:u}{m:List y}(f:Zu G n b m L)(x:b<=b'){c:Nat}(A:B6 h v l)(t:∀a∈AD v,∃e,b<=e/\16<=e/\e<b'/\a=1::e::n)(q:(AD v).Nodup)(s:∀a∈Ab m,h.get a=G.get a):Zu h n b' (m.set c v) (L.set c l):=by
 refine⟨by simp[f.len],λo w e i k=>?_,λa j=>?_,SI f.nd q λa g p=>?_⟩
 .rw[F5]at i k;by_cases r:c=o
  .grind
  .rw[Co r]at i k;exact(f.each o w e i k).mono λa j=>s a (Dk (AP i) j)
 .rcases P3 j with g|g
  .grind
  .have⟨e,p,h3,h4⟩:=f.new a g;grind
 .obtain⟨e,B,_,_,rfl⟩:=t a g;have⟨m2,_,q2,q3⟩:=f.new _ p;grind
def Yd:∀{b:List y} {e f:Nat} {v c:y} {a:u},(Ab b).Nodup->b[e]?=J v->b[f]?=J c->a∈AD v->a∈AD c->e=f
 |[],e,f,v,c,a,_,h,_,_,_=>by simp at h|x::b,0,0,v,c,a,_,_,_,_,_=>rfl|x::b,0,f+1,v,c,a,hn,h1,h2,h3,h4=>by simp at h1 h2;subst h1;rw[Ab,D0]at hn;exact absurd rfl (hn.2.2 a h3 a (Dk (AP h2) h4))|x::b,e+1,0,v,c,a,hn,h1,h2,h3,h4=>by simp at h1 h2;subst h2;rw[Ab,D0]at hn;exact absurd rfl (hn.2.2 a h4 a (Dk (AP h1) h3))|x::b,e+1,f+1,v,c,a,hn,h1,h2,h3,h4=>by simp at h1 h2;rw[Ab,D0]at hn;rw[Yd hn.2.1 h1 h2 h3 h4]
theorem Zu.put{G:S}{r:u}{b b':Nat}{k:List y}{L:List Al}(c:Zu G r b k L)(B:b<=b'){g:Nat}{j:u}{l n:Al}(p:k[g]?=J (.ii j 0 (U l)))(w:L[g]?=J l)(x:U n=U l){h:S}(t:h.get j=J (.f8 1 (n.map AX)))(v:∀a∈Ab k,a≠j->h.get a=G.get a):Zu h r b' k (L.set g n):=by
 refine⟨by simp[c.len],λo A q f e=>?_,λa i=>?_,c.nd⟩
 .rw[F5]at e;by_cases m:g=o
  .subst m;rw[D4 rfl,D4 (l_ w)]at e;cases e;rw[p]at f;cases f;exact .inr ⟨j,by rw[x],t⟩
  .rw[Co m]at e;refine(c.each o A q f e).mono λa i=>v a (Dk (AP f) i) λs=>m ?_;subst s;exact Yd c.nd p f Az i
 .have⟨q,h1,h2,h3⟩:=c.new a i;grind
structure Rr(p:Aa)(sz:Al)(D:List BJ)(hs:Al)(g:S)(B:u)(V:TV)(ρ:u)(tv:y)(T:List Au)(W:List u)(dn:Nat)(d:Bd):Prop:=
 fo:Ao p sz
 tree:Dz p
 den:Fh p sz D
 rep:Dh p sz D hs g B V
 ap:Sr ρ B V
 shp:W1 p T
 tab:XW g tv T W
 wu:∀i∈W,AE ρ i=Z
 dis:∀i∈V.ids B,i∉W
 ip:p.defs[dn]?=J d
 hds:Mz p hs
section
variable{p:Aa}{j:Al}{D:List BJ}{i:Al}{g:S}{B:u}{V:TV}{e:u}{m:y}{T:List Au}{W:List u}{f:Nat}{d:Bd}
def Rr.text(b:Rr p j D i g B V e m T W f d){H:S}(h:∀a,AE e a=Z->a∉W->H.get a=g.get a):Dh p j D i H B V:=b.rep.mono λa c=>h a (b.ap a c) (b.dis a c)
def Rr.head(b:Rr p j D i g B V e m T W f d):∃k a h,i[f]?=J k/\0<=k/\p.nodes[k.toNat]?=J a/\a.op=4/\a.n=(f:Int)/\j[k.toNat]?=J h/\0<=h/\h<=5000:=by have⟨c,a,hx,ho,hn⟩:=b.fo.used f (l_ b.ip);have⟨h,l,i,h0,h1,_⟩:=b.fo.node c a hx;have o:=(E6 b.fo hx ho).1;have n:a.n=(f:Int):=z;have:=b.hds.at_ (c:Int) a (HU c) hx ho;rw[hn]at this;exact⟨c,a,h,this,HU c,hx,ho,n,i,h0,h1⟩
def Rr.sends(a:Rr p j D i g B V e m T W f d){b:Int}(o:0<=b)(q:b<U p.nodes)(k:Int)(h:Nat)(H:S)(r:∀c,AE e c=Z->c∉W->H.get c=g.get c):
 ∃l n,kT (.fn 196) [.ptr B 0,Dv T,nI b,nI k] H (h::e) X (J (h::e))=.ok (l,n)/\l=.ret (nI (sS p T D b k)):=
 ZY a.fo a.shp (fC a.fo a.tree a.den) a.den.len k _ (a.tree.dep b o q) H (h::e) (a.text r) (a.ap.ext h)
theorem Rr.inner(h:Rr p j D i g B V e m T W f d){o:Int}{t:CQ}(v:0<=o)(n:p.nodes[o.toNat]?=J t)(q:t.op=4)(l:Int)(k:Nat)(H:S)(M:∀s,AE e s=Z->s∉W->H.get s=g.get s):
 ∃x F,kT (.fn 193) [.ptr B 0,Dv T,nI o,nI l] H (k::e) X (J (k::e))=.ok (x,F)/\x=.ret (nI (sS p T D o l)):=by
 have R:=l_ n;have⟨d2,hdd,a,b,c⟩:=(Hy h.fo n).defn q;have w:=(Bk h.fo hdd).ok;have O:=(E6 h.fo n q).1;have N:=(h.tree.dep o v z).2.2;have C:sS p T D o l=Kh (λr=>Ca p T D (U p.nodes) r l) p T t:=by rw[sS,Ca,n];dsimp only;rw[Co z,Co z,Co z,Co z,D4 q]
 rw[C];exact mw (T:=T) (pl:=l) (f:=λr=>Ca p T D (U p.nodes) r l) (h.text M) (h.ap.ext k) h.shp v n (Mm h.fo n (.inr (.inr (.inr (.inr q)))) (k:=0) (by simp[q])) O hdd (by have:=w.be;omega) (by have:=w.rules;omega) λr Q=>⟨J1 ..,λA P K L=>ZY h.fo h.shp (fC h.fo h.tree h.den) h.den.len l _ (N r (by grind)) A P K L⟩
theorem Rr.place(l:Rr p j D i g B V e m T W f d){h k:Int}(s:i[f]?=J h)(q:0<=h)(v:j[h.toNat]?=J k){c:Int}(t:i64 (k+c))(b:Nat)(H:S)(r:∀a,AE e a=Z->a∉W->H.get a=g.get a):
 ∃n o,kT (.fn 137) [.ptr B 0,nI f,nI c] H (b::e) X (J (b::e))=.ok (n,o)/\n=.ret (nI (k+c)):=
 Ve (l.text r) (l.ap.ext b) (HU f) s q v t
def Rh(G:S)(e:u)(b:Nat)(v:y)(l:Al):Prop:=(v=.d9/\l=[])\/∃m,v=.ii (1::m::e) 0 (U l)/\16<=m/\m<b/\G.get (1::m::e)=J (.f8 1 (l.map AX))
variable{b:Nat}{v:y}{l:Al}
theorem Rh.mono{G h:S}{e:u}{b':Nat}(a:Rh G e b v l)(k:b<=b')(m:∀c∈AD v,h.get c=G.get c):Rh h e b' v l:=by
 rcases a with a|⟨g,rfl,f,i,j⟩
 .exact .inl a
 .exact .inr ⟨g,rfl,f,z,by grind [AD]⟩
theorem Rh.ids{G:S}{e:u}(f:Rh G e b v l):∀c∈AD v,∃a,16<=a/\a<b/\c=1::a::e:=λc g=>by
 rcases f with⟨rfl,_⟩|⟨a,rfl,h,i,j⟩
 .cases g
 grind [AD]
structure Ld(g:S)(ρ:u)(d:Bd)(G:S)(b:Nat)(cv rv:y)(CL RL:Al)(vs:List y)(L:List Al):Prop:=
 b0:G.get (0::0::ρ)=J (.box [.d9,.d9,.d9])
 b9:G.get (0::9::ρ)=J (.box [.d (.co (d.ac.map BW)),.d (.co (d.be.map BH)),.d (.co (d.rules.map BR))])
 b11:G.get (0::11::ρ)=J (.box [cv,rv,.d9])
 arr:G.get (1::15::ρ)=J (.arr 1 (vs.map λv=>[v]))
 args:Zu G ρ b vs L
 cvm:Rh G ρ b cv CL
 rvm:Rh G ρ b rv RL
 dj:(AD cv++(AD rv++Ab vs)).Nodup
 fr:∀i,AE ρ i=Z->G.get i=g.get i
 base:16<=b
def Fi(e:u)(b b':Nat)(l:List u):Prop:=∀i∈l,∃m,b<=m/\m<b'/\i=1::m::e
theorem H9{e:u}{c a:Nat}(h:a<b):Kb e b (c::a::e):=λf j i g=>by grind
theorem Ld.chan{g:S}{e:u}{d:Bd}{G h:S}{b b':Nat}{F r cv' v':y}{V D C:Al}{s:List y}{L:List Al}{w:Nat}{l:Al}(k:Ld g e d G b F r V D s L)(N:b<=b')(pm:∀a,Kb e b a->a≠0::11::e->a≠1::15::e->a∉AD F->h.get a=G.get a)(W:h.get (0::11::e)=J (.box [cv',r,.d9])) (arr:h.get (1::15::e)=J (.arr 1 ((s.map λv=>[v]).set w [v']))) (Y:Rh h e b' cv' C) (H:Fi e b b' (AD cv')) (ai:B6 h v' l) (x:Fi e b b' (AD v')) (Q:(AD cv'++AD v').Nodup):Ld g e d h b' cv' r C D (s.set w v') (L.set w l):=by
 have a2:=k.base;have O:=k.dj;rw[D0]at O;obtain⟨a1,K,M⟩:=O;rw[D0]at K;obtain⟨aa,ac,ad⟩:=K;rw[D0]at Q;obtain⟨az,P,a0⟩:=Q;have R:∀{a:u} {j:Nat},j<b->a=1::j::e->Kb e b a:=λag c=>c▸H9 ag;have ar:∀a∈Ab s,h.get a=G.get a:=λa i=>by have⟨j,m1,m2,c⟩:=k.args.new a i;exact pm a (R m2 c) (λm=>by rw[c]at m;simp at m) (λm=>by grind) λf=>M a f a (Ac.2 (.inr i)) rfl
 have av:∀a∈AD r,h.get a=G.get a:=λa i=>by have⟨j,m1,m2,c⟩:=k.rvm.ids a i;exact pm a (R m2 c) (λm=>by rw[c]at m;simp at m) (λm=>by grind) λf=>M a f a (Ac.2 (.inl i)) rfl
 have T:∀q,q<16->q≠11->h.get (0::q::e)=G.get (0::q::e):=λq a3 f=>pm _ (H9 z) (by simp;exact f) AG λp=>by have⟨j,_,_,c⟩:=k.cvm.ids _ p;simp at c
 have t:∀{a:u},(∃j,b<=j/\j<b'/\a=1::j::e)->(a∉AD r/\a∉Ab s):=λ⟨j,q1,q2,c⟩=>by
  refine⟨λf=>?_,λf=>?_⟩
  .have⟨m2,_,q3,m⟩:=k.rvm.ids _ f;grind
  .have⟨m2,_,q3,m⟩:=k.args.new _ f;grind
 refine⟨(T 0 z z).trans k.b0,(T 9 z z).trans k.b9,W,by rw[arr,I2],k.args.set N ai (λa i=>?_) P ar,Y,k.rvm.mono N av,?_,λa i=>(pm a (Ot i _) (λc=>?_) (λc=>?_) λf=>?_).trans (k.fr a i),z⟩
 .have⟨j,q1,q2,q3⟩:=x a i;grind
 .rw[D0];refine⟨az,?_,λo n B A c=>?_⟩
  .rw[D0];refine⟨aa,SI ac P λa i=>(t (x a i)).2,λo n B A c=>?_⟩;rcases P3 A with f|f
   .exact(t (x B f)).1 (c▸n)
   .exact ad o n B f c
  .subst c;rcases Ac.1 A with f|f
   .exact(t (H o n)).1 f
   .rcases P3 f with p|p
    .exact a0 o n o p rfl
    .exact(t (H o n)).2 p
 .rw[c,show AE e (0::11::e)=X from Aq [0,11]]at i;cases i
 .rw[c,show AE e (1::15::e)=X from Aq [1,15]]at i;cases i
 .have⟨j,_,_,c⟩:=k.cvm.ids _ f;rw[c,show AE e (1::j::e)=X from Aq [1,j]]at i;cases i
theorem UK{c:Type}{A:List (List c)}{a b:Nat}{l:List c}(f:U A=b)(g:a<b)(h:A[a]?=J l):(A.take a++Sm (b-a) []).set a l=A.take (a+1)++Sm (b-(a+1)) []:=by have e:b-a=(b-(a+1))+1:=z;grind [List.set_append_right,List.take_add_one]
theorem cP(g:G)(b:u)(a:Nat)(h:0<a)(i:a<=1073741824):Gh g b a {kind:=TK.slice,size:=1,agg:=Z,str:=Z,zero:=[y.d9],flds:=[],elem:=224,key:=0,mix:=X}=J ⟨.ii (1::b) 0 a,[(1::b,.arr 1 (Sm a [.d9]))]⟩:=by
 obtain⟨c,rfl⟩:∃c,a=c+1:=⟨a-1,z⟩;have f:Fm 1 (Sm (c+1) [y.d9])=true:=by rw[<-MN];rw[EL];intro j e;rw[(I0.1 e).2];rfl
 show q_h g b _ (Sm (c+1) [.d9])=_;grind [Q6,iB,BS,VH]
def eB(g:S)(e:u)(i j:Al)(h:List Al)(k:BG)(f:S):Prop:=∃b c,k=.ret (.agg [b,c,.d (.co ((h.map (·.map Fu)).map E7))])/\Ub f 1 b (i.map AX)/\Ub f 1 c (j.map AX)/\(∀a∈AD b++AD c,AE e a=X/\∃l,a=1::l)/\(AD b++AD c).Nodup/\∀a,AE e a=Z->f.get a=g.get a
end
section
variable{p:Aa}{b:Al}{D:List BJ}{c:Al}{g:S}{B:u}{V:TV}{a:u}{e:y}{T:List Au}{W:List u}{f:Nat}{d:Bd}
theorem pt{m:DH}{K:Ah}{h:Fr}{n:Nat}{F L:KH}{b:CW}{H:S}{f:Nat}{g:List Df}{Q:Di->St->Prop}{b8 b6:u}{c r a y1 y2 y3:y}{A6:Ar}(A:h.ci=I)(p:b.get 8=.ptr b8 0)(l:b.get 6=.ptr b6 0)(v:H.get b8=J (.box [c,r,a]))(s:H.get b6=J (.box [y1,y2,y3]))(t:b6≠b8)(D:EB H.get a=J A6)(w:c.q_b=X)(C:r.q_b=X)(x:∀j∈Ct H.get a,j.1≠b6) (B:∀k i,(∀e,(∀j∈Ct H.get a,j.1≠e)->e≠b8->e≠b6->i.get e=H.get e)->i.get b6=J (.box [c,r,.d A6])->k.get 6=.ptr b6 0->Q .ret ⟨k,i,f+2,g⟩):pr m K h n F L ⟨b,H,f,g⟩ Q (J ⟨br,M7⟩):=by
 have q:((H.q_d (Ct H.get a)).put b8 (.box [c,r,.d A6])).get b6=J (.box [y1,y2,y3]):=by rw[BU _ _ t,QK x,s]
 have key:M7 h ⟨b,H,f,g⟩=.ok (.ret,⟨(192,.undef)::b,((H.q_d (Ct H.get a)).put b8 (.box [c,r,.d A6])).put b6 (.box [c,r,.d A6]),f+2,g⟩):=by simp[M7,p,l,mX,v,D,s5,A,J4,w,C];rw[p_,q_c,D4 rfl,q];simp[tC,J4]
 show(match M7 h ⟨b,H,f,g⟩with|.ok (o,d8)=>Q o d8|.err _=>False)
 rw[key];refine B _ _ (λe M N O=>?_) ?_ ?_
 .grind [BU,QK]
 .grind [p_,q_c]
 .exact l
def AOD(G:S)(a:u)(g f:Nat)(e:y)(c:List Al):Prop:=(e=.d9/\c=[])\/∃b,e=.ii (1::b::a) 0 (U c)/\g<=b/\b<f/\G.get (1::b::a)=J (.f8 1 (c.map E7))
def AOE(G:S)(a:u)(g f:Nat)(e:y)(c:Al):Prop:=(e=.d9/\c=[])\/∃b,e=.ii (1::b::a) 0 (U c)/\g<=b/\b<f/\G.get (1::b::a)=J (.f8 1 (c.map AX))
theorem AOR{bx b2:Al}{H:List Al}{c:CW}(dq:c.get 6=.ptr (0::0::a) 0)(dr:c.get 8=.ptr (0::11::a) 0)(ds:c.get 9=.ii (1::15::a) 0 (U d.ac)){G:S}{s:Nat}{ac a1:y}{bv:List y}(o:Ld g a d G s ac a1 bx b2 bv H)(a6:U bv=U d.ac)(d3:U d.ac<=30)(cx:∀f∈H,U f<=30):
 Wp cfg kT ⟨175,a,X,I,Z,193⟩ 0 (MW 6 (Tryz.f175.body.get rfl)) ⟨c,G,s,[]⟩ (MY cfg I [.cell 6 112] a X (eB g a bx b2 H)):=by
 have cl:=o.b0;have cm:=o.b11;have cn:=o.arr;replace o:=AB o;replace a6:=AB a6;simp[Tryz.f175,MW];refine ax ?_;have⟨AK,ad⟩:=C6 (H.map (·.map Fu));have Q:U H=U d.ac:=by rw[<-o.1.args.len];exact a6.1
 have az:U AK=U d.ac:=by rw[ad,BV,Q]
 have cu:∀(b:Nat) f,H[b]?=J f->AK[b]?=J (f.map Fu):=λb f m=>by grind
 refine M9 ?_ ad Q az;clear ad Q az;intro ad Q az;have d2:=o.1.base;refine CZ H (U d.ac:Int) (B0:=λe b (p:S×Nat)=>⟨[(6,.ptr (0::0::a) 0),(8,.ptr (0::11::a) 0),(167,.ii (1::15::a) 0 (U d.ac)),(168,nI e),(169,nI b)],p.1,p.2,[]⟩)
  (Inv:=λb df p=>AR (s<=p.2/\(∀l,Kb a s l->l≠0::11::a->p.1.get l=G.get l)/\∃K,p.1.get (0::11::a)=J (.box [ac,a1,K])/\AOD p.1 a s p.2 K (AK.take b))) (b0:=(G,s+3)) (by rw[Q.1]) ⟨AZ,λ_ _ _=>rfl,.d9,cm,.inl ⟨rfl,rfl⟩⟩ ?_ ?_
 .rintro b f ⟨aa,V⟩ bn m c2 bh a4;have⟨hb1,t,K,h11,w⟩:=bh.1;dsimp only at hb1 t h11 w;have d':SE.wrap ((b:Int)+1)=(b:Int)+1:=w_ z z;have cv:=cu b f bn;have dx:=(t (1::15::a) (H9 z) AG).trans cn;have c5:b<U bv:=by rw[a6.1];omega
  have⟨F,bc⟩:=g_ c5;have d4:b<U d.ac:=by rw[<-Q.1];exact m
  have ai:=o.1.args.each b F f bc bn;have d5:=cx f (AP bn);replace t:=AB t;replace w:=AB w;have bl:∀g:Abs.G,MZ g .slice F=J (U f):=λg=>by rcases ai with⟨rfl|rfl,rfl⟩|⟨W,rfl,O⟩<;>rfl
  have cc:y.q_b F=true:=by rcases ai with⟨rfl|rfl,rfl⟩|⟨W,rfl,O⟩<;>rfl
  unfold MZ at bl;replace ai:=AB ai;refine ax ?_;refine Aj f (B0:=λl (p:(y×S)×Nat)=>⟨[(6,.ptr (0::0::a) 0),(8,.ptr (0::11::a) 0),(23,p.1.1),(167,.ii (1::15::a) 0 (U d.ac)),(168,nI (U d.ac)),(169,nI b),(173,F),(174,nI (U f)),(175,nI l)],p.1.2,p.2,[]⟩)
   (Inv:=λl df p=>AR (V+8<=p.2/\(∀h,Kb a (V+8) h->p.1.2.get h=aa.get h)/\AOE p.1.2 a (V+8) p.2 p.1.1 ((f.map Fu).take l))) (b0:=((.d9,aa),V+8)) ⟨AZ,λ_ _=>rfl,.inl ⟨rfl,rfl⟩⟩ ?_ ?_
  .rintro l n ⟨⟨c7,b0⟩,k⟩ L b9 c3 bi b1;have⟨i,A,hkv⟩:=bi.1;dsimp only at i A hkv;have ea:SE.wrap ((l:Int)+1)=(l:Int)+1:=w_ z z;have c4:(f.map Fu)[l]?=J (Fu n):=by rw[Be,L];rfl
   have ar:(f.map Fu).take (l+1)=(f.map Fu).take l++[Fu n]:=by rw[Ex,c4];rfl
   have M:((f.map Fu).take l).length=l:=by rw[F3,BV];omega
   generalize (f.map Fu).take l=kl at*;obtain⟨W,rfl,O⟩:∃W,F=.ii W 0 (U f)/\G.get W=J (.f8 1 (f.map AX)):=by
    rcases ai.1 with⟨_,rfl⟩|N
    .simp at L
    .exact N
   have⟨e,m16,mb,hid⟩:=o.1.args.new W (Dk (AP bc) Az);subst hid;have gid:=(A (1::e::a) (H9 z)).trans ((t.1 (1::e::a) (H9 mb) AG).trans O);clear bl cc O;replace A:=AB A;replace ar:=AB ar;rcases hkv with⟨rfl,rfl⟩|⟨r,rfl,cd,c8,c0⟩
   .have bo:l=0:=M.symm;refine M9 ?_ M i bo;clear M i bo;intro M i bo
    (repeat' (first|simp only[*,go_sem,AM,D1,DL]|(refine sx ?_ ?_<;>intro ag)|refine sy z λa2 av P=>?_|simp(disch:=first|assumption|omega) only[Ad]))
    refine b1.1 ((_,_),_) ⟨by have:=i.1;dsimp only;omega,λh B=>?_,.inr ⟨k+8,by rw[ar.1];rfl,by have:=i.1;omega,AZ,?_⟩⟩
    .have C:=(B.mono i.1).is;simp only[go_sem,C,AM];exact A.1 h B
    .rw[ar.1];simp only[go_sem]
   .rw[M];have b8:(kl.map AX).length=l:=by rw[BV,M]
    have b':(kl.map AX).take l=kl.map AX:=Bv z;have d9:∀n,¬k+n=r:=λn=>z;replace M:=AB M;generalize x:kl.map AX=es at*;replace x:=AB x
    (repeat' (first|simp only[*,go_sem,AM,D1,DL]|(refine sx ?_ ?_<;>intro ag)|refine sy z λa2 av P=>?_|simp(disch:=first|assumption|omega) only[Ad]))
    refine b1.1 ((_,_),_) ⟨AZ,λh B=>?_,.inr ⟨k+8,by grind,z,AZ,?_⟩⟩
    .have C:=(B.mono i).is;have a0:=AI λc=>B 1 r cd (Eq.symm c);simp only[go_sem,C,a0,AM];exact A.1 h B
    .rw[ar.1,Ap,x.1];simp only[go_sem]
  .rintro l ⟨⟨c7,b0⟩,k⟩ b9 c3 bi;have⟨i,A,hkv⟩:=bi.1;dsimp only at i A hkv;rw[b9.1,Bv zCI]at hkv;have D:AK.take (b+1)=AK.take b++[f.map Fu]:=by rw[Ex,cv];rfl
   have v:(AK.take b).length=b:=by rw[F3,az.1];omega
   have b3:=(A (0::11::a) (H9 z)).trans h11;have⟨ks,a5⟩:=C6 (f.map Fu);rw[<-a5]at hkv D;have pm:=λh j q=>(A h (j.mono z)).trans (t.1 h j q);have d8:∀n,¬k+n=11:=λn=>z;refine M9 ?_ a5 D pm;clear a5 D pm;intro a5 D pm;generalize AK.take b=al at*;have b6:(K=.d9/\al=[])\/∃e,K=.ii (1::e::a) 0 (U al)/\s<=e/\e<V/\b0.get (1::e::a)=J (.f8 1 (al.map E7)):=by
    rcases w.1 with N|⟨e,j,q,b5,d0⟩
    .exact .inl N
    .grind [H9]
   replace A:=AB A;clear bl cc;rcases hkv with⟨rfl,rfl⟩|⟨r,rfl,cd,c8,c0⟩
   .rcases b6 with⟨rfl,rfl⟩|⟨R,rfl,c9,c',c1⟩
    .skip
     replace v:=AB v;replace i:=AB i
     (repeat' (first|simp only[*,go_sem,AM,D1,DL]|(refine sx ?_ ?_<;>intro ag)|refine sy z λa2 av P=>?_|simp(disch:=first|assumption|omega) only[Ad]))
     have bk:=i.1;refine a4.1 (_,_) ⟨AZ,λh j q=>?_,.ii (1::(k+5)::a) 0 1,?_,.inr ⟨k+5,by rw[D.1];rfl,z,AZ,?_⟩⟩
     .have T:=(j.mono (show s<=k by omega)).is;have C:=AI λc=>q (Eq.symm c);simp only[go_sem,T,C,AM];exact pm.1 h j q
     .simp only[go_sem]
     .rw[D.1];simp only[go_sem]
    .skip
     rw[v]at b3;have b8:(al.map E7).length=b:=by rw[BV,v]
     have b':(al.map E7).take b=al.map E7:=Bv z;have dd:∀n,¬k+n=R:=λn=>z;generalize x:al.map E7=es at*;refine M9 ?_ x v i;clear x v i;intro x v i
     (repeat' (first|simp only[*,go_sem,AM,D1,DL]|(refine sx ?_ ?_<;>intro ag)|refine sy z λa2 av P=>?_|simp(disch:=first|assumption|omega) only[Ad]))
     have bk:=i.1;refine a4.1 (_,_) ⟨AZ,λh j q=>?_,.ii (1::(k+5)::a) 0 (b+1),?_,.inr ⟨k+5,by grind,z,AZ,?_⟩⟩
     .have T:=(j.mono (show s<=k by omega)).is;have C:=AI λc=>q (Eq.symm c);have bs:=AI λc=>j 1 R z (Eq.symm c);simp only[go_sem,T,C,bs,AM];exact pm.1 h j q
     .simp only[go_sem]
     .rw[D.1,Ap,x.1];simp only[go_sem]
   .rcases b6 with⟨rfl,rfl⟩|⟨R,rfl,c9,c',c1⟩
    .skip
     have dc:∀n,¬k+n=r:=λn=>z;replace v:=AB v;replace i:=AB i
     (repeat' (first|simp only[*,go_sem,AM,D1,DL]|(refine sx ?_ ?_<;>intro ag)|refine sy z λa2 av P=>?_|simp(disch:=first|assumption|omega) only[Ad]))
     have bk:=i.1;refine a4.1 (_,_) ⟨AZ,λh j q=>?_,.ii (1::(k+5)::a) 0 1,?_,.inr ⟨k+5,by rw[D.1];rfl,z,AZ,?_⟩⟩
     .have T:=(j.mono (show s<=k by omega)).is;have C:=AI λc=>q (Eq.symm c);have a0:=AI λc=>j 1 r z (Eq.symm c);simp only[go_sem,T,C,a0,AM];exact pm.1 h j q
     .simp only[go_sem]
     .rw[D.1];simp only[go_sem]
    .skip
     rw[v]at b3;have b8:(al.map E7).length=b:=by rw[BV,v]
     have b':(al.map E7).take b=al.map E7:=Bv z;have dd:∀n,¬k+n=R:=λn=>z;have d6:¬r=R:=z;have d7:¬R=r:=z;generalize x:al.map E7=es at*;replace x:=AB x;have dc:∀n,¬k+n=r:=λn=>z;replace v:=AB v;replace i:=AB i
     (repeat' (first|simp only[*,go_sem,AM,D1,DL]|(refine sx ?_ ?_<;>intro ag)|refine sy z λa2 av P=>?_|simp(disch:=first|assumption|omega) only[Ad]))
     have bk:=i.1;refine a4.1 (_,_) ⟨AZ,λh j q=>?_,.ii (1::(k+5)::a) 0 (b+1),?_,.inr ⟨k+5,by grind,z,AZ,?_⟩⟩
     .have T:=(j.mono (show s<=k by omega)).is;have C:=AI λc=>q (Eq.symm c);have a0:=AI λc=>j 1 r z (Eq.symm c);have bs:=AI λc=>j 1 R z (Eq.symm c);simp only[go_sem,T,C,a0,bs,AM];exact pm.1 h j q
     .simp only[go_sem]
     .rw[D.1,Ap,x.1];simp only[go_sem]
 .rintro b ⟨aa,V⟩ m c2 bh;have⟨hb1,t,K,h11,w⟩:=bh.1;dsimp only at hb1 t h11 w;rw[m.1,show (U H)=U AK by rw[Q.1,az.1],F2]at w;have cs:=(t (0::0::a) (H9 z) AG).trans cl;refine M9 ?_ t w m;clear t w m;intro t w m;refine ax ?_;have c6:EB aa.get K=J (.co (AK.map E7)):=by
   rcases w.1 with⟨rfl,b4⟩|⟨e,rfl,be,r,O⟩
   .rw[b4];rfl
   .grind [EB,Fz,Kj]
  have a':∀h∈Ct aa.get K,∃e,s<=e/\h.1=1::e::a:=λh B=>by
   rcases w.1 with⟨rfl,b4⟩|⟨e,rfl,be,r,O⟩
   .cases B
   grind [Ct]
  have cp:ac.q_b=true:=by rcases o.1.cvm with⟨rfl,_⟩|⟨e,rfl,_⟩<;>rfl
  have de:a1.q_b=true:=by rcases o.1.rvm with⟨rfl,_⟩|⟨e,rfl,_⟩<;>rfl
  refine pt (b8:=0::11::a) (b6:=0::0::a) rfl zCZ zCZ h11 cs AG c6 cp de (λh B=>?_) λdm a3 L d1 dn=>?_
  .grind
  have Y:=λb j q b5=>(L b (λh B c=>by have⟨e,P,e2⟩:=a' h B;exact j 1 e P (c▸e2)) q b5).trans (t.1 b j q)
  refine M9 ?_ L Y a';clear L Y a';intro L Y a';refine ax ?_;have cq:∀b∈AD ac,a3.get b=G.get b:=λb m=>by have⟨e,be,r,c⟩:=o.1.cvm.ids b m;exact Y.1 b (c▸H9 r) zDR zDR
  have dj:∀b∈AD a1,a3.get b=G.get b:=λb m=>by have⟨e,be,r,c⟩:=o.1.rvm.ids b m;exact Y.1 b (c▸H9 r) zDR zDR
  have ch:∀{F:y} {f:Al},Rh G a s F f->(∀b∈AD F,a3.get b=G.get b)->Ub a3 1 F (f.map AX):=λbc L=>by
   rcases bc with⟨rfl,rfl⟩|⟨e,rfl,be,r,O⟩
   .exact .inl (.inl ⟨rfl,rfl⟩)
   .exact .inl (.inr ⟨_,[],by rw[BV],by grind [AD]⟩)
  have b7:=o.1.dj;rw[<-F0,D0]at b7;refine⟨ac,a1,by rw[ad.1],ch o.1.cvm cq,ch o.1.rvm dj,λb m=>?_,b7.1,λb m=>(Y.1 b (Ot m _) (λc=>?_) λc=>?_).trans (o.1.fr b m)⟩
  .have:∃e,16<=e/\e<s/\b=1::e::a:=by
    rcases Ac.1 m with N|N
    .exact o.1.cvm.ids b N
    .exact o.1.rvm.ids b N
   obtain⟨e,_,_,rfl⟩:=this;exact⟨Aq [1,e],_,rfl⟩
  .rw[c,show AE a (0::11::a)=X from Aq [0,11]]at m;cases m
  .rw[c,show AE a (0::0::a)=X from Aq [0,0]]at m;cases m
end
def mr:KH->KH
 |.seq (.seq _ (.block _ (.loop (.seq _ (.seq _ (.seq (.block _ c) _)))))) _=>c|c=>c
def lB:KH->KH
 |.seq x _=>x|c=>c
section
variable{p:Aa}{e:Al}{D:List BJ}{f:Al}{g:S}{B:u}{V:TV}{c:u}{b:y}{T:List Au}{W:List u}{a:Nat}{d:Bd}
def ep{g:S}{c:y}{b:Al}(a:ij g c (b.map AX)){e:Nat}{h:Int}(j:b[e]?=J h):c=.d (.co (b.map AX))\/∃f i,c=.ii f 0 (U b)/\g.get f=J (.f8 1 i)/\i[e]?=J (AX h):=by
 rcases a with a|a
 .exact .inl a
 .exact .inr (UG a j)
def ADs(o:Rr p e D f g B V c b T W a d){h:CW}(a1:h.get 1=b)(a4:h.get 2=nI a){AY:u}(a2:h.get 13=.ptr AY 0){a0:Int}(a3:h.get 14=nI a0){G:S}{l:DI}(a6:G.get AY=J (.box [nI l.at_,.d (.co (l.d7.map AX)),nI l.node]))(O:Rq g W G)(x:∀n∈l.d7,0<=n/\n<U d.ac)(bk:U l.d7<=1000){v:Nat}{Q:Di->St->Prop}(M:AR (∀C b',v<=b'->C.get 14=(nI (GH T a l.d7 a0))->(∀K∈ [0,1,2,6,7,8,9,12,13,74,75,76],C.get K=h.get K)->Q .normal ⟨C,G,b',[]⟩)):
 Wp cfg kT ⟨175,c,X,I,Z,193⟩ 3 (lB (MW 2 (mr (MW 5 (Tryz.f175.body.get rfl))))) ⟨h,G,v,[]⟩ Q:=by
 have⟨A8,hTu⟩:=g_ (l:=T) (i:=a) (by rw[o.shp.len];exact l_ o.ip);have⟨H,_,_,_⟩:=o.shp.each _ _ _ o.ip hTu;have ag:=l_ hTu;have a5:(a:Int)<U T:=z;have⟨B0,w⟩:=C6 (GH T a l.d7 a0);rw[<-w]at M;replace o:=AB o;replace H:=AB H;simp[Tryz.f175,MW,mr,lB];refine ax ?_;replace w:=AB w;refine Aj l.d7 (B0:=λq (m:Int×Nat)=>⟨[(0,h.get 0),(1,b),(2,nI a),(6,h.get 6),(7,h.get 7),(8,h.get 8),(9,h.get 9),(12,h.get 12),(13,.ptr AY 0),(14,nI m.1),(74,h.get 74),(75,h.get 75),(76,h.get 76),(82,.d (.co (l.d7.map AX))),(83,nI (U l.d7)),(84,nI q)],G,m.2,[]⟩)
  (Inv:=λq ai m=>AR (GH T a ai m.1=B0/\v<=m.2)) (b0:=(a0,v+4)) ⟨w.1.symm,AZ⟩ ?_ ?_
 .rintro q n ⟨m,P⟩ Y aa ac F A;have bv:SE.wrap ((q:Int)+1)=(q:Int)+1:=w_ z z;have⟨c0,c1⟩:=x n (AP Y);have⟨k,hk⟩:=g_ (l:=A8.ac) (i:=n.toNat) (by rw[H.1];omega);have bn:=l_ hk;have a':n<U A8.ac:=z;have L:CB T a n=k:=by rw[CB,Es,hTu,GC,hk];rfl
  have⟨i,j⟩:=F.1;dsimp only at i j;rw[GH,L,PE]at i;refine M9 ?_ j i x;clear j i x;intro j i x;clear L;rcases o.1.tab.mono O with⟨rfl,rfl⟩|⟨ar,s,rfl⟩
  .exact zBQ
  .have⟨r,hr⟩:=g_ (l:=ar) (i:=a) (by rw[s.len];exact ag);obtain⟨az,bl,av,rfl,t,_,_⟩:=s.each a r A8 hr hTu;have bo:=l_ hr;rcases s.arr with⟨_,R⟩|⟨bh,rfl,be⟩
   .rw[R]at hr;simp at hr
   .replace s:=AB s;rcases ep t hk with rfl|⟨bi,bx,rfl,bc,ad⟩
    .replace t:=AB t;exact zBQ
    .have bs:=l_ ad;replace t:=AB t;exact zBQ
 .rintro q ⟨m,P⟩ aa ac F;have⟨i,j⟩:=F.1;dsimp only at i j;rw[GH]at i;subst i;replace j:=AB j;refine ax ?_;refine M.1 _ _ (by have:=j.1;omega) ?_ λK N=>?_
  .simp only[go_sem]
  .simp at N;rcases N with rfl|rfl|rfl|rfl|rfl|rfl|rfl|rfl|rfl|rfl|rfl|rfl;all_goals simp only[*,go_sem]
end
variable{l:Al}
theorem Ld.putL{r:S}{e:u}{d:Bd}{G:S}{p b':Nat}{q v:y}{n o:Al}{g:List y}{L:List Al}(a:Ld r e d G p q v n o g L)(i:p<=b'){c:Nat}{id:u}{l':Al}(t:g[c]?=J (.ii id 0 (U l)))(A:L[c]?=J l)(B:U l'=U l):Ld r e d (G.put id (.f8 1 (l'.map AX))) b' q v n o g (L.set c l'):=by
 have s:=a.dj;rw[D0]at s;obtain⟨C,w,D⟩:=s;rw[D0]at w;have x:id∈Ab g:=Dk (AP t) Az;obtain⟨j,F,H,rfl⟩:=a.args.new id x;have m:∀k,(G.put (1::j::e) (.f8 1 (l'.map AX))).get (0::k::e)=G.get (0::k::e):=λk=>BU _ _ AG;refine⟨(m 0).trans a.b0,(m 9).trans a.b9,(m 11).trans a.b11,(BU _ _ BP).trans a.arr,a.args.put i t A B zDJ λf _ b=>BU _ _ b,a.cvm.mono i λf b=>BU _ _ λh=>?_,a.rvm.mono i λf b=>BU _ _ λh=>?_,a.dj,λf b=>(BU _ _ λh=>?_).trans (a.fr f b),by have:=a.base;omega⟩
 .grind
 .grind
 .rw[h,show AE e (1::j::e)=X from Aq [1,j]]at b;cases b
variable{f:Int->Int}{k:Nat}{a:Int}
def y8{q:Int}(b:l[k]?=J a):((Ib f l q).take k++l.drop k).set k (Fq a (f (q+k)))=(Ib f l q).take (k+1)++l.drop (k+1):=by
 have e:=l_ b;have c:((Ib f l q).take k).length=k:=by rw[F3,Ll];omega
 rw[EY b,Md _ _ z,c,IF,List.set_cons_zero,Ex,Pc,b];simp
theorem ADp{q:Int}(b:l[k]?=J a):((Ib f l q).take k++l.drop k)[k]?=J a:=by grind [Ll]
section
variable{p:Aa}{j:Al}{D:List BJ}{m:Al}{g:S}{B:u}{V:TV}{b:u}{e:y}{T:List Au}{W:List u}{i:Nat}{d:Bd}
def zE(t:Rr p j D m g B V b e T W i d){cp x:Int}(d1:m[i]?=J cp)(ea:0<=cp)(d9:j[cp.toNat]?=J x)(fs:0<=x)(fv:x<=5000){n:CW}(es:n.get 0=.ptr B 0)(et:n.get 1=e)(e0:n.get 2=nI i)(e1:n.get 7=.ptr (0::9::b) 0)(e2:n.get 9=.ii (1::15::b) 0 (U d.ac)){AY:u}(ex:n.get 13=.ptr AY 0){G:S} {av:Nat} {q:DI} (c3:G.get AY=J (.box [nI q.at_,.d (.co (q.d7.map AX)),nI q.node])) (dq:∃M,AY=0::M) (d':∀c∈q.d7,0<=c/\c<U d.ac) (fi:U q.d7<=1000) (eg:0<=q.node) (ej:q.node<U p.nodes){az bc:y} {ai ar:Al} {ag:List y} {L:List Al} (a2:Ld g b d G av az bc ai ar ag L) (b6:Sl d L) {Q:Di->St->Prop}(ad:AR (∀c2 h b',av<=b'->Ld g b d h b' az bc ai ar ag (KE (λP=>sS p T D q.node P) q.d7 (x+d.own) L)->(∀M∈ [0,1,2,6,7,8,9,74,75,76],c2.get M=n.get M)->Q .normal ⟨c2,h,b',[]⟩)):
 Wp cfg kT ⟨175,b,X,I,Z,193⟩ 3 (MW 5 (mr (MW 5 (Tryz.f175.body.get rfl)))) ⟨n,G,av,[]⟩ Q:=by
 have fz:=t.ap B zCL;have a0:=(Bk t.fo t.ip).ok;have em:=a0.ac;have en:=a0.be;have e3:∀H,Rq g W H->FM (S.get H) e=J (Dv T):=λH aa=>(t.tab.mono aa).frz;have mk:∀H,Rq g W H->Abs.mark (S.get H) e=Abs.mark g.get e:=λH aa=>t.tab.mark aa;obtain⟨cx,bv⟩:∃cx,cx=Abs.mark g.get e:=⟨_,rfl⟩;rw[<-bv]at mk;have dl:∀v (H:S),v∉W->(H.q_d cx).get v=H.get v:=λv H a4=>QK λef d8 n=>a4 (n▸t.tab.mark_in ef (bv▸d8));have c7:=AB λk (H:S) aa=>t.place d1 ea d9 (c:=(U d.ac:Int)) ⟨z,z⟩ k H aa;have d6:=AB λP k (H:S) aa=>t.sends eg ej P k H aa;have c':SE.wrap (x+(U d.ac:Int)+(U d.be:Int))=x+(U d.ac:Int)+(U d.be:Int):=w_ z z;have df:=a2.b9;replace bv:=AB bv;replace dl:=AB dl;have own:x+(d.own:Int)=x+(U d.ac:Int)+(U d.be:Int):=by unfold Bd.own;omega
 rw[own]at ad;have ec:0<=x+(U d.ac:Int)+(U d.be:Int):=z;have fr:x+(U d.ac:Int)+(U d.be:Int)<=5060:=z;obtain⟨f,bk⟩:∃f,f=λP=>sS p T D q.node P:=⟨_,rfl⟩;rw[<-bk]at ad;replace own:=AB own;replace b6:=AB b6;replace a2:=AB a2;replace t:=AB t;replace bk:=AB bk;replace a0:=AB a0;simp[Tryz.f175,MW,mr];refine ax ?_;refine DN (c7.1 _ _ λO Y b5=>?_) (λeb dn cq=>?_)
 .exact a2.1.fr O Y
 subst cq;refine ax ?_;generalize x+(U d.ac:Int)+(U d.be:Int)=P at*;obtain⟨b1,bi⟩:∃b1,b1=KE f q.d7 P L:=⟨_,rfl⟩;rw[<-bi]at ad;replace bi:=AB bi;replace ad:=AB ad;clear c' df c7;refine Aj q.d7 (B0:=λv (a:(Int×S)×Nat)=>⟨[(0,.ptr B 0),(1,e),(2,nI i),(6,n.get 6),(7,.ptr (0::9::b) 0),(8,n.get 8),(9,.ii (1::15::b) 0 (U d.ac)),(13,.ptr AY 0),(17,nI a.1.1),(74,n.get 74),(75,n.get 75),(76,n.get 76),(128,.d (.co (q.d7.map AX))),(129,nI (U q.d7)),(130,nI v)],a.1.2,a.2,[]⟩)
  (Inv:=λv c9 a=>AR (av<=a.2/\0<=a.1.1/\a.1.1<=5060+3*(v:Int)/\a.1.2.get AY=G.get AY/\∃s,Sl d s/\Ld g b d a.1.2 a.2 az bc ai ar ag s/\KE f c9 a.1.1 s=b1)) (b0:=((P,G),av+15)) ⟨AZ,ec,AZ,rfl,L,b6.1,?_,bi.1.symm⟩ ?_ ?_
 .have:=a2.1;exact zAR
 .rintro v c ⟨⟨o,b0⟩,b2⟩ ds a4 d2 b7 dc;obtain⟨cc,cu,cv,a1,s,ac,w,K⟩:=b7.1;dsimp only at cc cu cv a1 w K;have c':SE.wrap ((v:Int)+1)=(v:Int)+1:=w_ z z;obtain⟨de,el⟩:=d' c (AP ds);obtain⟨l,bl⟩:=g_ (l:=s) (i:=c.toNat) (by rw[ac.1];omega);have a3:Ny s c=l:=by rw[Ny,bl];rfl
  rw[KE,a3]at K;obtain⟨bx,a'⟩:=g_ (l:=ag) (i:=c.toNat) (by rw[w.args.len];exact l_ bl);have fo:=l_ a';have dj:c.toNat<U d.ac:=z;have a6:=w.args.each _ bx l a' bl;obtain⟨c1,c4⟩:=g_ (l:=d.ac) (i:=c.toNat) dj;have e':U l<=3:=by have Y:=ac.2 c.toNat c1 c4;rw[Hw de,a3]at Y;have:=(a0.1.chan c1 (AP c4)).2.2.2;omega
  have c0:=w.arr;have c6:∀g:Abs.G,MZ g .slice bx=J (U l):=λg=>by rcases a6 with⟨rfl|rfl,rfl⟩|⟨F,rfl,dx⟩<;>rfl
  have d7:y.q_b bx=true:=by rcases a6 with⟨rfl|rfl,rfl⟩|⟨F,rfl,dx⟩<;>rfl
  unfold MZ at c6;replace a6:=AB a6;replace w:=AB w;replace ac:=AB ac;replace a3:=AB a3;replace K:=AB K;refine ax ?_;clear c6 d7 c0;have cm:s.set c.toNat ((Ib f l o).take 0++l.drop 0)=s:=by
   rw[Lw,Cs,List.drop_zero];refine Lt λO=>?_;rw[F5];split
   .grind
   .rfl
  refine Aj l (B0:=λk (a:(Int×S)×Nat)=>⟨[(0,.ptr B 0),(1,e),(2,nI i),(6,n.get 6),(7,.ptr (0::9::b) 0),(8,n.get 8),(9,.ii (1::15::b) 0 (U d.ac)),(13,.ptr AY 0),(17,nI a.1.1),(19,nI c),(74,n.get 74),(75,n.get 75),(76,n.get 76),(128,.d (.co (q.d7.map AX))),(129,nI (U q.d7)),(130,nI v),(138,nI (U l)),(139,nI k)],a.1.2,a.2,[]⟩)
   (Inv:=λk c9 a=>AR (a.1.1=o+(k:Int)/\b2<=a.2/\a.1.2.get AY=G.get AY/\Ld g b d a.1.2 a.2 az bc ai ar ag (s.set c.toNat ((Ib f l o).take k++l.drop k)))) (b0:=((o,b0),b2+10)) ⟨AG,AZ,a1,?_⟩ ?_ ?_
  .rw[cm];have:=w.1;exact zAR
  .rintro k a ⟨⟨R,be⟩,b3⟩ b9 a5 d4 b8 dd;obtain⟨C,N,A,r⟩:=b8.1;dsimp only at C N A r;have f0:SE.wrap ((k:Int)+1)=(k:Int)+1:=w_ z z;have f1:SE.wrap (R+1)=R+1:=w_ z z;obtain⟨F,rfl,d0⟩:∃F,bx=.ii F 0 (U l)/\b0.get F=J (.f8 1 (l.map AX)):=by
    rcases a6.1 with⟨_,rfl⟩|t
    .simp at b9
    .exact t
   have bn:(s.set c.toNat ((Ib f l o).take k++l.drop k))[c.toNat]?=J ((Ib f l o).take k++l.drop k):=by rw[F5,D4 rfl,D4 (l_ bl)]
   have cd:((Ib f l o).take k++l.drop k).length=U l:=by rw[Dl,F3,Ll,Is];omega
   have e6:=ADp (f:=f) (q:=o) b9;have bs:=y8 (f:=f) (q:=o) b9;have e7:be.get F=J (.f8 1 (((Ib f l o).take k++l.drop k).map AX)):=by
    rcases r.args.each _ _ _ a' bn with⟨Y,_⟩|⟨fd,Y,b5⟩
    .grind
    .grind
   have cl:Ld g b d (be.put F (.f8 1 (((Ib f l o).take (k+1)++l.drop (k+1)).map AX))) (b3+29) az bc ai ar ag (s.set c.toNat ((Ib f l o).take (k+1)++l.drop (k+1))):=by have:=r.putL (b':=b3+29) (c:=c.toNat) (id:=F) (l:=(Ib f l o).take k++l.drop k) (l':=(Ib f l o).take (k+1)++l.drop (k+1)) z (by rw[cd];exact a') bn zCI;rw[List.set_set]at this;exact this
   have c8:∀M,F≠0::M:=λM n=>by obtain⟨fp,_,_,e5⟩:=r.args.new F (Dk (AP a') Az);grind
   have c0:=r.arr;have ek:Rq g W be:=λO d3=>r.fr O (t.1.wu O d3);have e4:=A.trans c3;generalize c5:(Ib f l o).take k++l.drop k=cs at*;have fl:k<U cs:=z;rw[<-C]at bs;have bo:=d6.1 R;have b4:sS p T D q.node R=f R:=by rw[bk.1]
   rw[b4]at bo;have ch:=r.fr;have e8:=mV a (f R);have fc:(cs.map AX).set k [.int .i64 (Fq a (f R))]=((Ib f l o).take (k+1)++l.drop (k+1)).map AX:=by rw[<-bs,I2];rfl
   replace bo:=AB bo;replace ch:=AB ch;replace r:=AB r;replace c5:=AB c5;replace cd:=AB cd;replace bs:=AB bs;replace cl:=AB cl;replace bn:=AB bn;replace b4:=AB b4;replace N:=AB N;replace A:=AB A;replace c8:=AB c8;replace C:=AB C;clear a1 cm c3 d0;refine ax ?_;refine DN (bo.1 _ _ λO Y b5=>?_) (λeb dn cq=>?_)
   .rw[dl.1 O _ b5];exact ch.1 O Y
   subst cq;refine ax ?_;obtain⟨M,cn⟩:=dq;refine dd.1 ((_,_),_) ⟨?_,by have:=N.1;dsimp only;omega,?_,cl.1⟩
   .have:=C.1;dsimp only;omega
   .dsimp only;rw[BU _ _ zCI];exact A.1
  .rintro k ⟨⟨R,be⟩,b3⟩ a5 d4 b8;obtain⟨C,N,A,r⟩:=b8.1;dsimp only at C N A r;rw[a5.1,Bv (by grind [Ll]),T0,CS]at r;rw[a5.1]at C;have e9:=AB a5.1;have bh:=ac.1.mono (Yl s c f o);rw[a3.1]at bh;have dr:=AB N;have d5:=AB C;replace r:=AB r;replace bh:=AB bh;replace A:=AB A;clear a5 C N cm;refine ax ?_;have dm:=d5.1;have er:=dr.1;refine dc.1 ((_,_),_) ⟨AZ,AZ,AZ,A.1,_,bh.1,?_,?_⟩
   .have:=r.1;exact zAR
   .rw[dm];exact K.1
 .rintro v ⟨⟨o,b0⟩,b2⟩ a4 d2 b7;obtain⟨cc,cu,cv,a1,s,ac,w,K⟩:=b7.1;dsimp only at cc cu cv a1 w K;rw[KE]at K;subst K;replace w:=AB w;replace a4:=AB a4;refine ax ?_;refine ad.1.1 _ _ _ z ?_ λM cn=>?_
  .have:=w.1;exact⟨this.b0,this.b9,this.b11,this.arr,this.args.mono (T6 _) λ_ _=>rfl,this.cvm.mono (T6 _) λ_ _=>rfl,this.rvm.mono (T6 _) λ_ _=>rfl,this.dj,this.fr,by have:=this.base;omega⟩
  .simp at cn;rcases cn with rfl|rfl|rfl|rfl|rfl|rfl|rfl|rfl|rfl|rfl;all_goals simp only[*,go_sem]
end
def ni:KH->KH->KH->KH
 |.seq (.seq a (.block k (.loop (.seq r (.seq i (.seq (.block n (.seq x1 (.seq x2 (.seq _ (.seq x3 (.seq x4 _)))))) A6)))))) A9,P,AW=>.seq (.seq a (.block k (.loop (.seq r (.seq i (.seq (.block n (.seq x1 (.seq x2 (.seq P (.seq x3 (.seq x4 AW)))))) A6)))))) A9|c,_,_=>c
section
variable{p:Aa}{e:Al}{D:List BJ}{j:Al}{g:S}{B:u}{V:TV}{b:u}{i:y}{T:List Au}{W:List u}{c:Nat}{d:Bd}
theorem Ld.rul{G h:S}{m b':Nat}{n p l:y}{t F v:Al}{q:List y}{L:List Al}(f:Ld g b d G m n p t F q L)(A:m<=b')(pm:∀c,Kb b m c->c≠0::11::b->c∉AD p->h.get c=G.get c)(H:h.get (0::11::b)=J (.box [n,l,.d9]))(R:Rh h b b' l v)(Q:Fi b m b' (AD l))(P:(AD l).Nodup):Ld g b d h b' n l t v q L:=by
 have ac:=f.base;have B:=f.dj;rw[D0]at B;obtain⟨K,w,V⟩:=B;rw[D0]at w;obtain⟨W,M,Y⟩:=w;have out:∀k a,k<16->(a::k::b) ∉AD p:=λk a C i=>by have⟨j,m1,m2,e⟩:=f.rvm.ids _ i;simp at e;omega
 have s:∀a k,k<16->(a=1\/k≠11)->h.get (a::k::b)=G.get (a::k::b):=λa k C x=>pm _ (H9 z) BP (out k a C);have N:∀c∈AD n,h.get c=G.get c:=λc i=>by have⟨j,m1,m2,e⟩:=f.cvm.ids c i;grind [H9]
 have O:∀c∈Ab q,h.get c=G.get c:=λc i=>by have⟨j,m1,m2,e⟩:=f.args.new c i;grind [H9]
 have aa:∀c,(∃j,j<m/\c=1::j::b)->c∉AD l:=λc ⟨j,hm,e⟩ i=>by have⟨m2,q1,_,e2⟩:=Q c i;grind
 refine⟨(s 0 0 z z).trans f.b0,(s 0 9 z z).trans f.b9,H,(s 1 15 z z).trans f.arr,f.args.mono A O,f.cvm.mono A N,R,?_,λc i=>(pm c (Ot i _) (λe=>?_) λe=>?_).trans (f.fr c i),z⟩
 .rw[D0];refine⟨K,?_,λr D T o e=>?_⟩
  .rw[D0];refine⟨P,M,λr D T o e=>?_⟩;subst e;have⟨j,m1,m2,e⟩:=f.args.new r o;grind
  .subst e;rcases Ac.1 o with x|x
   .have⟨j,m1,m2,e⟩:=f.cvm.ids r D;grind
   grind
 .rw[e,show AE b (0::11::b)=X from Aq [0,11]]at i;cases i
 .have⟨j,_,_,e2⟩:=f.rvm.ids c e;rw[e2,show AE b (1::j::b)=X from Aq [1,j]]at i;cases i
theorem Ld.up{G h:S}{j b':Nat}{q r:y}{o p:Al}{s:List y}{L:List Al}(c:Ld g b d G j q r o p s L)(n:j<=b')(pm:∀f,Kb b j f->h.get f=G.get f):Ld g b d h b' q r o p s L:=by
 have l:∀a k,k<j->h.get (a::k::b)=G.get (a::k::b):=λa k t=>pm _ (H9 t);have v:=c.base;refine⟨(l _ _ z).trans c.b0,(l _ _ z).trans c.b9,(l _ _ z).trans c.b11,(l _ _ z).trans c.arr,c.args.mono n λf i=>?_,c.cvm.mono n λf i=>?_,c.rvm.mono n λf i=>?_,c.dj,λf i=>(pm f (Ot i _)).trans (c.fr f i),z⟩
 .have⟨m,_,m2,e⟩:=c.args.new f i;grind
 .have⟨m,_,m2,e⟩:=c.cvm.ids f i;grind
 .have⟨m,_,m2,e⟩:=c.rvm.ids f i;grind
theorem AOQ(q:Rr p e D j g B V b i T W c d){cv L:Int}(b4:j[c]?=J cv)(b7:0<=cv)(bx:e[cv.toNat]?=J L)(b8:0<=L)(b9:L<=5000){H:CW}(f0:H.get 0=.ptr B 0)(f1:H.get 1=i)(f3:H.get 2=nI c)(f4:H.get 6=.ptr (0::0::b) 0)(f5:H.get 7=.ptr (0::9::b) 0)(f6:H.get 8=.ptr (0::11::b) 0)(f7:H.get 9=.ii (1::15::b) 0 (U d.ac)){G:S} {dd:Nat} {bl:y} {b':Al} {c':List y} (b1:Ld g b d G dd bl .d9 b' [] c' (Gr d)):
 Wp cfg kT ⟨175,b,X,I,Z,193⟩ 0 (MW 5 (Tryz.f175.body.get rfl)) ⟨H,G,dd,[]⟩ (MY cfg I [.cell 6 112] b X (eB g b b' (MJ T c d) (NN p e D T cv c d))):=by
 have bn:=(Bk q.fo q.ip).ok;have fv:=bn.rules;have fs:=bn.ac;have⟨RU,c3⟩:=C6 (MJ T c d);have⟨AU,c0⟩:=C6 (NN p e D T cv c d);rw[<-c3,<-c0];have eb:∀(o:Nat) n,d.rules[o]?=J n->RU[o]?=J (Fu (GH T c n.d7 2)):=λo n b6=>by grind [MJ]
 have cu:U RU=U d.rules:=by rw[c3,MJ,BV]
 obtain⟨f,M⟩:∃f:Int->Int->Int,f=λd5 s=>sS p T D d5 s:=⟨_,rfl⟩;have c1:NM f T c (L+d.own) 0 d.rules (Gr d)=AU:=by rw[c0,NN,M,Re,bx];rfl
 have c8:∀n∈d.rules,(∀bk∈n.d7,0<=bk/\bk<U d.ac)/\(U n.d7)<=1000/\0<=n.node/\n.node<U p.nodes:=λn b6=>by have dn:=bn.pp n b6;simp[Bx]at dn;have⟨_,_,_,_,_,_,_,_,_,_,hrn,_⟩:=(Bk q.fo q.ip).node;have⟨r0,bi⟩:=hrn n b6;have:=l_ bi;rw[q.fo.len]at this;refine⟨λbk F=>Jv dn.2.2.2 bk F,?_,r0,z⟩;have:=dn.2.1;omega
 have c2:=Rz (X2 q.fo q.ip);have⟨A8,hTu⟩:=g_ (l:=T) (i:=c) (by rw[q.shp.len];exact l_ q.ip);have⟨_,c9,_,_⟩:=q.shp.each _ _ _ q.ip hTu;have d4:=l_ hTu;have f8:(c:Int)<U T:=z;have fp:=b1.b9;have fr:bl.q_b=true:=by rcases b1.cvm with⟨rfl,_⟩|⟨d5,rfl,_⟩<;>rfl
 replace c3:=AB c3;replace c0:=AB c0;refine xp ?_ c1 M c8 bn c2 q b1 c9 cu;clear c1 M c8 bn c2 q b1 c9 cu;intro c1 M c8 bn c2 q b1 c9 cu;rw[show MW 5 (Tryz.f175.body.get rfl)=ni (MW 5 (Tryz.f175.body.get rfl)) (lB (MW 2 (mr (MW 5 (Tryz.f175.body.get rfl))))) (MW 5 (mr (MW 5 (Tryz.f175.body.get rfl))))from rfl];generalize b2:lB (MW 2 (mr (MW 5 (Tryz.f175.body.get rfl))))=P;generalize N:MW 5 (mr (MW 5 (Tryz.f175.body.get rfl)))=AW;refine Qg 1 λT3 c5=>?_;refine M9 ?_ c5 b2 N;clear c5 b2 N;intro c5 b2 N;simp[Tryz.f175,MW,ni,R4];refine ax ?_;refine Aj d.rules (B0:=λo (a:S×Nat)=>⟨[(0,.ptr B 0),(1,i),(2,nI c),(6,.ptr (0::0::b) 0),(7,.ptr (0::9::b) 0),(8,.ptr (0::11::b) 0),(9,.ii (1::15::b) 0 (U d.ac)),(74,.d (.co (d.rules.map BR))),(75,nI (U d.rules)),(76,nI o)],a.1,a.2,[]⟩)
  (Inv:=λo fl a=>AR (∃d0 t,Ld g b d a.1 a.2 bl d0 b' (RU.take o) c' t/\Sl d t/\NM f T c (L+d.own) o fl t=AU)) (b0:=(G,dd+4)) ⟨.d9,Gr d,b1.1.up AZ λ_ _=>rfl,c2.1,c1.1⟩ ?_ ?_
 .rintro o n ⟨d1,x⟩ b6 c6 ej df ac;have⟨d0,t,Y,v,A⟩:=df.1;dsimp only at Y;have gk:SE.wrap ((o:Int)+1)=(o:Int)+1:=w_ z z;have⟨be,jl,y0,y1⟩:=c8.1 n (AP b6);have⟨kk,hkk⟩:=g_ (l:=A8.rules) (i:=o) (by rw[c9.1];exact c6);have gd:=l_ hkk;have f9:(o:Int)<U A8.rules:=z;have cx:Bc T c o=kk:=by rw[Bc,Es,hTu,GC,Es,hkk];rfl
  rw[NM,cx]at A;have f':=Y.base;have c4:=eb o n b6;refine YO ?_ Y v A cx be;clear Y v A cx be;intro Y v A cx be
  (repeat' (first|simp only[*,go_sem,AM,D1,DL,BD]|(refine sx ?_ ?_<;>intro F)|refine sy z λR Q O=>?_|simp(disch:=first|assumption|omega) only[Ad]))
  refine XJ λcc d2=>?_;have de:cc.get (0::(x+4)::b)=J (.box [nI n.at_,.d (.co (n.d7.map AX)),nI n.node]):=by rw[d2];simp only[go_sem]
  have c7:∀K,Kb b x K->cc.get K=d1.get K:=λK bh=>by have s:=bh.is;exact Ba
  have cn:=Y.1.up (show x<=x+8 by omega) c7;have d8:Rq g W cc:=λK bh=>cn.fr K (q.1.wu K bh);clear d2;rw[RV _ _ _ (by rw[<-b2.1];rfl),<-b2.1];refine ADs q.1 (a0:=2) ?_ ?_ (AY:=0::(x+4)::b) ?_ ?_ de d8 be.1 jl ⟨λfz ad ef f2 aa=>?_⟩
  .simp only[go_sem]
  .simp only[go_sem]
  .simp only[go_sem]
  .simp only[go_sem]
  have er:=aa 0 AG;have et:=aa 1 AG;have e1:=aa 2 AG;have e2:=aa 6 AG;have e3:=aa 7 AG;have e7:=aa 8 AG;have e8:=aa 9 AG;have ex:=aa 12 AG;have e0:=aa 13 AG;have e4:=aa 74 AG;have e5:=aa 75 AG;have e6:=aa 76 AG;clear aa;rw[b2.1];simp only[go_sem]at er et e1 e2 e3 e7 e8 ex e0 e4 e5 e6;have bv:=cn.up (show x+8<=ad from ef) λ_ _=>rfl;have d9:=bv.b11;have el:=bv.rvm;have gh:∀k,¬ad+k=11:=λk=>z;generalize GH T c n.d7 2=ls at*;have cs:RU.take (o+1)=RU.take o++[Fu ls]:=by rw[Ex,c4];rfl
  have b5:(RU.take o).length=o:=by rw[F3,cu.1];omega
  refine YO ?_ cs cn bv c7 c4;clear cs cn bv c7 c4;intro cs cn bv c7 c4;have b3:Kb b ad (0::(x+4)::b)/\(0::(x+4)::b)≠0::11::b:=⟨H9 z,BP⟩;replace b3:=AB b3;rcases el with⟨rfl,bs⟩|⟨fd,rfl,gf,gg,d3⟩
  .replace bs:=AB bs;replace b5:=AB b5
   (repeat' (first|simp only[*,go_sem,AM,D1,DL,BD]|(refine sx ?_ ?_<;>intro F)|refine sy z λR Q O=>?_|simp(disch:=first|assumption|omega) only[Ad]))
   generalize ai:S.put _ (0::11::b) (.box [bl,.ii (1::(ad+5)::b) 0 _,.d9])=H4;have C:Ld g b d H4 (ad+8) bl (.ii (1::(ad+5)::b) 0 1) b' (RU.take (o+1)) c' t:=by
    rw[cs.1,bs.1];refine bv.1.rul z (λK dr ds d6=>?_) ?_ (.inr ⟨ad+5,rfl,z,z,?_⟩) (λK bh=>?_) Az
    .have bi:=dr.is;have b0:=AI λH=>ds (Eq.symm H);rw[<-ai];simp only[go_sem,bi,b0,AM]
    .rw[<-ai];simp only[go_sem]
    .rw[<-ai];simp only[go_sem]
    .grind [AD]
   have cp:H4.get (0::(x+4)::b)=cc.get (0::(x+4)::b):=by exact zBr
   clear ai;have dc:Rq g W H4:=λK bh=>C.fr K (q.1.wu K bh);have bo:=cp.trans de;clear cp;replace C:=AB C;rcases q.1.tab.mono dc with⟨rfl,rfl⟩|⟨dx,ar,rfl⟩
   .skip
    exact zAA
   .exact zAw
  .rw[b5]at d9;have ga:((RU.take o).map AX).length=o:=by rw[BV,b5]
   have gb:((RU.take o).map AX).take o=(RU.take o).map AX:=Bv z;have gi:∀k,¬ad+k=fd:=λk=>z;replace b5:=AB b5;generalize dj:(RU.take o).map AX=es at*;replace dj:=AB dj
   (repeat' (first|simp only[*,go_sem,AM,D1,DL,BD]|(refine sx ?_ ?_<;>intro F)|refine sy z λR Q O=>?_|simp(disch:=first|assumption|omega) only[Ad]))
   generalize ai:S.put _ (0::11::b) (.box [bl,.ii (1::(ad+5)::b) 0 _,.d9])=H4;have C:Ld g b d H4 (ad+8) bl (.ii (1::(ad+5)::b) 0 (o+1)) b' (RU.take (o+1)) c' t:=by
    rw[cs.1];refine bv.1.rul z (λK dr ds d6=>?_) ?_ (.inr ⟨ad+5,by grind,z,z,?_⟩) (λK bh=>?_) Az
    .have bi:=dr.is;have b0:=AI λH=>ds (Eq.symm H);have fi:=AI λH=>d6 (by rw[AD,AS];exact Eq.symm H);rw[<-ai];simp only[go_sem,bi,b0,fi,AM]
    .rw[<-ai];simp only[go_sem]
    .rw[<-ai,Ap,dj.1];simp only[go_sem]
    .grind [AD]
   have cp:H4.get (0::(x+4)::b)=cc.get (0::(x+4)::b):=by exact zBr
   clear ai;have dc:Rq g W H4:=λK bh=>C.fr K (q.1.wu K bh);have bo:=cp.trans de;clear cp;replace C:=AB C;rcases q.1.tab.mono dc with⟨rfl,rfl⟩|⟨dx,ar,rfl⟩
   .skip
    exact zAA
   .exact zAw
 .rintro o ⟨d1,x⟩ c6 ej df;have⟨d0,t,Y,v,A⟩:=df.1;dsimp only at Y;rw[NM]at A;subst A;have dm:=c6.1;rw[Bv (by rw[cu.1,dm];exact D2 _)]at Y;replace Y:=AB Y;replace dm:=AB dm;clear c6;refine ax ?_;have ec:=c5.1;rw[ec,show MW 1 (ni (MW 5 (Tryz.f175.body.get rfl)) P AW)=MW 6 (Tryz.f175.body.get rfl)from rfl];refine AOR ?_ ?_ ?_ (Y.1.up z λ_ _=>rfl) (by rw[Y.1.args.len];exact v.1) z λl ek=>?_
  iterate 3
   .exact zAp
  obtain⟨bk,F⟩:=Ce ek;have⟨ch,hch⟩:=g_ (l:=d.ac) (i:=bk) (by rw[<-v.1];exact l_ F);have ea:=v.2 bk ch hch;rw[Ny,Es,F,F7]at ea;have:=(bn.1.chan ch (AP hch)).2.2.2;omega
end
def wJ{a:DH}{K:Ah}{h:Fr}{c:Nat}{i j:KH}{g:CW}{H:S}{e:Nat}{f:List Df}{Q:Di->St->Prop}{P}(k:∀b,b=H->pr a K h c i j ⟨g,b,e,f⟩ Q P):pr a K h c i j ⟨g,H,e,f⟩ Q P:=k H rfl
section
variable{p:Aa}{i:Al}{D:List BJ}{j:Al}{g:S}{B:u}{V:TV}{b:u}{f:y}{T:List Au}{W:List u}{e:Nat}{d:Bd}
theorem AIp(s:Rr p i D j g B V b f T W e d):
 ∃a2 cq,kT (.fn 175) [.ptr B 0,f,nI e] g b X I=.ok (a2,cq)/\eB g b (OC p i D T ((j[e]?).getD 0) d) (MJ T e d) (NN p i D T ((j[e]?).getD 0) e d) a2 cq:=by
 have cm:=s.ap B zCL;have eg:=AN cm;have ej:=Av cm;have cs:=s.rep.box;have fo:=l_ s.ip;have ex:(e:Int)<U p.defs:=z;obtain⟨bk,F,ch,a0,b9,x,b2,fd,b7,dx,d0⟩:=s.head;obtain⟨cu,fi,b6,c9,c'⟩:=UG s.rep.heads a0;rw[b6]at cs;have cl:=s.ap cu (by grind [TV.ids,AD]);have ek:=AN cl;have el:=Av cl;have lhs:=l_ a0;have e0:(e:Int)<U j:=z;have fp:=l_ c';replace b6:=AB b6;have P:=(Bk s.fo s.ip).ok;have e4:=s.ip;have ea:=P.ac;have eb:=P.rules;have ec:=P.be;have en:∀H,Rq g W H->FM (S.get H) f=J (Dv T):=λH M=>(s.tab.mono M).frz;have mk:∀H,Rq g W H->Abs.mark (S.get H) f=Abs.mark g.get f:=λH M=>s.tab.mark M;obtain⟨K,Y⟩:∃K,K=OC p i D T bk d:=⟨_,rfl⟩;obtain⟨bn,az⟩:∃bn,bn=MJ T e d:=⟨_,rfl⟩;obtain⟨bl,av⟩:∃bl,bl=NN p i D T bk e d:=⟨_,rfl⟩;rw[a0,F7,<-Y,<-az,<-av];replace Y:=AB Y;replace az:=AB az;replace av:=AB av;obtain⟨cp,bi⟩:∃cp,cp=Abs.mark g.get f:=⟨_,rfl⟩;rw[<-bi]at mk;have dl:∀h (H:S),h∉W->(H.q_d cp).get h=H.get h:=λh H m=>QK λF x n=>m (n▸s.tab.mark_in F (bi▸x));have d6:∀H a k a2,Rq g W (S.put H (a::k::b) a2)=Rq g W H:=λH a k a2=>by
  apply propext;constructor
  .intro t h m;rw[<-t h m,BU _ _ λn=>?_];have:=s.wu h m;rw[n,show AE b (a::k::b)=X from Aq [a,k]]at this;cases this
  .intro t h m;rw[BU _ _ λn=>?_]
   .exact t h m
   .have:=s.wu h m;rw[n,show AE b (a::k::b)=X from Aq [a,k]]at this;cases this
 have d5:Rq g W g:=λ_ _=>rfl;replace bi:=AB bi;replace dl:=AB dl;replace P:=AB P;replace s:=AB s;by_cases c8:U d.ac=0
 .have be:=CE c8;have a1:d.rules=[]:=by
   refine On.2 λR ai=>?_;have b4:=P.1.pp R ai;simp[Bx]at b4;have v:=b4.1.1;have t:=b4.2.2.2;rcases A:R.d7 with _|⟨c,l⟩
   .grind
   .have:=Jv t c (by rw[A];simp);omega
  have c4:K=[]:=by rw[Y.1,OC,be];rfl
  have c5:bn=[]:=by rw[az.1,MJ,a1];rfl
  have c3:bl=[]:=by rw[av.1,NN,a1,NM,Gr,be];rfl
  rw[c4,c5,c3];replace be:=AB be;replace a1:=AB a1;refine N1 rfl func175 rfl rfl rfl ?_;show Wp _ _ _ _ (Tryz.f175.body.get rfl) _ _;simp[Tryz.f175]
  (repeat' (first|simp only[*,go_sem,AM]|(refine sx ?_ ?_<;>intro L)|refine sy z λF x C=>?_|simp(disch:=first|assumption|omega) only[Ad,cP]))
  have e9:U d.rules=0:=by rw[a1.1];rfl
  rw[Dc]
  (repeat' (first|simp only[*,go_sem,AM,D1,DL,BD]|(refine sx ?_ ?_<;>intro L)|refine sy z λF x C=>?_|simp(disch:=first|assumption|omega) only[Ad]))
  rw[Dc]
  (repeat' (first|simp only[*,go_sem,AM,D1,DL,BD]|(refine sx ?_ ?_<;>intro L)|refine sy z λF x C=>?_|simp(disch:=first|assumption|omega) only[Ad]))
  rw[Dc]
  (repeat' (first|simp only[*,go_sem,AM,D1,DL,BD]|(refine sx ?_ ?_<;>intro L)|refine sy z λF x C=>?_|simp(disch:=first|assumption|omega) only[Ad]))
  refine wJ λd3 bv=>?_;refine pt (b8:=0::11::b) (b6:=0::0::b) (c:=.d9) (r:=.d9) (a:=.d9) (y1:=.d9) (y2:=.d9) (y3:=.d9) (A6:=.co []) rfl zCZ zCZ zCk zCk AG rfl rfl rfl (λN b3=>by cases b3) λef d2 bh e1 em=>?_;replace bh:=AB bh;replace bv:=AB bv;refine ax ?_;refine⟨.d9,.d9,rfl,.inl (.inl ⟨rfl,rfl⟩),.inl (.inl ⟨rfl,rfl⟩),λh m=>(by cases m),List.nodup_nil,λh m=>(bh.1 h (λN b3=>by cases b3) (λn=>?_) λn=>?_).trans ?_⟩
  .rw[n,show AE b (0::11::b)=X from Aq [0,11]]at m;cases m
  .rw[n,show AE b (0::0::b)=X from Aq [0,0]]at m;cases m
  .have N:=AN m;rw[bv.1];exact Ba
 have e3:(0:Int)<U d.ac:=z;have e2:0<U d.ac:=z;refine N1 rfl func175 rfl rfl rfl ?_;show Wp _ _ _ _ (Tryz.f175.body.get rfl) _ _;refine Qg 5 λd4 bx=>?_;simp[Tryz.f175,R4];replace bx:=AB bx
 (repeat' (first|simp only[*,go_sem,AM]|(refine sx ?_ ?_<;>intro L)|refine sy z λF x C=>?_|simp(disch:=first|assumption|omega) only[Ad,cP]))
 have aa:U K=U d.ac:=by rw[Y.1];simp[OC]
 have bs:∀(h:Nat),h<U d.ac->K[h]?=J (Fu (sS p T D bk (ch+(h:Int)))):=λh m=>by rw[Y.1,OC,Be,List.getElem?_range m,Re,b7];rfl
 replace aa:=AB aa;replace bs:=AB bs;replace b2:=AB b2;refine HF λc1 a6=>?_;refine Aj d.ac (B0:=λh (a:S×Nat)=>⟨[(0,.ptr B 0),(1,f),(2,nI e),(6,.ptr (0::0::b) 0),(7,.ptr (0::9::b) 0),(8,.ptr (0::11::b) 0),(9,.ii (1::15::b) 0 (U d.ac)),(39,.d (.co (d.ac.map BW))),(40,nI (U d.ac)),(41,nI h)],a.1,a.2,[]⟩)
  (Inv:=λh f6 a=>AR (∃bo O,Ld g b d a.1 a.2 bo .d9 (K.take h) [] O ((Gr d).take h++Sm (U d.ac-h) []))) (b0:=(c1,21)) ⟨.d9,Sm (U d.ac) .d9,?_⟩ ?_ ?_
 .rw[Lw,Lw,Cs,Nat.sub_zero];have A6:∀l:List y,(∀a3∈l,a3=.d9)->Ab l=[]:=by intro l;induction l with|nil=>intro _;rfl|cons a3 l dn=>intro s;rw[Ab,s a3 (CO ..),dn λd1 dm=>s d1 (Bi _ dm)];rfl
  have cn:Ab (Sm (U d.ac) .d9)=[]:=A6 _ λa3 b5=>(I0.1 b5).2;refine⟨?_,?_,?_,?_,⟨AG,λc a3 l b5 dd=>?_,λh m=>(by rw[cn]at m;cases m),(by rw[cn];simp)⟩,.inl ⟨rfl,rfl⟩,.inl ⟨rfl,rfl⟩,by rw[cn];simp[AD],λh m=>?_,z⟩
  .exact Ba
  .exact Ba
  .exact Ba
  .rw[a6,LM];simp only[go_sem]
  .have v:=(I0.1 (AP b5)).2;have t:=(I0.1 (AP dd)).2;exact .inl ⟨.inl v,t⟩
  .have N:=AN m;exact Ba
 .replace a6:=AB a6;rintro h R ⟨G,r⟩ ai m cv a' a4;obtain⟨bo,O,q⟩:=a'.1;dsimp only at q;have f7:SE.wrap ((h:Int)+1)=(h:Int)+1:=w_ z z;obtain⟨w,C⟩:∃w:Nat,R.many=w:=⟨R.many.toNat,by have:=(P.1.chan R (AP ai)).2.2.1;omega⟩;have e8:w<=3:=by have:=(P.1.chan R (AP ai)).2.2.2;omega
  have d8:=q.b0;have c2:=q.b9;have d9:=q.b11;have d':=q.arr;have ac:=q.base;have d7:Rq g W G:=λo A=>q.fr o (s.1.wu o A);have er:=(q.fr B cm).trans cs;have et:=(q.fr cu cl).trans c9;have bc:=λ(H:S) (M:∀o,AE b o=Z->o∉W->H.get o=G.get o) o (v:AE b o=Z) (t:o∉W)=>(M o v t).trans (q.fr o v);have dj:=AB λk (H:S) M=>s.1.place a0 b9 b7 (c:=(h:Int)) ⟨z,z⟩ k H (bc H M);have dc:=AB λk (H:S) M=>s.1.inner b9 x b2.1 (ch+(h:Int)) k H (bc H M);have f2:∀k,k<16->¬r=k:=λk bh=>z;have fv:∀k,¬r+k=0:=λk=>z;have f1:∀k,¬r+k=9:=λk=>z;have fz:∀k,¬r+k=11:=λk=>z;have f0:∀k,¬r+k=15:=λk=>z;have c0:U O=U d.ac:=by rw[q.args.len];simp[Gr];omega
  have dq:h<U O:=z;obtain⟨v0,fc⟩:=g_ dq;have fl:=cv;replace bc:=AB bc;replace q:=AB q;replace ac:=AB ac;replace c0:=AB c0;clear aa
  (repeat' (first|simp only[*,go_sem,AM,D1,DL,BD]|(refine sx ?_ ?_<;>intro L)|refine sy z λF x C=>?_|simp(disch:=first|assumption|omega) only[Ad]))
  refine DN (dj.1 _ _ λo v t=>?_) (λdr c6 b'=>?_)
  .have N:=AN v;exact Ba
  subst b'
  (repeat' (first|simp only[*,go_sem,AM,D1,DL,BD]|(refine sx ?_ ?_<;>intro L)|refine sy z λF x C=>?_|simp(disch:=first|assumption|omega) only[Ad]))
  refine DN (dc.1 _ _ λo v t=>?_) (λdr c6 b'=>?_)
  .have N:=AN v;rw[dl.1 o _ t];exact Ba
  subst b';have cx:=bs.1 h m;generalize sS p T D bk (ch+(h:Int))=kc at*;have ag:(K.take (h+1))=K.take h++[Fu kc]:=by rw[Ex,cx];rfl
  have ad:(K.take h).length=h:=by rw[F3];have:=l_ cx;omega
  replace ag:=AB ag;rcases q.1.cvm with⟨rfl,a5⟩|⟨b8,rfl,fr,fs,e7⟩
  .have a5:=AB a5;replace ad:=AB ad;by_cases b1:w=0
   .subst b1
    (repeat' (first|simp only[*,go_sem,AM,D1,DL,BD]|(refine sx ?_ ?_<;>intro L)|refine sy z λF x C=>?_|simp(disch:=first|assumption|omega) only[Ad,Dm]))
    refine a4.1 (_,_) ?_;refine⟨.ii (1::(r+25)::b) 0 1,O.set h (.emp),?_⟩;rw[ag.1,a5.1,<-UK zDK m (l:=[]) (by rw[Gr,Be,ai];simp[C])];have b0:=ac.1;refine q.1.chan (cv':=.ii (1::(r+25)::b) 0 1) (v':=.emp) AZ (λo v t Q ar=>?_) ?_ ?_ (.inr ⟨r+25,rfl,z,AZ,?_⟩) (λo A=>?_) (.inl ⟨.inr rfl,rfl⟩) (λo A=>by cases A) Az
    .exact zB1
    .exact Ba
    .exact Ba
    .exact Ba
    grind [AD]
   .have de:0<w:=z;have df:(0:Int)<w:=z
    (repeat' (first|simp only[*,go_sem,AM,D1,DL,BD]|(refine sx ?_ ?_<;>intro L)|refine sy z λF x C=>?_|simp(disch:=first|assumption|omega) only[Ad,Dm]))
    refine a4.1 (_,_) ?_;refine⟨.ii (1::(r+25)::b) 0 1,O.set h (.ii (1::(r+32)::b) 0 w),?_⟩;rw[ag.1,a5.1,<-UK zDK m (l:=Sm w (0:Int)) (by grind [Gr])];have b0:=ac.1;refine q.1.chan (cv':=.ii (1::(r+25)::b) 0 1) (v':=.ii (1::(r+32)::b) 0 w) AZ (λo v t Q ar=>?_) ?_ ?_ (.inr ⟨r+25,rfl,z,AZ,?_⟩) (λo A=>?_) (.inr ⟨_,by rw[IN],?_⟩) (λo A=>?_) Az
    .exact zB1
    .exact Ba
    .exact Ba
    .simp only[*,go_sem,DL,AM]
    .grind [AD]
    .exact Ba
    grind [AD]
  .have f3:∀k,¬r+k=b8:=λk=>z;have f5:¬b8=15:=z;have f4:¬(15:Nat)=b8:=z;rw[ad]at q⊢;have e6:((K.take h).map AX).length=h:=by rw[BV,ad]
   replace ad:=AB ad;generalize e5:(K.take h).map AX=es at*;have e':es.take h=es:=Bv z;by_cases b1:w=0
   .subst b1
    (repeat' (first|simp only[*,go_sem,AM,D1,DL,BD]|(refine sx ?_ ?_<;>intro L)|refine sy z λF x C=>?_|simp(disch:=first|assumption|omega) only[Ad,Dm]))
    refine a4.1 (_,_) ?_;refine⟨.ii (1::(r+25)::b) 0 (h+1),O.set h (.emp),?_⟩;rw[ag.1,<-UK zDK m (l:=[]) (by rw[Gr,Be,ai];simp[C])];have b0:=ac.1;refine q.1.chan (cv':=.ii (1::(r+25)::b) 0 (h+1)) (v':=.emp) AZ (λo v t Q ar=>?_) ?_ ?_ (.inr ⟨r+25,?_,z,AZ,?_⟩) (λo A=>?_) (.inl ⟨.inr rfl,rfl⟩) (λo A=>by cases A) Az
    .exact zBI
    .exact Ba
    .exact Ba
    .grind
    .rw[Ap];exact Ba
    grind [AD]
   .have de:0<w:=z;have df:(0:Int)<w:=z
    (repeat' (first|simp only[*,go_sem,AM,D1,DL,BD]|(refine sx ?_ ?_<;>intro L)|refine sy z λF x C=>?_|simp(disch:=first|assumption|omega) only[Ad,Dm]))
    refine a4.1 (_,_) ?_;refine⟨.ii (1::(r+25)::b) 0 (h+1),O.set h (.ii (1::(r+32)::b) 0 w),?_⟩;rw[ag.1,<-UK zDK m (l:=Sm w (0:Int)) (by grind [Gr])];have b0:=ac.1;refine q.1.chan (cv':=.ii (1::(r+25)::b) 0 (h+1)) (v':=.ii (1::(r+32)::b) 0 w) AZ (λo v t Q ar=>?_) ?_ ?_ (.inr ⟨r+25,?_,z,AZ,?_⟩) (λo A=>?_) (.inr ⟨_,by rw[IN],?_⟩) (λo A=>?_) Az
    .exact zBI
    .exact Ba
    .exact Ba
    .grind
    .rw[Ap];simp only[*,go_sem,DL,AM]
    .grind [AD]
    .exact Ba
    grind [AD]
 .clear a6;rintro h ⟨G,r⟩ m cv a';obtain⟨bo,O,q⟩:=a'.1;dsimp only at q;rw[m.1,<-aa.1,F2,aa.1,IF,List.replicate_zero,CS,Bv zDK]at q;have c2:=q.b9;have c7:=AB q;clear q a' aa;refine ax ?_;rw[bx.1,az.1,av.1];refine AOQ s.1 a0 b9 b7 dx d0 ?_ ?_ ?_ ?_ ?_ ?_ ?_ (c7.1.up z λ_ _=>rfl)
  iterate 7
   .exact zAp
end
def Xa(a:Aa)(e:Al)(D:List BJ)(c:Al)(b:List Au):(Gl a e D c b).length=U a.defs:=ae ..
section
variable{p:Aa}{sz:Al}{D:List BJ}{hs:Al}{g:S}{B:u}{V:TV}{ρ:u}{tv:y}{T:List Au}{W:List u}
structure nB(p:Aa)(sz:Al)(D:List BJ)(hs:Al)(g:S)(B:u)(V:TV)(ρ:u)(tv:y)(T:List Au)(W:List u):Prop:=
 fo:Ao p sz
 tree:Dz p
 den:Fh p sz D
 rep:Dh p sz D hs g B V
 ap:Sr ρ B V
 shp:W1 p T
 tab:XW g tv T W
 wu:∀i∈W,AE ρ i=Z
 dis:∀i∈V.ids B,i∉W
 hds:Mz p hs
theorem NB{ρ:u}{i:u}(k:Nat)(h:AE ρ i=Z):AE (k::ρ) i=false:=by grind [Bt]
theorem nB.ask(a:nB p sz D hs g B V ρ tv T W){e:Nat}{d:Bd}(h:p.defs[e]?=J d)(k:Nat){H:S}(f:∀b,AE ρ b=Z->H.get b=g.get b):Rr p sz D hs H B V (k::ρ) tv T W e d:=⟨a.fo,a.tree,a.den,a.rep.mono λb c=>f b (a.ap b c),a.ap.ext k,a.shp,a.tab.mono λb c=>f b (a.wu b c),λb c=>NB k (a.wu b c),a.dis,h,a.hds⟩
theorem wc(j:nB p sz D hs g B V ρ tv T W):
 ∃b7 a6,kT (.fn 133) [.ptr B 0,tv] g ρ X I=.ok (b7,a6)/\∃bn l,b7=.ret bn/\Lj a6 bn l (Gl p sz D hs T)/\(∀e∈AD bn++l.flatMap Ab,∃f,Kt ρ f e)/\(∀A∈l,∀m,A[0]? ≠J (y.d m))/\∀e,AE ρ e=Z->a6.get e=g.get e:=by
 have cc:=j.ap B zCL;have cs:=AN cc;have cu:=Av cc;have cx:=j.rep.box;have b4:=j.fo.small;simp[Aa.small]at b4;obtain⟨_,c2,c0⟩:=b4;replace j:=AB j;refine Bf func133 ?_;refine ax ?_;refine Aj p.defs (B0:=λe (a:(y×S)×Nat)=>⟨[(0,.ptr B 0),(1,tv),(5,a.1.1),(12,nI (U p.defs)),(13,nI e)],a.1.2,a.2,[]⟩)
  (Inv:=λe c8 a=>AR ((∃l,Lj a.1.2 a.1.1 l ((Gl p sz D hs T).take e)/\(∀b∈AD a.1.1++l.flatMap Ab,Kt ρ a.2 b)/\∀A∈l,∀m,A[0]? ≠J (y.d m))/\∀b,AE ρ b=Z->a.1.2.get b=g.get b)) (b0:=((.d9,g),9)) ⟨⟨[],⟨.inl ⟨rfl,rfl⟩,rfl,λe A C j=>by simp at j,Az⟩,Az,AG⟩,λ_ _=>rfl⟩ ?_ ?_
 .rintro e d ⟨⟨bl,H⟩,f⟩ b1 ai ch a' bo;obtain⟨⟨l,o,i,r⟩,q⟩:=a'.1;dsimp only at o i q;replace r:=AB r;have c9:SE.wrap ((e:Int)+1)=(e:Int)+1:=w_ z z;have cd:=AB λk=>j.1.ask b1 k q;replace o:=AB o;replace i:=AB i;replace q:=AB q
  (repeat' (first|simp only[*,go_sem,AM,D1,DL,BD]|(refine sx ?_ ?_<;>intro b0)|refine sy z λm b6 b3=>?_|simp(disch:=first|assumption|omega) only[Ad]))
  refine Ak (AIp (cd.1 (f+7))) (λc7 n cm=>?_);obtain⟨t,x,rfl,aa,av,Y,bc,ad⟩:=cm;obtain⟨C,N⟩:∃C,C=NP p sz D T ((hs[e]?).getD 0) (e:Int) d:=⟨_,rfl⟩;have b5:(Gl p sz D hs T).take (e+1)=(Gl p sz D hs T).take e++[C]:=by rw[Ex,Im,b1,N];rfl
  have az:((Gl p sz D hs T).take e).length=e:=by rw[F3,Xa];omega
  have v:=o.1.mono λb c=>ad b ((i.1 b c).sib z);have bi:=v.len;rw[az]at bi;have c3:l.take e=l:=Bv z;obtain⟨F,L⟩:∃F,F=y.d (.co (C.args.map E7)):=⟨_,rfl⟩;have a1:∀h,(∀b∈AD t++AD x,h.get b=n.get b)->Zw h [t,x,F] C:=λh bx=>⟨_,_,_,rfl,(show ij n t (C.ac.map AX)from N▸ .inr aa).mono λb c=>bx b (Ac.2 (.inl c)),(show ij n x (C.rules.map AX)from N▸ .inr av).mono λb c=>bx b (Ac.2 (.inr c)),.inl L⟩;have a4:y.d (.co (((NN p sz D T ((hs[e]?).getD 0) (e:Int) d).map (·.map Fu)).map E7))=F:=by rw[L,N];rfl
  rw[a4];have a5:AD F=[]:=by rw[L];rfl
  have cp:y.q_b F=true:=by rw[L];rfl
  have cq:y.q_b t=true:=by rcases aa with(⟨rfl,_⟩|⟨O,m,rfl,_⟩)|⟨rfl,_⟩<;>rfl
  have c4:y.q_b x=true:=by rcases av with(⟨rfl,_⟩|⟨O,m,rfl,_⟩)|⟨rfl,_⟩<;>rfl
  have w:∀b,(AE ((f+7)::ρ) b=Z\/∃cn,b=1::cn)->S.get (gc ((f+7)::ρ) n) b=n.get b:=λb c=>by grind [An,FC]
  have Q:∀b∈AD t++AD x,Kt ρ (f+8) b:=λb c=>⟨⟨f+7,z,(Y b c).1⟩,(Y b c).2⟩;obtain⟨row,K⟩:∃row,row=[t,x,F]:=⟨_,rfl⟩;have P:Ab row=AD t++AD x:=by rw[K];simp[Ab,a5]
  rw[<-K]at a1;have a0:∀A∈l++[row],∀m,A[0]? ≠J (y.d m):=λA M m=>by
   rcases Ac.1 M with M|M
   .exact r.1 A M m
   .rw[AS]at M;rw[M,K];rcases aa with(⟨rfl,_⟩|⟨O,c',rfl,_⟩)|⟨rfl,_⟩<;>simp
  replace a0:=AB a0;have i:=i.1;have ac:∀b,Kt ρ f b->b∉AD t++AD x:=λb c j=>by have cv:=c.sib (m:=f+7) z;grind
  have a2:∀(h:S),h.get (1::(f+9)::ρ)=J (.arr 3 (l++[row]))->(∀b,Kb ρ (f+8) b->b∉AD bl->h.get b=S.get (gc ((f+7)::ρ) n) b)->Lj h (.ii (1::(f+9)::ρ) 0 (e+1)) (l++[row]) ((Gl p sz D hs T).take (e+1)):=λh n bs=>by have r:=v.nd;rw[D0]at r;have:=v.snoc (id:=1::(f+9)::ρ) (a1 h λb c=>(bs b (Q b c).old λj=>ac b (i b (Ac.2 (.inl j))) c).trans (w b (.inr (Y b c).2))) (by rw[P];exact bc) n (λb c=>(bs b ((i b (Ac.2 (.inr c))).mono z).old λj=>r.2.2 b j b c rfl).trans (w b (.inr (i b (Ac.2 (.inr c))).2))) (λb c j=>ac b (i b (Ac.2 (.inr c))) (P▸j)) (λj=>(Q _ (P▸j)).ne (a:=1) (m:=f+9) z rfl) (λj=>(i _ (Ac.2 (.inr j))).ne (a:=1) (m:=f+9) z rfl);grind
  have ar:∀b∈AD (.ii (1::(f+9)::ρ) 0 (e+1))++(l++[row]).flatMap Ab,Kt ρ (f+13) b:=λb c=>by
   simp only[AD,Ac,AS,JP,FN,Nl,CS,P]at c;rcases c with rfl|c|c
   .exact⟨⟨f+9,z,q_a.2 (FD 1 _)⟩,_,rfl⟩
   .exact(i b (Ac.2 (.inr c))).mono z
   .exact(Q b (Ac.2 c)).mono z
  have ag:=λb c=>(w b (.inl (NB _ c))).trans ((ad b (NB _ c)).trans (q.1 b c));have bk:=λb c=>i b (Ac.2 (.inl c));replace aa:=AB aa;replace av:=AB av;replace a1:=AB a1;replace L:=AB L;replace a4:=AB a4;replace a5:=AB a5;replace N:=AB N;replace b5:=AB b5;replace az:=AB az;replace Y:=AB Y;replace bc:=AB bc;replace ad:=AB ad;replace K:=AB K;replace P:=AB P;replace ac:=AB ac;replace a2:=AB a2;replace ar:=AB ar;replace ag:=AB ag;replace bk:=AB bk;replace i:=AB i;replace Q:=AB Q;rcases v.arr with⟨rfl,bv⟩|⟨O,rfl,be⟩
  .replace v:=AB v;replace w:=AB w
   (repeat' (first|simp only[*,go_sem,AM,D1,DL,BD]|(refine sx ?_ ?_<;>intro b0)|refine sy z λm b6 b3=>?_|simp(disch:=first|assumption|omega) only[Ad]))
   have cl:e=0:=by rw[bv]at bi;exact bi.symm
   generalize gc ((f+7)::ρ) n=G1 at*;refine bo.1 ((_,_),_) ?_;refine⟨⟨l++[row],?_,?_,a0.1⟩,λb c=>?_⟩
   .have key:=a2.1;rw[cl]at key⊢;refine key _ ?_ ?_
    .rw[K.1,bv];simp only[go_sem]
    .intro b c b2;have s:=c.is;have b8:=s 1 0;have b9:=s 1 1;exact Ba
   .have:=ar.1;grind
   .have s:=AN c;simp only[go_sem,s,AM];exact ag.1 b c
  .rw[az.1];have a3:=bk.1 O Az;have c5:=a3.old.is;have c6:=λa k=>AI λR=>a3.ne (a:=a) (m:=f+k) z R;have c1:=(w O (.inr a3.2)).trans be;replace be:=AB be;replace v:=AB v;replace w:=AB w
   (repeat' (first|simp only[*,go_sem,AM,D1,DL,BD]|(refine sx ?_ ?_<;>intro b0)|refine sy z λm b6 b3=>?_|simp(disch:=first|assumption|omega) only[Ad]))
   generalize gc ((f+7)::ρ) n=G1 at*;refine bo.1 ((_,_),_) ?_;refine⟨⟨l++[row],a2.1 _ ?_ ?_,ar.1,a0.1⟩,λb c=>?_⟩
   .rw[K.1];exact zAp
   .intro b c b2;have s:=c.is;have b8:=s 1 0;have b9:=s 1 1;simp[Rt]at b8 b9;have b':=AI λR=>b2 (by rw[AD,AS];exact Eq.symm R);exact Ba
   .have s:=AN c;have b':AJ O b=false:=AI λR=>by rw[<-R,a3.up]at c;cases c
    simp only[go_sem,s,b',AM];exact ag.1 b c
 .rintro e ⟨⟨bl,H⟩,f⟩ ai ch a';obtain⟨⟨l,o,i,r⟩,q⟩:=a'.1;have bh:=ai.1;rw[bh,<-Xa p sz D hs T,F2]at o;dsimp only at o i q;replace r:=AB r;replace bh:=AB bh;replace o:=AB o;replace i:=AB i;replace q:=AB q;refine ax ?_;exact⟨bl,l,rfl,o.1,λe ai=>⟨f,i.1 e ai⟩,r.1,q.1⟩
end
