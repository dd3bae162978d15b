/- P -/
import Derived.Test.YtbinfhpngacfgaaGreatUs12
set_option linter.all false
set_option maxRecDepth 99999
set_option maxHeartbeats 0
open Go renaming Code->L2
open List renaming replicate->TL,length->U
open Go.IntKind renaming i64->TC
open Option renaming some->J,none->I
open Bool renaming true->X,false->Z
namespace Go
variable{p:Prop}
def zCU(h:p:=by rw[<-s,ED _ _ _ AG];simp only[go_sem]):p:=h
def zCY(h:p:=by rw[<-m,ED _ _ _ AG];simp only[go_sem]):p:=h
def zCd(h:p:=by simpa using i):p:=h
def zDD(h:p:=by rw[<-f.len];exact l_ hu):p:=h
def zDN(h:p:=by rw[p_,is_self];rfl):p:=h
def zDO(h:p:=by simp[Gj]):p:=h
def zDT(h:p:=by rw[c];simp):p:=h
end Go
namespace Go
variable{p:Prop}
def zAA(h:p:=by
 (repeat' (first|simp only[*,go_sem,AM,D2,DO,BA]|(refine sx ?_ ?_<;>intro F)|refine sy z λR Q O=>?_|simp(disch:=first|assumption|omega) only[Ae]))
 .have m:=A.1;rw[D3 CM]at m;refine ac.1 (_,_) ?_;exact⟨_,t,C.1.up AZ λ_ _=>rfl,v.1,m⟩
 .have m:=A.1;rw[Co CM,M.1]at m;rw[<-N.1];refine yW q.1 b4 b7 bx b8 b9 ?_ ?_ ?_ ?_ ?_ (AY:=0::(x+4)::b) ?_ bo ⟨_,rfl⟩ be.1 jl y0 y1 (C.1.up z λ_ _=>rfl) v.1 ⟨λcm cd cl cq w h=>?_⟩
  iterate 6
   .simp only[*,go_sem]
  have az:=h 0 AG;have a0:=h 1 AG;have a1:=h 2 AG;have a2:=h 6 AG;have a3:=h 7 AG;have a':=h 8 AG;have bc:=h 9 AG;have a4:=h 74 AG;have a5:=h 75 AG;have a6:=h 76 AG;clear h;rw[N.1];simp only[go_sem]at az a0 a1 a2 a3 a' bc a4 a5 a6;replace w:=AB w;have ag:=AR.mk (v.1.mono (Ie (λs=>sS p T D n.node s) n.d7 (L+d.own) t));generalize J4 (λs=>sS p T D n.node s) n.d7 (L+d.own) t=L5 at*;replace m:=AB m
  (repeat' (first|simp only[*,go_sem,AM,D2,DO,BA]|(refine sx ?_ ?_<;>intro F)|refine sy z λR Q O=>?_|simp(disch:=first|assumption|omega) only[Ae]))
  refine ac.1 (_,_) ?_;exact⟨_,L5,w.1.up AZ λ_ _=>rfl,ag.1,by rw[M.1];exact m.1⟩):p:=h
def zAJ(h:p:=by
 refine Ba func196 ?_;refine ax (GI (r.1 _ _ λY W=>?_) (λac Q o=>?_))
 .rfl
 rw[<-f.1]at o;subst o;exact af):p:=h
def zAR(h:p:=by exact⟨this.b0,this.b9,this.b11,this.arr,this.args.mono AZ λ_ _=>rfl,this.cvm.mono AZ λ_ _=>rfl,this.rvm.mono AZ λ_ _=>rfl,this.dj,this.fr,by have:=this.base;dsimp only;omega⟩):p:=h
def zAW(h:p:=by
 rw[Co m]at f;replace f:=AB f;replace k:=AB k;by_cases R:t.op=2
 .have a4:¬t.n=pl:=λr=>m ⟨R,r⟩;replace m:=AB m;refine ax ?_;refine x.1 ((a,_),_) ⟨⟨f.1,v,AZ⟩,?_⟩;dsimp only;simp only[*,go_sem,AM]
 .replace m:=AB m;refine ax ?_;refine x.1 ((a,_),_) ⟨⟨f.1,v,AZ⟩,?_⟩;dsimp only;simp only[*,go_sem,AM]):p:=h
def zAa(h:p:=by (repeat' (first|simp only[*,go_sem,AM,D2,DO]|(refine sx ?_ ?_<;>intro t)|refine sy z λY M o=>?_|simp(disch:=first|assumption|omega) only[Ae]))):p:=h
def zAi(h:p:=by
 refine Ba func177 ?_;refine ax (DB (w.1 _ _ λag t=>?_) (λai Y s=>?_))
 .have v:=t;rw[Nt]at v;exact BZ
 subst s;refine ax (DB (aa.1 _ _ λag t=>?_) (λai Y s=>?_))
 .have v:=t;rw[Nt]at v;exact BZ
 subst s;refine ax ?_;rw[f.1]):p:=h
def zAq(h:p:=by simp only[*,go_sem]):p:=h
def zAy(h:p:=by
 have⟨r,hr⟩:=g_ (l:=dx) (i:=c) (by rw[ar.len];exact d4);obtain⟨d',e9,d7,rfl,_,av,_⟩:=ar.each c r Bn hr hTu;have e':=l_ hr;rcases ar.arr with⟨_,bs⟩|⟨em,rfl,eg⟩
 .rw[bs]at hr;simp at hr
 .replace ar:=AB ar;rcases eE av hkk with rfl|⟨en,fo,rfl,d3,dq⟩
  .replace av:=AB av
   exact zAA
  .have fc:=l_ dq;replace av:=AB av
   exact zAA):p:=h
def zAz(h:p:=by
 rw[b,MZ]at e;rw[c]
 (repeat' (first|simp only[*,go_sem,MZ]|(refine sx ?_ ?_<;>intro g)|refine sy z λk i h=>?_|simp(disch:=first|assumption|omega) only[Ae]))):p:=h
def zBK(h:p:=by have N:=v.is;have cc:=AI λn=>t (Eq.symm n);have cd:=AI λn=>Q (Eq.symm n);have ds:=AI λn=>ar (by rw[AE,AS];exact Eq.symm n);exact BZ):p:=h
def zBN(h:p:=by
 refine⟨⟨?_,?_,?_⟩,?_⟩
 .rw[q.1];simp only[s,IP,Gs]
 .unfold Zi;dsimp only;omega
 .dsimp only;omega
 .dsimp only;simp only[go_sem]):p:=h
def zBT(h:p:=by refine ax ?_;exact A.1 (_,_) ⟨i.1,by have:=j.1;dsimp only;omega⟩):p:=h
def zBc(h:p:=by rw[V,show AD c (0::(b+8)::c)=X from Ao [0,b+8]]at i;cases i):p:=h
def zBn(h:p:=by obtain⟨bv,o,q⟩:=ac.1.eat;exact⟨⟨bv,o,λg i=>(q g i).imp_right λj=>j.mono AZ⟩,ac.1.frame⟩):p:=h
def zBs(h:p:=by have bi:=b3.1.1.is;have b0:=AI λH=>b3.1.2 (Eq.symm H);rw[<-ai];simp only[go_sem,bi,b0,AM]):p:=h
def zB2(h:p:=by
 rcases N g i with j|j
 .exact(x.1 g j).imp_right λj=>j.mono z
 .exact .inr ⟨_,z,j⟩):p:=h
def zB3(h:p:=by have N:=v.is;have cc:=AI λn=>t (Eq.symm n);have cd:=AI λn=>Q (Eq.symm n);exact BZ):p:=h
def zCL(h:p:=by have:=s.wu h m;rw[n,show AD b (a::k::b)=X from Ao [a,k]]at this;cases this):p:=h
end Go
namespace Go.Proofs
open Abs Tryz
def E8(t:BP)(C:Nat):Bool:=A8 t.be (((t.ac[C]?).map Fc.at_).getD 0)
def DX(p:Aa)(s:BP)(x:Dk)(C:Nat):Nat:=if x.wait<0 then(match s.bv[x.group.toNat]? with
 |some g=>match p.defs[g.ip.toNat]? with
  |some d=>match d.rules[x.pp.toNat]? with|some r=>JW d g C r.d7|none=>0
  |none=>0
 |none=>0)else 0
def O5(p:Aa)(s:BP)(x:Dk)(B:dX)(t:BP):dX:=⟨λC=>B.base C+DX p s x C+(if E8 t C=X then Ck s C else 0),if x.wait<0 then MB B.rx x.group.toNat x.pp.toNat else B.rx⟩
theorem wI{B a:dX}(c:∀b,B.base b=a.base b)(e:B.rx=a.rx):B=a:=by cases B;cases a;grind [dX.mk.injEq]
section
variable{p:Aa}{a:Al}{T:List Av}{D:List BG}{B:dX}{s:BP}
theorem AIZ(c:List CD){b:Nat}{a:Fc}(f:s.ac[b]?=J a)(e:BP)(g:e.ac=s.ac.map (IM c)):Ck e b=if A8 c a.at_=X then 0 else (U a.queue):=by grind [Ck,IM]
def ACW{l:List IK}{i:Nat}{w:IK}(h:l[i]?=J w)(C:Nat):LF p T D C (BF l (i:Int))+wS (sN p T D w.node) C 0 w.env=LF p T D C l:=dE (λ(w:IK)=>wS (sN p T D w.node) C 0 w.env) (by rw[F2];exact h)
theorem vD{a:Type}(b:a->Nat)(e:a->Bool):∀c:List a,((c.filter e).map b).sum<=(c.map b).sum
 :=by intro f;induction f<;>grind
theorem AHS(az:E0 p a s)(k:GF p T D B s [])(f:Int)(i:Int):GF p T D ⟨λe=>B.base e+(if E8 (N3 {s with waits:=BF s.waits f} i) e=X then Ck s e else 0),B.rx⟩ (N3 {s with waits:=BF s.waits f} i) []:=by
 have K:(N3 {s with waits:=BF s.waits f} i)=⟨Ku s.be i,s.bv,s.ac.map (IM (Ku s.be i)),(BF s.waits f).filter λc=> !A8 (Ku s.be i) c.at_⟩:=wQ _ _
 rw[K];generalize Ku s.be i=l;have r:∀{e:Nat} {b:Fc},s.ac[e]?=J b->(s.ac.map (IM l))[e]?=J (IM l b):=λh=>by rw[BY,h];rfl
 have j:∀b,(IM l b).group=b.group/\(IM l b).index=b.index/\(IM l b).at_=b.at_:=λb=>by grind [IM]
 have A:∀{H:Int} {x:List C4},GV D s H x->GV D ⟨l,s.bv,s.ac.map (IM l),(BF s.waits f).filter λc=> !A8 l c.at_⟩ H x:=λP=>Xt P (λ_ _ m=>m) λw b h=>⟨_,r h,(j b).1,(j b).2.1⟩;refine⟨λc W=>A (k.envW c (Ji (Pu.1 W).1)),λn m d q v t=>A (k.envG n m d q v t),λa0 Q=>(by cases Q),λe ac R=>?_,λe o=>?_,k.rx0,λY n d aa v m q t w O=>HE (k.react Y n d aa v m q t w O) (Nat.le_add_right ..)⟩
 .have⟨b,h⟩:=g_ (l:=s.ac) (i:=e) zCN;have C:(s.ac.map (IM l))[e]?=J ac:=R;rw[r h]at C;cases C;have V:=k.tot e b h;have L:JU T ⟨l,s.bv,s.ac.map (IM l),(BF s.waits f).filter λc=> !A8 l c.at_⟩ (IM l b)=JU T s b:=by rw[JU,JU,Dr,Dr,(j b).1,(j b).2.1]
  rw[L];refine Cm (Gm ?_) V;have ad:=AIZ l h ⟨l,s.bv,s.ac.map (IM l),(BF s.waits f).filter λc=> !A8 l c.at_⟩ rfl;have ag:=Ob h;have ai:E8 ⟨l,s.bv,s.ac.map (IM l),(BF s.waits f).filter λc=> !A8 l c.at_⟩ e=A8 l b.at_:=by rw[E8];dsimp only;rw[r h,Gt,F9,(j b).2.2]
  have ar:PZ T e ⟨l,s.bv,s.ac.map (IM l),(BF s.waits f).filter λc=> !A8 l c.at_⟩ (s.ac.map (IM l))<=PZ T e s s.ac:=by
   unfold PZ;rw[QR];have:∀g:List Fc,(g.map ((λb=>qW T e (Dr ⟨l,s.bv,s.ac.map (IM l),(BF s.waits f).filter λc=> !A8 l c.at_⟩ b,b.index) b.queue) ∘IM l)).sum<=(g.map λb=>qW T e (Dr s b,b.index) b.queue).sum:=by
    intro g;induction g with
    |nil=>exact D4 _
    |cons b g F=>
     simp at F⊢;refine S2 ?_ F;rw[Dr,Dr,(j b).1,(j b).2.1];dsimp only;unfold IM;split
     .exact GS _
     .exact D4 _
   exact this _
  have av:LF p T D e ((BF s.waits f).filter λc=> !A8 l c.at_)<=LF p T D e s.waits:=by
   refine HE (vD _ _ _) ?_;unfold BF;have:=congrArg (λg=>(g.map λc=>wS (sN p T D c.node) e 0 c.env).sum) (JP f.toNat s.waits);simp only[Ap,List.sum_append]at this⊢;unfold LF;rw[<-this];have M:∀g:u,(g.drop 1).sum<=g.sum:=λg=>by cases g<;>simp
   have N:=M ((s.waits.drop f.toNat).map λc=>wS (sN p T D c.node) e 0 c.env);rw[<-Rx,List.drop_drop]at N;omega
  grind [tot]
 .dsimp only at o⊢;rw[BV]at o;rw[k.base0 e o];grind [Ck]
theorem zF{s e:BP}(c:nX s e){b:Nat}(f:b<U s.ac)(a:E8 s b=X):E8 e b=true:=by
 have⟨q,hq⟩:=g_ f;have⟨q',hq',ha,_⟩:=c.ch b q hq;rw[E8,hq'];rw[E8,hq]at a;simp at a⊢;rw[ha];rw[A8]at a⊢;rcases hs:s.be[q.at_.toNat]? with _|g
 .rw[hs]at a;cases a
 .rw[hs]at a;have⟨A6,hz,hzz⟩:=c.sp _ g hs;rw[hz,hzz a];exact a
theorem Ua(g:Ar p a)(c:E0 p a s){b:Nat}(h:E8 s b=X):Ck s b=0:=by
 rw[Ck];rcases hq:s.ac[b]? with _|f
 .rfl
 .rcases(c.que b f hq).dead with e|e
  .exact e
  grind [E8]
theorem dM(o:Ar p a)(V:FY p)(R:Gd p a D)(ar:DQ p a D T)(v:E0 p a s)(x:GF p T D B s []){g:Dk}(m:Je p s g){f:C5}(r:DK p s g=J f):GF p T D (O5 p s g B f.eq) f.eq []/\∀b,DX p s g b<=1:=by
 have⟨hgr,_⟩:=Oo o v m r;have bc:∀b,(E8 s b=E8 f.eq b\/Ck s b=0)->(if E8 f.eq b=X then Ck s b else 0)=0:=λb Q=>by grind [Ua]
 cases m with
 | @wait i e M k=>
   have F:∀b,DX p s ⟨i,0,0,[]⟩ b=0:=λb=>by grind [DX]
   have b1:∀L,(O5 p s ⟨i,0,0,[]⟩ B L).rx=B.rx:=λL=>by show(if ((i:Nat):Int)<0 then MB B.rx ((0:Int).toNat) ((0:Int).toNat)else B.rx)=B.rx;rw[Co z]
   refine⟨?_,λb=>by rw[F];omega⟩;have bk:=v.wait e (AP M);have⟨g,m⟩:=Ou o bk;have bl:DK p s ⟨i,0,0,[]⟩=MG p {s with waits:=BF s.waits i} e g:=by rw[DK,Co AZ,QV];simp[M,m.node]
   rw[bl,MG]at r;by_cases ai:g.op=7
   .grind [AHS,O5]
   .rw[Co ai]at r;have b0:g.op=6\/g.op=8:=by have:=m.op;omega
    have key:∀(w:List CD) (ev:List IX),E0 p a {s with waits:=BF s.waits i,be:=w}->(∀j∈Bj g 0 e.at_ e.env,Cb p a {s with waits:=BF s.waits i,be:=w} j)->(∀h,A8 w h=A8 s.be h)->
     EY (KQ p 401) (Bj g 0 e.at_ e.env) ⟨{s with waits:=BF s.waits i,be:=w},ev,0⟩=J f->GF p T D (O5 p s ⟨i,0,0,[]⟩ B f.eq) f.eq []:=λw ev K A b3 bh=>by
     have a1:∀{n:Int} {a2:List C4},GV D s n a2->GV D {s with waits:=BF s.waits i,be:=w} n a2:=λbn=>Xt bn (λ_ _ k=>k) λc q t=>⟨q,t,rfl,rfl⟩
     have az:GF p T D B {s with waits:=BF s.waits i,be:=w} (Bj g 0 e.at_ e.env++[]):=by
      rw[CS];refine⟨λb6 b4=>a1 (x.envW b6 (Ji b4)),λC k d r H aa=>a1 (x.envG C k d r H aa),λj bo=>?_,λb q t=>?_,x.base0,x.rx0,x.react⟩
      .exact fC (j:=⟨e.node,e.at_,e.env⟩) o R m.n0 m.node z (a1 (x.envW e (AP M))) j bo
      .have F:=x.tot b q t;refine Cm (Gm ?_) F;have b8:=ACW (p:=p) (T:=T) (D:=D) M b;have b9:=TF (p:=p) (T:=T) (D:=D) b g 0 e.at_ e.env;have b':wS (sN p T D (Dx g 0)) b 0 e.env=wS (sN p T D e.node) b 0 e.env:=by congr 1;funext h;exact AOg o V m.n0 m.node b0 h
       grind [tot,Ck,PZ,Dr]
     have Y:=NN (λj f ac=>HV o 401 j f ac) (Bj g 0 e.at_ e.env) ⟨{s with waits:=BF s.waits i,be:=w},ev,0⟩ f K A bh
     have a0:=QS (λj f ac b5=>Tx o V R ar 401 j f ac b5) (Bj g 0 e.at_ e.env) [] ⟨{s with waits:=BF s.waits i,be:=w},ev,0⟩ f K (by rw[CS];exact A) az bh
     have av:O5 p s ⟨i,0,0,[]⟩ B f.eq=B:=by
      refine wI (λb=>?_) (b1 _);show B.base b+DX p s ⟨i,0,0,[]⟩ b+_=_;have N:E8 s b=E8 f.eq b\/Ck s b=0:=?_
      .rw[F,bc b N];rfl
      by_cases Q:b<U s.ac
      .left;have⟨q,t⟩:=g_ Q;have⟨l,hl⟩:=Y.ext.ch b q t;have be:=(Il o K (c:=b) (q:=q) t).at_;have:=HS Y.ext be;grind [E8]
      .grind [Ck]
     rw[av];exact a0
    have W:=m.at_;have b7:=W.1;have⟨A6,N⟩:=g_ (l:=s.be) (i:=e.at_.toNat) (by have:=W.2;omega);have K:E0 p a {s with waits:=BF s.waits i}:=by have b2:=v.small;simp[BP.small]at b2;exact Nh v zDS λO bi=>v.wait O (Ji bi)
    have⟨O,bi,hn,hk⟩:=m.val ai;rw[ws,m.node]at k;simp only[ai,Gs,hn]at k;split at k
    .rename_i bs;have⟨aa,B0,hy,hyd⟩:=hk bs;by_cases a':g.op=6
     .rw[D3 a',hn]at r;rw[Co z]at k;simp only[As,Dl,It]at k;have bv:=KC K (i:=e.at_) (n:=O.n) z W aa k.2.1 k.2.2;have bx:=KC v (i:=e.at_) (n:=O.n) z W aa k.2.1 k.2.2;exact key (GZ s.be e.at_ O.n) _ bv (λj A=>H9 (KO o (bx.wait e (AP M)) m.node 0 j A) (BF s.waits i)) (λh=>Qt N h) r
     .rw[Co a',hn]at r;exact key s.be _ K (λj A=>H9 (KO o bk m.node 0 j A) (BF s.waits i)) (λh=>rfl) r
    .cases k
 | @pp i h C d H L ad P ag a5 a6=>
   have⟨htk,A⟩:=Nd o v ad P ag a5 a6;have a3:s.bv[((i:Nat):Int).toNat]?=J C:=ad;have a4:d.rules[((h:Nat):Int).toNat]?=J H:=ag;have⟨az,hal,hle⟩:=VL o V R ar v x ad P ag a5 a6 (C.place d H.at_);have F:∀b,DX p s ⟨-1,i,h,L⟩ b=JW d C b H.d7:=λb=>by rw[DX,D3 AZ];simp only[a3,(Cf P).2,a4]
   refine⟨?_,λb=>by rw[F];exact hle b⟩;rw[DK,D3 AZ,react]at r;simp only[a3,(Cf P).2,a4,Q5]at r;have⟨Y,a0⟩:=Tx o V R ar 401 _ _ _ [] htk.wd A AG az r;have av:O5 p s ⟨-1,i,h,L⟩ B f.eq=zX B d C H i h:=by
    refine wI (λb=>?_) ?_
    .show B.base b+DX p s ⟨-1,i,h,L⟩ b+_=B.base b+JW d C b H.d7;have N:E8 s b=E8 f.eq b\/Ck s b=0:=?_
     .rw[F,bc b N];rfl
     by_cases Q:b<U s.ac
     .left;have⟨q,t⟩:=g_ Q;have⟨q',hq',ha',_⟩:=hgr.ch b q t;have be:=(Il o v (c:=b) (q:=q) t).at_;have b3:=htk.only.be;have cc:=HS Y.ext (i:=q.at_) zCN;grind [E8]
     grind [Ck]
    .show(if (-1:Int)<0 then MB B.rx ((i:Nat):Int).toNat ((h:Nat):Int).toNat else B.rx)=MB B.rx i h;grind
   rw[av];exact a0
structure vY(B:dX)(s:BP)(i:Nat):Prop:=
 all:∀C,B.base C+Ck s C<=12+i
 live:∀C,E8 s C=Z->B.base C<=i
def xU(c:E0 p a s)(b:Nat):Ck s b<=12:=by
 rw[Ck];rcases hq:s.ac[b]? with _|e
 .exact GS _
 .exact(c.que b e hq).len
theorem AGJ(j:Ar p a)(o:E0 p a s){c:Dk}(q:Je p s c){g:C5}(m:DK p s c=J g)(k:∀b,DX p s c b<=1)(r:GF p T D B s []){f:Nat}(l:vY B s f):vY (O5 p s c B g.eq) g.eq (f+1):=by
 have⟨hgr,_⟩:=Oo j o q m;have⟨hs',_⟩:=VH j o q m;have n:∀b,E8 g.eq b=Z->(O5 p s c B g.eq).base b<=f+1:=λb i=>by
  by_cases x:b<U s.ac
  .have h:E8 s b=false:=by
    rcases e:E8 s b with _|_
    .rfl
    .grind [zF]
   have:=l.live b h;have:=k b;show B.base b+DX p s c b+_<=f+1;grind
  .have t:Ck s b=0:=by rw[Ck,OF.2 z];rfl
   have:=k b;have h:=r.base0 b z;show B.base b+DX p s c b+_<=f+1;grind
 refine⟨λb=>?_,n⟩;have A:=xU hs' b;rcases i:E8 g.eq b with _|_
 .have:=n b i;omega
 .have h:=Ua j hs' i;have v:=l.all b;have w:=k b;rw[h];show B.base b+DX p s c b+_+0<=12+(f+1);split<;>omega
end
def qI(a:Aa)(D:List BG)(b c:Int):Int:=Fs a D (U a.nodes+1) b c
section
variable{p:Aa}{a:Al}{D:List BG}{n:Int}{x:CF}
theorem xl{f:Int->Int}(e:∀b,0<=f b):∀{c:Al} {a:Int},0<=a->VI f c a=a+((c.map λb=>(f b).toNat).sum:Nat)
 :=by intro x;induction x<;>grind [VI]
theorem Ni(p:Aa)(D:List BG):∀(b:Nat) (n a:Int),0<=Fs p D b n a
 |0,n,a=>by rw[Fs];omega|b+1,n,a=>by have c:=λn=>Ni p D b n a;rw[Fs];grind [xp,RN,XQ,xl]
theorem Wj(b:Ar p a)(c:p.nodes[n.toNat]?=J x)(f:x.op=3\/x.op=5\/x.op=6\/x.op=8\/x.op=4){k:Nat}(e:k<(if x.op=3\/x.op=5 then 2 else 1)):x.kids[k]?=J (Dx x k):=by have⟨s,l,hs,h0,h1,hok,hsub,_⟩:=b.node _ x c;grind [Cq,DM,Dx]
def PE(a:Al)(D:List BG)(n:Int):Prop:=∀q∈den D n,0<=q.1/\q.1<(a[n.toNat]?).getD 0
theorem AFS(m:Ar p a)(t:Gd p a D)(r:0<=n)(h:p.nodes[n.toNat]?=J x)(j:PE a D n){c:Int}(b:c∈Ht p n):PE a D c:=by
 have⟨s,l,hs,s0,_,hok,e,hq⟩:=m.node _ x h;have B:=l_ h;unfold PE at j⊢;rw[hs]at j;rw[t.sub n r z c (Kz.2 b),Z1,h];simp only[F9]at j⊢;rw[Ht,h]at b;dsimp only at b;by_cases g:x.op=4
 .rw[D3 g]at b⊢;have⟨n1,n2,_⟩:=FI m h g;have⟨d,hd⟩:=g_ (l:=p.defs) (i:=x.n.toNat) z;rw[hd]at b⊢;rw[Hv,D3 g,hd]at e;dsimp only at e b;split at e
  .rename_i A;cases e;have w:=(U0 A).chan;have key:∃o,a[c.toNat]?=J o/\s+d.own<=o:=by
    rcases Ac.1 b with b|b
    .obtain⟨i,C,rfl⟩:=Ex.1 b;have f:0<=i.node/\a[i.node.toNat]?=J (s+d.own+B9 d i.d7):=hq (i.node,_) (by grind [DD]);exact⟨_,f.2,by have:=(Ny (λq v=>(w q v).2.2) i.d7).1;omega⟩
    .rcases Ac.1 b with b|b
     .obtain⟨k,F,rfl⟩:=Ex.1 b;have f:0<=k.node/\a[k.node.toNat]?=J (s+d.own):=hq (k.node,_) (by grind [Cr]);grind
     .have f:0<=c/\a[c.toNat]?=J (s+d.own):=hq (c,_) (by grind [Cg]);grind
   grind [Bc.own,HN]
  .cases e
 .rw[Co g]at b⊢;rw[Hv,Co g]at e;cases e;have f:0<=c/\a[c.toNat]?=J s:=hq (c,s) (by grind [Cg]);rw[f.2];exact j
def bb(h:Ar p a)(g:Gd p a D):∀{e:Nat} {n f:Int},VT p e n->PE a D n->f∈E7 p e n->PE a D f
 |0,_,_,c,_,_=>c.elim|e+1,n,f,c,hk,b=>by
  rw[E7]at b;rcases Cs.1 b with rfl|b
  .exact hk
  .obtain⟨k,i,b⟩:=BI.1 b;obtain⟨x,j⟩:=c.2.1;exact bb h g (c.2.2 k i) (AFS h g c.1 j hk i) b
def AJs(f:Ar p a)(c:FY p)(b:Gd p a D)(e:0<=n)(g:n<U p.nodes):PE a D n:=bb f b c.main (by unfold PE;rw[b.main];intro i h;cases h) (c.all n e g)
def wJ:∀{b:BG} {a:Int} {c:Int×Int},(∀e∈b,e.1≠a)->Ir b a=I
 |[],a,c,h=>rfl|(k,c2)::b,a,c,h=>by rw[Ir,Co (h _ (CO ..)),wJ (c:=c) λe f=>h e (By _ f)]
end
structure PG:=
 s:BP
 jp:Al
 f8:List Al
def HG(p:Aa)(g:Az):Nat:=((p.defs[g.ip.toNat]?).map λd=>U d.rules).getD 0
def Mb(s:BP)(n:Nat):Al:=(s.ac.drop n).map λq=>(U q.queue:Int)
def IC(p:Aa)(s:BP)(n:Nat):List Al:=(s.bv.drop n).map λg=>TL (HG p g) (0:Int)
def NV(c:Aa)(a:BP)(jp:Al)(b:List Al):PG:=⟨a,jp++Mb a (U jp),b++IC c a (U b)⟩
def Lh(p:Aa)(s:BP)(x:Dk)(t:BP)(C:Nat)(n:Int):Int:=if E8 t C=X then n else n+(Ck t C:Int)-(Ck s C:Int)+(DX p s x C:Int)
def PY(p:Aa)(s:BP)(x:Dk)(t:BP):Nat->Al->Al
 |_,[]=>[]|C,n::l=>Lh p s x t C n::PY p s x t (C+1) l
def Pt(l:Al)(k:Nat):Al:=match l[k]? with|some n=>l.set k (n+1)|none=>l
def K7(L:List Al)(x:Dk):List Al:=if x.wait<0 then(match L[x.group.toNat]? with|some l=>L.set x.group.toNat (Pt l x.pp.toNat)|none=>L)else L
def S8(b:Aa)(a:PG)(c:Dk)(e:BP):PG:=NV b e (PY b a.s c e 0 a.jp) (K7 a.f8 c)
theorem Ri(p:Aa)(s:BP)(x:Dk)(t:BP):∀(l:Al) (C:Nat),(PY p s x t C l).length=U l
 :=by intro x;induction x<;>grind [PY]
theorem XZ(p:Aa)(s:BP)(x:Dk)(t:BP):∀(l:Al) (C i:Nat),(PY p s x t C l)[i]?=(l[i]?).map (Lh p s x t (C+i))
 :=by intro x;induction x<;>grind [PY]
theorem AAZ(l:Al)(k:Nat):(Pt l k).length=U l:=by unfold Pt;split<;>simp
theorem AAY(l:Al)(k i:Nat):(Pt l k)[i]?=(l[i]?).map λn=>n+if i=k then 1 else 0:=by grind [Pt]
theorem Vu(L:List Al)(x:Dk):(K7 L x).length=U L:=by grind [K7]
theorem oe(L:List Al)(x:Dk)(i:Nat):(K7 L x)[i]?=(L[i]?).map λl=>if x.wait<0/\i=x.group.toNat then Pt l x.pp.toNat else l:=by grind [K7]
def hQ:dX:=⟨λ_=>0,λ_ _=>0⟩
def UE(c:Aa)(f:Al)(D:List BG)(e:List Av):Prop:=∀(a:Int) x d (b:Nat),0<=a->c.nodes[a.toNat]?=J x->x.op=4->c.defs[x.n.toNat]?=J d->b<U d.ac->Bx e x.n b=2->qI c D a ((f[a.toNat]?).getD 0+b)=1
section
variable{p:Aa}{a:Al}{T:List Av}{D:List BG}{B:dX}{s:BP}
def vI(e:Ar p a)(k:FY p)(c:Gd p a D)(j:DQ p a D T){b:C5}(h:J1 p=J b):GF p T D hQ b.eq []:=by
 have i:GF p T D hQ Db [⟨p.main,0,Dh (U p.free)⟩]:=by refine⟨λw n=>(by cases n),λr l=>(by cases l),λt g=>?_,λo v m=>(by simp[Db]at m),λ_ _=>rfl,λ_ _ _=>rfl,λ_ _ _ _ _ _ _ _ _ _=>D4 _⟩;rw[AS]at g;subst g;intro s q f;rw[show den D p.main=[]from c.main]at f;cases f
 exact(Tx e k c j 401 _ ⟨Db,[],0⟩ b [] (Ug p a) (Uf e) AG i h).2
structure YW(p:Aa)(sz:Al)(B:dX)(i:Nat)(x:PG):Prop:=
 wd:E0 p sz x.s
 lc:U x.jp=U x.s.ac
 jp:∀C n,x.jp[C]?=J n->n=((B.base C+Ck x.s C:Nat):Int)
 lr:U x.f8=U x.s.bv
 f8:∀(j:Nat) l g,x.f8[j]?=J l->x.s.bv[j]?=J g->(U l)=HG p g/\∀k n,l[k]?=J n->n=((B.rx j k:Nat):Int)
 num:vY B x.s i
 rxn:∀j k,B.rx j k<=i
theorem xF{B:dX}{s:BP}{jp:Al}{g:List Al}{j:Nat}(m:E0 p a s)(n:U jp<=(U s.ac))(o:∀c f,jp[c]?=J f->f=((B.base c+Ck s c:Nat):Int))(q:∀c,U jp<=c->B.base c=0)(r:U g<=(U s.bv)) (t:∀(b:Nat) h i,g[b]?=J h->s.bv[b]?=J i->(U h)=HG p i/\∀e f,h[e]?=J f->f=((B.rx b e:Nat):Int)) (v:∀b,U g<=b->∀e,B.rx b e=0) (k:vY B s j) (l:∀b e,B.rx b e<=j):YW p a B j (NV p s jp g):=by
 refine⟨m,?_,λc f A=>?_,?_,λb h i x w=>?_,k,l⟩
 .grind [NV,Mb]
 .grind [NV,Mb,Ob]
 .grind [NV,IC]
 grind [NV,IC]
def zg(g:Ar p a){e:C5}(f:J1 p=J e):YW p a hQ 0 (NV p e.eq [] []):=by have c:=(X1 g f).1;refine xF c (GS _) (λb m i=>by simp at i) (λ_ _=>rfl) (GS _) (λk l j h=>by simp at h) (λ_ _ _=>rfl) ⟨λb=>?_,λb _=>GS _⟩ λ_ _=>GS _;have:=xU c b;show 0+_<=_;omega
theorem AG9(l:Ar p a)(P:FY p)(O:Gd p a D)(M:DQ p a D T){m:Nat}{h:PG}(r:GF p T D B h.s [])(f:YW p a B m h){b:Dk}(t:Je p h.s b){n:C5}(s:DK p h.s b=J n):YW p a (O5 p h.s b B n.eq) (m+1) (S8 p h b n.eq):=by
 have⟨hU1,ht⟩:=dM l P O M f.wd r t s;have⟨hgr,_⟩:=Oo l f.wd t s;have ag:=(VH l f.wd t s).1;have H:=AGJ l f.wd t s ht r f.num;have a4:∀e,E8 n.eq e=X->DX p h.s b e=0:=λe N=>?_
 .refine xF ag ?_ (λe be H=>?_) (λe N=>?_) ?_ (λi bc v W V=>?_) (λi A g=>?_) H λi g=>?_
  .rw[Ri,f.lc];exact hgr.cl
  .rw[XZ]at H;obtain⟨ar,ac,rfl⟩:=Be.1 H;rw[I9,Lh,f.jp e ar ac];show _=((B.base e+DX p h.s b e+(if E8 n.eq e=X then Ck h.s e else 0)+Ck n.eq e:Nat):Int);grind [Ua]
  .rw[Ri,f.lc]at N;show B.base e+DX p h.s b e+_=0;have av:Ck h.s e=0:=by rw[Ck,OF.2 z];rfl
   have az:DX p h.s b e=0:=?_
   .rw[r.base0 e N,az,av];simp
   by_cases a0:e<U n.eq.ac
   .cases t with|wait k j=>grind [DX]| @pp m g v d K aa k j o w x=>have C:h.s.bv[((m:Nat):Int).toNat]?=J v:=k;have F:d.rules[((g:Nat):Int).toNat]?=J K:=o;rw[DX,D3 AZ];simp only[C,(Cf j).2,F];exact Qf λc Q L=>by have:=(VL l P O M f.wd r k j o w x 0).2.1 c Q;omega
   .have:=hU1.base0 e z;grind [O5]
  .rw[Vu,f.lr];exact hgr.gl
  .rw[oe]at W;obtain⟨ai,Y,rfl⟩:=Be.1 W;have⟨g0,hg0⟩:=g_ (l:=h.s.bv) (i:=i) (by have:=l_ Y;rw[f.lr]at this;exact this);rw[hgr.gr i g0 hg0]at V;cases V;have⟨r1,r2⟩:=f.f8 i ai v Y hg0;have a6:∀g,(O5 p h.s b B n.eq).rx i g=B.rx i g+if b.wait<0/\i=b.group.toNat/\g=b.pp.toNat then 1 else 0:=λg=>by show(if b.wait<0 then MB B.rx b.group.toNat b.pp.toNat else B.rx) i g=_;grind [MB]
   grind [AAZ,AAY]
  .rw[Vu,f.lr]at A;show(if b.wait<0 then MB B.rx b.group.toNat b.pp.toNat else B.rx) i g=0;by_cases R:b.wait<0
   .rw[D3 R,MB,r.rx0 i A g,Co λL=>?_];cases t with|wait k j=>dsimp only at R;omega| @pp m g v d K aa k j o w x=>grind
   .rw[Co R];exact r.rx0 i A g
  .show(if b.wait<0 then MB B.rx b.group.toNat b.pp.toNat else B.rx) i g<=m+1;have:=f.rxn i g;grind [MB]
 .cases t with|wait k j=>grind [DX]| @pp m g v d K aa k j o w x=>have C:h.s.bv[((m:Nat):Int).toNat]?=J v:=k;have F:d.rules[((g:Nat):Int).toNat]?=J K:=o;rw[DX,D3 AZ];simp only[C,(Cf j).2,F];refine Qf λc Q L=>?_;have⟨a1,a2⟩:=(VL l P O M f.wd r k j o w x 0).2.1 c Q;have⟨htk,A⟩:=Nd l f.wd k j o w x;rw[L]at a1 a2;have⟨q,hq⟩:=g_ a1;have⟨q',hq',ha',_⟩:=hgr.ch e q hq;rw[hq]at a2;rw[DK,D3 AZ,react]at s;simp only[C,(Cf j).2,F,Q5]at s;have ad:=HV l 401 _ _ _ htk.wd A s;have a5:=(Il l f.wd (c:=e) (q:=q) hq).at_;have a':=htk.only.be;have a3:=HS ad.ext (i:=q.at_) zCN;grind [E8]
def xH(k:Int):Int:=if k=1 then 0 else if k=2\/k=3 then 1 else 1000
theorem xI{b:Int}{a:Nat}(c:Kc a (PA b))(e:a<=1000):(a:Int)<=xH b:=by grind [Kc,PA,Mc,xH]
def yi{h:Nat}{c:PG}(n:h<=60)(g:YW p a B h c)(j:GF p T D B c.s []){b:Nat}{f:Int}{e:Fc}(k:c.jp[b]?=J f)(l:c.s.ac[b]?=J e):f<=xH (Bx T (Dr c.s e) e.index):=by rw[g.jp b f k];have i:=j.tot b e l;have m:=g.num.all b;refine xI (Cm (Gm ?_) i) z;unfold tot;omega
theorem oh{s:Nat}{g:PG}(M:s<=60)(w:Ar p a)(v:DQ p a D T)(h:YW p a B s g)(m:GF p T D B g.s []){c e:Nat}{k:Al}{b:Az}{l:Int}(A:g.f8[c]?=J k)(i:g.s.bv[c]?=J b)(o:k[e]?=J l):l<=xH (BU T b.ip e):=by
 have⟨r1,r2⟩:=h.f8 c k b A i;rw[r2 e l o];have⟨d,hd⟩:=h.wd.grp c b i;have j:=hd.ip;have x:e<U d.rules:=by have:=l_ o;rw[r1,HG,(Cf j).2]at this;exact this
 have⟨r,hr⟩:=g_ x;have K:=h.rxn c e;refine xI ?_ z;rcases v.pp b.ip d e r j hr with H|⟨f,n,N⟩
 .grind [Kc,PA]
 .have F:=Mh w h.wd i hd (AP hr);have⟨c0,c1,_⟩:=F.join f n;have⟨ch,hch⟩:=g_ (l:=d.ac) (i:=f.toNat) z;have⟨q,f1,f2,f3,f4⟩:=hd.ac _ ch hch;have C:(b.own d X f).toNat=(IQ p (g.s.bv.take c)).1+f.toNat:=by have:=KG hd.mine c0 c1;omega
  have t:=m.react c b d e r i j hr f n;rw[C]at t;have L:=m.tot _ q f1;grind [JU,PA,Dr,tot,Kc]
end
def Fz(T:List Av)(d:Int):Al->Int->Int
 |[],a=>a|c::l,a=>Fz T d l (RN a (Mc (Bx T d c)))
def IL(f:Int->Int):Al->Int->Al
 |[],_=>[]|a::l,q=>Fe a (f q)::IL f l (q+1)
def Nk(A:List Al)(c:Int):Al:=(A[c.toNat]?).getD []
def J4(f:Int->Int):Al->Int->List Al->List Al
 |[],_,A=>A|c::l,q,A=>J4 f l (q+(Nk A c).length) (A.set c.toNat (IL f (Nk A c) q))
def M6(c:Int->Int->Int)(a:List Av)(b e:Int):Nat->List C6->List Al->List Al
 |_,[],A=>A|i,r::l,A=>M6 c a b e (i+1) l (if Mc (BU a b i)=0 then A else J4 (c r.node) r.d7 e A)
def RI(b:Al)(a:Int):Int:=(b[a.toNat]?).getD 0
def Nz(e:Aa)(f:Al)(D:List BG)(b:List Av)(a:Int)(d:Bc):Al:=(List.range (U d.ac)).map λ(c:Nat)=>Fh (sS e b D a (RI f a+c))
def MA(a:List Av)(b:Int)(d:Bc):Al:=d.rules.map λc=>Fh (Fz a b c.d7 2)
def Gj(d:Bc):List Al:=d.ac.map λa=>TL a.many.toNat (0:Int)
def M7(f:Aa)(h:Al)(D:List BG)(a:List Av)(c b:Int)(d:Bc):List Al:=M6 (λe g=>sS f a D e g) a b (RI h c+d.own) 0 d.rules (Gj d)
def M8(e:Aa)(f:Al)(D:List BG)(a:List Av)(c b:Int)(d:Bc):Av:=⟨Nz e f D a c d,MA a b d,(M7 e f D a c b d).map (·.map Fh)⟩
def aD(c:Aa)(e:Al)(D:List BG)(b:Al)(a:List Av):Nat->List Bc->List Av
 |_,[]=>[]|i,d::l=>M8 c e D a ((b[i]?).getD 0) i d::aD c e D b a (i+1) l
def Gb(a:Aa)(e:Al)(D:List BG)(c:Al)(b:List Av):List Av:=aD a e D c b 0 a.defs
theorem yL(g:Aa)(h:Al)(D:List BG)(e:Al)(c:List Av):∀(f:List Bc) (b a:Nat),(aD g h D e c b f)[a]?=(f[a]?).map (M8 g h D c ((e[b+a]?).getD 0) ((b+a:Nat):Int))
 :=by intro i;induction i<;>grind [aD]
theorem Ib(b:Aa)(f:Al)(D:List BG)(e:Al)(c:List Av)(a:Nat):(Gb b f D e c)[a]?=(b.defs[a]?).map (M8 b f D c ((e[a]?).getD 0) (a:Int)):=by grind [Gb,yL]
structure Ml(p:Aa)(hs:Al):Prop:=
 len:U hs=U p.defs
 at_:∀(n:Int) x,0<=n->p.nodes[n.toNat]?=J x->x.op=4->hs[x.n.toNat]?=J n
structure WQ(AQ T:List Av):Prop:=
 chan:∀d c,Mc (Bx AQ d c)<=Mc (Bx T d c)
 pp:∀d r,Mc (BU AQ d r)<=Mc (BU T d r)
 arg:∀c i,Mc (FE AQ c i)<=Mc (FE T c i)
theorem WQ.refl(T:List Av):WQ T T:=⟨λ_ _=>Mk _,λ_ _=>Mk _,λ_ _=>Mk _⟩
theorem Te{a:Int}(h:0<=a/\a<=2):Mc (Fh a)=a:=by have:a=0\/a=1\/a=2:=z;rcases this with rfl|rfl|rfl<;>rfl
theorem bj(T:List Av)(d:Int):∀(l:Al) (a:Int),Fz T d l a=a\/∃c∈l,Fz T d l a=Mc (Bx T d c)
 :=by intro x;induction x<;>grind [Fz,RN]
theorem sq(T:List Av)(d:Int)(l:Al){a:Int}(h:0<=a/\a<=2):0<=Fz T d l a/\Fz T d l a<=2:=by
 rcases bj T d l a with e|⟨c,_,e⟩<;>rw[e]
 .exact h
 .exact EF _
theorem Ld(f:Int->Int):∀(l:Al) (q:Int),(IL f l q).length=U l
 :=by intro x;induction x<;>grind [IL]
theorem PR(f:Int->Int):∀(l:Al) (q:Int) (k:Nat),(IL f l q)[k]?=(l[k]?).map λa=>Fe a (f (q+k))
 :=by intro x;induction x<;>grind [IL]
structure ZW(A B:List Al):Prop:=
 len:U A=U B
 each:∀c,(Nk A c).length=(Nk B c).length
 le:∀c (k:Nat) a b,(Nk A c)[k]?=J a->(Nk B c)[k]?=J b->a<=b
theorem ZW.refl(A:List Al):ZW A A:=⟨rfl,λ_=>rfl,λc g a b e f=>by grind⟩
theorem ZW.trans{A B g:List Al}(c:ZW A B)(e:ZW B g):ZW A g:=⟨c.len.trans e.len,λa=>(c.each a).trans (e.each a),λa f i b h j=>by have⟨m,hm⟩:=g_ (l:=Nk B a) (i:=f) (by rw[<-c.each a];exact l_ h);exact Nl (c.le a f i m h hm) (e.le a f m b hm j)⟩
theorem Nx(A:List Al)(a:Int)(c:Al)(b:Int)(e:a.toNat<U A):Nk (A.set a.toNat c) b=if b.toNat=a.toNat then c else Nk A b:=by grind [Nk]
theorem lO(a b:Int):a<=Fe a b/\b<=Fe a b:=by grind [Fe]
theorem YF{a b c d:Int}(e:a<=c)(f:b<=d):Fe a b<=Fe c d:=by grind [Fe]
def AJt{A B:List Al}(a:ZW A B){b:Int}{j k:Int->Int}(t:∀f,j f<=k f)(f:Int):ZW (A.set b.toNat (IL j (Nk A b) f)) (B.set b.toNat (IL k (Nk B b) f)):=by
 by_cases i:b.toNat<U A
 .have l:b.toNat<U B:=by rw[<-a.len];exact i
  refine⟨by simp[a.len],λg=>?_,λg m n p e c=>?_⟩
  .rw[Nx _ _ _ _ i,Nx _ _ _ _ l];split
   .rw[Ld,Ld,a.each]
   .exact a.each g
  .rw[Nx _ _ _ _ i]at e;rw[Nx _ _ _ _ l]at c;split at e
   .rename_i h;rw[D3 h]at c;rw[PR]at e c;obtain⟨o,r,rfl⟩:=Be.1 e;obtain⟨q,s,rfl⟩:=Be.1 c;exact YF (a.le b m o q r s) (t _)
   .rename_i h;rw[Co h]at c;exact a.le g m n p e c
 .rw[OP z,OP (by rw[<-a.len];omega)];exact a
theorem YR(A:List Al)(b:Int)(h:Int->Int)(j:Int):ZW A (A.set b.toNat (IL h (Nk A b) j)):=by
 by_cases i:b.toNat<U A
 .refine⟨AG,λf=>?_,λf n k l c a=>?_⟩
  .grind [Ld,Nk]
  .rw[Nx _ _ _ _ i]at a;split at a
   .rename_i g;rw[PR]at a;obtain⟨m,e,rfl⟩:=Be.1 a;rw[Nk,g]at c;rw[Nk,c]at e;cases e;exact(lO _ _).1
   grind
 grind [List.set_eq_of_length_le,ZW.refl]
theorem aO{e f:Int->Int}(g:∀a,e a<=f a):∀(b:Al) (a:Int) {A B:List Al},ZW A B->ZW (J4 e b a A) (J4 f b a B)
 |[],a,A,B,h=>h|c::b,a,A,B,h=>by rw[J4,J4,h.each c];exact aO g b _ (AJt h g a)
theorem Ie(f:Int->Int):∀(l:Al) (q:Int) (A:List Al),ZW A (J4 f l q A)
 |[],q,A=>ZW.refl A|c::l,q,A=>(YR A c f q).trans (Ie f l _ _)
theorem aQ{i j:Int->Int->Int}(m:∀l b,i l b<=j l b){f g:List Av}(k:WQ f g)(c b:Int):∀(e:List C6) (a:Nat) {A B:List Al},ZW A B->ZW (M6 i f c b a e A) (M6 j g c b a e B)
 |[],a,A,B,h=>h|r::e,a,A,B,h=>by
  rw[M6,M6];refine aQ m k c b e (a+1) ?_;have n:=k.pp c a;have o:=(EF (BU f c a)).1;split
  .split
   .exact h
   .exact h.trans (Ie _ _ _ _)
  grind [aO]
theorem vu(c:Int->Int->Int)(a:List Av)(b g:Int):∀(f:List C6) (e:Nat) (A:List Al),ZW A (M6 c a b g e f A)
 :=by intro h;induction h<;>grind [ZW.refl,M6,ZW.trans,Ie]
def SX(d:Bc)(A:List Al):Prop:=U A=U d.ac/\∀(c:Nat) ch,d.ac[c]?=J ch->(((Nk A (c:Int)).length:Nat):Int)=ch.many
theorem SX.mono{d:Bc}{A B:List Al}(a:SX d A)(b:ZW A B):SX d B:=⟨b.len▸a.1,λc e f=>by rw[<-b.each];exact a.2 c e f⟩
theorem Rh{d:Bc}(e:∀a∈d.ac,0<=a.many):SX d (Gj d):=by refine⟨by simp[Gj],λb a c=>?_⟩;grind [Nk,Gj]
theorem vp{d:Bc}{f:Int->Int}{i:Int}{b:Nat}{j:HJ}(m:d.ac[i.toNat]?=J j)(p:(b:Int)<j.many):∀{l:Al} {q:Int} {A:List Al} {e:Nat},SX d A->(∀a∈l,0<=a/\a<U d.ac)->l[e]?=J i->∃c,(Nk (J4 f l q A) i)[b]?=J c/\f (q+B9 d (l.take e)+b)<=c
 |[],q,A,e,_,_,h=>by simp at h|a::l,q,A,0,hA,hl,h=>by
  simp at h;subst h;have k:=(hl a (CO ..)).1;have n:=hA.2 _ j m;rw[IF k]at n;have⟨v0,hv0⟩:=g_ (l:=Nk A a) (i:=b) z;have o:=Ie f l (q+(Nk A a).length) (A.set a.toNat (IL f (Nk A a) q));have g:(Nk (A.set a.toNat (IL f (Nk A a) q)) a)[b]?=J (Fe v0 (f (q+b))):=by rw[Nx _ _ _ _ (by rw[hA.1];exact l_ m),D3 rfl,PR,hv0];rfl
  have⟨c,hv⟩:=g_ (l:=Nk (J4 f l (q+(Nk A a).length) (A.set a.toNat (IL f (Nk A a) q))) a) (i:=b) (by rw[<-o.each];exact l_ g);rw[J4];refine⟨c,hv,Nl ?_ (o.le a b _ c g hv)⟩;rw[Lw,show B9 d []=0 from rfl,Int.add_zero];exact(lO _ _).2
 |a::l,q,A,e+1,hA,hl,h=>by rw[Hw]at h;have⟨k,h1⟩:=hl a (CO ..);have⟨ce,hce⟩:=g_ (l:=d.ac) (i:=a.toNat) z;have n:=hA.2 _ ce hce;rw[IF k]at n;have s:=vp (f:=f) m p (l:=l) (q:=q+(Nk A a).length) (A:=A.set a.toNat (IL f (Nk A a) q)) (hA.mono (YR A a f q)) (λr g=>hl r (By _ g)) h;grind [J4,B9]
theorem vt{d:Bc}{f:Int->Int->Int}{T:List Av}{dn q c:Int}{e k:Nat}{l:HJ}(n:d.ac[c.toNat]?=J l)(o:(e:Int)<l.many):∀{b:List C6} {i j:Nat} {a:C6} {A:List Al},SX d A->(∀a∈b,∀m∈a.d7,0<=m/\m<U d.ac)->b[j]?=J a->0<Mc (BU T dn ((i+j:Nat):Int))->a.d7[k]?=J c->∃g,(Nk (M6 f T dn q i b A) c)[e]?=J g/\f a.node (q+B9 d (a.d7.take k)+e)<=g
 |[],i,j,a,A,_,_,h,_,_=>by simp at h|r0::b,i,0,a,A,hA,hl,h,h0,hj=>by simp at h;subst h;rw[M6,Co zCN];have⟨v0,hv0,h1⟩:=vp (f:=f r0.node) (q:=q) n o hA (hl r0 (CO ..)) hj;have p:=vu f T dn q b (i+1) (J4 (f r0.node) r0.d7 q A);have⟨g,hv⟩:=g_ (l:=Nk (M6 f T dn q (i+1) b (J4 (f r0.node) r0.d7 q A)) c) (i:=e) (by rw[<-p.each];exact l_ hv0);exact⟨g,hv,Nl h1 (p.le c e v0 g hv0 hv)⟩|r0::b,i,j+1,a,A,hA,hl,h,h0,hj=>by
  rw[Hw]at h;rw[M6];refine vt n o ?_ (λs r=>hl s (By _ r)) h zCN hj;split
  .exact hA
  .exact hA.mono (Ie _ _ _ _)
theorem Q2{a b c d:Int}(e:a<=c)(f:b<=d):Hy a b<=Hy c d:=by grind [Hy]
theorem vH{a b c d:Int}(j:0<=a/\a<=2)(k:0<=b/\b<=2)(l:0<=c/\c<=2)(m:0<=d/\d<=2)(h:a<=c)(i:b<=d):KV a b<=KV c d:=by have e:a=0\/a=1\/a=2:=z;have f:b=0\/b=1\/b=2:=z;have g:c=0\/c=1\/c=2:=z;grind [KV]
theorem AAj{a b c d:Int}(e:a<=c)(f:b<=d):RN a b<=RN c d:=by grind [RN]
section
variable{p:Aa}{a:Al}{D:List BG}{T b:List Av}
theorem MC(i:WQ T b)(j:Option (Int×Int))(g:Int):∀(c:List Bz) (a:Nat) {h f:Int},h<=f->f<=2->Gx T j g a c h<=Gx b j g a c f
 |[],a,h,f,hab,_=>hab|e::c,a,h,f,hab,hb=>by
  rw[Gx,Gx];split
  .rcases j with _|k
   .exact MC i I g c (a+1) (Mk _) (Mk _)
   .refine MC i (J k) g c (a+1) (Q2 hab (i.arg k a)) ?_;grind [pK,Hy]
  .exact MC i j g c (a+1) hab hb
def uq(a:WQ T b)(c:Int)(f:CF)(e:Int):KM p T D c f e<=KM p b D c f e:=by
 rw[KM,KM];split
 .split
  .exact MC a _ _ _ _ (Mk _) zCo
  .exact Mk _
 .exact MC a _ _ _ _ (Mk _) zCo
variable{f g:Int->Int}
def dD(e:∀i,f i<=g i):∀(c:Al) {a b:Int},a<=b->Oq f c a<=Oq g c b
 |[],a,b,h=>h|k::c,a,b,h=>by rw[Oq,Oq];exact dD e c (Q2 h (e k))
def cf(m:∀a,f a<=g a)(k:∀a,0<=f a/\f a<=2)(l:∀a,0<=g a/\g a<=2)(j:WQ T b)(d:Int):∀(i:List C6) (c:Nat) {e h:Int},e<=h->Od f T d c i e<=Od g b d c i h
 |[],c,e,h,hab=>hab|r::i,c,e,h,hab=>by rw[Od,Od];exact cf m k l j d i (c+1) (Q2 hab (vH (EF _) (k _) (EF _) (l _) (j.pp d c) (m _)))
def Vz(h:WQ T b):∀(f:Nat) (g c:Int),CT p T D f g c<=CT p b D f g c
 |0,g,c=>Mk _|f+1,g,c=>by
  have e:=λa=>Vz h f a c;rw[CT,CT];split
  .split
   .exact uq h _ _ _
   split
   .exact Q2 (e _) (e _)
   split
   .exact YF (e _) (e _)
   split
   .exact e _
   split
   .rw[Ka,Ka];split
    .exact cf (f:=λa=>CT p T D f a c) (g:=λa=>CT p b D f a c) e (λa=>Js ..) (λa=>Js ..) h _ _ _ (dD (f:=λa=>CT p T D f a c) (g:=λa=>CT p b D f a c) e _ (e _))
    .exact Mk _
   .exact Mk _
  .exact Mk _
def xY(e:WQ T b)(a c:Int):sS p T D a c<=sS p b D a c:=Vz e _ a c
def Vi(g:WQ T b)(d:Int):∀(f:Al) {a e:Int},a<=e->Fz T d f a<=Fz b d f e
 |[],a,e,hab=>hab|c::f,a,e,hab=>by rw[Fz,Fz];exact Vi g d f (AAj hab (g.chan d c))
variable{c:Int}
theorem XI(p:Aa)(a:Al)(D:List BG)(e:Al)(T:List Av){d:Bc}(f:p.defs[c.toNat]?=J d){b:Int}(g:b.toNat<U d.ac):Mc (Bx (Gb p a D e T) c b)=sS p T D ((e[c.toNat]?).getD 0) (RI a ((e[c.toNat]?).getD 0)+(b.toNat:Int)):=by rw[Bx,Ib,f];grind [M8,Nz,Te,VD]
theorem XK(p:Aa)(a:Al)(D:List BG)(g:Al)(T:List Av)(h:0<=c){d:Bc}(f:p.defs[c.toNat]?=J d){b:Int}{e:C6}(i:d.rules[b.toNat]?=J e):Mc (BU (Gb p a D g T) c b)=Fz T c e.d7 2:=by rw[BU,Ib,f];grind [M8,MA,Te,sq]
theorem du(p:Aa)(a:Al)(D:List BG)(e:Al)(T:List Av)(g:0<=c){d:Bc}(h:p.defs[c.toNat]?=J d)(b:Int)(f:Nat):FE (Gb p a D e T) (c,b) f=(((Nk (M7 p a D T ((e[c.toNat]?).getD 0) c d) b)[f]?).map Fh).getD 1:=by grind [FE,Ib,M8,Nk]
def ADM(i:∀b,0<=f b/\f b<=2){e:Al}{b:Int}(g:∀a∈e,0<=a/\a<=2):∀a∈IL f e b,0<=a/\a<=2:=λa h=>by obtain⟨l,c⟩:=Ci h;rw[PR]at c;obtain⟨k,j,rfl⟩:=Be.1 c;exact XV (g k (AP j)) (i _)
def yF(A:List Al):Prop:=∀c,∀a∈Nk A c,0<=a/\a<=2
theorem ir(i:∀b,0<=f b/\f b<=2):∀{j:Al} {b:Int} {A:List Al},yF A->yF (J4 f j b A)
 |[],b,A,h=>h|c::j,b,A,h=>by
  rw[J4];refine ir i λg e a=>?_;by_cases k:c.toNat<U A
  .rw[Nx _ _ _ _ k]at a;split at a
   .exact ADM i (h c) e a
   .exact h g e a
  .rw[OP z]at a;exact h g e a
theorem ADK{f:Int->Int->Int}(i:∀b a,0<=f b a/\f b a<=2)(c a:Int):∀{g:List C6} {e:Nat} {A:List Al},yF A->yF (M6 f T c a e g A)
 :=by intro h;induction h<;>grind [M6,ir]
theorem yT(d:Bc):yF (Gj d):=λb a c=>by grind [Nk,Gj]
def UO(p:Aa)(a:Al)(D:List BG)(T:List Av)(h c:Int)(d:Bc):yF (M7 p a D T h c d):=ADK (λm q=>VD ..) _ _ (yT d)
theorem ZQ(b:p.defs[c.toNat]?=I)(e:Al):(Gb p a D e T)[c.toNat]?=none:=by rw[Ib,b];rfl
theorem iU(q:Ar p a)(c:Al)(h:WQ T b):WQ (Gb p a D c T) (Gb p a D c b):=by
 have i:∀d:Int,(d.toNat:Int).toNat=d.toNat:=λd=>F2 _;refine⟨λd e=>?_,λd k=>?_,λe j=>?_⟩
 .rcases hd:p.defs[d.toNat]? with _|f
  .grind [Bx,ZQ]
  .by_cases l:e.toNat<U f.ac
   .rw[XI p a D c T hd l,XI p a D c b hd l];exact xY h _ _
   grind [Bx,Ib,M8,Nz]
 .have key:∀T:List Av,BU T d k=BU T (d.toNat:Int) k:=λT=>by rw[BU,BU,i]
  rw[key,key];rcases hd:p.defs[d.toNat]? with _|f
  .grind [BU,ZQ]
  .have g:p.defs[(d.toNat:Int).toNat]?=J f:=by rw[i];exact hd
   rcases hr:f.rules[k.toNat]? with _|w
   .grind [BU,Ib,M8,MA]
   .rw[XK p a D c T (ID _) g hr,XK p a D c b (ID _) g hr];exact Vi h _ _ (Mk _)
 .obtain⟨d,e⟩:=e;have key:∀T:List Av,FE T (d,e) j=FE T ((d.toNat:Int),e) j:=λT=>by grind [FE]
  rw[key,key];rcases hd:p.defs[d.toNat]? with _|f
  .grind [FE,ZQ]
  .have g:p.defs[(d.toNat:Int).toNat]?=J f:=by rw[i];exact hd
   rw[du p a D c T (ID _) g,du p a D c b (ID _) g];have m:ZW (M7 p a D T ((c[(d.toNat:Int).toNat]?).getD 0) (d.toNat:Int) f) (M7 p a D b ((c[(d.toNat:Int).toNat]?).getD 0) (d.toNat:Int) f):=aQ (λn o=>xY h n o) h _ _ _ _ (ZW.refl _);have t:=UO p a D T ((c[(d.toNat:Int).toNat]?).getD 0) (d.toNat:Int) f e;have v:=UO p a D b ((c[(d.toNat:Int).toNat]?).getD 0) (d.toNat:Int) f e;have r:=m.le e j;have s:=m.each e;grind [Te]
theorem Sd(w:Ar p a){i:Al}(x:Ml p i)(o:WQ (Gb p a D i T) T):DQ p a D T:=by
 refine⟨λc e d f q m l g k=>?_,λc d r n g h=>?_,λc e d r n R f s t q m l g h O K F M=>?_⟩
 .have b:=o.chan e.n f;rw[XI p a D i T g zCk,x.at_ c e q m l]at b;exact b
 .have⟨n0,hd2⟩:=Cf g;have b:=o.pp c r;rw[XK p a D i T n0 hd2 zCV]at b;rcases bj T c n.d7 2 with j|⟨f,k,j⟩
  .rw[j]at b;have:=EF (BU T c r);exact .inl z
  grind
 .have N:=(FI w m l).1;have A:=(Bd w g).ok;have b:=o.arg (e.n,f) s;rw[du p a D i T N g f s,x.at_ c e q m l]at b;have L:=λn h j H=>by have B:=A.pp n h;simp[Bt]at B;exact Jl B.2.2.2 j H
  have⟨v,hv,hle⟩:=vt (f:=λP Q=>sS p T D P Q) (T:=T) (dn:=e.n) (q:=RI a c+d.own) (i:=0) F M (Rh λt k=>(A.chan t k).2.2.1) L h (by rw[I9];exact O) K;have C:(Nk (M7 p a D T c e.n d) f)[s]?=J v:=hv;simp at b;rw[C]at b;simp at b;rw[Te (UO p a D T c e.n d f v (AP C))]at b;exact Nl hle b
end
def QQ(is:Int->Int->Bool->Bool)(o:Bool):Al->Al->Bool
 |x::xs,B0::ys=>if is x B0 o then QQ is o xs ys else Z|_,_=>X
def Jw(is:Int->Int->Bool->Bool):List Al->List Al->Bool
 |x::xs,B0::ys=>if QQ is Z x B0 then Jw is xs ys else Z|_,_=>X
def gA(is:Int->Int->Bool->Bool)(Bn v:Av):Bool:=QQ is X Bn.ac v.ac&&(QQ is Z Bn.rules v.rules&&Jw is Bn.args v.args)
def Cy(is:Int->Int->Bool->Bool):List Av->List Av->Bool
 |Bn::us,v::vs=>if gA is Bn v then Cy is us vs else Z|_,_=>X
def G2(a b:Int)(_:Bool):Bool:=decide (a=b)
def bQ(a b:Int)(_:Bool):Bool:=decide (Mc b<=Mc a)
def nn(a b:Int)(_:Bool):Bool:=decide (Mc a<=Mc b)
theorem gI{is:Int->Int->Bool->Bool}{j:Bool}:∀{c e:Al},QQ is j c e=X↔ ∀(a:Nat) x B0,c[a]?=J x->e[a]?=J B0->is x B0 j=X
 |[],e=>by simp[QQ]|x::c,[]=>by simp[QQ]|x::c,B0::e=>by
  rw[QQ];constructor
  .intro b a f g h i;split at b
   .rename_i k;rcases a with _|a
    .grind
    .exact gI.1 b a f g zCV zCd
   .cases b
  .intro b;rw[D3 (b 0 x B0 rfl rfl)];exact gI.2 λa f g h i=>b (a+1) f g zCV zCd
theorem XO{is:Int->Int->Bool->Bool}:∀{c e:List Al},Jw is c e=X↔ ∀(a:Nat) x B0,c[a]?=J x->e[a]?=J B0->QQ is Z x B0=X
 |[],e=>by simp[Jw]|x::c,[]=>by simp[Jw]|x::c,B0::e=>by
  rw[Jw];constructor
  .intro b a f g h i;split at b
   .rename_i j;rcases a with _|a
    .grind
    .exact XO.1 b a f g zCV zCd
   .cases b
  .intro b;rw[D3 (b 0 x B0 rfl rfl)];exact XO.2 λa f g h i=>b (a+1) f g zCV zCd
theorem G9{is:Int->Int->Bool->Bool}:∀{c e:List Av},Cy is c e=X↔ ∀(a:Nat) x B0,c[a]?=J x->e[a]?=J B0->gA is x B0=X
 |[],e=>by simp[Cy]|x::c,[]=>by simp[Cy]|x::c,B0::e=>by
  rw[Cy];constructor
  .intro b a f g h i;split at b
   .rename_i j;rcases a with _|a
    .grind
    .exact G9.1 b a f g zCV zCd
   .cases b
  .intro b;rw[D3 (b 0 x B0 rfl rfl)];exact G9.2 λa f g h i=>b (a+1) f g zCV zCd
variable{b v:Av}
theorem K9{is:Int->Int->Bool->Bool}:gA is b v=X↔(∀(i:Nat) x B0,b.ac[i]?=J x->v.ac[i]?=J B0->is x B0 X=X)/\(∀(i:Nat) x B0,b.rules[i]?=J x->v.rules[i]?=J B0->is x B0 Z=X)/\∀(i k:Nat) l m x B0,b.args[i]?=J l->v.args[i]?=J m->l[k]?=J x->m[k]?=J B0->is x B0 Z=true:=by grind [gA,gI,XO]
structure ve(Bn v:Av):Prop:=
 ac:U Bn.ac=U v.ac
 rules:U Bn.rules=U v.rules
 args:U Bn.args=U v.args
 each:∀(c:Nat) l m,Bn.args[c]?=J l->v.args[c]?=J m->(U l)=U m
structure M4(T AQ:List Av):Prop:=
 len:U T=U AQ
 each:∀(d:Nat) b v,T[d]?=J b->AQ[d]?=J v->ve b v
def ve.symm(a:ve b v):ve v b:=⟨a.ac.symm,a.rules.symm,a.args.symm,λc g h e f=>(a.each c h g f e).symm⟩
def M4.symm{a c:List Av}(e:M4 a c):M4 c a:=⟨e.len.symm,λd b v f g=>(e.each d v b g f).symm⟩
variable{i:Type}
theorem YE{a b:List i}(e:U a=U b)(f:∀(c:Nat) x B0,a[c]?=J x->b[c]?=J B0->x=B0):a=b:=by apply Lt;grind
theorem AFV{i j:List Av}(k:M4 i j)(p:Cy G2 i j=X):i=j:=by refine YE k.len λa b v l m=>?_;have⟨h1,h2,h3⟩:=K9.1 (G9.1 p a b v l m);have h:=k.each a b v l m;have t:=YE h.ac λa f g c e=>of_decide_eq_true (h1 a f g c e);have w:=YE h.rules λa f g c e=>of_decide_eq_true (h2 a f g c e);have x:=YE h.args λa f g c e=>YE (h.each a f g c e) λs n o q r=>of_decide_eq_true (h3 a s f g n o c e q r);cases b;simp_all
theorem AOU{c e:List Av}(f:M4 c e)(g:Cy nn c e=X):WQ c e:=by
 have g:=G9.1 g;refine⟨λd a=>?_,λd l=>?_,λa k=>?_⟩
 .rw[Bx,Bx];rcases hu:c[d.toNat]? with _|b
  .exact(EF _).1
  .have⟨v,hv⟩:=g_ (l:=e) (i:=d.toNat) zDD;rw[hv];simp;rcases hx:b.ac[a.toNat]? with _|h
   .exact(EF _).1
   .have⟨B0,hy⟩:=g_ (l:=v.ac) (i:=a.toNat) (by rw[<-(f.each _ b v hu hv).ac];exact l_ hx);rw[hy];exact of_decide_eq_true ((K9.1 (g _ b v hu hv)).1 _ h B0 hx hy)
 .rw[BU,BU];rcases hu:c[d.toNat]? with _|b
  .exact(EF _).1
  .have⟨v,hv⟩:=g_ (l:=e) (i:=d.toNat) zDD;rw[hv];simp;rcases hx:b.rules[l.toNat]? with _|h
   .exact(EF _).1
   .have⟨B0,hy⟩:=g_ (l:=v.rules) (i:=l.toNat) (by rw[<-(f.each _ b v hu hv).rules];exact l_ hx);rw[hy];exact of_decide_eq_true ((K9.1 (g _ b v hu hv)).2.1 _ h B0 hx hy)
 .rw[FE,FE];rcases hu:c[a.1.toNat]? with _|b
  .exact(EF _).1
  .have⟨v,hv⟩:=g_ (l:=e) (i:=a.1.toNat) zDD;have j:=f.each _ b v hu hv;rw[hv];simp only[GO];rcases hl:b.args[a.2.toNat]? with _|i
   .exact(EF _).1
   .have⟨m,hm⟩:=g_ (l:=v.args) (i:=a.2.toNat) (by rw[<-j.args];exact l_ hl);rw[hm];simp only[GO];rcases hx:i[k]? with _|h
    .exact(EF _).1
    .have⟨B0,hy⟩:=g_ (l:=m) (i:=k) (by rw[<-j.each _ i m hl hm];exact l_ hx);rw[hy];exact of_decide_eq_true ((K9.1 (g _ b v hu hv)).2.2 _ _ i m h B0 hl hm hx hy)
def AOc{i j:List Av}(f:WQ i j):Cy nn i j=true:=by
 refine G9.2 λd b v g h=>K9.2 ⟨λe k l a c=>?_,λe k l a c=>?_,λe o p q k l m n a c=>?_⟩
 .have:=f.chan d e;simp[Bx,g,h,a,c]at this;exact F8 this
 .have:=f.pp d e;simp[BU,g,h,a,c]at this;exact F8 this
 .have:=f.arg (d,e) o;simp[FE,g,h,m,n,a,c]at this;exact F8 this
theorem AOL{h i:List Av}(j:Cy bQ h i=X):Cy nn i h=true:=by refine G9.2 λd b v m n=>K9.2 ?_;have⟨h1,h2,h3⟩:=K9.1 (G9.1 j d v b n m);exact⟨λe f g a c=>h1 e g f c a,λe f g a c=>h2 e g f c a,λe o p q f g k l a c=>h3 e o q p g f l k c a⟩
theorem WQ.trans{e f V:List Av}(b:WQ e f)(c:WQ f V):WQ e V:=⟨λd a=>Nl (b.chan d a) (c.chan d a),λd a=>Nl (b.pp d a) (c.pp d a),λd a=>Nl (b.arg d a) (c.arg d a)⟩
def pn(l:Al):Nat:=(l.map PA).sum
def po(b:Av):Nat:=pn b.ac+pn b.rules+(b.args.map pn).sum
def lk(T:List Av):Nat:=(T.map po).sum
def xb(b:Av):Nat:=U b.ac+U b.rules+(b.args.map U).sum
def xc(T:List Av):Nat:=(T.map xb).sum
variable{f:i->Nat}
theorem VJ{g:i->Nat}(h:∀a,f a<=2*g a):∀l:List i,(l.map f).sum<=2*(l.map g).sum
 :=by intro x;induction x<;>grind
theorem ft(a:Al):pn a<=2*U a:=by
 have b:=VJ (f:=PA) (g:=λ_=>1) (λc=>by have:=td c;omega) a;have e:(a.map λ_=>1).sum=U a:=by clear b;induction a with|nil=>rfl|cons g a f=>grind
 rw[e]at b;exact b
theorem AKe(a:List Av):lk a<=2*xc a:=VJ (λb=>by have c:=ft b.ac;have e:=ft b.rules;have f:=VJ ft b.args;rw[po,xb];omega) a
def ZP:∀{b c:List i},U b=U c->(∀(a:Nat) x B0,b[a]?=J x->c[a]?=J B0->f x=f B0)->(b.map f).sum=(c.map f).sum
 |[],[],_,_=>rfl|[],_::_,h,_=>by simp at h|_::_,[],h,_=>by simp at h|x::b,B0::c,h,he=>by simp;rw[he 0 x B0 rfl rfl,ZP zCV λa e g j k=>he (a+1) e g zCi zCk]
theorem AB5{c e:List Av}(f:M4 c e):xc c=xc e:=ZP f.len λd b v j k=>by have a:=f.each d b v j k;rw[xb,xb,a.ac,a.rules,ZP a.args λg l m h i=>a.each g l m h i]
theorem fu:∀{l m:List i},U l=U m->(∀(a:Nat) c e,l[a]?=J c->m[a]?=J e->f c<=f e)->(l.map f).sum<=(m.map f).sum/\((l.map f).sum=(m.map f).sum->∀(a:Nat) c e,l[a]?=J c->m[a]?=J e->f c=f e)
 |[],[],_,_=>⟨D4 _,λ_ a c e b _=>by simp at b⟩|[],_::_,b,_=>by simp at b|_::_,[],b,_=>by simp at b|c::l,e::m,b,he=>by have⟨h1,h2⟩:=fu (l:=l) (m:=m) (by simpa using b) λa g h j k=>he (a+1) g h zCi zCk;grind [List.getElem?_cons_zero]
def dW(k:Int):Prop:=k=1\/k=3\/k=4
structure APO(Bn:Av):Prop:=
 ac:∀k∈Bn.ac,dW k
 rules:∀k∈Bn.rules,dW k
 args:∀l∈Bn.args,∀k∈l,dW k
def yA(T:List Av):Prop:=∀b∈T,APO b
theorem Um(a:Int):dW (Fh a):=by grind [Fh,dW]
variable{a e:Int}
def qq(c:dW a)(f:dW e)(b:PA a=PA e):a=e:=by unfold dW at*;rcases c with rfl|rfl|rfl<;>rcases f with rfl|rfl|rfl<;>first|rfl|(exact absurd b Ad)
def AGL(h:Mc a<=Mc e):PA a<=PA e:=by unfold PA;omega
theorem AHD{l m:List Av}(A:M4 l m)(B:WQ l m)(C:yA l)(D:yA m)(M:Cy G2 l m=Z):lk l<lk m:=by
 have F:=G9.1 (AOc B);have t:∀{h i:Al},U h=U i->(∀(a:Nat) c e,h[a]?=J c->i[a]?=J e->Mc c<=Mc e)->pn h<=pn i/\(pn h=pn i->∀(a:Nat) c e,h[a]?=J c->i[a]?=J e->PA c=PA e):=λj H=>fu j λa c e f g=>AGL (H a c e f g);have K:∀(d:Nat) b v,l[d]?=J b->m[d]?=J v->po b<=po v/\(po b=po v->gA G2 b v=X):=λd b v n o=>by
  have q:=A.each d b v n o;have⟨p,h2,h3⟩:=K9.1 (F d b v n o);have⟨a1,a2⟩:=t q.ac λa c e f g=>of_decide_eq_true (p a c e f g);have⟨b1,b2⟩:=t q.rules λa c e f g=>of_decide_eq_true (h2 a c e f g);have x:=λa h i j k=>t (q.each a h i j k) λw c e f g=>of_decide_eq_true (h3 a w h i c e j k f g);have⟨c1,c2⟩:=fu q.args λa h i j k=>(x a h i j k).1;have r:=C b (AP n);have s:=D v (AP o);rw[po,po];refine⟨z,λL=>K9.2 ⟨λa c e f g=>?_,λa c e f g=>?_,λa w h i c e j k f g=>?_⟩⟩
  .exact F8 (qq (r.ac c (AP f)) (s.ac e (AP g)) (a2 z a c e f g))
  .exact F8 (qq (r.rules c (AP f)) (s.rules e (AP g)) (b2 z a c e f g))
  .exact F8 (qq (r.args h (AP j) c (AP f)) (s.args i (AP k) e (AP g)) ((x a h i j k).2 (c2 z a h i j k) w c e f g))
 have⟨s1,s2⟩:=fu A.len λd b v n o=>(K d b v n o).1;rcases Nat.lt_or_eq_of_le s1 with p|p
 .exact p
 grind [G9]
structure WU(p:Aa)(T:List Av):Prop:=
 len:U T=U p.defs
 each:∀(d:Nat) x b,p.defs[d]?=J x->T[d]?=J b->(U b.ac)=U x.ac/\(U b.rules)=U x.rules/\(U b.args)=U x.ac/\∀(c:Nat) ch l,x.ac[c]?=J ch->b.args[c]?=J l->(U l:Int)=ch.many
def O4(d:Bc):Av:=⟨TL (U d.ac) 1,TL (U d.rules) 1,d.ac.map λa=>TL a.many.toNat 1⟩
def Kl(p:Aa):List Av:=p.defs.map O4
def Vs(b:Aa)(e:Al)(D:List BG)(a:Int):Nat->Al->Al
 |_,[]=>[]|c,k::l=>(if k=3/\qI b D a (RI e a+c)=1 then 2 else k)::Vs b e D a (c+1) l
def U2(c:Aa)(e:Al)(D:List BG)(a:Al):Nat->List Av->List Av
 |_,[]=>[]|i,b::l=>⟨Vs c e D ((a[i]?).getD 0) 0 b.ac,b.rules,b.args⟩::U2 c e D a (i+1) l
def JJ(c:Aa)(e:Al)(D:List BG)(b:Al)(a:List Av):List Av:=U2 c e D b 0 a
theorem cM(g:Aa)(h:Al)(D:List BG)(a:Int):∀(f:Al) (c b:Nat),(Vs g h D a c f)[b]?=(f[b]?).map λe=>if e=3/\qI g D a (RI h a+((c+b:Nat):Int))=1 then 2 else e
 :=by intro i;induction i<;>grind [Vs]
theorem cP(e:Aa)(f:Al)(D:List BG)(c:Int):∀(a:Al) (b:Nat),(Vs e f D c b a).length=U a
 :=by intro g;induction g<;>grind [Vs]
theorem Ly(g:Aa)(h:Al)(D:List BG)(e:Al):∀(c:List Av) (f a:Nat),(U2 g h D e f c)[a]?=(c[a]?).map λb=>⟨Vs g h D ((e[f+a]?).getD 0) 0 b.ac,b.rules,b.args⟩
 :=by intro i;induction i<;>grind [U2]
theorem Yp(e:Aa)(f:Al)(D:List BG)(b:Al):∀(a:List Av) (c:Nat),(U2 e f D b c a).length=U a
 :=by intro g;induction g<;>grind [U2]
section
variable{p:Aa}{sz:Al}{D:List BG}{hs:Al}{T c:List Av}
theorem QI(a:WU p T)(e:WU p c):M4 T c:=by refine⟨a.len.trans e.len.symm,λd b v f h=>?_⟩;have⟨x,hx⟩:=g_ (l:=p.defs) (i:=d) (by rw[<-a.len];exact l_ f);have⟨a1,a2,a3,a4⟩:=a.each d x b hx f;have⟨b1,b2,b3,b4⟩:=e.each d x v hx h;refine⟨a1.trans b1.symm,a2.trans b2.symm,a3.trans b3.symm,λg k l i j=>?_⟩;have⟨ch,hch⟩:=g_ (l:=x.ac) (i:=g) zCN;grind
def Xj(e:Ar p sz){d:Nat}{b:Bc}(c:p.defs[d]?=J b):∀a∈b.ac,0<=a.many:=λa f=>((Bd e c).ok.chan a f).2.2.1
theorem AGF(h:Ar p sz):WU p (Kl p):=by refine⟨by simp[Kl],λd k b f e=>?_⟩;rw[Kl,BY,f]at e;cases e;refine⟨by simp[O4],by simp[O4],by simp[O4],λi g j a c=>?_⟩;rw[O4,BY,a]at c;cases c;have:=Xj h f g (AP a);grind
def AGD:yA (Kl p):=λb f=>by obtain⟨d,h,rfl⟩:=Ex.1 f;refine⟨λc a=>.inl (I0.1 a).2,λc a=>.inl (I0.1 a).2,λi e c a=>?_⟩;obtain⟨g,_,rfl⟩:=Ex.1 e;exact .inl (I0.1 a).2
def AHE{T:List Av}(h:∀b∈T,(∀e∈b.ac,e=1)/\(∀e∈b.rules,e=1)/\∀g∈b.args,∀e∈g,e=1)(c:List Av):WQ T c:=by
 refine⟨λd a=>?_,λd a=>?_,λa e=>?_⟩
 .have:Bx T d a=1:=by
   rw[Bx];rcases hu:T[d.toNat]? with _|b
   .rfl
   .rw[GO];rcases hx:b.ac[a.toNat]? with _|f
    .rfl
    .exact(h b (AP hu)).1 f (AP hx)
  rw[this];exact(EF _).1
 .have:BU T d a=1:=by
   rw[BU];rcases hu:T[d.toNat]? with _|b
   .rfl
   .rw[GO];rcases hx:b.rules[a.toNat]? with _|f
    .rfl
    .exact(h b (AP hu)).2.1 f (AP hx)
  rw[this];exact(EF _).1
 .have:FE T a e=1:=by
   rw[FE];rcases hu:T[a.1.toNat]? with _|b
   .rfl
   .rw[GO];rcases hl:b.args[a.2.toNat]? with _|g
    .rfl
    .rw[GO];rcases hx:g[e]? with _|f
     .rfl
     .exact(h b (AP hu)).2.2 g (AP hl) f (AP hx)
  rw[this];exact(EF _).1
theorem AJ9(c:List Av):WQ (Kl p) c:=AHE (λb g=>by obtain⟨d,i,rfl⟩:=Ex.1 g;refine⟨λe a=>(I0.1 a).2,λe a=>(I0.1 a).2,λj f e a=>?_⟩;obtain⟨h,_,rfl⟩:=Ex.1 f;grind) c
theorem aE(p:Aa)(sz:Al)(D:List BG)(hs:Al)(T:List Av):∀(l:List Bc) (i:Nat),(aD p sz D hs T i l).length=U l
 :=by intro x;induction x<;>grind [aD]
theorem QZ(m:Ar p sz)(hs:Al)(T:List Av):WU p (Gb p sz D hs T):=by refine⟨aE ..,λd a b k j=>?_⟩;rw[Ib,k]at j;cases j;have i:=(Rh (Xj m k)).mono (vu (λe f=>sS p T D e f) T (d:Int) (RI sz ((hs[d]?).getD 0)+a.own) a.rules 0 (Gj a));refine⟨by simp[M8,Nz],by simp[M8,MA],by simp[M8];exact i.1,λg l s n h=>?_⟩;simp only[M8,BY]at h;obtain⟨r,o,rfl⟩:=Be.1 h;rw[BV];have c:=i.2 g l n;rw[Nk,F2]at c;have q:(M6 (λe f=>sS p T D e f) T (d:Int) (RI sz ((hs[d]?).getD 0)+a.own) 0 a.rules (Gj a))[g]?=J r:=o;rw[q]at c;exact c
theorem vj:yA (Gb p sz D hs T):=λb f=>by
 obtain⟨c,a⟩:=Ci f;rw[Ib]at a;obtain⟨j,g,rfl⟩:=Be.1 a;refine⟨λc a=>?_,λc a=>?_,λh e c a=>?_⟩
 .obtain⟨_,_,rfl⟩:=Ex.1 a;exact Um _
 .obtain⟨_,_,rfl⟩:=Ex.1 a;exact Um _
 .obtain⟨i,_,rfl⟩:=Ex.1 e;grind [Um]
structure Sb(p:Aa)(sz:Al)(D:List BG)(hs:Al)(T:List Av):Prop:=
 shp:WU p T
 can:yA T
 le:WQ T (Gb p sz D hs T)
def dF(a:Ar p sz):Sb p sz D hs (Kl p):=⟨AGF a,AGD,AJ9 _⟩
def pt(a:Ar p sz)(b:Sb p sz D hs T):Sb p sz D hs (Gb p sz D hs T):=⟨QZ a hs T,vj,iU a hs b.le⟩
def pq(T:List Av):Nat:=2*xc T-lk T
theorem pr(b:Ar p sz)(a:Sb p sz D hs T)(c:Cy G2 T (Gb p sz D hs T)=Z):pq (Gb p sz D hs T)<pq T:=by have e:=QI a.shp (QZ (D:=D) b hs T);have f:=AHD e a.le a.can vj c;grind [AB5,AKe,pq]
theorem nq(T:List Av)(d c:Int):Bx (JJ p sz D hs T) d c=if Bx T d c=3/\qI p D ((hs[d.toNat]?).getD 0) (RI sz ((hs[d.toNat]?).getD 0)+(c.toNat:Int))=1 then 2 else Bx T d c:=by grind [Bx,JJ,Ly,cM]
theorem AKD(T:List Av):WQ T (JJ p sz D hs T)/\WQ (JJ p sz D hs T) T:=by
 have g:∀d a,Mc (Bx (JJ p sz D hs T) d a)=Mc (Bx T d a):=λd a=>by
  rw[nq];split
  .rename_i e;rw[e.1];rfl
  .rfl
 have h:∀d c,BU (JJ p sz D hs T) d c=BU T d c:=λd c=>by grind [BU,JJ,Ly]
 have f:∀a b,FE (JJ p sz D hs T) a b=FE T a b:=λa b=>by grind [FE,JJ,Ly]
 exact⟨⟨λd a=>by grind,λd a=>by grind,λd a=>by grind⟩,⟨λd a=>by grind,λd a=>by grind,λd a=>by grind⟩⟩
theorem AGQ(a:WU p T):WU p (JJ p sz D hs T):=by refine⟨by rw[JJ,Yp];exact a.len,λd g b f c=>?_⟩;rw[JJ,Ly]at c;obtain⟨v,e,rfl⟩:=Be.1 c;have⟨h1,h2,h3,h4⟩:=a.each d g v f e;grind [cP]
theorem AIR(h:yA T)(d c:Int):Bx T d c≠2:=λe=>by
 rw[Bx]at e;rcases hu:T[d.toNat]? with _|b
 .grind
 .rw[hu,GO]at e;rcases hx:b.ac[c.toNat]? with _|x
  .grind
  .rw[hx]at e;have:=(h b (AP hu)).ac x (AP hx);grind [dW]
def AKf(b:Ar p sz)(f:Ml p hs)(a:Sb p sz D hs T)(j:Cy G2 T (Gb p sz D hs T)=X):DQ p sz D (JJ p sz D hs T)/\UE p sz D (JJ p sz D hs T)/\WU p (JJ p sz D hs T):=by
 have g:=AFV (QI a.shp (QZ (D:=D) b hs T)) j;have⟨h1,h2⟩:=AKD (p:=p) (sz:=sz) (D:=D) (hs:=hs) T;refine⟨Sd b f ?_,λm n d o h l k r q c=>?_,AGQ a.shp⟩
 .have e:=iU (D:=D) b hs h2;rw[<-g]at e;exact e.trans h1
 .rw[nq,f.at_ m n h l k]at c;split at c
  .rename_i i;have:=i.2;simp at this;exact this
  .exact absurd c (AIR a.can _ _)
theorem AIA(b:Ar p sz)(c:Ml p hs)(a:WU p T)(e:Cy bQ T (Gb p sz D hs T)=X):DQ p sz D T:=by grind [Sd,AOU,QI,QZ,AOL]
def uu(c:WU p T):U p.defs=U T/\∀(d:Nat) a b,p.defs[d]?=J a->T[d]?=J b->(U a.ac)=U b.ac/\(U a.rules)=U b.rules:=⟨c.len.symm,λd a b f e=>⟨(c.each d a b f e).1.symm,(c.each d a b f e).2.1.symm⟩⟩
end
def gy(f:Aa)(D:List BG):Prop:=∀e c a,Ir (den D e) c=J a->0<=a.1/\0<=a.2/\∃d b,f.defs[a.1.toNat]?=J d/\d.ac[a.2.toNat]?=J b
def Zi(a:Int):Prop:=0<=a/\a<=2
theorem fR(k:Int):Zi (Mc k):=by grind [Zi,Mc]
theorem fX{a e:Int}(b:Zi a)(c:Zi e):Zi (Hy a e):=by grind [Zi,Hy]
theorem AHK{a e:Int}(b:Zi a)(c:Zi e):Zi (KV a e):=by obtain⟨f,g⟩:=b;obtain⟨h,i⟩:=c;have:a=0\/a=1\/a=2:=z;grind [Zi,KV]
section
variable{p:Aa}{h:Al}{D:List BG}{j:Al}{g k:S}{B:u}{V:TV}{c:u}{T:List Av}
def AHQ(C:DY p h D j g B V)(N:Sa c B V)(a6:WU p T)(b3:gy p D)(c5:U D=U p.nodes){o pl:Int}{i:CF}(b7:0<=o)(ad:p.nodes[o.toNat]?=J i)(c8:U i.args<=1000000):
 ∃bc bx,kT (.fn 208) [.ptr B 0,De T,nI o,nI pl] g c X (J c)=.ok (bc,bx)/\bc=.ret (nI (KM p T D o i pl)):=by
 have bk:=N B zCR;have cp:=AN bk;have cq:=Aw bk;have c4:=C.box;have b9:=l_ ad;have cx:o<U p.nodes:=z;have bi:=N V.N zCR;have cu:=AN bi;have cv:=Aw bi;have c3:=C.arr;obtain⟨K,M⟩:=g_ (l:=V.ms) (i:=o.toNat) (by rw[C.len];exact b9);have c9:(V.ms.map λK=>[y.mp K])[o.toNat]?=J [.mp K]:=by rw[BY,M];rfl
 obtain⟨cs,c6,b4⟩:=C.maps _ K M;have bh:=N K (by simp[TV.ids,AP M]);have dc:=AN bh;have dd:=Aw bh;have a0:=b4.get i.n;have cd:=l_ M;have de:o.toNat<(V.ms.map λK=>[y.mp K]).length:=by simpa using cd
 have c1:o<U V.ms:=z;have L:=λn d W b0 f w s H ag=>py (C.new N (g':=H) ag) (N.ext 32) (c:=n) (d:=d) (ch:=W) b0 f w s b7 ad;replace L:=AB L;have av:=b3 o i.n;have b5:(D[o.toNat]?).getD []=den D o:=rfl;rw[b5]at a0;replace C:=AB C;replace av:=AB av;cases w:Ir (den D o) i.n with
 |none=>
  rw[w]at a0;have r:KM p T D o i pl=Gx T I pl 0 i.args (if i.n=pl then 1 else 0):=by rw[KM,w]
  rw[r];obtain⟨A,q⟩:∃A,A=Gx T I pl 0 i.args (if i.n=pl then 1 else 0):=⟨_,rfl⟩;rw[<-q];replace q:=AB q;refine Ba func208 ?_
  (repeat' (first|simp only[*,go_sem,AM]|(refine sx ?_ ?_<;>intro s)|refine sy z λi ad M=>?_|simp(disch:=first|assumption|omega) only[Ae]))
  all_goals
   refine Ah i.args (B2:=λl (a:(Int×S)×Nat)=>⟨[(1,De T),(3,nI pl),(10,.ptr (0::24::c) 0),(11,.d (.bool (Z))),(12,nI a.1.1),(49,.d (.co (i.args.map Bh))),(50,nI (U i.args)),(51,nI l)],a.1.2,a.2,[]⟩)
    (Inv:=λl a5 a=>AR (Gx T I pl l a5 a.1.1=A/\Zi a.1.1/\30<=a.2)/\a.1.2.get (0::24::c)=J (.box [nI 0,nI 0])) (b0:=((_,_),_)) ?_ ?_ ?_
   .exact zBN
   .rintro l t ⟨⟨a,H⟩,e⟩ b8 F az ⟨k,ar⟩ x;have cn:TC.wrap ((l:Int)+1)=(l:Int)+1:=w_ z z;have ch:∀O,¬e+O=24:=λO=>by have:=k.1.2.2;dsimp only at this;omega
    obtain⟨f,v,b2⟩:=k.1;dsimp only at*;rw[Gx]at f;replace s:=AB s;by_cases m:t.op=2/\t.n=pl
    .rw[D3 m]at f;obtain⟨R,a4⟩:=m;replace f:=AB f;replace k:=AB k;refine ax ?_;refine x.1 ((2,_),_) ⟨⟨f.1,by unfold Zi;dsimp only;omega,AZ⟩,?_⟩;dsimp only;simp only[*,go_sem,AM]
    .exact zAW
   .rintro l ⟨⟨a,H⟩,e⟩ F az ⟨k,ar⟩;have f:=k.1.1;dsimp only at*;rw[Gx]at f;rw[<-f];replace f:=AB f;replace k:=AB k;replace q:=AB q;exact af
 |some n=>
  rw[w]at a0;obtain⟨bl,bn,d,W,aa,Y⟩:=av.1 n w;have L:=AB λH ag=>L.1 n d W bl bn aa Y H ag;cases ac:O1 p n i with
  |false=>
   have r:KM p T D o i pl=0:=by rw[KM,w];simp[ac]
   rw[r];refine Ba func208 ?_;refine ax ?_;refine GI (L.1 _ λl F=>?_) (λcl bv a3=>?_)
   .have Q:=F;rw[Nt]at Q;simp only[go_sem,Q,AM]
   subst a3;exact af
  |true=>
   have r:KM p T D o i pl=Gx T (J n) pl 0 i.args (if i.n=pl then 1 else 0):=by rw[KM,w];simp[ac]
   rw[r];obtain⟨A,q⟩:∃A,A=Gx T (J n) pl 0 i.args (if i.n=pl then 1 else 0):=⟨_,rfl⟩;rw[<-q];replace q:=AB q;have cc:=l_ aa;have b':=l_ Y;obtain⟨b,ai⟩:=g_ (l:=T) (i:=n.1.toNat) (by rw[a6.len];exact cc);obtain⟨_,_,cm,be⟩:=a6.each _ _ _ aa ai;obtain⟨a2,a1⟩:=g_ (l:=b.args) (i:=n.2.toNat) (by rw[cm];exact b');have dj:=l_ a1;have df:=l_ ai;have c0:n.1<U T:=z;have c2:n.2<U b.args:=z;have a':U a2=U i.args:=by
    have bo:Rk p n=J W:=by rw[Rk,aa];exact Y
    rw[O1,bo]at ac;have f:=of_decide_eq_true ac;have v:=be _ _ _ Y a1;simp only[Gt,F9]at f;omega
   clear be;refine Ba func208 ?_;refine ax ?_;refine GI (L.1 _ λl F=>?_) (λcl bv a3=>?_)
   .have Q:=F;rw[Nt]at Q;simp only[go_sem,Q,AM]
   subst a3
   (repeat' (first|simp only[*,go_sem,AM]|(refine sx ?_ ?_<;>intro s)|refine sy z λi ad M=>?_|simp(disch:=first|assumption|omega) only[Ae]))
   all_goals
    refine Ah i.args (B2:=λl (a:(Int×S)×Nat)=>⟨[(1,De T),(3,nI pl),(10,.ptr (0::24::c) 0),(11,.d (.bool (X))),(12,nI a.1.1),(49,.d (.co (i.args.map Bh))),(50,nI (U i.args)),(51,nI l)],a.1.2,a.2,[]⟩)
     (Inv:=λl a5 a=>AR (Gx T (J n) pl l a5 a.1.1=A/\Zi a.1.1/\30<=a.2)/\a.1.2.get (0::24::c)=J (.box [nI n.1,nI n.2])) (b0:=((_,_),_)) ?_ ?_ ?_
    .exact zBN
    .rintro l t ⟨⟨a,H⟩,e⟩ b8 F az ⟨k,ar⟩ x;have cn:TC.wrap ((l:Int)+1)=(l:Int)+1:=w_ z z;have ch:∀O,¬e+O=24:=λO=>by have:=k.1.2.2;dsimp only at this;omega
     obtain⟨f,v,b2⟩:=k.1;dsimp only at*;rw[Gx]at f;replace s:=AB s;by_cases m:t.op=2/\t.n=pl
     .rw[D3 m]at f;obtain⟨R,a4⟩:=m;obtain⟨P,b6⟩:=g_ (l:=a2) (i:=l) z;have bs:FE T n l=P:=by rw[FE,ai,GO,a1,GO,b6];rfl
      rw[pK,bs]at f;have c7:(l:Int)<U a2:=z;have c':=Wx (a:=a) (b:=Mc P) v (fR P);have b1:=fX v (fR P);replace f:=AB f;replace k:=AB k;replace a':=AB a';refine ax ?_;refine x.1 ((Hy a (Mc P),_),_) ⟨⟨f.1,b1,AZ⟩,?_⟩;dsimp only;simp only[*,go_sem,AM]
     .exact zAW
    .rintro l ⟨⟨a,H⟩,e⟩ F az ⟨k,ar⟩;have f:=k.1.1;dsimp only at*;rw[Gx]at f;rw[<-f];replace f:=AB f;replace k:=AB k;replace q:=AB q;exact af
end
def nH(a e:Int)(o:Bool):Bool:=wX a o
structure ALn(Bn:Av):Prop:=
 ac:U Bn.ac<=1000000
 rules:U Bn.rules<=1000000
 args:U Bn.args<=1000000
 each:∀l∈Bn.args,U l<=1000000
def Nu(T:List Av):Prop:=U T<=1000000/\∀b∈T,ALn b
variable{n:Nat}{F:Int->Int->Bool->Bool}
theorem gF(K:∀i k f,Bk kT n [nI i,nI k,.d (.bool f)] []=.ok (.ret (.d (.bool (F i k f))),[]))(M:cfg.mode n=.auto){H:S}{t:u}{e:u}(D:H.get e=J (.box [.fn n [] []]))(B:AD t e=Z){g h:Al}(m:U g=U h)(q:U g<=1000000)(f:Bool):
 ∃s o,kT (.fn 176) [.d (.co (g.map AX)),.d (.co (h.map AX)),.d (.bool (f)),.ptr e 0] H t X I=.ok (s,o)/\s=.ret (.d (.bool (QQ F f g h)))/\o=H:=by
 have⟨R,j⟩:=Cv (QQ F f g h);rw[<-j];replace j:=AB j;replace m:=AB m;have C:=AN B;refine Ba func176 ?_
 (repeat' (first|simp only[*,go_sem,AM]|(refine sx ?_ ?_<;>intro w)|refine sy z λi r q=>?_|simp(disch:=first|assumption|omega) only[Ae]))
 refine Ah g (B2:=λc (a:Nat)=>⟨[(0,.d (.co (g.map AX))),(1,.d (.co (h.map AX))),(2,.d (.bool (f))),(3,.ptr e 0),(10,nI (U g)),(11,nI c)],H,a,[]⟩)
  (Inv:=λc A a=>AR (QQ F f A (h.drop c)=R)) (b0:=_) ⟨j.1.symm⟩ ?_ ?_
 .rintro c i a r p x l v;have N:TC.wrap ((c:Int)+1)=(c:Int)+1:=w_ z z;have⟨k,hy⟩:=g_ (l:=h) (i:=c) (by rw[<-m.1];exact p);have L:(c:Int)<U h:=by have:=l_ hy;omega
  have b:=l.1;rw[EJ hy,QQ]at b;rcases hq:F i k f with _|_
  .rw[hq,Co Ad]at b;rw[<-b];replace b:=AB b;exact af
  .rw[hq,D3 rfl]at b;replace b:=AB b
   (repeat' (first|simp only[*,go_sem,AM]|(refine sx ?_ ?_<;>intro w)|refine sy z λi r q=>?_|simp(disch:=first|assumption|omega) only[Ae]))
   exact v.1 _ b
 .rintro c a p x l;have b:=l.1;rw[QQ]at b
  .rw[<-b];replace b:=AB b;exact af
  grind
theorem Uo(Q:∀k ad ac,Bk kT n [nI k,nI ad,.d (.bool ac)] []=.ok (.ret (.d (.bool (F k ad ac))),[]))(T:cfg.mode n=.auto){l m:List Av}(x:M4 l m)(c:Nu l):Bk kT 134 [De l,De m,.fn n [] []] []=.ok (.ret (.d (.bool (Cy F l m))),[]):=by
 have⟨R,t⟩:=Cv (Cy F l m);rw[<-t];refine Nm ?_ t x c;clear t x c;intro t x c;refine BH func134 ?_
 (repeat' (first|simp only[*,go_sem]|(refine sx ?_ ?_<;>intro h)|refine sy z λk i c=>?_|simp(disch:=first|assumption|omega) only[Ae]))
 refine Ah l (B2:=λg (_:Unit)=>⟨[(0,De l),(1,De m),(7,.fn 176 [] [.ptr [0,0] 0]),(12,nI (U l)),(13,nI g)],[([0,0],.box [.fn n [] []])],1,[]⟩)
  (Inv:=λg V _=>AR (Cy F V (m.drop g)=R)) (b0:=()) ⟨t.1.symm⟩ ?_ ?_
 .rintro g b _ aa Y av N ag;have a1:TC.wrap ((g:Int)+1)=(g:Int)+1:=w_ z (by have:=c.1.1;omega);have⟨v,hv⟩:=g_ (l:=m) (i:=g) (by rw[<-x.1.len];exact Y);have a0:(g:Int)<U m:=by have:=l_ hv;omega
  have r:=x.1.each g b v aa hv;have q:=c.1.2 b (AP aa);have a:=N.1;rw[EJ hv,Cy,gA]at a;have A:=AB λ(H:S) (C:u) (e:u) (w:H.get e=J (.box [.fn n [] []])) (B:AD C e=Z)=>gF Q T w B r.ac q.ac X;have K:=AB λ(H:S) (C:u) (e:u) (w:H.get e=J (.box [.fn n [] []])) (B:AD C e=Z)=>gF Q T w B r.rules q.rules Z;replace r:=AB r;replace q:=AB q;rcases q1:QQ F X b.ac v.ac with _|_
  .rw[q1]at a A;rw[Co AG]at a;rw[<-a];replace a:=AB a
   (repeat' (first|simp only[*,go_sem]|(refine sx ?_ ?_<;>intro h)|refine sy z λk i c=>?_|simp(disch:=first|assumption|omega) only[Ae]))
   refine Ak (A.1 _ _ _ rfl rfl) (λs p j=>?_);obtain⟨rfl,rfl⟩:=j;exact au
  .rw[q1]at a A;rcases q2:QQ F Z b.rules v.rules with _|_
   .rw[q2]at a K;rw[Co AG]at a;rw[<-a];replace a:=AB a
    (repeat' (first|simp only[*,go_sem]|(refine sx ?_ ?_<;>intro h)|refine sy z λk i c=>?_|simp(disch:=first|assumption|omega) only[Ae]))
    refine Ak (A.1 _ _ _ rfl rfl) (λs p j=>?_);obtain⟨rfl,rfl⟩:=j
    (repeat' (first|simp only[*,go_sem]|(refine sx ?_ ?_<;>intro h)|refine sy z λk i c=>?_|simp(disch:=first|assumption|omega) only[Ae]))
    refine Ak (K.1 _ _ _ rfl rfl) (λs p j=>?_);obtain⟨rfl,rfl⟩:=j;exact au
   .rw[q2]at a K
    (repeat' (first|simp only[*,go_sem]|(refine sx ?_ ?_<;>intro h)|refine sy z λk i c=>?_|simp(disch:=first|assumption|omega) only[Ae]))
    refine Ak (A.1 _ _ _ rfl rfl) (λs p j=>?_);obtain⟨rfl,rfl⟩:=j
    (repeat' (first|simp only[*,go_sem]|(refine sx ?_ ?_<;>intro h)|refine sy z λk i c=>?_|simp(disch:=first|assumption|omega) only[Ae]))
    refine Ak (K.1 _ _ _ rfl rfl) (λs p j=>?_);obtain⟨rfl,rfl⟩:=j;replace a:=AB a
    (repeat' (first|simp only[*,go_sem]|(refine sx ?_ ?_<;>intro h)|refine sy z λk i c=>?_|simp(disch:=first|assumption|omega) only[Ae]))
    have⟨B2,D⟩:=Cv (Jw F b.args v.args);rw[<-D]at a;replace D:=AB D;refine Ah b.args (B2:=λo (_:Unit)=>⟨[(0,De l),(1,De m),(7,.fn 176 [] [.ptr [0,0] 0]),(8,nI g),(12,nI (U l)),(13,nI g),(49,nI (U b.args)),(50,nI o)],[([0,0],.box [.fn n [] []])],1,[]⟩)
     (Inv:=λo V _=>AR (Jw F V (v.args.drop o)=B2)) (b0:=()) ⟨D.1.symm⟩ ?_ ?_
    .rintro o W _ i h ar O ai;have a2:TC.wrap ((o:Int)+1)=(o:Int)+1:=w_ z (by have:=q.1.args;omega);have⟨ys,hy⟩:=g_ (l:=v.args) (i:=o) (by rw[<-r.1.args];exact h);have az:(o:Int)<U v.args:=by have:=l_ hy;omega
     have f:=O.1;rw[EJ hy,Jw]at f;have L:=AB λ(H:S) (C:u) (e:u) (w:H.get e=J (.box [.fn n [] []])) (B:AD C e=Z)=>gF Q T w B (r.1.each o W ys i hy) (q.1.each W (AP i)) Z;rcases q3:QQ F Z W ys with _|_
     .rw[q3]at f L;rw[Co AG]at f;have P:R=false:=by have:=a.1;rw[<-f]at this;simpa using this.symm
      rw[P];replace P:=AB P;replace f:=AB f
      (repeat' (first|simp only[*,go_sem]|(refine sx ?_ ?_<;>intro h)|refine sy z λk i c=>?_|simp(disch:=first|assumption|omega) only[Ae]))
      refine Ak (L.1 _ _ _ rfl rfl) (λs p j=>?_);obtain⟨rfl,rfl⟩:=j;exact au
     .rw[q3,D3 rfl]at f;rw[q3]at L;replace f:=AB f
      (repeat' (first|simp only[*,go_sem]|(refine sx ?_ ?_<;>intro h)|refine sy z λk i c=>?_|simp(disch:=first|assumption|omega) only[Ae]))
      refine Ak (L.1 _ _ _ rfl rfl) (λs p j=>?_);obtain⟨rfl,rfl⟩:=j
      (repeat' (first|simp only[*,go_sem]|(refine sx ?_ ?_<;>intro h)|refine sy z λk i c=>?_|simp(disch:=first|assumption|omega) only[Ae]))
      exact ai.1 () f
    .rintro o _ h ar O;have f:=O.1;rw[Jw]at f
     .have M:Cy F (l.drop (g+1)) (m.drop (g+1))=R:=by have:=a.1;rw[<-f]at this;simpa using this
      replace f:=AB f;replace M:=AB M
      (repeat' (first|simp only[*,go_sem]|(refine sx ?_ ?_<;>intro h)|refine sy z λk i c=>?_|simp(disch:=first|assumption|omega) only[Ae]))
      exact ag.1 () M
     grind
 .rintro g _ Y av N;have a:=N.1;rw[Cy]at a
  .rw[<-a];replace a:=AB a;exact au
  grind
def mJ{a b:List Av}(e:M4 a b)(c:Nu a):Bk kT 134 [De a,De b,.fn 135 [] []] []=.ok (.ret (.d (.bool (Cy G2 a b))),[]):=Uo AMA xC e c
def mL{a b:List Av}(e:M4 a b)(c:Nu a):Bk kT 134 [De a,De b,.fn 141 [] []] []=.ok (.ret (.d (.bool (Cy bQ a b))),[]):=Uo AMQ xD e c
def mM{a b:List Av}(e:M4 a b)(c:Nu a):Bk kT 134 [De a,De b,.fn 179 [] []] []=.ok (.ret (.d (.bool (Cy nH a b))),[]):=Uo AEO xE e c
structure pz(ci:Option u)(id:u)(C:u->Prop)(Ai:Al->S->Prop)(π:u):Prop:=
 own:C id
 apart:∀i,C i->AD π i=Z
 loop:∀{l:Al} {H:S},Ai l H->∃r,H.get id=J (.loop r)
 eat:∀{x:Int} {l:Al} {H:S} {ρ:u} {r:Lp},Ai (x::l) H->H.get id=J (.loop r)->(∀i,AD π i=Z->AD ρ i=Z)->
  ∃o h',kT (.round id r) [nI x] H ρ X ci=.ok (o,h')/\o=.ret (.d (.bool (X)))/\Ai l h'/\∀i,¬C i->AD ρ i=Z->h'.get i=H.get i
 same:∀{l:Al} {H H':S},Ai l H->(∀i,AD π i=Z->H'.get i=H.get i)->Ai l H'
structure Wk(ci:Option u)(π:u):Prop:=
 nil:Jv ci []=X
 new:∀(a j:Nat) (o:Abs.Obj) (δ:S),Jv ci ((a::j::π,o)::δ)=Jv ci δ
def Wk.none(a:u):Wk I a:=⟨rfl,λ_ _ _ _=>rfl⟩
def Wk.some{c b:u}(f:AD c b=X):Wk (J c) b:=⟨rfl,λa e g h=>by have⟨t,ht⟩:=under_iff.1 f;rw[qC,show AD c (a::e::b)=X from under_iff.2 ⟨a::e::t,by rw[<-ht];rfl⟩,I4]⟩
section
variable{p:Aa}{g:Al}{D:List BG}{j:Al}{h:S}{B:u}{V:TV}{c:u}
def XR{ci:Option u}{q:u}{s:u->Prop}{n:Al->S->Prop}(f:pz ci q s n c)(F:Wk ci c)(x:DY p g D j h B V)(K:Sa c B V){AY Y:u}{o:Int}{d:Bc}(aa:0<=o) (P:p.defs[o.toNat]?=J d) (ai:U d.be<=1000000) (ac:h.get AY=J (.box [.ptr B 0])) (ad:h.get Y=J (.box [nI o])) (v:n (d.be.map Dy.node) h):
 ∃L t,kT (.fn 198) [.yld q,.ptr AY 0,.ptr Y 0] h c X ci=.ok (L,t)/\L=.ret (.kw [])/\n [] t/\∀b,¬s b->AD c b=Z->t.get b=h.get b:=by
 have ag:=x.box;have a1:=l_ P;have W:o<U p.defs:=z;have uid:=f.apart q f.own;have T:=AN uid;have az:=F.nil;have a0:=F.new;replace x:=AB x;replace K:=AB K;replace f:=AB f;replace v:=AB v;refine Ba func198 ?_;refine ax ?_;refine Ah d.be (B2:=λb (a:S×Nat)=>⟨[(0,.yld q),(14,.d (.co (d.be.map BD))),(15,nI (U d.be)),(16,nI b)],a.1,a.2,[]⟩)
  (Inv:=λb R a=>AR (n (R.map Dy.node) a.1/\∀b,¬s b->AD c b=Z->a.1.get b=h.get b)) (b0:=(_,_)) ⟨v.1,λ_ _ _=>rfl⟩ ?_ ?_
 .rintro b a5 ⟨H,e⟩ av i Q k N;have a4:TC.wrap ((b:Int)+1)=(b:Int)+1:=w_ z z;obtain⟨l,w⟩:=k.1;dsimp only at*;rw[Bv]at l;obtain⟨a3,ar⟩:=f.1.loop l;replace l:=AB l;replace w:=AB w;replace k:=AB k;refine ax ?_;refine Ak (f.1.eat (f.1.same l.1 λb i=>?_) ?_ λb i=>AL i _) (λa2 O m=>?_)
  .have C:=AN i;simp only[go_sem,C,AM]
  .simp only[*,go_sem,AM]
  obtain⟨rfl,m,A⟩:=m;replace m:=AB m;replace A:=AB A;refine ax ?_;refine N.1 (_,_) ⟨f.1.same m.1 λb i=>An _ _ _ (AL i _),λb M r=>?_⟩;show(gc ((e+8)::c) O).get b=h.get b;rw[An _ _ _ (AL r _),A.1 b M (AL r _)];have C:=AN r;simp only[go_sem,C,AM];exact w.1 b M r
 .rintro b ⟨H,e⟩ i Q k;dsimp only at*;refine ax ?_;exact⟨k.1.1,k.1.2⟩
end
theorem ED(c:u)(b:S)(a:u)(e:U a<=(U c)+2):S.get (gc (0::0::c) b) a=S.get b a:=by
 refine R0 (λa=>match a with|0::l=> !AD (0::0::c) l|_=>X) b _ ?_
 grind [IJ]
def AJq(n:Nat)(a:u):AJ (n::a) a=false:=AI λb=>by exact zBX
attribute [go_sem] AJq
theorem BW(b:S){c a:u}(e:Abs.Obj)(f:a≠c):S.get (b.put c e) a=S.get b a:=by grind [p_,AI]
def OO{K:Af}{ci:Option u}{j b:u}{a:u}{g:CN}{e:Nat}{f:List Df}{Q:DZ->St->Prop}{i:gX}{args:List y}{H:S}{c:Lp}(k:∀h,h=c->L7 j b a g e f Q (K i args (H.put a (.loop h)) b X ci)):L7 j b a g e f Q (K i args (H.put a (.loop c)) b X ci):=k c rfl
def UR{ci:Option u}{a:u}(e:Wk ci a)(b:S)(B:u)(d:Int):
 ∃f c,kT (.fn 178) [.ptr B 0,nI d] b a X ci=.ok (f,c)/\f=.ret (.fn 198 [] [.ptr (0::0::a) 0,.ptr (0::1::a) 0])/\c=(b.put (0::0::a) (.box [.ptr B 0])).put (0::1::a) (.box [nI d]):=by
 have g:=e.nil;have h:=e.new;refine Ba func178 ?_;exact af
section
variable{p:Aa}{j:Al}{D:List BG}{h:Al}{g:S}{B:u}{V:TV}{c:u}{T:List Av}
structure APU(f:Int->Int)(g:S)(B:u)(ρ:u)(T:List Av)(pl:Int)(x:CF)(r0:Lp)(B2:Int)(M:Int->Prop)(l:Al)(H:S):Prop:=
 b0:H.get (0::0::ρ)=J (.box [.ptr B 0])
 b1:H.get (0::1::ρ)=J (.box [De T])
 b2:H.get (0::2::ρ)=J (.box [nI pl])
 b12:H.get (0::12::ρ)=J (.box [nI x.op,nI x.n,.d (.co (x.args.map Bh)),.d (.co (x.kids.map AX))])
 acc:∃a,H.get (0::22::ρ)=J (.box [nI a])/\Zi a/\Oq f l a=B2
 lp:H.get (0::28::ρ)=J (.loop r0)
 nw:∀i,AD ρ i=Z->H.get i=g.get i
 mem:∀m∈l,M m
structure APW(f:Int->Int)(g:S)(B:u)(ρ:u)(T:List Av)(pl:Int)(x:CF)(R:Int)(i:Nat)(l:List C6)(H:S)(b:Nat):Prop:=
 b0:H.get (0::0::ρ)=J (.box [.ptr B 0])
 b1:H.get (0::1::ρ)=J (.box [De T])
 b2:H.get (0::2::ρ)=J (.box [nI pl])
 b12:H.get (0::12::ρ)=J (.box [nI x.op,nI x.n,.d (.co (x.args.map Bh)),.d (.co (x.kids.map AX))])
 acc:∃a,H.get (0::22::ρ)=J (.box [nI a])/\Zi a/\Od f T x.n i l a=R
 nw:∀i,AD ρ i=Z->H.get i=g.get i
 base:30<=b
def ln(K:DY p j D h g B V)(v:Sa c B V)(a2:WU p T){n pl L:Int}{o:CF}{d:Bc}{f:Int->Int}(c':0<=n)(dd:p.nodes[n.toNat]?=J o)(cq:o.kids[0]?=J L)(c4:0<=o.n)(a5:p.defs[o.n.toNat]?=J d)(c8:U d.be<=1000000) (d7:U d.rules<=1000000)(aa:∀t,t=L\/t∈d.be.map Dy.node\/t∈d.rules.map C6.node->Zi (f t)/\∀H ar,DY p j D h H B V->Sa ar B V->∃ag be,kT (.fn 196) [.ptr B 0,De T,nI t,nI pl] H ar X (J ar)=.ok (ag,be)/\ag=.ret (nI (f t))):
 ∃ag be,kT (.fn 193) [.ptr B 0,De T,nI n,nI pl] g c X (J c)=.ok (ag,be)/\ag=.ret (nI (Ka f p T o)):=by
 have bx:=v B zCR;have dx:=AN bx;have d0:=Aw bx;have c5:=K.box;have d9:=l_ dd;have d1:n<U p.nodes:=z;have df:=l_ a5;have d3:o.n<U p.defs:=z;have d':=l_ cq;have d4:(0:Int)<U o.kids:=z;obtain⟨P,a1⟩:∃P,P=Ka f p T o:=⟨_,rfl⟩;have bh:P=Od f T o.n 0 d.rules (Oq f (d.be.map Dy.node) (f L)):=by rw[a1,Ka,a5];simp only[Dx,cq,F9]
 rw[<-a1];obtain⟨⟨bs,ai⟩,bl⟩:=aa L (.inl rfl);have bl:=AB λm H s=>bl H (m::c) (K.new v (g':=H) s) (v.ext _);replace a1:=AB a1;replace bh:=AB bh;replace aa:=AB aa;replace K:=AB K;replace v:=AB v;replace a2:=AB a2;refine Ba func193 ?_;refine ax ?_;refine DB (bl.1 _ _ λi k=>?_) (λa6 C q=>?_)
 .have w:=k;rw[Nt]at w;simp only[go_sem,w,AM]
 subst q;refine ax ?_;refine Ak (UR (Wk.some (under_iff.2 (FN 27 c))) _ _ _) (λa6 C q=>?_);obtain⟨rfl,rfl⟩:=q;rw[Gu,YD];generalize s:gc (0::0::27::c) _=r;have b0:r.get (0::0::c)=J (.box [.ptr B 0]):=zCU
 have av:r.get (0::1::c)=J (.box [De T]):=zCU
 have az:r.get (0::2::c)=J (.box [nI pl]):=zCU
 have b4:r.get (0::12::c)=J (.box [nI o.op,nI o.n,.d (.co (o.args.map Bh)),.d (.co (o.kids.map AX))]):=zCU
 have b5:r.get (0::22::c)=J (.box [nI (f L)]):=zCU
 have b6:r.get (0::0::27::c)=J (.box [.ptr B 0]):=zCU
 have b7:r.get (0::1::27::c)=J (.box [nI o.n]):=zCU
 have Y:∀i,AD c i=Z->r.get i=g.get i:=λi k=>by have w:=AN k;have ai:=AN (AL k 27);rw[<-s,An _ _ _ (AL (AL (AL k 27) 0) 0)];simp only[go_sem,w,ai,AM]
 clear s;replace Y:=AB Y;refine ax ?_;refine OO λc0 cv=>?_;obtain⟨B2,a3⟩:∃B2,B2=Oq f (d.be.map Dy.node) (f L):=⟨_,rfl⟩;have cl:AR (P=Od f T o.n 0 d.rules B2):=⟨by rw[a3];exact bh.1⟩;have ch:pz (J c) (0::28::c) (λi=>i=0::28::c\/i=0::22::c) (APU f g B c T pl o c0 B2 λt=>t∈d.be.map Dy.node) (29::c):=by
  refine⟨.inl rfl,?_,?_,?_,?_⟩
  .rintro i (rfl|rfl)<;>exact BK c z
  .intro cx H l;exact⟨_,l.lp⟩
  .intro t cx H ar el l cu bn;rw[l.lp]at cu;cases cu;subst cv;obtain⟨a,cn,N,a4⟩:=l.acc;rw[Oq]at a4;obtain⟨⟨ac,ad⟩,A⟩:=aa.1 t (.inr (.inl (l.mem t (CO ..))));have A:=AB λm r (s:∀i,AD c i=Z->r.get i=H.get i)=>A r (m::ar) (K.1.mono λi k=>(s i (v.1 i k)).trans (l.nw i (v.1 i k))) λi k=>AL (bn i (AL (v.1 i k) _)) _;have dc:=Wx (a:=a) (b:=f t) N ⟨ac,ad⟩;have bk:=fX N ⟨ac,ad⟩;have b1:=l.b0;have b2:=l.b1;have b3:=l.b2;have er:=l.lp;replace l:=AB l;replace bn:=AB bn;replace N:=AB N;replace a4:=AB a4;replace a3:=AB a3;replace b0:=AB b0;replace av:=AB av;replace az:=AB az;refine Oc rfl ?_;refine ax ?_;refine DB (A.1 _ _ λi k=>?_) (λa6 C q=>?_)
   .have w:=AN k;simp only[go_sem,w,AM]
   subst q;refine ax ?_;have dr:=l.1.b12;refine⟨⟨?_,?_,?_,?_,⟨_,?_,bk,a4.1⟩,?_,λi k=>?_,λt c9=>l.1.mem t (By _ c9)⟩,λi k d6=>?_⟩
   .simp only[go_sem,b1]
   .simp only[go_sem,b2]
   .simp only[go_sem,b3]
   .simp only[go_sem,dr]
   .simp only[go_sem]
   .simp only[go_sem]
   .have w:=AN k;simp only[go_sem,w,AM];exact l.1.nw i k
   .rw[not_or]at k;have bs:=AI λW=>k.1 (Eq.symm W);have ai:=AI λW=>k.2 (Eq.symm W);simp only[bs,ai,AM,Gs]
  .intro cx H c1 l h;have O:∀n,n≠29->c1.get (0::n::c)=H.get (0::n::c):=λn c'=>h _ (BK c z);obtain⟨a,cn,N⟩:=l.acc;exact⟨(O _ z).trans l.b0,(O _ z).trans l.b1,(O _ z).trans l.b2,(O _ z).trans l.b12,⟨a,(O _ z).trans cn,N⟩,(O _ z).trans l.lp,λi k=>(h i (AL k _)).trans (l.nw i k),l.mem⟩
 refine Mg (XR ch (Wk.some (under_iff.2 (FN 29 c))) (K.1.mono (g':=r.put (0::28::c) (.loop c0)) λi k=>?_) (λi k=>AL (v.1 i k) 29) c4 a5 c8 ?_ ?_ ⟨?_,?_,?_,?_,⟨f L,?_,⟨bs,ai⟩,a3.symm⟩,?_,λi k=>?_,λt A=>A⟩) (λa6 C q=>?_)
 .rw[BW _ _ λW=>?_]
  .exact Y.1 i (v.1 i k)
  .have:=v.1 i k;rw[W,show AD c (0::28::c)=X from Ao [0,28]]at this;cases this
 .simp only[go_sem,b6]
 .simp only[go_sem,b7]
 .simp only[go_sem,b0]
 .simp only[go_sem,av]
 .simp only[go_sem,az]
 .simp only[go_sem,b4]
 .simp only[go_sem,b5]
 .simp only[go_sem]
 .have w:=AN k;simp only[go_sem,w,AM];exact Y.1 i k
 obtain⟨rfl,q,dj⟩:=q;obtain⟨a,R,Q,F⟩:=q.acc;rw[Oq]at F;subst F;generalize a0:gc (28::c) (gc (29::c) C)=H3;rw[L8,q.lp,a0];have M:∀n,n≠28->n≠29->H3.get (0::n::c)=C.get (0::n::c):=λn ea eb=>by rw[<-a0,An _ _ _ (BK c z),An _ _ _ (BK c z)]
 have b8:=(M 0 z z).trans q.b0;have b9:=(M 1 z z).trans q.b1;have cc:=(M 2 z z).trans q.b2;have b':=(M 12 z z).trans q.b12;rw[<-M 22 z z]at R;have bc:AR (∀i,AD c i=Z->H3.get i=g.get i):=⟨λi k=>by rw[<-a0,An _ _ _ (AL k _),An _ _ _ (AL k _)];exact q.nw i k⟩;clear M q dj a0 C ch Y b0 av az b4 b5 b6 b7 r;subst cv;have c6:=(bc.1 B bx).trans c5;refine ax ?_;refine Ah d.rules (B2:=λi (a:S×Nat)=>⟨[(4,.ptr (0::0::c) 0),(5,.ptr (0::1::c) 0),(7,.ptr (0::2::c) 0),(9,.ptr (0::12::c) 0),(10,.ptr (0::22::c) 0),(51,.d (.co (d.rules.map BN))),(52,nI (U d.rules)),(53,nI i)],a.1,a.2,[.mark (0::28::c)]⟩)
  (Inv:=λi dm a=>AR (APW f g B c T pl o P i dm a.1 a.2)) (b0:=(_,_)) ⟨⟨b8,b9,cc,b',⟨a,R,Q,cl.1.symm⟩,bc.1,AZ⟩⟩ ?_ ?_
 .rintro i dn ⟨H,e⟩ de k c7 x c2;have em:TC.wrap ((i:Int)+1)=(i:Int)+1:=w_ z z;have cp:=x.1.base;dsimp only at cp;have ek:∀m,¬e+m=22:=λm=>z;have eg:∀m,¬e+m=12:=λm=>z;have ej:∀m,¬e+m=2:=λm=>z;have ef:∀m,¬e+m=1:=λm=>z;have ec:∀m,¬e+m=0:=λm=>z;clear cp;clear b8 b9 cc b' R bc Q cl c6;obtain⟨c3,R,Q,F⟩:=x.1.acc;obtain⟨b,bi⟩:=g_ (l:=T) (i:=o.n.toNat) (by rw[a2.1.len];exact df);obtain⟨_,bv,_,_⟩:=a2.1.each _ _ _ a5 bi;obtain⟨bo,cs⟩:=g_ (l:=b.rules) (i:=i) (by rw[bv];exact k);have cd:BU T o.n i=bo:=by rw[BU,bi,GO,F2,cs];rfl
  have d2:o.n<U T:=by have:=l_ bi;omega
  have d5:(i:Int)<U b.rules:=by have:=l_ cs;omega
  rw[Od,cd]at F;obtain⟨⟨ac,ad⟩,A⟩:=aa.1 dn.node (.inr (.inr (Mp (AP de))));have A:=AB λm r (s:∀i,AD c i=Z->r.get i=H.get i)=>A r (m::c) (K.1.mono λi k=>(s i (v.1 i k)).trans (x.1.nw i (v.1 i k))) (v.1.ext m);have d8:=AHL (fR bo) ⟨ac,ad⟩;have a':=AHK (fR bo) ⟨ac,ad⟩;have dc:=Wx Q a';have bk:=fX Q a';have b1:=x.1.b0;have b2:=x.1.b1;have b3:=x.1.b2;have dq:=x.1.b12;dsimp only at R b1 b2 b3 dq;replace bv:=AB bv;replace a':=AB a';replace F:=AB F;clear cd;refine ax ?_;refine DB (A.1 _ _ λi k=>?_) (λa6 C q=>?_)
  .have w:=AN k;simp only[go_sem,w,AM]
  subst q;refine ax ?_;refine c2.1 (_,_) ⟨⟨?_,?_,?_,?_,⟨_,?_,bk,F.1⟩,λi k=>?_,by have:=x.1.base;dsimp only at*;omega⟩⟩
  .exact zAq
  .exact zAq
  .exact zAq
  .exact zAq
  .exact zAq
  .have w:=AN k;simp only[go_sem,w,AM];exact x.1.nw i k
 .rintro i ⟨H,e⟩ k c7 x;obtain⟨c3,en,ds,cm⟩:=x.1.acc;rw[Od]at cm;subst cm;dsimp only at*;exact af
end
section
variable{p:Aa}{h:Al}{D:List BG}{j:Al}{g:S}{B:u}{V:TV}{b:u}{T:List Av}
def ADT(c:DY p h D j g B V)(a:Sa b B V){n pl i k:Int}{o:CF}{f:Int->Int}(ac:0<=n)(L:p.nodes[n.toNat]?=J o)(aa:o.kids[0]?=J i)(K:o.kids[1]?=J k)(e:∀l,l=i\/l=k->Zi (f l)/\∀H x,DY p h D j H B V->Sa x B V->∃m q,kT (.fn 196) [.ptr B 0,De T,nI l,nI pl] H x X (J x)=.ok (m,q)/\m=.ret (nI (f l))):
 ∃m q,kT (.fn 209) [.ptr B 0,De T,nI n,nI pl,.fn 206 [] []] g b X (J b)=.ok (m,q)/\m=.ret (nI (Hy (f i) (f k))):=by
 have A:=a B zCR;have O:=AN A;have P:=Aw A;have Y:=c.box;have ag:=l_ L;have Q:n<U p.nodes:=z;have ai:=l_ K;have R:(1:Int)<U o.kids:=z;have W:(0:Int)<U o.kids:=z;have⟨⟨q1,q2⟩,r⟩:=e i (.inl rfl);have⟨⟨q3,q4⟩,s⟩:=e k (.inr rfl);have r:=AB λv H t=>r H (v::b) (c.new a (g':=H) t) (a.ext _);have s:=AB λv H t=>s H (v::b) (c.new a (g':=H) t) (a.ext _);have ad:=Wx (a:=f i) (b:=f k) ⟨q1,q2⟩ ⟨q3,q4⟩;refine Nm ?_ e c a;clear e c a;intro e c a;refine Ba func209 ?_;refine ax (DB (r.1 _ _ λM F=>?_) (λN C w=>?_))
 .rfl
 subst w;refine ax (DB (s.1 _ _ λM F=>?_) (λN C w=>?_))
 .rfl
 subst w;exact af
def ADS(c:DY p h D j g B V)(a:Sa b B V){n pl i k:Int}{o:CF}{f:Int->Int}(ac:0<=n)(L:p.nodes[n.toNat]?=J o)(aa:o.kids[0]?=J i)(K:o.kids[1]?=J k)(e:∀l,l=i\/l=k->Zi (f l)/\∀H x,DY p h D j H B V->Sa x B V->∃m q,kT (.fn 196) [.ptr B 0,De T,nI l,nI pl] H x X (J x)=.ok (m,q)/\m=.ret (nI (f l))):
 ∃m q,kT (.fn 209) [.ptr B 0,De T,nI n,nI pl,.fn 195 [] []] g b X (J b)=.ok (m,q)/\m=.ret (nI (Fe (f i) (f k))):=by
 have A:=a B zCR;have O:=AN A;have P:=Aw A;have Y:=c.box;have ag:=l_ L;have Q:n<U p.nodes:=z;have ai:=l_ K;have R:(1:Int)<U o.kids:=z;have W:(0:Int)<U o.kids:=z;have⟨_,r⟩:=e i (.inl rfl);have⟨_,s⟩:=e k (.inr rfl);have r:=AB λv H t=>r H (v::b) (c.new a (g':=H) t) (a.ext _);have s:=AB λv H t=>s H (v::b) (c.new a (g':=H) t) (a.ext _);have ad:=lL (f i) (f k);refine Nm ?_ e c a;clear e c a;intro e c a;refine Ba func209 ?_;refine ax (DB (r.1 _ _ λM F=>?_) (λN C w=>?_))
 .rfl
 subst w;refine ax (DB (s.1 _ _ λM F=>?_) (λN C w=>?_))
 .rfl
 subst w;exact af
theorem XP(c:Ar p h){b:Nat}{a:CF}(e:p.nodes[b]?=J a):U a.args<=3:=by have⟨s,l,j,h0,h1,hok,hsub,_⟩:=c.node b a e;grind [Cq,Ft]
theorem ZE(M:Ar p h)(a0:WU p T)(a2:gy p D)(a3:U D=U p.nodes)(q:Int):∀(k:Nat) {n:Int},VT p k n->∀(g:S) (b:u),DY p h D j g B V->Sa b B V->∃aa az,kT (.fn 196) [.ptr B 0,De T,nI n,nI q] g b X (J b)=.ok (aa,az)/\aa=.ret (nI (CT p T D k n q))
 |0,_,a6,_,_,_,_=>a6.elim|k+1,n,hd,g,b,l,i=>by
  obtain⟨ai,⟨w,s⟩,ar⟩:=hd;have a5:=i B zCR;have bi:=AN a5;have bk:=Aw a5;have bo:=l.box;have bs:=l_ s;have bl:n<U p.nodes:=z;have A:=Ky M s;have L:∀m∈Ht p n,Zi (CT p T D k m q)/\∀H ad,DY p h D j H B V->Sa ad B V->∃aa az,kT (.fn 196) [.ptr B 0,De T,nI m,nI q] H ad X (J ad)=.ok (aa,az)/\aa=.ret (nI (CT p T D k m q)):=λm ag=>⟨Js ..,λH ad=>ZE M a0 a2 a3 q k (ar m ag) H ad⟩;have⟨R,N⟩:=Cv (CT p T D (k+1) n q);have f:=N;rw[<-N];rw[CT,s]at f;dsimp only at f;have al:=XP M s;have C:=λa' k A=>Wj M s a' (k:=k) A;refine aB ?_ N A L C ar;clear N A L C ar;intro N A L C ar;by_cases O:w.op=2
  .rw[D3 O]at f;have r:=AB λt H x=>AHQ (T:=T) (pl:=q) (l.new i (g':=H) x) (i.ext t) a0 a2 a3 ai s z;refine Nm ?_ l i f;clear l i f;intro l i f;exact zAJ
  rw[Co O]at f;by_cases v:w.op=3
  .rw[D3 v]at f;have⟨a,e⟩:=A.1.two (.inl v);have r:=AB λt H x=>ADT (T:=T) (pl:=q) (f:=λm=>CT p T D k m q) (l.new i (g':=H) x) (i.ext t) ai s (C.1 (.inl v) 0 (by simp[v])) (C.1 (.inl v) 1 (by simp[v])) λm ag=>L.1 m zCN;refine Nm ?_ l i f;clear l i f;intro l i f;clear O;exact zAJ
  rw[Co v]at f;by_cases F:w.op=5
  .rw[D3 F]at f;have⟨a,e⟩:=A.1.two (.inr F);have r:=AB λt H x=>ADS (T:=T) (pl:=q) (f:=λm=>CT p T D k m q) (l.new i (g':=H) x) (i.ext t) ai s (C.1 (.inr (.inl F)) 0 (by simp[F])) (C.1 (.inr (.inl F)) 1 (by simp[F])) λm ag=>L.1 m zCN;refine Nm ?_ l i f;clear l i f;intro l i f;clear O v;exact zAJ
  rw[Co F]at f;by_cases K:w.op=6\/w.op=8
  .rw[D3 K]at f;have a:=A.1.one K;have⟨_,r⟩:=L.1 _ a;have r:=AB λt H x=>r H (t::b) (l.new i (g':=H) x) (i.ext t);have a4:=C.1 z 0 zCN;have⟨K0,hK0⟩:=Cv (Dx w 0);rw[<-hK0]at r f a4;clear hK0;have bv:=l_ a4;have bn:(0:Int)<U w.kids:=z;refine Nm ?_ l i f;clear l i f;intro l i f;clear O v F a;rcases K with bc|be
   .exact zAJ
   .exact zAJ
  rw[Co K]at f;by_cases P:w.op=4
  .rw[D3 P]at f;have⟨d,hdd,a,e,c⟩:=A.1.defn P;have a1:=(Bd M hdd).ok;have bh:=(FI M s P).1;have r:=AB λt H x=>ln (T:=T) (pl:=q) (f:=λm=>CT p T D k m q) (l.new i (g':=H) x) (i.ext t) a0 ai s (C.1 (.inr (.inr (.inr (.inr P)))) 0 (by simp[P])) bh hdd (by have:=a1.be;omega) (by have:=a1.rules;omega) λm ag=>L.1 m (by grind)
   refine Nm ?_ l i f;clear l i f;intro l i f;clear O v F K a e c a1;exact zAJ
  rw[Co P]at f;have bc:¬w.op=6:=λav=>K (.inl av);have be:¬w.op=8:=λav=>K (.inr av);rw[f];clear f N K;replace l:=AB l;replace i:=AB i;refine Ba func196 ?_;exact af
end
theorem Uz:∀(N:Nat) (b:Al),b.Nodup->(∀c∈b,0<=c/\c<N)->(U b)<=N
 |0,b,_,e=>by
  rcases b with _|⟨a,b⟩
  .exact D4 _
  .grind [List.mem_cons_self]
 |N+1,b,hn,e=>by
  by_cases h:(N:Int)∈b
  .have g:=Uz N (b.erase (N:Int)) (hn.erase _) λc f=>by grind
   grind
  .have:=Uz N b hn λc f=>by grind
   omega
theorem X2{i e:Type}{f c:i->List e}:∀{b:List i},(∀a∈b,f a=c a)->b.flatMap f=b.flatMap c
 :=by intro a;induction a<;>grind
def dI{e:Aa}:∀{a c:Nat} {n:Int},VT e a n->a<=c->E7 e c n=E7 e a n
 |0,_,_,b,_=>b.elim|a+1,0,_,_,b=>z|a+1,c+1,n,b,hm=>by rw[E7,E7];congr 1;exact X2 λg f=>dI (b.2.2 g f) z
theorem X6{i c:Type}(f:i->List c):∀{b:List i} {a:i},a∈b->(f a).Sublist (b.flatMap f)
 :=by intro a;induction a<;>grind
def dK{c:Aa}:∀{a:Nat} {n g:Int},VT c a n->g∈E7 c a n->∃e,e<=a/\VT c e g/\(E7 c e g).Sublist (E7 c a n)
 |0,_,_,f,_=>f.elim|a+1,n,g,f,b=>by
  rw[E7]at b;rcases Cs.1 b with rfl|b
  .exact⟨a+1,D4 _,f,List.Sublist.refl _⟩
  .obtain⟨k,h,b⟩:=BI.1 b;obtain⟨e,l,i,j⟩:=dK (f.2.2 k h) b;refine⟨e,z,i,j.trans ?_⟩;rw[E7];exact(X6 (E7 c a) h).trans (List.sublist_cons_self _ _)
def AHN{a:Aa}(b:FY a){n:Int}(e:0<=n)(f:n<U a.nodes):(E7 a (U a.nodes+1) n).length<=(U a.nodes):=by have c:=b.all n e f;have⟨j,h2,h3,h4⟩:=dK b.main c;rw[dI h3 h2];exact HE h4.length_le (Uz _ _ b.nd λg c=>gD b.main c)
section
variable{p:Aa}{b:Al}{D:List BG}
theorem mG(h:Ar p b){n:Int}{c:CF}(g:p.nodes[n.toNat]?=J c)(f:c.op=3\/c.op=5):c.kids=[Dx c 0,Dx c 1]:=by
 have⟨s,l,hs,h0,h1,hok,hsub,_⟩:=h.node _ c g;simp only[Cq,As,Dl]at hok;have j:=hok.1;have i:U c.kids=2:=by rcases f with f|f<;>(grind [DM])
 unfold Dx
 match g:c.kids,i with|[a,e],_=>rfl
theorem AFT(g:Ar p b){n:Int}{c:CF}(f:p.nodes[n.toNat]?=J c)(i:c.op=4):c.kids=[Dx c 0]:=by
 have⟨s,l,hs,h0,h1,hok,hsub,_⟩:=g.node _ c f;simp only[Cq,As,Dl]at hok;have e:=hok.1;have h:U c.kids=1:=by rw[i]at e;simpa[DM]using e.symm
 unfold Dx
 match f:c.kids,h with|[a],_=>rfl
theorem AEU{f:Int->Int}{g:Int->Al}(e:∀a,0<=f a):∀{b:Al},(∀a∈b,f a<=(g a).length)->(b.map λa=>(f a).toNat).sum<=(b.flatMap g).length
 :=by intro c;induction c<;>grind
theorem fw(j:Ar p b)(h:Int):∀{g:Nat} {n:Int},VT p g n->Fs p D g n h<=(E7 p g n).length
 |0,_,i=>i.elim|g+1,n,i=>by
  obtain⟨v,⟨A,k⟩,s⟩:=i;have l:=λt r=>fw j h (s t r);have m:=Ky j k;rw[Fs,k,E7,II];dsimp only;split
  .grind [xp]
  split
  .grind [Ht,mG]
  split
  .grind [Ht,mG,RN]
  split
  .rename_i q;have⟨d,hd,a,e,c⟩:=m.defn q;rw[XQ,hd];dsimp only;rw[xl (f:=λf=>Fs p D g f h) (λf=>Ni ..) (Ni ..)];have w:=l _ a;have x:=AEU (f:=λf=>Fs p D g f h) (g:=E7 p g) (λf=>Ni ..) λf o=>l f (e f o);grind [Ht,AFT]
  .omega
end
theorem AKc{f:Int->Int}(g:∀c,0<=f c):∀(b:Al) (a:Int),a<=VI f b a
 :=by intro e;induction e<;>grind [VI]
section
variable{p:Aa}{h:Al}{D:List BG}{c:Al}{g:S}{B:u}{V:TV}{b:u}
structure APN(f:Int->Int)(g:S)(B:u)(ρ:u)(pl:Int)(r0:Lp)(B2:Int)(M:Int->Prop)(l:Al)(H:S):Prop:=
 b0:H.get (0::0::ρ)=J (.box [.ptr B 0])
 b1:H.get (0::1::ρ)=J (.box [nI pl])
 acc:∃a,H.get (0::20::ρ)=J (.box [nI a])/\0<=a/\VI f l a=B2
 lp:H.get (0::26::ρ)=J (.loop r0)
 nw:∀i,AD ρ i=Z->H.get i=g.get i
 mem:∀m∈l,M m
theorem iy(v:DY p h D c g B V)(o:Sa b B V){n pl r:Int}{w:CF}{d:Bc}{f:Int->Int}(b0:0<=n)(b1:p.nodes[n.toNat]?=J w)(bo:w.kids[0]?=J r)(bk:0<=w.n)(bl:p.defs[w.n.toNat]?=J d)(bs:U d.be<=1000000) (C:∀k,0<=f k) (W:VI f (d.be.map Dy.node) (f r)<=1000)(Q:∀k,k=r\/k∈d.be.map Dy.node->∀H K,DY p h D c H B V->Sa K B V->∃F T,kT (.fn 177) [.ptr B 0,nI k,nI pl] H K X (J K)=.ok (F,T)/\F=.ret (nI (f k))):
 ∃F T,kT (.fn 136) [.ptr B 0,nI n,nI pl] g b X (J b)=.ok (F,T)/\F=.ret (nI (VI f (d.be.map Dy.node) (f r))):=by
 have bc:=o B zCR;have b6:=AN bc;have b7:=Aw bc;have b':=v.box;have cd:=l_ b1;have b8:n<U p.nodes:=z;have ch:=l_ bo;have b9:(0:Int)<U w.kids:=z;obtain⟨B2,N⟩:∃B2,B2=VI f (d.be.map Dy.node) (f r):=⟨_,rfl⟩;rw[<-N]at W⊢;have aa:=Q r (.inl rfl);have aa:=AB λad H m=>aa H (ad::b) (v.new o (g':=H) m) (o.ext _);replace Q:=AB Q;replace v:=AB v;replace o:=AB o;replace C:=AB C;replace N:=AB N;refine Ba func136 ?_;refine ax ?_;refine DB (aa.1 _ _ λe i=>?_) (λai t q=>?_)
 .have s:=i;rw[Nt]at s;exact BZ
 subst q;refine ax ?_;refine Ak (UR (Wk.some (under_iff.2 (FN 25 b))) _ _ _) (λai t q=>?_);obtain⟨rfl,rfl⟩:=q;rw[Gu,YD];generalize m:gc (0::0::25::b) _=l;have L:l.get (0::0::b)=J (.box [.ptr B 0]):=zCY
 have M:l.get (0::1::b)=J (.box [nI pl]):=zCY
 have ar:l.get (0::20::b)=J (.box [nI (f r)]):=zCY
 have av:l.get (0::0::25::b)=J (.box [.ptr B 0]):=zCY
 have az:l.get (0::1::25::b)=J (.box [nI w.n]):=zCY
 have x:∀e,AD b e=Z->l.get e=g.get e:=λe i=>by have s:=AN i;have cn:=AN (AL i 25);rw[<-m,An _ _ _ (AL (AL (AL i 25) 0) 0)];exact BZ
 clear m;replace x:=AB x;refine ax ?_;refine OO λa' a6=>?_;have a1:pz (J b) (0::26::b) (λe=>e=0::26::b\/e=0::20::b) (APN f g B b pl a' B2 λk=>k∈d.be.map Dy.node) (27::b):=by
  refine⟨.inl rfl,?_,?_,?_,?_⟩
  .grind [BK]
  .intro ag H j;exact⟨_,j.lp⟩
  .intro k ag H K cp j a5 ac;rw[j.lp]at a5;cases a5;subst a6;obtain⟨a,a4,O,P⟩:=j.acc;rw[VI]at P;have A:=Q.1 k (.inr (j.mem k (CO ..)));have A:=AB λad l (m:∀e,AD b e=Z->l.get e=H.get e)=>A l (ad::K) (v.1.mono λe i=>(m e (o.1 e i)).trans (j.nw e (o.1 e i))) λe i=>AL (ac e (AL (o.1 e i) _)) _;have bv:=C.1 k;have bn:=AKc C.1 ag (a+f k);have cq:TC.wrap (a+f k)=a+f k:=w_ z z;have Y:0<=a+f k:=z;have b3:=j.b0;have b4:=j.b1;have cs:=j.lp;clear bn bv;replace j:=AB j;replace ac:=AB ac;replace O:=AB O;replace P:=AB P;replace Y:=AB Y;replace L:=AB L;replace M:=AB M;replace W:=AB W;refine Oc rfl ?_;refine ax ?_;refine DB (A.1 _ _ λe i=>?_) (λai t q=>?_)
   .have s:=AN i;exact BZ
   subst q;refine ax ?_;refine⟨⟨?_,?_,⟨_,?_,Y.1,P.1⟩,?_,λe i=>?_,λk bx=>j.1.mem k (By _ bx)⟩,λe i cc=>?_⟩
   .simp only[go_sem,b3]
   .simp only[go_sem,b4]
   .simp only[go_sem]
   .simp only[go_sem]
   .have s:=AN i;simp only[go_sem,s,AM];exact j.1.nw e i
   grind [AI]
  .intro ag H be j c;have R:∀n,n≠27->be.get (0::n::b)=H.get (0::n::b):=λn b0=>c _ (BK b z);obtain⟨a,a4,O⟩:=j.acc;exact⟨(R _ z).trans j.b0,(R _ z).trans j.b1,⟨a,(R _ z).trans a4,O⟩,(R _ z).trans j.lp,λe i=>(c e (AL i _)).trans (j.nw e i),j.mem⟩
 refine Mg (XR a1 (Wk.some (under_iff.2 (FN 27 b))) (v.1.mono (g':=l.put (0::26::b) (.loop a')) λe i=>?_) (λe i=>AL (o.1 e i) 27) bk bl bs ?_ ?_ ⟨?_,?_,⟨f r,?_,C.1 r,N.1.symm⟩,?_,λe i=>?_,λk A=>A⟩) (λai t q=>?_)
 .rw[BW _ _ λbi=>?_]
  .exact x.1 e (o.1 e i)
  .have:=o.1 e i;rw[bi,show AD b (0::26::b)=X from Ao [0,26]]at this;cases this
 .simp only[go_sem,av]
 .simp only[go_sem,az]
 .simp only[go_sem,L]
 .simp only[go_sem,M]
 .simp only[go_sem,ar]
 .simp only[go_sem]
 .have s:=AN i;simp only[go_sem,s,AM];exact x.1 e i
 obtain⟨rfl,q,b2⟩:=q;obtain⟨a,bh,b5,a3⟩:=q.acc;rw[VI]at a3;subst a3;generalize a2:gc (26::b) (gc (27::b) t)=H3;rw[L8,q.lp,a2];have a0:∀n,n≠26->n≠27->H3.get (0::n::b)=t.get (0::n::b):=λn cl cm=>by grind [An,BK]
 rw[<-a0 20 z z]at bh;clear a0 q b2 a2 t a1 x L M ar av az l;subst a6;exact af
theorem xq(O:Ar p h)(a3:gy p D)(b2:U D=U p.nodes)(l:Int):∀(k:Nat) {n:Int},VT p k n->(E7 p k n).length<=1000->∀(g:S) (b:u),DY p h D c g B V->Sa b B V->∃be bx,kT (.fn 177) [.ptr B 0,nI n,nI l] g b X (J b)=.ok (be,bx)/\be=.ret (nI (Fs p D k n l))
 |0,_,bv,_,_,_,_,_=>bv.elim|k+1,n,C,htl,g,b,j,i=>by
  have b5:=fw (D:=D) O l C;obtain⟨a6,⟨m,L⟩,az⟩:=C;have bk:=i B zCR;have cc:=AN bk;have cd:=Aw bk;have cq:=j.box;have b6:=l_ L;have cm:n<U p.nodes:=z;have F:=Ky O L;have M:=λo Q H b'=>xq O a3 b2 l k (az o Q) (by grind [E7,X6]) H b'
  have P:Fs p D (k+1) n l<=1000:=z;have⟨R,f⟩:=Cv (Fs p D (k+1) n l);rw[<-f]at P⊢;have T:=λo=>Ni p D k o l;rw[Fs,L]at f;dsimp only at f;have al:=XP O L;have K:=λb3 k F=>Wj O L b3 (k:=k) F;clear b5 htl;refine aB ?_ F M K az T;clear F M K az T;intro F M K az T;by_cases ar:m.op=2
  .rw[D3 ar,xp]at f;have bi:=i V.N zCR;have ch:=AN bi;have cl:=Aw bi;have cp:=j.arr;have⟨o,Q⟩:=g_ (l:=V.ms) (i:=n.toNat) (by rw[j.len];exact b6);have cu:(V.ms.map λo=>[y.mp o])[n.toNat]?=J [.mp o]:=by rw[BY,Q];rfl
   have⟨es,hes,hMO⟩:=j.maps _ o Q;have bh:=i o (by grind [TV.ids]);have cv:=AN bh;have cx:=Aw bh;have a2:=hMO.get l;have b8:=l_ Q;have c0:n.toNat<(V.ms.map λo=>[y.mp o]).length:=by simpa using b8
   have cn:n<U V.ms:=z;have ac:=λA d a0 b0 b1 C w H q=>py (j.new i (g':=H) q) (i.ext 41) (c:=A) (d:=d) (ch:=a0) b0 b1 C w a6 L;replace ac:=AB ac;have av:=a3 n l;have a4:(D[n.toNat]?).getD []=den D n:=rfl;rw[a4]at a2;refine Nm ?_ j i av;clear j i av;intro j i av;clear P a4;rcases C:Ir (den D n) l with _|A
   .rw[C]at a2 f;dsimp only at f;subst f;refine Ba func177 ?_;exact af
   .rw[C]at a2 f;dsimp only at f;have⟨bl,c1,d,a0,hdd,hch⟩:=av.1 A C;have ac:=AB λH q=>ac.1 A d a0 bl c1 hdd hch H q;by_cases b4:m.n=l
    .have f:R=if O1 p A m=X then 1 else 0:=by
      rw[f];by_cases cs:O1 p A m=X
      .grind
      .grind
     replace f:=AB f;refine Ba func177 ?_;refine ax (GI (ac.1 _ λag t=>?_) (λai Y s=>?_))
     .have v:=t;rw[Nt]at v;exact BZ
     subst s;exact af;all_goals
      rw[f.1];simp[w]
    .rw[Co λbn=>b4 bn.1]at f;subst f;refine Ba func177 ?_;exact af
  rw[Co ar]at f;by_cases x:m.op=3
  .rw[D3 x]at f;have⟨a,e⟩:=F.1.two (.inl x);have w:=AB λr H q=>M.1 _ a H (r::b) (j.new i (g':=H) q) (i.ext r);have aa:=AB λr H q=>M.1 _ e H (r::b) (j.new i (g':=H) q) (i.ext r);have a1:=K.1 (.inl x) 0 (by simp[x]);have ad:=K.1 (.inl x) 1 (by simp[x]);have a':=T.1 (Dx m 0);have bc:=T.1 (Dx m 1);generalize Dx m 0=K0 at w a1 f a';generalize Dx m 1=K1 at aa ad f bc;have c2:TC.wrap (Fs p D k K0 l+Fs p D k K1 l)=Fs p D k K0 l+Fs p D k K1 l:=w_ z z;have b7:=l_ ad;have bo:(0:Int)<U m.kids:=z;have bs:(1:Int)<U m.kids:=z;refine Nm ?_ j i f;clear j i f;intro j i f;clear ar a' bc P;exact zAi
  rw[Co x]at f;by_cases N:m.op=5
  .rw[D3 N]at f;have⟨a,e⟩:=F.1.two (.inr N);have w:=AB λr H q=>M.1 _ a H (r::b) (j.new i (g':=H) q) (i.ext r);have aa:=AB λr H q=>M.1 _ e H (r::b) (j.new i (g':=H) q) (i.ext r);have a1:=K.1 (.inr (.inl N)) 0 (by simp[N]);have ad:=K.1 (.inr (.inl N)) 1 (by simp[N]);generalize Dx m 0=K0 at w a1 f;generalize Dx m 1=K1 at aa ad f;have b7:=l_ ad;have bo:(0:Int)<U m.kids:=z;have bs:(1:Int)<U m.kids:=z;rw[RN]at f;refine Nm ?_ j i f;clear j i f;intro j i f;clear ar x P;exact zAi
  rw[Co N]at f;by_cases W:m.op=4
  .rw[D3 W]at f;have⟨d,hdd,a,e,A⟩:=F.1.defn W;have a5:=(Bd O hdd).ok;have b9:=(FI O L W).1;rw[XQ,hdd]at f;dsimp only at f;have w:=AB λr H q=>iy (pl:=l) (f:=λo=>Fs p D k o l) (j.new i (g':=H) q) (i.ext r) a6 L (K.1 (.inr (.inr (.inr (.inr W)))) 0 (by simp[W])) b9 hdd (by have:=a5.be;omega) T.1 (by rw[<-f];exact P) λo Q=>M.1 o (by grind)
   refine Nm ?_ j i f;clear j i f;intro j i f;clear ar x N a e A a5 P;refine Ba func177 ?_;refine ax (GI (w.1 _ _ λag t=>?_) (λai Y s=>?_))
   .have v:=t;rw[Nt]at v;exact BZ
   rw[<-f.1]at s;subst s;exact af
  rw[Co W]at f;subst f;clear P;replace j:=AB j;replace i:=AB i;refine Ba func177 ?_;exact af
end
structure Z5(ci:Option u)(id:u)(C:u->Prop)(Ai:Al->(u->Prop)->S->Prop)(π:u):Prop:=
 own:C id
 apart:∀i,C i->AD π i=Z
 tag:∀{l:Al} {M:u->Prop} {H:S},Ai l M H->∀i,M i->∃l,i=1::l
 loop:∀{l:Al} {M:u->Prop} {H:S},Ai l M H->∃r,H.get id=J (.loop r)
 eat:∀{x:Int} {l:Al} {M:u->Prop} {H:S} {ρ:u} {r:Lp},Ai (x::l) M H->H.get id=J (.loop r)->(∀i,AD π i=Z->AD ρ i=Z)->(∀i,M i->AD ρ i=Z)->
  ∃o h',kT (.round id r) [nI x] H ρ X ci=.ok (o,h')/\o=.ret (.d (.bool (X)))/\∃M',Ai l M' h'/\(∀i,M' i->M i\/ZX ρ i)/\∀i,¬C i->¬M i->AD ρ i=Z->h'.get i=H.get i
 same:∀{l:Al} {M:u->Prop} {H H':S},Ai l M H->(∀i,(AD π i=Z\/M i)->H'.get i=H.get i)->Ai l M H'
theorem Z5.gcI{ci:Option u}{j:u}{h:u->Prop}{b:Al->(u->Prop)->S->Prop}{g:u}(f:Z5 ci j h b g){c:Al}{M:u->Prop}{H:S}(e:b c M H)(n:Nat):b c M (gc (n::g) H):=f.same e λi a=>by
 rcases a with a|a
 .grind [An,AL]
 .obtain⟨c,rfl⟩:=f.tag e i a;exact E1 _ _ _
section
variable{p:Aa}{sz:Al}{D:List BG}{f:Al}{h:S}{B:u}{V:TV}{c:u}
structure yC(C:u->Prop)(Ai:Al->(u->Prop)->S->Prop)(π:u)(M:u->Prop)(h:S)(l:Al)(H:S)(b:Nat):Prop:=
 eat:∃M',Ai l M' H/\∀i,M' i->M i\/Rb π b i
 frame:∀i,¬C i->¬M i->AD π i=Z->H.get i=h.get i
variable{M e:u->Prop}{b:Nat}
def Wq(i:∀a,M a->AD c a=Z){f:Nat}(h:∀a,e a->M a\/Rb c b a)(k:b<=f):∀a,e a->AD (f::c) a=false:=λa j=>(h a j).elim (λg=>AL (i a g) f) λg=>g.sib k
def Tb(h:∀a,e a->M a\/Rb c b a){a:u}(i:¬M a)(g:AD c a=Z):¬e a:=λj=>by
 rcases h a j with f|f
 .exact i f
 .rw[f.up.up]at g;cases g
def ql{ci:Option u}{v:u}{w:u->Prop}{r:Al->(u->Prop)->S->Prop}(j:Z5 ci v w r c)(K:Wk ci c){R T V:y}(a2:h.get B=J (.box [.d (.co (p.free.map CB)),.d (.co (p.nodes.map Bg)),.d (.co (p.defs.map Br)),nI p.main,R,T,V])){AY Y:u}{s:Int}{d:Bc}(az:0<=s) (ad:p.defs[s.toNat]?=J d) (a3:U d.be<=1000000) (a0:h.get AY=J (.box [.ptr B 0])) (a1:h.get Y=J (.box [nI s]))  (t:∀f,M f->AD c f=Z) (A:r (d.be.map Dy.node) M h):
 ∃L x,kT (.fn 198) [.yld v,.ptr AY 0,.ptr Y 0] h c X ci=.ok (L,x)/\L=.ret (.kw [])/\∃e,r [] e x/\(∀f,e f->M f\/ZX c f)/\∀f,¬w f->¬M f->AD c f=Z->x.get f=h.get f:=by
 have bc:=l_ ad;have av:s<U p.defs:=z;have uid:=j.apart v j.own;have ar:=AN uid;have a6:=K.nil;have a':=K.new;replace j:=AB j;replace t:=AB t;replace A:=AB A;refine Ba func198 ?_;refine ax ?_;refine Ah d.be (B2:=λf (a:S×Nat)=>⟨[(0,.yld v),(14,.d (.co (d.be.map BD))),(15,nI (U d.be)),(16,nI f)],a.1,a.2,[]⟩)
  (Inv:=λf ai a=>AR (yC w r c M h (ai.map Dy.node) a.1 a.2)) (b0:=(_,_)) ⟨⟨_,A.1,λf g=>.inl g⟩,λ_ _ _ _=>rfl⟩ ?_ ?_
 .rintro f bk ⟨H,b⟩ a5 g ag l P;have bi:TC.wrap ((f:Int)+1)=(f:Int)+1:=w_ z z;obtain⟨F,m,k⟩:=l.1.eat;dsimp only at*;rw[Bv]at m;obtain⟨bh,a4⟩:=j.1.loop m;replace m:=AB m;replace k:=AB k;refine ax ?_;refine Ak (j.1.eat (j.1.same m.1 λf g=>?_) ?_ (λf g=>AL g _) (Wq t.1 k.1 z)) (λbe W o=>?_)
  .have i:∀a n,AJ (a::n::c) f=false:=by
    rcases g with g|g
    .exact AN g
    .rcases k.1 f g with i|i
     .exact AN (t.1 f i)
     .exact i.not
   exact BZ
  .exact BZ
  obtain⟨rfl,Q,o,C,D⟩:=o;replace o:=AB o;replace C:=AB C;replace D:=AB D;refine ax ?_;refine P.1 (_,_) ⟨⟨Q,j.1.gcI o.1 _,λf g=>?_⟩,λf N O q=>?_⟩
  .rcases C.1 f g with i|i
   .exact(k.1 f i).imp_right λi=>i.mono AZ
   .exact .inr ⟨_,AZ,i⟩
  .show(gc ((b+8)::c) W).get f=h.get f;rw[An _ _ _ (AL q _),D.1 f N (Tb k.1 O q) (AL q _)];have i:=AN q;simp only[go_sem,i,AM];exact l.1.frame f N O q
 .rintro f ⟨H,b⟩ g ag l;dsimp only at*;refine ax ?_;obtain⟨F,aa,ac⟩:=l.1.eat;exact⟨F,aa,λf g=>(ac f g).imp_right λi=>i.up,l.1.frame⟩
structure AQH(C:u->Prop)(Ai:Al->(u->Prop)->S->Prop)(π:u)(M:u->Prop)(h:S)(id:u)(x:CF)(l:Al)(H:S)(b:Nat):Prop:=
 fed:yC C Ai π M h l H b
 b0:H.get (0::0::π)=J (.box [.yld id])
 b9:H.get (0::9::π)=J (.box [nI x.op,nI x.n,.d (.co (x.args.map Bh)),.d (.co (x.kids.map AX))])
 base:10<=b
structure AQG(C:u->Prop)(Ai:Al->(u->Prop)->S->Prop)(π:u)(M:u->Prop)(h:S)(id:u)(x:CF)(R:Al)(b:Nat)(r0:Lp)(l:Al)(M1:u->Prop)(H:S):Prop:=
 eat:Ai (l++R) M1 H
 new:∀i,M1 i->M i\/Rb π (b+10) i
 frame:∀i,¬C i->¬M i->AD π i=Z->H.get i=h.get i
 b0:H.get (0::0::π)=J (.box [.yld id])
 b9:H.get (0::9::π)=J (.box [nI x.op,nI x.n,.d (.co (x.args.map Bh)),.d (.co (x.kids.map AX))])
 lp:H.get (0::(b+8)::π)=J (.loop r0)
theorem ACO{ci:Option u}{aa:u}{F:u->Prop}{P:Al->(u->Prop)->S->Prop}(k:Z5 ci aa F P c)(a4:∀dm,AD c dm=X->Wk ci dm)(bx:Ar p sz){ds dx d0:y}(cn:h.get B=J (.box [.d (.co (p.free.map CB)),.d (.co (p.nodes.map Bg)),.d (.co (p.defs.map Br)),nI p.main,ds,dx,d0]))(bo:AD c B=Z)(c8:¬F B){AY Y:u}{n:Int}{t:CF}(c3:0<=n) (bn:p.nodes[n.toNat]?=J t) (cm:h.get AY=J (.box [.ptr B 0])) (d8:h.get Y=J (.box [nI n])) (b8:AD c AY=Z) (c':¬F AY) (df:AD c Y=Z) {M:u->Prop} (ad:∀g,M g->AD c g=Z) (c6:¬M B) (c7:¬M AY) (b2:P (O9 p n) M h):
 ∃R ch,kT (.fn 203) [.yld aa,.ptr AY 0,.ptr Y 0] h c X ci=.ok (R,ch)/\R=.ret (.kw [])/\∃e,P [] e ch/\(∀g,e g->M g\/ZX c g)/\∀g,¬F g->¬M g->AD c g=Z->ch.get g=h.get g:=by
 have ej:=l_ bn;have d4:n<U p.nodes:=z;have uid:=k.apart aa k.own;have ex:=AN uid;have e0:=AN b8;have e2:=AN df;have e3:=Aw b8;have e4:=Aw bo;have e5:=Aw df;have e1:=AN bo;have ef:=(a4 c (Ao [])).nil;have eg:=(a4 c (Ao [])).new;replace a4:=AB a4;obtain⟨a1,bh⟩:∃a1,O9 p n=t.kids++a1/\(¬t.op=4->a1=[])/\(t.op=4->∃d,p.defs[t.n.toNat]?=J d/\a1=d.be.map Dy.node++d.rules.map C6.node):=by
  rw[O9,bn];dsimp only;by_cases ag:t.op=4
  .obtain⟨d,bi,_⟩:=(Ky bx bn).defn ag;rw[D3 ag,bi];grind
  .rw[Co ag];exact⟨[],AG,λ_=>rfl,λh=>absurd h ag⟩
 rw[bh.1]at b2;have e7:U t.kids<=1000000:=by
  obtain⟨fi,v,_,_,_,c4,_⟩:=bx.node _ t bn;simp only[Cq,As,Dl]at c4;have be:=c4.1;unfold DM at be
  repeat' split at be
  all_goals first|(have:=Kw be;omega)|cases be
 replace k:=AB k;replace ad:=AB ad;replace b2:=AB b2;replace bh:=AB bh;refine Ba func203 ?_;refine ax ?_;have ar:∀s,¬F (0::s::c):=λs cp=>by have:=k.1.apart _ cp;rw[show AD c (0::s::c)=X from Ao [0,s]]at this;cases this
 have c9:∀s,¬M (0::s::c):=λs cp=>by have:=ad.1 _ cp;rw[show AD c (0::s::c)=X from Ao [0,s]]at this;cases this
 replace ar:=AB ar;replace c9:=AB c9;refine Ah t.kids (B2:=λg (a:S×Nat)=>⟨[(1,.ptr AY 0),(3,.ptr (0::0::c) 0),(4,.ptr (0::9::c) 0),(7,CN.get [] 7),(19,.d (.co (t.kids.map AX))),(20,nI (U t.kids)),(21,nI g),(37,CN.get [] 37),(38,CN.get [] 38),(39,CN.get [] 39),(40,CN.get [] 40),(41,CN.get [] 41)],a.1,a.2,[]⟩)
  (Inv:=λg cv a=>AR (AQH F P c M h aa t (cv++a1) a.1 a.2)) (b0:=(_,_)) ⟨⟨⟨_,k.1.same b2.1 λg i=>?_,λg i=>.inl i⟩,λg _ _ j=>?_⟩,?_,?_,AZ⟩ ?_ ?_
 .have j:=AN (i.elim (λj=>j) λj=>ad.1 g j);exact BZ
 .have j:=AN j;exact BZ
 .simp only[go_sem]
 .simp only[go_sem]
 .rintro g er ⟨H,b⟩ ec i ea r cc;have em:TC.wrap ((g:Int)+1)=(g:Int)+1:=w_ z z;obtain⟨w,K,x⟩:=r.1.fed.eat;have av:=r.1.b0;have a6:=r.1.b9;have A:=r.1.base;dsimp only at*;rw[F6]at K;obtain⟨cu,a5⟩:=k.1.loop K;have dc:∀s,¬b+s=9:=λs=>z;have cs:∀s,¬b+s=0:=λs=>z;replace K:=AB K;replace x:=AB x;replace A:=AB A;have T:=AR.mk (k.1.tag K.1);refine ax ?_;refine Ak (k.1.eat K.1 a5 (λg i=>AL i _) (Wq ad.1 x.1 z)) (λb6 C l=>?_);obtain⟨rfl,a0,l,N,D⟩:=l;have L:∀v,¬w (0::v):=λv bk=>by obtain⟨b7,bl⟩:=T.1 _ bk;cases bl
  have az:∀n,n<10->(gc ((b+6)::c) C).get (0::n::c)=H.get (0::n::c):=λn ek=>by have:=A.1;rw[An _ _ _ (BK c z),D _ (ar.1 n) (L _) (BK c z)]
  have ac:yC F P c M h (t.kids.drop (g+1)++a1) (gc ((b+6)::c) C) (b+7):=⟨⟨a0,k.1.gcI l _,λg i=>?_⟩,λg o q m=>?_⟩
  rotate_left
  .exact zB2
  .rw[An _ _ _ (AL m _),D g o (Tb x.1 q m) (AL m _)];exact r.1.fed.frame g o q m
  have b':=(az 0 z).trans av;have es:=(az 9 z).trans a6;clear az;replace l:=AB l;replace N:=AB N;replace D:=AB D;replace L:=AB L;replace ac:=AB ac;refine ax ?_;refine cc.1 (_,_) ⟨⟨?_,?_,?_,?_⟩⟩
  .exact zBn
  .exact b'
  .exact es
  grind
 .rintro g ⟨H,b⟩ i ea r;rw[DL]at r;have av:=r.1.b0;have a6:=r.1.b9;have A:=r.1.base;dsimp only at*;have dc:∀s,¬b+s=9:=λs=>z;have cs:∀s,¬b+s=0:=λs=>z;replace A:=AB A;by_cases ag:t.op=4
  .obtain⟨d,bi,d6⟩:=bh.1.2.2 ag;have en:=(FI bx bn ag).1;have c1:=(Bd bx bi).ok;have et:=(r.1.fed.frame AY c' c7 b8).trans cm;have dj:=(r.1.fed.frame B c8 c6 bo).trans cn;have e9:=l_ bi;have e6:t.n<U p.defs:=z;have d7:=AB cm;have d9:=AB cn;clear ej d4 cm cn d8;refine ax ?_;refine Ak (UR (a4.1 _ (under_iff.2 (FN (b+7) c))) _ _ _) (λb6 C l=>?_);obtain⟨rfl,rfl⟩:=l;rw[Gu,YD];generalize W:gc (0::0::(b+7)::c) _=H2;have b0:H2.get (0::0::c)=J (.box [.yld aa]):=by rw[<-W,ED _ _ _ AG];simp only[go_sem,av]
   have cd:H2.get (0::9::c)=J (.box [nI t.op,nI t.n,.d (.co (t.args.map Bh)),.d (.co (t.kids.map AX))]):=by rw[<-W,ED _ _ _ AG];simp only[go_sem,a6]
   have dq:H2.get (0::0::(b+7)::c)=J (.box [.ptr B 0]):=by rw[<-W,ED _ _ _ AG];simp only[go_sem]
   have dr:H2.get (0::1::(b+7)::c)=J (.box [nI t.n]):=by rw[<-W,ED _ _ _ AG];simp only[go_sem]
   have b3:∀g,AD c g=Z->H2.get g=H.get g:=λg i=>by have j:=AN i;have q:=AN (AL i (b+7));rw[<-W,An _ _ _ (AL (AL (AL i (b+7)) 0) 0)];exact BZ
   have b4:∀v,H2.get (1::v)=H.get (1::v):=λv=>by rw[<-W,E1,BW _ _ AG,BW _ _ AG]
   clear W;replace b3:=AB b3;replace b4:=AB b4;refine ax ?_;refine OO λdd c5=>?_;have c2:Z5 ci (0::(b+8)::c) (λg=>F g\/g=0::(b+8)::c) (AQG F P c M h aa t (d.rules.map C6.node) b dd) ((b+9)::c):=by
    refine⟨.inr rfl,?_,?_,?_,?_,?_⟩
    .rintro g (i|rfl)
     .exact AL (k.1.apart g i) _
     grind [BK]
    .intro v w H h;exact k.1.tag h.eat
    .intro v w H h;exact⟨_,h.lp⟩
    .intro e' v w H a' cu h a5 Q cl;rw[h.lp]at a5;cases a5;subst c5;have O:=h.eat;rw[F6]at O;obtain⟨cu,a5⟩:=k.1.loop O;have T:=k.1.tag O;have v0:=h.b0;have el:=h.b9;have fo:=h.lp;have fc:¬b+8=0:=z;have e8:AJ (0::(b+8)::c) aa=false:=AI λV=>ar.1 (b+8) (V▸k.1.own);have cq:=AB λ(R:Abs.Obj)=>k.1.same (H':=H.put (0::(b+8)::c) R) O λg i=>(by
      refine BW _ _ λV=>?_;rcases i with i|i
      .exact zBc
      grind)
     replace h:=AB h;replace Q:=AB Q;replace cl:=AB cl;replace O:=AB O;replace T:=AB T;replace b0:=AB b0;replace cd:=AB cd;replace av:=AB av;replace a6:=AB a6;have fp:Jv ci [((0::(b+8)::c),.box [])]=true:=by rw[eg];exact ef
     have de:AD a' (0::(b+8)::c)=false:=Q.1 _ (BK c z);refine Oc rfl ?_;refine ax ?_;refine Ak (k.1.eat (cq.1 _) zCr (λg i=>AL (Q.1 g (AL i _)) _) (λg i=>AL (cl.1 g i) _)) (λb6 C l=>?_);obtain⟨rfl,a0,l,N,D⟩:=l;have L:∀v,¬w (0::v):=λv bk=>by obtain⟨b7,bl⟩:=T.1 _ bk;cases bl
     have d5:=(An (3::a') C _ (AL de _)).trans (D _ (ar.1 _) (L _) (AL de _));rw[p_,is_self]at d5;have a3:∀R g,¬F g->¬w g->¬g=0::(b+8)::c->AD a' g=Z->((gc (3::a') C).put (0::(b+8)::c) R).get g=H.get g:=λR g o q m fd=>by grind [BW,An,AL]
     have cx:∀R,P (v++d.rules.map C6.node) a0 ((gc (3::a') C).put (0::(b+8)::c) R):=λR=>k.1.same l λg i=>by
      have fl:=k.1.tag l;have ne:g≠0::(b+8)::c:=λV=>by
       rcases i with i|i
       .exact zBc
       grind
      rw[BW _ _ ne];rcases i with i|i
      .exact An _ _ _ (AL (Q.1 g (AL i _)) _)
      grind [E1]
     have b9:=λg i=>(N g i).imp_right λj=>j.out;clear l N D;replace a3:=AB a3;replace cx:=AB cx;replace b9:=AB b9;replace L:=AB L;refine ax ?_;have b':∀n,n<10->n≠b+8->AD a' (0::n::c)=false:=λn c3 be=>Q.1 _ (BK c (by have:=A.1;omega));refine⟨a0,⟨cx.1 _,λg i=>?_,λg o q m=>?_,?_,?_,?_⟩,b9.1,λg o q m=>?_⟩
     .rcases b9.1 g i with j|j
      .exact h.1.new g j
      .exact .inr ⟨b+9,z,j.wide Q.1⟩
     .refine(a3.1 _ g o (Tb h.1.new q m) (λV=>?_) (Q.1 g (AL m _))).trans (h.1.frame g o q m);rw[V,show AD c (0::(b+8)::c)=X from Ao [0,b+8]]at m;cases m
     .exact(a3.1 _ _ (ar.1 0) (L.1 _) AG (Q.1 _ (BK c z))).trans v0
     .exact(a3.1 _ _ (ar.1 9) (L.1 _) (by simp;have:=A.1;omega) (Q.1 _ (BK c (by have:=A.1;omega)))).trans el
     .rw[p_,is_self];rfl
     .rw[not_or]at o;have j:=a3.1 (.box []) g o.1 q o.2 m;grind [BW,AI]
    .intro v w H bs h f;have ai:∀n,n≠b+9->bs.get (0::n::c)=H.get (0::n::c):=λn c3=>f _ (.inl (BK c z));have:=A.1;exact⟨k.1.same h.eat λg i=>f g (i.imp_left λj=>AL j _),h.new,λg o q m=>(f g (.inl (AL m _))).trans (h.frame g o q m),(ai _ z).trans h.b0,(ai _ z).trans h.b9,(ai _ z).trans h.lp⟩
   obtain⟨w,O,x⟩:=r.1.fed.eat;rw[d6]at O;have T:=k.1.tag O;have ai:∀g,(AD c g=Z\/w g)->(H2.put (0::(b+8)::c) (.loop dd)).get g=H.get g:=λg i=>by
    have ne:g≠0::(b+8)::c:=λV=>by
     rcases i with i|i
     .exact zBc
     grind
    rw[BW _ _ ne];rcases i with i|i
    .exact b3.1 g i
    .obtain⟨b7,rfl⟩:=T g i;exact b4.1 b7
   have fr:=A.1;refine Mg (ql (M:=w) c2 (a4.1 _ (under_iff.2 (FN (b+9) c))) ((ai B (.inl bo)).trans dj) en bi (by have:=c1.be;omega) ?_ ?_ (Wq ad.1 x z) ⟨k.1.same O ai,λg i=>(x g i).imp_right λj=>j.mono z,λg o q m=>(ai g (.inl m)).trans (r.1.fed.frame g o q m),?_,?_,by rw[p_,is_self];rfl⟩) (λb6 C l=>?_)
   .grind [BW]
   .grind [BW]
   .grind [BW]
   .grind [BW]
   obtain⟨rfl,dn,l,N,D⟩:=l;generalize b1:gc ((b+8)::c) (gc ((b+9)::c) C)=H3;rw[L8,l.lp,b1];have az:∀n,n<10->H3.get (0::n::c)=C.get (0::n::c):=λn ek=>by grind [An,BK]
   have c0:=(az 0 z).trans l.b0;have d1:=(az 9 z).trans l.b9;have a2:yC F P c M h (d.rules.map C6.node) H3 (b+10):=by
    refine⟨⟨dn,?_,l.new⟩,λg o q m=>?_⟩
    .rw[<-b1];exact k.1.gcI (k.1.gcI l.eat _) _
    .rw[<-b1,An _ _ _ (AL m _),An _ _ _ (AL m _)];exact l.frame g o q m
   have d3:=(a2.frame AY c' c7 b8).trans d7.1;have d2:=(a2.frame B c8 c6 bo).trans d9.1;replace a2:=AB a2;clear az l N D b1 C c2 b3 b4 b0 cd dq dr H2 ai T O x et dj av a6 r dc cs A;subst c5;refine ax ?_;refine Ah d.rules (B2:=λg (a:S×Nat)=>⟨[(3,.ptr (0::0::c) 0),(51,.d (.co (d.rules.map BN))),(52,nI (U d.rules)),(53,nI g)],a.1,a.2,[.mark (0::(b+8)::c)]⟩)
    (Inv:=λg cv a=>AR (yC F P c M h (cv.map C6.node) a.1 a.2/\10<=a.2)/\a.1.get (0::0::c)=J (.box [.yld aa])) (b0:=(H3,b+22)) ⟨⟨⟨a2.1.eat.imp λbv j=>⟨j.1,λg i=>(j.2 g i).imp_right λj=>j.mono AZ⟩,a2.1.frame⟩,AZ⟩,c0⟩ ?_ ?_
   .rintro b5 er ⟨H,bc⟩ ec d' eb ⟨r,av⟩ cc;have em:TC.wrap ((b5:Int)+1)=(b5:Int)+1:=w_ z (by have:=c1.rules;omega);obtain⟨w,K,x⟩:=r.1.1.eat;have A:=r.1.2;dsimp only at*;rw[Bv]at K;obtain⟨cu,a5⟩:=k.1.loop K;have T:=AR.mk (k.1.tag K);have cs:∀s,¬bc+s=0:=λs=>z;have cq:=AB λ(bs:S) (W:∀g,Nt c g->bs.get g=H.get g)=>k.1.same (H':=bs) K λg i=>W g (by
     rcases i with i|i
     .exact AN i
     .rcases x g i with j|j
      .exact AN (ad.1 g j)
      .exact j.not)
    replace K:=AB K;replace x:=AB x;replace A:=AB A;clear c0 d1 d3 d2;refine ax ?_;refine Ak (k.1.eat (cq.1 _ λg i=>?_) ?_ (λg i=>AL i _) (Wq ad.1 x.1 z)) (λb6 C l=>?_)
    .have j:=i;rw[Nt]at j;exact BZ
    .exact BZ
    obtain⟨rfl,a0,l,N,D⟩:=l;have L:∀v,¬w (0::v):=λv bk=>by obtain⟨b7,bl⟩:=T.1 _ bk;cases bl
    have ac:yC F P c M h ((d.rules.drop (b5+1)).map C6.node) (gc ((bc+8)::c) C) (bc+9):=⟨⟨a0,k.1.gcI l _,λg i=>?_⟩,λg o q m=>?_⟩
    rotate_left
    .exact zB2
    .rw[An _ _ _ (AL m _),D g o (Tb x.1 q m) (AL m _)];have j:=AN m;simp only[go_sem,j,AM];exact r.1.1.frame g o q m
    have b':(gc ((bc+8)::c) C).get (0::0::c)=J (.box [.yld aa]):=by rw[An _ _ _ (BK c z),D _ (ar.1 0) (L _) (BK c z)];simp only[*,go_sem,AM]
    replace l:=AB l;replace N:=AB N;replace D:=AB D;replace L:=AB L;replace ac:=AB ac;refine ax ?_;refine cc.1 (_,_) ⟨⟨?_,?_⟩,b'⟩
    .exact zBn
    grind
   .rintro b5 ⟨H,bc⟩ d' eb ⟨r,av⟩;obtain⟨w,o,q⟩:=r.1.1.eat;rw[Ce]at o;dsimp only at*;refine ax ?_;exact⟨w,o,λg i=>(q g i).imp_right λj=>j.up,r.1.1.frame⟩
  .rw[bh.1.2.1 ag]at r;obtain⟨w,o,q⟩:=r.1.fed.eat;refine ax ?_;exact⟨w,o,λg i=>(q g i).imp_right λj=>j.up,r.1.fed.frame⟩
end
end Go.Proofs
namespace Go.Abs
def MH:Nat->L2->L2
 |n+1,.seq _ B0=>MH n B0|_,c=>c
def Rm:Nat->L2->L2->L2
 |n+1,.seq x B0,t=>.seq x (Rm n B0 t)|0,_,t=>t|_,c,_=>c
def y5:∀(n:Nat) (c:L2),Rm n c (MH n c)=c
 |0,c=>by cases c<;>rfl|n+1,c=>by cases c with|seq x B0=>rw[MH,Rm,y5 n B0]|_=>rfl
def QW{b:C7}{K:Af}{f:Fr}{e:Nat}{a:L2}{h:St}{Q:DZ->St->Prop}(g:Nat)(i:∀c,c=MH g a->Wp b K f e (Rm g a c) h Q):Wp b K f e a h Q:=by
 have:=i _ rfl
 rwa [y5]at this
end Go.Abs
namespace Go.Proofs
open Abs Tryz
noncomputable def E6(b c:Nat)(f:u)(e:u):Bool:= @decide (∃a,b<=a/\a<c/\AD (a::f) e=X) (Classical.propDecidable _)
theorem Gp{b c:Nat}{f:u}{e:u}:E6 b c f e=X↔ ∃a,b<=a/\a<c/\AD (a::f) e=true:=by unfold E6;rw[@decide_eq_true_eq _ (Classical.propDecidable _)]
def Ax{e f:Nat}{b:u}{g:u}(i:E6 e f b g=Z)(c a:Nat)(j:e<=a)(k:a<f):AJ (c::a::b) g=false:=AI λh=>by subst h;have:E6 e f b (c::a::b)=true:=Gp.2 ⟨a,j,k,under_iff.2 ⟨[c],rfl⟩⟩;rw[i]at this;cases this
def DV{b c:Nat}{f:u}(a:Nat)(e:u)(g:b<=a)(h:a<c):E6 b c f (e++a::f)=true:=Gp.2 ⟨a,g,h,under_iff.2 ⟨e,rfl⟩⟩
section
variable{p:Aa}{a:Al}{B:MV->Int->List y}{c:Bool}{e:u}{m:u}{V f:MV}{h g H k:S}{b b':Nat}{i j:C5}
def B8.apartB(p:Di e V m)(o:B8 B c e m V h b f i g):PB (E6 b b' e) f m:=λa l=>by
 rcases hx:E6 b b' e a with _|_
 .rfl
 .have⟨n,h1,_,h2⟩:=Gp.1 hx;rcases o.ids a l with k|⟨r,q,j,_⟩
  .have:=p a k;rw[Bq h2]at this;cases this
  .have:=Bw j h2;omega
def B8.step(D:b<=b')(t:B8 B c e m V h b f i g)(C:Ns B c (E6 b b' e) m f g j H):∃p,B8 B c e m V h b' p j H/\∀k,k∉f.ids m->E6 b b' e k=Z->k∉p.ids m:=by
 obtain⟨p,v,s⟩:=C;refine⟨p,⟨v,λk w=>?_,λk q n=>?_⟩,λk q n o=>?_⟩
 .rcases s.ids k w with l|⟨l,x⟩
  .exact(t.ids k l).imp_right λ⟨r,a,c⟩=>⟨r,z,c⟩
  .have⟨r,_,n,o⟩:=Gp.1 l;exact .inr ⟨r,n,o,x⟩
 .have A:E6 b b' e k=false:=by
   rcases hx:E6 b b' e k with _|_
   .rfl
   .have⟨r,_,_,o⟩:=Gp.1 hx;rw[Bq o]at n;cases n
  rw[s.frame k (λl=>?_) A]
  .exact t.frame k q n
  .rcases t.ids k l with l|⟨F,_,o,_⟩
   .exact q l
   .rw[Bq o]at n;cases n
 .rcases s.ids k o with l|⟨l,_⟩
  .exact q l
  .rw[n]at l;cases l
end
def Ta{a e n:Nat}{c:u}{b:u}(g:n<a)(f:AD (n::c) b=X):E6 a e c b=false:=by
 rcases hx:E6 a e c b with _|_
 .rfl
 .have⟨k,h1,_,h2⟩:=Gp.1 hx;have:=Bw f h2;omega
def ADr{B:MV->Int->List y}{p:Bool}{N:u->Bool}{k:S}{g:u}{V:MV}{c:C5}(e:Gf B p k g V c)(t:PB N V g){q:Fc}(T:q.queue=[])(A:u)(j:S)(F:j.get g=J (.box (B {V with v3:=.ii A 0 (U V.rows+1)} c.work))) (D:j.get A=J (.arr 4 (V.rows++[B7 q .d8]))) (H:N A=X/\∃W,A=1::W)(K:∀a,AJ g a=Z->(∀w∈AE V.v3,AJ w a=Z)->N a=Z->j.get a=k.get a):Ns B p N g V k {c with eq:={c.eq with ac:=c.eq.ac++[q]}} j:=by
 have r:∀a,a≠g->a∉AE V.v3->N a=Z->j.get a=k.get a:=λa m n L=>K a (AI λf=>m f.symm) (λw b=>AI λf=>n (by rw[<-f];exact b)) L;have s:(V.rows++[B7 q .d8]).flatMap Ab=V.rows.flatMap Ab:=by simp[Cz,AE]
 refine Vo (v3:=.ii A 0 (U V.rows+1)) (rows:=V.rows++[B7 q .d8]) e t (F.trans (by rw[<-e.inv {V with v3:=.ii A 0 (U V.rows+1)} (V.rows++[B7 q .d8]) c.work])) (.inr ⟨A,AG,D⟩) ⟨by simp[e.ac.len],λi C o=>?_⟩ (by rw[s];exact e.qd) (λa b=>?_) (λi o=>by match i,o with|0,_|1,_|2,_|3,_=>rfl) λa m n _ M=>r a m n M
 .have h:(c.eq.ac++[q])[i]?=J C:=o;have P:=e.ac.len;by_cases O:i<U c.eq.ac
  .rw[D8 O]at h;have⟨v,h1,h2⟩:=e.ac.row i C h;refine⟨v,by rw[D8 z];exact h1,MF h2 λa b=>?_⟩;have R:a∈V.rows.flatMap Ab:=BI.2 ⟨_,AP h1,by rw[Cz];exact b⟩;have⟨x,l⟩:=JS h2 b;refine r a (λf=>?_) (λf=>?_) (t _ (V.row_mem g R))
   .rw[f,e.box]at l;cases l
   .rw[Ks e.arr f]at l;cases l
  .have Q:=l_ h;rw[D1,I3]at Q;obtain rfl:i=U c.eq.ac:=z;rw[EL z]at h;simp only[IT,Hm,F4]at h;subst h;exact⟨.d8,by rw[EL z,P];simp,SJ (.inl ⟨rfl,by rw[T];rfl⟩)⟩
 .rw[s]at b;rcases b with b|b
  .simp only[AE,AS]at b;rw[b];exact .inr H
  .exact .inl (.inr b)
end Go.Proofs
namespace Go.Proofs
open Abs Tryz
theorem mg(b c:Int)(e:y):∀{a:List (Au×y)},a.all Iv=X->Bs (CW a (.int .i64 c) e) (.int .i64 b)=if c=b then J (J e)else Bs a (.int .i64 b)
 :=by intro f;induction f<;>grind [CW,Bs,Et,Iv]
theorem mf{c:Int}{b:Int×Int}:∀{a:List (Au×y)},a.all Iv=X->(CW a (.int .i64 c) (eC b)).all Iv=X
 :=by intro e;induction e<;>grind [CW,Iv]
theorem fL(e:Int)(f:y):∀{b:List (Au×y)},b.all Iv=X->∀a,a∈(CW b (.int .i64 e) f).map (λc=>YM c.1)↔a=e\/a∈b.map λc=>YM c.1
 :=by intro a;induction a<;>grind [CW,YM,Et,Iv]
theorem Yc{b:Int}{j:y}:∀{a:List (Au×y)},a.all Iv=X->(a.map λc=>YM c.1).Nodup->((CW a (.int .i64 b) j).map λc=>YM c.1).Nodup
 |[],_,_=>by simp[CW]|(k,w)::a,h,hn=>by
  rw[EX,As]at h;obtain⟨f,g⟩:=h;rw[Bv,Ii]at hn;cases k with
  |int m n=>
   cases m with
   |i64=>
    rw[CW];simp[Et];by_cases i:n=b
    .grind
    .simp only[beq_eq_false_iff_ne.2 i,Bv,Ii];refine⟨λl=>?_,Yc g hn.2⟩;rcases(fL b j g _).1 l with e|e
     .exact i e
     .exact hn.1 e
   |_=>simp[Iv]at f
  |_=>simp[Iv]at f
def LZ.set{h:List (Au×y)}{f g:BG}(b:LZ h f){e:Int}{c:Int×Int}(i:∀a,Ir g a=if e=a then J c else Ir f a):LZ (CW h (.int .i64 e) (eC c)) g:=by
 refine⟨λa=>?_,mf b.ent,Yc b.ent b.nd⟩;rw[mg a e (eC c) b.ent,i a];split
 .rfl
 .exact b.get a
theorem nG(size d:Int)(m:Nat):HN size d (m+1)=HN size d m++[(size+m,(d,(m:Int)))]:=by grind [HN,List.range_succ]
def zE{b:BG}{size d:Int}{a:Nat}(g:∀f∈b,f.1<size)(e:Int):Ir (b++HN size d (a+1)) e=if size+a=e then J (d,(a:Int))else Ir (b++HN size d a) e:=by
 rw[nG,<-F1,jb];have h:Ir (b++HN size d a) (size+a)=none:=by
  refine wJ (c:=(0,0)) λf c heq=>?_;rcases Ac.1 c with c|c
  .have:=g f c;omega
  .grind [HN]
 grind [Ir]
section
variable{p:Aa}{j:Al}{D:List BG}{h:S}{B N:u}{a:u}
structure dY(p:Aa)(sz:Al)(D:List BG)(g:S)(B N:u)(hv:y)(cs:List y)(hs:Al)(M:u->Prop):Prop:=
 box:g.get B=J (.box [.d (.co (p.free.map CB)),.d (.co (p.nodes.map Bg)),.d (.co (p.defs.map Br)),nI p.main,.ii N 0 (U cs),.d (.co (sz.map AX)),hv])
 arr:g.get N=J (.arr 1 (cs.map λc=>[c]))
 len:U cs=U p.nodes
 maps:∀(n:Nat) m,cs[n]?=J (.mp m)->M m/\∃es,g.get m=J (.map es)/\LZ es ((D[n]?).getD [])
 hd:(hv=.emp/\hs=[])\/∃id,hv=.ii id 0 (U hs)/\g.get id=J (.f9 1 (hs.map AX))
 hlen:U hs=U p.defs
 tag:∀i,M i->∃t,i=1::t
structure cN(B N:u)(hv:y):Prop:=
 bn:B≠N
 bh:B∉AE hv
 nh:N∉AE hv
structure G0(π:u)(B N:u)(hv:y)(M:u->Prop):Prop:=
 b:AD π B=Z
 n:AD π N=Z
 h:∀i∈AE hv,AD π i=Z
 m:∀i,M i->AD π i=Z
 mb:¬M B
 mn:¬M N
 mh:∀i∈AE hv,¬M i
def Fl(a:List y)(b:Int):Prop:=∃c,a[b.toNat]?=J (.mp c)
def Hd(p:Aa)(c:Al)(b:Int):Prop:=∀a,p.nodes[b.toNat]?=J a->a.op=4->c[a.n.toNat]?=J b
def AHW{ci:Option u}{a:u}(c:Wk ci a)(h:S)(B:u)(d:Int):
 ∃e b,kT (.fn 191) [.ptr B 0,nI d] h a X ci=.ok (e,b)/\e=.ret (.fn 203 [] [.ptr (0::0::a) 0,.ptr (0::1::a) 0])/\b=(h.put (0::0::a) (.box [.ptr B 0])).put (0::1::a) (.box [nI d]):=by
 have f:=c.nil;have g:=c.new;refine Ba func191 ?_;exact af
variable{b:y}{g g':S}{M:u->Prop}{c:List y}{f:Al}
theorem dY.mono(h:dY p j D g B N b c f M)(hi:∀i,i=B\/i=N\/i∈AE b\/M i->g'.get i=g.get i):dY p j D g' B N b c f M where
 box:=by rw[hi B (.inl rfl)];exact h.box
 arr:=by rw[hi N (.inr (.inl rfl))];exact h.arr
 len:=h.len
 maps n m hm:=by have⟨h1,h2⟩:=h.maps n m hm;grind
 hd:=by
  rcases h.hd with h1|⟨id,h1,h2⟩
  .exact .inl h1
  grind [AE]
 hlen:=h.hlen
 tag:=h.tag
def G0.all(h:G0 a B N b M){c:u}(e:c=B\/c=N\/c∈AE b\/M c):AD a c=false:=by
 rcases e with rfl|rfl|e|e
 .exact h.b
 .exact h.n
 .exact h.h c e
 .exact h.m c e
def vW(p:Aa)(j:Al)(D:List BG)(B N:u)(b:y)(a:u)(g:S)(c:List y)(f:Al)(M:u->Prop)(L:Al)(n:BC)(m:S):Prop:=n=.ret (.kw [])/\∃k l i,dY p j D m B N b k l i/\(∀e,M e->i e)/\(∀e,i e->M e\/ZX a e)/\(∀e,e≠N->e∉AE b->AD a e=Z->m.get e=g.get e)/\(∀h,Fl c h->Fl k h)/\(∀h,0<=h->Hd p f h->Hd p l h)/\∀h∈L,Fl k h/\Hd p l h
structure ANg(p:Aa)(sz:Al)(D:List BG)(B N:u)(hv:y)(π ρ:u)(g:S)(cs1:List y)(hs1:Al)(M1:u->Prop)(k:Nat)(n:Int)(me lo:u)(r0:Lp)(l:Al)(M':u->Prop)(H:S):Prop:=
 st:∃cs' hs',dY p sz D H B N hv cs' hs' M'/\(∀j,Fl cs1 j->Fl cs' j)/\(∀j,0<=j->Hd p hs1 j->Hd p hs' j)/\∀q∈O9 p n,q∈l\/∀j∈E7 p k q,Fl cs' j/\Hd p hs' j
 b0:H.get (0::0::π)=J (.box [.ptr B 0])
 b1:H.get (0::1::π)=J (.box [.mp me])
 lp:H.get lo=J (.loop r0)
 env:M' me/\∃es,H.get me=J (.map es)/\∀q∈O9 p n,LZ es (den D q)
 sub:∀q∈l,q∈O9 p n
 inc:∀i,M1 i->M' i
 new:∀i,M' i->M1 i\/ZX ρ i
 frame:∀i,i≠N->i∉AE hv->AD π i=Z->H.get i=g.get i
theorem bG(dj:Ar p j)(c0:cN B N b){b8:Nat}{v:Int}{d6:CF}(cm:0<=v)(dr:p.nodes[v.toNat]?=J d6)(b7:∀k∈O9 p v,∀(g:S) (a:u) (c:List y) (f:Al) (M:u->Prop) (me:u) es,dY p j D g B N b c f M->G0 a B N b M->M me->g.get me=J (.map es)->LZ es (den D k)->∃F bo,kT (.fn 173) [.ptr B 0,nI k,.mp me] g a X I=.ok (F,bo)/\vW p j D B N b a g c f M (E7 p b8 k) F bo)(dn:∀k∈O9 p v,VT p b8 k) {l:CN} (eb:l.get 3=.ptr (0::0::a) 0) (ea:l.get 1=nI v) (ec:l.get 5=.ptr (0::1::a) 0) {H:S} {m:Nat} (ef:2<=m) {me:u} (bl:H.get (0::0::a)=J (.box [.ptr B 0])) (bn:H.get (0::1::a)=J (.box [.mp me])) {a3:List y} {bc:Al} {M1:u->Prop}(ag:dY p j D H B N b a3 bc M1) (q:G0 a B N b M) (c2:M1 me) {es:List (Au×y)} (dq:H.get me=J (.map es)) (bx:∀k∈O9 p v,LZ es (den D k)) (ac:∀e,M1 e->M e\/(ZX a e/\∀A,m<=A->AD (A::a) e=Z)) (bv:∀e,M e->M1 e) (b4:∀e,e≠N->e∉AE b->AD a e=Z->H.get e=g.get e) (b3:∀o,Fl c o->Fl a3 o) (b5:∀o,0<=o->Hd p f o->Hd p bc o) (b2:Fl a3 v) (b6:Hd p bc v):
 Wp cfg kT ⟨173,a,X,I,Z,87⟩ 0 (MH 4 (Tryz.f173.body.get rfl)) ⟨l,H,m,[]⟩ (MJ cfg I [] a X λF bo=>vW p j D B N b a g c f M (E7 p (b8+1) v) F bo):=by
 replace ag:=AB ag;replace q:=AB q;refine B4 ?_ bx ac bv b4 b3 b5 b2 b6 b7;clear bx ac bv b4 b3 b5 b2 b6 b7;intro bx ac bv b4 b3 b5 b2 b6 b7;simp[Tryz.f173,MH];refine ax (Ak (AHW (Wk.none _) _ _ _) (λc8 a5 C=>?_));obtain⟨rfl,rfl⟩:=C;rw[Gu,YD];generalize aa:gc (0::0::(m+2)::a) _=H2;have v0:H2.get (0::0::a)=J (.box [.ptr B 0]):=by rw[<-aa,ED _ _ _ AG];simp only[go_sem,bl]
 have v1:H2.get (0::1::a)=J (.box [.mp me]):=by rw[<-aa,ED _ _ _ AG];simp only[go_sem,bn]
 have d9:H2.get (0::0::(m+2)::a)=J (.box [.ptr B 0]):=by rw[<-aa,ED _ _ _ AG];simp only[go_sem]
 have d':H2.get (0::1::(m+2)::a)=J (.box [nI v]):=by rw[<-aa,ED _ _ _ AG];simp only[go_sem]
 have ad:∀e,AD a e=Z->H2.get e=H.get e:=λe i=>by have k:=AN i;have w:=AN (AL i (m+2));rw[<-aa,An _ _ _ (AL (AL (AL i (m+2)) 0) 0)];exact BZ
 have b0:∀ar,H2.get (1::ar)=H.get (1::ar):=λar=>by rw[<-aa,E1,BW _ _ AG,BW _ _ AG]
 clear aa;have n:∀e,e=B\/e=N\/e∈AE b\/M1 e->(∀r,e≠0::r::a)/\∀A,m<=A->AD (A::a) e=false:=λe i=>by
  have key:AD a e=Z\/(∃O,e=1::O)/\∀A,m<=A->AD (A::a) e=false:=by
   rcases i with i|i|i|i
   .exact .inl (q.1.all (.inl i))
   .exact .inl (q.1.all (.inr (.inl i)))
   .exact .inl (q.1.all (.inr (.inr (.inl i))))
   .rcases ac.1 e i with k|k
    .exact .inl (q.1.m e k)
    .exact .inr ⟨ag.1.tag e i,k.2⟩
  rcases key with k|⟨⟨O,rfl⟩,k⟩
  .refine⟨λr l=>?_,λA _=>AL k A⟩;rw[l,show AD a (0::r::a)=X from Ao [0,r]]at k;cases k
  grind
 refine Nm ?_ ad b0 n;clear ad b0 n;intro ad b0 n;refine ax (OO λc9 c5=>?_);have c1:Z5 I (0::(m+3)::a) (λe=>e=0::(m+3)::a\/e=N\/e∈AE b) (ANg p j D B N b a ((m+4)::a) g a3 bc M1 b8 v me (0::(m+3)::a) c9) ((m+4)::a):=by
  refine⟨.inl rfl,?_,?_,?_,?_,?_⟩
  .rintro e (rfl|i)
   .grind [BK]
   .exact(n.1 e zCN).2 _ z
  .intro ar Y H h;have⟨cs2,hs2,W,_⟩:=h.st;exact W.tag
  .intro ar Y H h;exact⟨_,h.lp⟩
  .intro A ar Y H a2 eg h c4 R cl;rw[h.lp]at c4;cases c4;subst c5;have⟨cs2,hs2,W,a6,ch,bs⟩:=h.st;have⟨m1,es2,av,az⟩:=h.env;have d4:=h.b0;have d5:=h.b1;have ek:=h.lp;have c3:=h.sub A (CO ..);have un:∀e,e=B\/e=N\/e∈AE b\/Y e->AD a2 e=false:=λe i=>by
    rcases i with i|i|i|i
    .exact R e ((n.1 e (.inl i)).2 _ z)
    .exact R e ((n.1 e (.inr (.inl i))).2 _ z)
    .exact R e ((n.1 e (.inr (.inr (.inl i)))).2 _ z)
    .exact cl e i
   have c7:AD a2 (0::(m+3)::a)=false:=R _ (BK a z);have V:∀e,e=B\/e=N\/e∈AE b\/Y e->e≠0::(m+3)::a:=λe i l=>by
    have:e=B\/e=N\/e∈AE b\/M1 e\/∃O,e=1::O:=by
     rcases i with i|i|i|i
     .exact .inl i
     .exact .inr (.inl i)
     .exact .inr (.inr (.inl i))
     .exact .inr (.inr (.inr (.inr (W.tag e i))))
    rcases this with i|i|i|i|⟨O,cn⟩
    .exact(n.1 e (.inl i)).1 _ l
    .exact(n.1 e (.inr (.inl i))).1 _ l
    .exact(n.1 e (.inr (.inr (.inl i)))).1 _ l
    .exact(n.1 e (.inr (.inr (.inr i)))).1 _ l
    .rw[l]at cn;simp at cn
   have bh:∀e,AD a e=Z->¬M e->¬Y e:=λe a1 cs cu=>by
    rcases h.new e cu with k|k
    .rcases ac.1 e k with k|k
     .exact cs k
     .rw[k.1.up]at a1;cases a1
    .rw[k.out.up]at a1;cases a1
   have dm:=AB λ(ds:Nat) (F:Abs.Obj)=>b7.1 A c3 (H.put (0::(m+3)::a) F) (ds::a2) cs2 hs2 Y me es2 (W.mono λe i=>BW _ _ (V e i)) ⟨AL (un B (.inl rfl)) _,AL (un N (.inr (.inl rfl))) _,λe i=>AL (un e (.inr (.inr (.inl i)))) _,λe i=>AL (un e (.inr (.inr (.inr i)))) _,λa'=>?_,λa'=>?_,λe i a'=>?_⟩ m1 ((BW _ _ (V me (.inr (.inr (.inr m1))))).trans av) (az A c3)
   rotate_left
   .exact bh B q.1.b q.1.mb a'
   .exact bh N q.1.n q.1.mn a'
   .exact bh e (q.1.h e i) (q.1.mh e i) a'
   replace h:=AB h;replace R:=AB R;replace cl:=AB cl;replace W:=AB W;replace a6:=AB a6;replace ch:=AB ch;refine B4 ?_ bs az un V v0 v1 bl bn av;clear bs az un V v0 v1 bl bn av;intro bs az un V v0 v1 bl bn av;refine Oc rfl (ax ?_);refine Ak (dm.1 4 _) (λc8 a5 C=>?_);obtain⟨rfl,cx,c6,cv,x,w,s,T,bi,bk,cd⟩:=C;have d0:(0::(m+3)::a)≠N:=λl=>V.1 N (.inr (.inl rfl)) l.symm;have dx:(0::(m+3)::a) ∉AE b:=λl=>V.1 _ (.inr (.inr (.inl l))) rfl;have df:=(An (4::a2) a5 _ (AL c7 _)).trans (T _ d0 dx (AL c7 _));rw[p_,is_self]at df;refine mE ?_ x w s T bi bk cd;clear x w s T bi bk cd;intro x w s T bi bk cd;refine ax ?_;have a4:∀F e,e≠0::(m+3)::a->e≠N->e∉AE b->AD a2 e=Z->((gc (4::a2) a5).put (0::(m+3)::a) F).get e=H.get e:=λF e K a0 L c'=>by rw[BW _ _ K,An _ _ _ (AL c' _),T.1 e a0 L (AL c' _),BW _ _ K]
   have b':∀r,(0::r::a)≠N/\(0::r::a) ∉AE b:=λr=>⟨λl=>(n.1 N (.inr (.inl rfl))).1 r l.symm,λl=>(n.1 _ (.inr (.inr (.inl l)))).1 r rfl⟩;have d3:∀F,dY p j D ((gc (4::a2) a5).put (0::(m+3)::a) F) B N b cx c6 cv:=λF=>x.1.mono λe i=>by
    have ej:=x.1.tag;have ne:e≠0::(m+3)::a:=λl=>by
     rcases i with i|i|i|i
     .exact V.1 e (.inl i) l
     .grind
     .grind
     grind
    rw[BW _ _ ne];rcases i with i|i|i|i
    .exact An _ _ _ (AL (un.1 e (.inl i)) _)
    .exact An _ _ _ (AL (un.1 e (.inr (.inl i))) _)
    .exact An _ _ _ (AL (un.1 e (.inr (.inr (.inl i)))) _)
    grind [E1]
   refine⟨cv,⟨⟨cx,c6,d3 _,λo t=>bi.1 o (a6.1 o t),λo be t=>bk.1 o be (ch.1 o be t),λk P=>?_⟩,?_,?_,?_,⟨w.1 _ m1,es2,?_,az.1⟩,λk P=>h.1.sub k (By _ P),λe i=>w.1 e (h.1.inc e i),λe i=>?_,λe K a0 L=>?_⟩,λe i=>(s.1 e i).imp_right λk=>k.out,λe K a0 L=>?_⟩
   .rcases bs.1 k P with Q|Q
    .rcases Cs.1 Q with rfl|Q
     .exact .inr cd.out
     .exact .inl Q
    .refine .inr λo t=>⟨bi.1 o (Q o t).1,?_⟩;exact bk.1 o (gD (dn k P) t).1 (Q o t).2
   .exact(a4 _ _ AG (b' 0).1 (b' 0).2 (R.1 _ (BK a z))).trans d4
   .exact(a4 _ _ AG (b' 1).1 (b' 1).2 (R.1 _ (BK a z))).trans d5
   .grind [p_,is_self]
   .exact(a4 _ me (V.1 me (.inr (.inr (.inr m1)))) (λl=>bh N q.1.n q.1.mn (l▸m1)) (λl=>bh me (q.1.h me l) (q.1.mh me l) m1) (un.1 me (.inr (.inr (.inr m1))))).trans av.1
   .rcases s.1 e i with k|k
    .exact h.1.new e k
    .exact .inr (k.out.wide R.1)
   .refine(a4 _ e (λl=>?_) K a0 (R.1 e (AL L _))).trans (h.1.frame e K a0 L);rw[l,show AD a (0::(m+3)::a)=X from Ao [0,m+3]]at L;cases L
   .rw[not_or,not_or]at K;have k:=a4 (.box []) e K.1 K.2.1 K.2.2 L;grind [BW,AI]
  .intro ar Y H dd h f;have ai:∀v,v≠m+4->dd.get (0::v::a)=H.get (0::v::a):=λv cm=>f _ (.inl (BK a z));have⟨cs2,hs2,W,a6⟩:=h.st;have⟨m1,es2,av,az⟩:=h.env;refine⟨⟨cs2,hs2,W.mono λe i=>f e ?_,a6⟩,(ai _ z).trans h.b0,(ai _ z).trans h.b1,(ai _ z).trans h.lp,⟨m1,es2,(f me (.inr m1)).trans av,az⟩,h.sub,h.inc,h.new,λe x w s=>(f e (.inl (AL s _))).trans (h.frame e x w s)⟩;rcases i with i|i|i|i
   .exact .inl ((n.1 e (.inl i)).2 _ z)
   .exact .inl ((n.1 e (.inr (.inl i))).2 _ z)
   .exact .inl ((n.1 e (.inr (.inr (.inl i)))).2 _ z)
   .exact .inr i
 have ai:∀e,e=B\/e=N\/e∈AE b\/M1 e->(H2.put (0::(m+3)::a) (.loop c9)).get e=H.get e:=λe i=>by
  rw[BW _ _ ((n.1 e i).1 _)];rcases i with i|i|i|i
  .exact ad.1 e (q.1.all (.inl i))
  .exact ad.1 e (q.1.all (.inr (.inl i)))
  .exact ad.1 e (q.1.all (.inr (.inr (.inl i))))
  .obtain⟨O,rfl⟩:=ag.1.tag e i;exact b0.1 O
 have b1:=ag.1.mono ai;have b9:∀e,AD a e=Z->¬M e->¬M1 e:=λe a1 cs cu=>by
  rcases ac.1 e cu with k|k
  .exact cs k
  .rw[k.1.up]at a1;cases a1
 have cc:∀(e:u),(∃O,e=0::O)->¬M1 e:=λe ⟨O,cn⟩ h=>by have⟨t2,ht2⟩:=ag.1.tag e h;grind
 have d8:(0::0::(m+2)::a)≠0::(m+3)::a:=AG;have dc:∀r,AD ((m+4)::a) (0::r::(m+2)::a)=false:=λr=>by grind [AD,Bw,under_iff]
 have d2:∀r,¬((0::r::(m+2)::a)=0::(m+3)::a\/(0::r::(m+2)::a)=N\/(0::r::(m+2)::a)∈AE b):=λr=>by
  have key:AD a (0::r::(m+2)::a)=true:=Ao [0,r,m+2];rintro(l|l|l)
  .grind
  .rw[l,q.1.n]at key;cases key
  .rw[q.1.h _ l]at key;cases key
 have d1:¬(B=0::(m+3)::a\/B=N\/B∈AE b):=by
  rintro(l|l|l)
  .exact(n.1 B (.inl rfl)).1 _ l
  .exact c0.bn l
  .exact c0.bh l
 refine Mg (ACO (M:=M1) (sz:=j) c1 (λd7 _=>Wk.none d7) dj ((ai B (.inl rfl)).trans ag.1.box) ((n.1 B (.inl rfl)).2 _ z) d1 cm dr ?_ ?_ (dc 0) (d2 0) (dc 1) (λe i=>(n.1 e (.inr (.inr (.inr i)))).2 _ z) (b9 B q.1.b q.1.mb) (cc _ ⟨_,rfl⟩) ⟨⟨a3,bc,b1,λ_ h=>h,λ_ _ h=>h,λk P=>.inl P⟩,?_,?_,?_,⟨c2,es,(ai me (.inr (.inr (.inr c2)))).trans dq,bx.1⟩,λk P=>P,λe i=>i,λe i=>.inl i,λe x w s=>?_⟩) (λc8 a5 C=>?_)
 .grind [BW]
 .grind [BW]
 .grind [BW]
 .grind [BW]
 .rw[p_,is_self];rfl
 .rw[BW _ _ λl=>?_]
  .exact(ad.1 e s).trans (b4.1 e x w s)
  .rw[l,show AD a (0::(m+3)::a)=X from Ao [0,m+3]]at s;cases s
 obtain⟨rfl,de,C,cp,cq⟩:=C;rw[L8,C.lp];have⟨cs2,hs2,x,w,s,T⟩:=C.st;replace C:=AB C;refine B4 ?_ cp cq x w s T b1 b9 cc;clear cp cq x w s T b1 b9 cc;intro cp cq x w s T b1 b9 cc;clear c1;subst c5;refine ax ?_;refine⟨rfl,cs2,hs2,de,x.1.mono λe i=>?_,λe i=>C.1.inc e (bv.1 e i),λe i=>?_,λe K a0 L=>?_,λo t=>w.1 o (b3.1 o t),λo be t=>s.1 o be (b5.1 o be t),λo t=>?_⟩
 .rcases i with i|i|i|i
  .rw[An _ _ _ ((n.1 e (.inl i)).2 _ z),An _ _ _ ((n.1 e (.inl i)).2 _ z)]
  .rw[An _ _ _ ((n.1 e (.inr (.inl i))).2 _ z),An _ _ _ ((n.1 e (.inr (.inl i))).2 _ z)]
  .rw[An _ _ _ ((n.1 e (.inr (.inr (.inl i)))).2 _ z),An _ _ _ ((n.1 e (.inr (.inr (.inl i)))).2 _ z)]
  .obtain⟨O,rfl⟩:=x.1.tag e i;rw[E1,E1]
 .rcases C.1.new e i with k|k
  .exact(ac.1 e k).imp_right λk=>k.1
  .exact .inr k.out
 .rw[An _ _ _ (AL L _),An _ _ _ (AL L _)];exact C.1.frame e K a0 L
 .rw[E7]at t;rcases Cs.1 t with rfl|t
  .exact⟨w.1 _ b2.1,s.1 _ cm b6.1⟩
  .have⟨k,P,t⟩:=BI.1 t;rcases T.1 k (Kz.2 P)with Q|Q
   .cases Q
   .exact Q o t
variable{C:C7}{K:Af}{l:Fr}{c i:Nat}{e:CN}{H:S}{k:List Df}{Q:DZ->St->Prop}
def W1{b:L2}(f:∀a,a=H->Wp C K l c b ⟨e,a,i,k⟩ Q):Wp C K l c b ⟨e,H,i,k⟩ Q:=f H rfl
variable{cs:List y}
def AB1{v w:L2}{id sid did:u}{off:Nat}{es:List (Au×y)}(b:e.get 5=.ptr id off)(g:e.get 7=.mp did)(p:H.get id=J (.box cs))(q:cs[off]?=J (.mp sid))(f:H.get sid=J (.map es))(r:H.get did=J (.map []))(h:es.all Iv=X) (j:(es.map λt=>YM t.1).Nodup) (m:AJ sid did=Z) (n:Jv l.ci [(did,.map es)]=X) (s:∀a,a=H.put did (.map es)->Q .normal ⟨Kt e,a,i,k⟩):pN C K l c v w ⟨e,H,i,k⟩ Q (J ⟨UY,Jx⟩):=by
 have key:Jx l ⟨e,H,i,k⟩=.ok (.normal,⟨Kt e,H.put did (.map es),i,k⟩):=by simp only[Jx,b,g,Xf,p,q,eG,f,r];rw[D3 ⟨h,j,m,n⟩]
 show(match Jx l ⟨e,H,i,k⟩with|.ok (o,d9)=>Q o d9|.err _=>False)
 rw[key];exact s _ rfl
abbrev vG:TI:={kind:=TK.map,size:=1,agg:=Z,str:=Z,zero:=[y.d Au.nilm],flds:=[],elem:=276,key:=3,mix:=X}
def ABH{g:G}{b:u}{a:List (Au×y)}{e:BG}(j:g b=J (.map a))(i:LZ a e)(f h c:Int):mapPut cfg.T g (J vG) (.mp b) (nI f) (.agg [nI h,nI c])=J ⟨.undef,[(b,.map (CW a (.int .i64 f) (eC (h,c))))]⟩:=by unfold mapPut;simp[RP,T3,Kj,y.inMap,j,i.get f]
variable{n:Int}
theorem AF{me:u}(c:n.toNat<U cs):(∀a,Fl cs a->Fl (cs.set n.toNat (.mp me)) a)/\Fl (cs.set n.toNat (.mp me)) n:=by
 refine⟨λa ⟨b,hm⟩=>?_,⟨me,by grind⟩⟩;by_cases h:n.toNat=a.toNat
 .exact⟨me,by grind⟩
 .exact⟨b,by grind⟩
theorem dY.cell(h:dY p j D g B N b cs f M){n:Int}(hl:n.toNat<U cs){me:u}{es:List (Au×y)}(hm:M me)(hes:g.get me=J (.map es))(hMO:LZ es (den D n))(hA:cN B N b)(hU:G0 a B N b M)(hG:∀i,i≠N->AD a i=Z->g'.get i=g.get i)(hN:g'.get N=J (.arr 1 ((cs.map λc=>[c]).set n.toNat [.mp me]))):dY p j D g' B N b (cs.set n.toNat (.mp me)) f M where
 box:=by rw[hG B hA.bn hU.b,LC];exact h.box
 arr:=by rw[hN,I2]
 len:=by rw[LC];exact h.len
 maps i m hi:=by
  have hget:=λm hm=>hG m (λe=>hU.mn (e▸hm)) (hU.m m hm);rw[F7]at hi;by_cases e:n.toNat=i
  .rw[D3 e,D3 hl]at hi;cases hi;subst e;rw[hget me hm];exact⟨hm,es,hes,hMO⟩
  .rw[Co e]at hi;have⟨h1,h2⟩:=h.maps i m hi;grind
 hd:=by
  rcases h.hd with h1|⟨id,h1,h2⟩
  .exact .inl h1
  .have hi:id∈AE b:=by rw[h1];simp[AE]
   exact .inr ⟨id,h1,by rw[hG id (λe=>hA.nh (e▸hi)) (hU.h id hi)];exact h2⟩
 hlen:=h.hlen
 tag:=h.tag
theorem dY.head(h:dY p j D g B N b cs f M){n k:Int}(hl:n.toNat<U cs){me m2:u}{es:List (Au×y)}(hm:M me)(hes:g.get me=J (.map es))(hMO:LZ es (den D n))(hA:cN B N b)(hU:G0 a B N b M){hid:u}(hvE:b=.ii hid 0 (U f))(hG:∀i,i≠N->i≠hid->AD a i=Z->g'.get i=g.get i)(hN:g'.get N=J (.arr 1 ((cs.map λc=>[c]).set n.toNat [.mp me])))(hH:g'.get hid=J (.f9 1 ((f.map AX).set k.toNat (AX n))))(ht:∃t,m2=1::t):dY p j D g' B N b (cs.set n.toNat (.mp me)) (f.set k.toNat n) (λi=>M i\/i=m2) where
 box:=by
  have hi:hid∈AE b:=by rw[hvE];simp[AE]
  rw[hG B hA.bn (λe=>hA.bh (e▸hi)) hU.b,LC];exact h.box
 arr:=by rw[hN,I2]
 len:=by rw[LC];exact h.len
 maps i m hi:=by
  have hin:hid∈AE b:=by rw[hvE];simp[AE]
  have hget:=λm hm=>hG m (λe=>hU.mn (e▸hm)) (λe=>hU.mh hid hin (e▸hm)) (hU.m m hm);rw[F7]at hi;by_cases e:n.toNat=i
  .rw[D3 e,D3 hl]at hi;cases hi;subst e;rw[hget me hm];exact⟨.inl hm,es,hes,hMO⟩
  .rw[Co e]at hi;have⟨h1,h2⟩:=h.maps i m hi;grind
 hd:=.inr ⟨hid,by grind,by rw[hH,I2]⟩
 hlen:=by rw[LC];exact h.hlen
 tag i hi:=by
  rcases hi with hi|rfl
  .exact h.tag i hi
  .exact ht
def eK(b:Gd p j D){g:CF}(c:0<=n)(f:p.nodes[n.toNat]?=J g){a:Int}(e:a∈O9 p n):den D a=Z1 p j n (den D n):=b.sub n c (by have:=l_ f;omega) a e
theorem eZ(K:Ar p j)(a':FY p)(ag:Gd p j D)(o:cN B N b):∀(a4:Nat) {n:Int},VT p a4 n->∀(g:S) (a:u) (cs:List y) (f:Al) (M:u->Prop) (me:u) (es:List (Au×y)),dY p j D g B N b cs f M->G0 a B N b M->M me->g.get me=J (.map es)->LZ es (den D n)->
 ∃cq b9,kT (.fn 173) [.ptr B 0,nI n,.mp me] g a X I=.ok (cq,b9)/\vW p j D B N b a g cs f M (E7 p a4 n) cq b9
 |0,_,a1,_,_,_,_,_,_,_,_,_,_,_,_=>a1.elim|a4+1,n,a1,g,a,cs,f,M,me,es,x,k,t,hes,R=>by
  obtain⟨be,⟨r,P⟩,bh⟩:=a1;have bk:=λC (V:C∈O9 p n)=>eZ K a' ag o a4 (bh C (Kz.1 V));have bc:=λC V=>bh C (Kz.1 V);have dc:=l_ P;have d4:n<U p.nodes:=z;have dr:=AN k.b;have ds:=Aw k.b;have aa:=AN k.n;have ac:=Aw k.n;have dx:=AI λe=>o.bn e.symm;have d0:=AI o.bn;have b4:=x.box;have c3:=x.arr;have d':n.toNat<(cs.map λF=>[F]).length:=by rw[BV,x.len];exact dc
  have d6:n<U cs:=by rw[x.len];omega
  have bn:n.toNat<U cs:=z;have⟨c0,hc0⟩:=g_ (l:=cs) (i:=n.toNat) z;have c5:(cs.map λF=>[F])[n.toNat]?=J [c0]:=by rw[BY,hc0];rfl
  have b5:(cs.map λF=>[F]).set n.toNat [.mp me]=(cs.set n.toNat (.mp me)).map λF=>[F]:=by rw[I2]
  have b6:(cs.set n.toNat (.mp me)).length=U cs:=AG;refine Nm ?_ bk bc x;clear bk bc x;intro bk bc x;refine B4 ?_ k R bh K a' ag o b5 b6;clear k R bh K a' ag o b5 b6;intro k R bh K a' ag o b5 b6;refine Nq rfl func173 rfl rfl rfl ?_;show Wp _ _ _ _ (Tryz.f173.body.get rfl) _ _;refine QW 4 λdq bv=>?_;simp[Tryz.f173,Rm];replace bv:=AB bv;by_cases bx:r.op=4
  .have⟨x0,x1,_⟩:=FI K.1 P bx;have⟨d,a1⟩:=g_ (l:=p.defs) (i:=r.n.toNat) z;have a6:=(Bd K.1 a1).ok;have Y:=AJs K.1 a'.1 ag.1 be z;have⟨s,l,hs0,s0,s1,_⟩:=K.1.node _ r P;unfold PE at Y;rw[hs0]at Y;replace Y:∀C∈den D n,C.1<s:=λC V=>(Y C V).2;have ea:=l_ hs0;have d7:n<U j:=z;obtain⟨q,a3,c7⟩:∃cm,b=.ii cm 0 (U f)/\g.get cm=J (.f9 1 (f.map AX)):=by
    rcases x.1.hd with⟨_,O⟩|O
    .have:=x.1.hlen;grind
    .exact O
   have T:q∈AE b:=by rw[a3];simp[AE]
   have b8:=k.1.h q T;have av:=AN b8;have az:=Aw b8;have d1:AJ N q=false:=AI λe=>o.1.nh (e▸T);have c2:AJ q N=false:=AI λe=>o.1.nh (e▸T);have d2:AJ B q=false:=AI λe=>o.1.bh (e▸T);have d3:AJ q B=false:=AI λe=>o.1.bh (e▸T);have dd:r.n.toNat<U f:=by rw[x.1.hlen];omega
   have d5:r.n<U f:=z;have⟨hh0,hhs0⟩:=g_ dd;rw[a3]at b4;have cu:=k.1.m me t;have eb:=AN cu;have df:=Aw cu;have ec:AJ N me=false:=AI λe=>k.1.mn (e▸t);have ef:AJ q me=false:=AI λe=>k.1.mh q T (e▸t);have eg:AJ me N=false:=AI λe=>k.1.mn (e▸t);have ej:AJ me q=false:=AI λe=>k.1.mh q T (e▸t);refine mY ?_ Y a6 a3 t;clear Y a6 a3 t;intro Y a6 a3 t;refine ax (AB1 (id:=0::1::a) (sid:=me) (did:=1::32::a) (off:=0) (cs:=[.mp me]) (es:=es) ?_ ?_ ?_ rfl ?_ ?_ R.1.ent R.1.nd (df 1 32) rfl λH w=>?_)
   .simp only[go_sem]
   .simp only[go_sem]
   .exact BZ
   .exact BZ
   .simp only[go_sem]
   have W:∀h,h≠N->h≠q->AD a h=Z->H.get h=g.get h:=λh O ad a0=>by have C:=AN a0;have b1:=AI (λe=>O (Eq.symm e));have b2:=AI (λe=>ad (Eq.symm e));exact BZ
   have bs:H.get N=J (.arr 1 ((cs.map λF=>[F]).set n.toNat [.mp me])):=by rw[w];simp only[go_sem,aa,ac,c2,AM]
   have cd:H.get q=J (.f9 1 ((f.map AX).set r.n.toNat (AX n))):=by rw[w];simp only[go_sem,av,az,AM]
   have v0:H.get (0::0::a)=J (.box [.ptr B 0]):=by rw[w];simp only[go_sem,aa,ac,av,az,AM]
   have v1:H.get (0::1::a)=J (.box [.mp me]):=by rw[w];simp only[go_sem,aa,ac,av,az,AM]
   have cv:H.get (0::18::a)=J (.box [nI 4,nI r.n,.d (.co (r.args.map Bh)),.d (.co (r.kids.map AX))]):=by rw[w];simp only[go_sem,aa,ac,av,az,AM]
   have cx:H.get (1::32::a)=J (.map es):=by rw[w];simp only[go_sem]
   have cl:=(W B o.1.bn (λe=>o.1.bh (e▸T)) k.1.b).trans b4;replace w:=AB w;replace W:=AB W;simp[Kt];have c6:=AB hes;clear c7 c3 b4 hes hc0 c5;refine ax ?_;have ch:LZ es (den D n++HN s r.n 0):=by rw[show HN s r.n 0=[]from rfl,CS];exact R.1
   refine Ah d.ac (B2:=λh (m:S×Nat)=>⟨[(1,nI n),(3,.ptr (0::0::a) 0),(5,.ptr (0::1::a) 0),(6,.ptr (0::18::a) 0),(7,.mp (1::32::a)),(11,CN.get [] 11),(59,nI (U d.ac)),(60,nI h),(82,CN.get [] 82),(83,CN.get [] 83),(84,CN.get [] 84),(85,CN.get [] 85)],m.1,m.2,[]⟩)
    (Inv:=λh ek m=>AR ((∃ar,m.1.get (1::32::a)=J (.map ar)/\LZ ar (den D n++HN s r.n h))/\(∀i,i≠1::32::a->m.1.get i=H.get i)/\40<=m.2)) (b0:=(H,46)) ⟨⟨es,cx,ch⟩,λ_ _=>rfl,AZ⟩ ?_ ?_
   .rintro h a5 ⟨G,c⟩ bi A c9 b3 c1;have et:TC.wrap ((h:Int)+1)=(h:Int)+1:=w_ z (by have:=a6.1.ac;omega);have ex:TC.wrap (s+(h:Int))=s+(h:Int):=w_ z (by have:=a6.1.ac;omega);have⟨⟨ar,ai,Q⟩,v,L⟩:=b3.1;dsimp only at ai v L;have el:=(v (0::0::a) AG).trans v0;have en:=(v (0::18::a) AG).trans cv;have er:=(v B (λe=>by grind)).trans cl;have d8:=λa4 m c=>ABH (g:=G.get) ai Q a4 m c;refine Nm ?_ Q v L;clear Q v L;intro Q v L;clear v0 v1 cv cx cl ch bs cd;refine ax (c1.1 (_,_) ⟨⟨_,?_,Q.1.set (c:=(r.n,(h:Int))) (zE Y.1)⟩,λi a2=>?_,?_⟩)
    .grind [p_,is_self]
    .dsimp only;rw[BW _ _ a2];exact v.1 i a2
    .have:=L.1;dsimp only;omega
   .rintro h ⟨G,c⟩ A c9 b3;have⟨⟨ar,ai,Q⟩,v,L⟩:=b3.1;dsimp only at ai v L;have c8:=A.1;subst c8;replace Q:=AB Q;replace ai:=AB ai;have v:=AB v;have L:=AB L;have em:=(v.1 (0::1::a) AG).trans v1;refine ax (W1 λbl b'=>?_);have bo:∀i,i≠0::1::a->i≠1::32::a->bl.get i=H.get i:=λi O a0=>by grind [BW]
    have cc:∀i,i≠N->i≠q->AD a i=Z->bl.get i=g.get i:=λi O a0 ad=>(bo i (λe=>by
     rw[e,show AD a (0::1::a)=X from Ao [0,1]]at ad;cases ad) (λe=>by
     rw[e,show AD a (1::32::a)=X from Ao [1,32]]at ad;cases ad)).trans (W.1 i O a0 ad)
    have cp:∀m c,N≠m::c::a:=λm c e=>by have:=k.1.n;rw[e,show AD a (m::c::a)=X from Ao [m,c]]at this;cases this
    have cn:∀m c,q≠m::c::a:=λm c e=>by have:=b8;rw[e,show AD a (m::c::a)=X from Ao [m,c]]at this;cases this
    have dj:=(bo (0::0::a) AG AG).trans v0;have dm:bl.get (0::1::a)=J (.box [.mp (1::32::a)]):=by rw[b',p_,is_self];rfl
    have dn:bl.get (1::32::a)=J (.map ar):=by rw[b',BW _ _ AG];exact ai.1
    have c4:=x.1.head (m2:=1::32::a) bn t.1 c6.1 R.1 o.1 k.1 a3.1 cc ((bo N (cp _ _) (cp _ _)).trans bs) ((bo q (cn _ _) (cn _ _)).trans cd) ⟨_,rfl⟩;have⟨fl1,fl2⟩:=AF (cs:=cs) (n:=n) (me:=me) bn;rw[bv.1];refine bG (M:=M) (M1:=λh=>M h\/h=1::32::a) (me:=1::32::a) (es:=ar) K.1 o.1 be P bk.1 bc.1 ?_ ?_ ?_ (by have:=L.1;omega) dj dm c4 k.1 (.inr rfl) dn (λC V=>?_) (λh A=>?_) (λh A=>.inl A) (λh b7 b1 b2=>cc h b7 (λe=>b1 (e▸T)) b2) fl1 (λi d9 a2 a5 bi b0=>?_) fl2 λa5 bi b0=>?_
    .simp only[go_sem]
    .simp only[go_sem]
    .simp only[go_sem]
    .rw[eK ag.1 be P V,Z1,P];dsimp only;rw[D3 bx,hs0,a1];exact Q.1
    .rcases A with A|rfl
     .exact .inl A
     .exact .inr ⟨⟨32,a,rfl,Ao []⟩,λde t=>Fm de 1 32 a (by have:=L.1;omega)⟩
    .have O:=a2 a5 bi b0;rw[F7];by_cases e:r.n.toNat=a5.n.toNat
     .have:=Classical.byContradiction λc'=>K.1.diff _ _ r a5 c' P bx bi b0 e;grind
     grind
    grind
  .refine ax (W1 λH w=>?_);have W:∀h,h≠N->AD a h=Z->H.get h=g.get h:=λh O a0=>by have C:=AN a0;have b1:=AI (λe=>O (Eq.symm e));exact BZ
   have bs:H.get N=J (.arr 1 ((cs.map λF=>[F]).set n.toNat [.mp me])):=by rw[w];simp only[go_sem,aa,ac,AM]
   have v0:H.get (0::0::a)=J (.box [.ptr B 0]):=by rw[w];simp only[go_sem,aa,ac,AM]
   have v1:H.get (0::1::a)=J (.box [.mp me]):=by rw[w];simp only[go_sem,aa,ac,AM]
   have⟨av,az⟩:=AF (cs:=cs) (n:=n) (me:=me) bn;rw[bv.1];refine bG (M:=M) (M1:=M) (me:=me) (es:=es) K.1 o.1 be P bk.1 bc.1 ?_ ?_ ?_ z v0 v1 (x.1.cell bn t hes R.1 o.1 k.1 W bs) k.1 t ((W me (λe=>k.1.mn (e▸t)) (k.1.m me t)).trans hes) (λC V=>?_) (λh A=>.inl A) (λh A=>A) (λh b7 b1 b2=>W h b7 b2) av (λi _ a2=>a2) az λa5 bi b0=>?_
   .simp only[go_sem]
   .simp only[go_sem]
   .simp only[go_sem]
   .rw[eK ag.1 be P V,Z1,P];dsimp only;rw[Co bx];exact R.1
   grind
end
def gU(c:S)(b:y)(a:List (List Au)):Prop:=b=.d (.co a)\/UF c 1 b a
def Zc(g:S)(r:List y)(Bn:Av):Prop:=∃c k a,r=[c,k,a]/\gU g c (Bn.ac.map AX)/\gU g k (Bn.rules.map AX)/\gU g a (Bn.args.map Eu)
structure La(g:S)(v:y)(rows:List (List y))(T:List Av):Prop:=
 arr:(v=.d8/\rows=[])\/∃id,v=.ii id 0 (U T)/\g.get id=J (.arr 3 rows)
 len:U rows=U T
 each:∀(i:Nat) r Bn,rows[i]?=J r->T[i]?=J Bn->Zc g r Bn
 nd:(AE v++rows.flatMap Ab).Nodup
def Kn(f:u)(c:Nat)(a:u):Prop:=(∃b,b<c/\AD (b::f) a=X)/\∃e,a=1::e
variable{b:Nat}
theorem Kn.mono{e:u}{a:Nat}{c:u}(f:Kn e b c)(k:b<=a):Kn e a c:=by obtain⟨⟨i,j,g⟩,h⟩:=f;exact⟨⟨i,z,g⟩,h⟩
def Kn.up{c:u}{a:u}(e:Kn c b a):AD c a=true:=by obtain⟨⟨i,g,f⟩,h⟩:=e;exact Bq f
theorem Kn.sib{c:u}{m:Nat}{a:u}(e:Kn c b a)(i:b<=m):AD (m::c) a=false:=by obtain⟨⟨j,f,g⟩,h⟩:=e;grind [Bw]
theorem Kn.ne{e:u}{a m:Nat}{c:u}(f:Kn e b c)(g:b<=m):c≠a::m::e:=λh=>by have:=f.sib g;grind [under_iff]
def Kn.ne0{h:u}{c:u}(f:Kn h b c)(g:u):c≠0::g:=λe=>by obtain⟨_,i,a⟩:=f;rw[e]at a;simp at a
variable{g g':S}{v:y}
theorem gU.mono{b:List (List Au)}(a:gU g v b)(e:∀c∈AE v,g'.get c=g.get c):gU g' v b:=by
 rcases a with a|a
 .exact .inl a
 .exact .inr (xd a e)
theorem Zc.mono{e:List y}{f:Av}(b:Zc g e f)(c:∀a∈Ab e,g'.get a=g.get a):Zc g' e f:=by obtain⟨i,m,h,rfl,j,k,l⟩:=b;exact⟨i,m,h,rfl,j.mono λa b=>c a (by simp[Ab,b]),k.mono λa b=>c a (by simp[Ab,b]),l.mono λa b=>c a (by simp[Ab,b])⟩
theorem La.mono{c:List (List y)}{e:List Av}(a:La g v c e)(h:∀b∈AE v++c.flatMap Ab,g'.get b=g.get b):La g' v c e:=by
 refine⟨?_,a.len,λb l m i j=>(a.each b l m i j).mono λk o=>h k ?_,a.nd⟩
 .rcases a.arr with f|⟨p,f,n⟩
  .exact .inl f
  grind [AE]
 grind
theorem La.snoc{g g':S}{v:y}{b:List (List y)}{h:List Av}(c:La g v b h){id:u}{e:List y}{l:Av}(A:Zc g' e l)(B:(Ab e).Nodup)(n:g'.get id=J (.arr 3 (b++[e])))(o:∀a∈b.flatMap Ab,g'.get a=g.get a)(s:∀a∈b.flatMap Ab,a∉Ab e)(t:id∉Ab e)(w:id∉b.flatMap Ab):La g' (.ii id 0 (U h+1)) (b++[e]) (h++[l]):=by
 refine⟨.inr ⟨id,AG,n⟩,by simp[c.len],λa k r f i=>?_,?_⟩
 .by_cases j:a<U b
  .rw[D8 j]at f;rw[D8 (by rw[<-c.len];exact j)]at i;exact(c.each a k r f i).mono λq p=>o q (BI.2 ⟨k,AP f,p⟩)
  .have:=l_ f;rw[D1,I3]at this;have m:a=U b:=z;subst m;rw[EL (D4 _),IT]at f;rw[EL (by rw[c.len];exact D4 _),c.len,IT]at i;grind
 .have x:=c.nd;grind [AE]
def GK{a:C7}{K:Af}{i:Fr}{f:L2}{h:CN}{H:S}{e:Nat}{g:List Df}{Q:DZ->St->Prop}(j:∀c,c=H->WH a K i b f ⟨h,c,e,g⟩ Q):WH a K i b f ⟨h,H,e,g⟩ Q:=j H rfl
def KS(f:u)(b:Nat)(e:u):Prop:=∀c a,b<=a->e≠c::a::f
def KS.is{f:u}{c:u}(h:KS f b c)(a e:Nat):AJ (a::(b+e)::f) c=false:=AI λg=>h a (b+e) z g.symm
theorem KS.mono{e:u}{a:Nat}{c:u}(g:KS e b c)(i:b<=a):KS e a c:=λf h j=>g f h z
def Kn.old{c:u}{a:u}(e:Kn c b a):KS c b a:=λg h f=>e.ne f
def OX{a:u}{f:u}(e:AD a f=Z)(b:Nat):KS a b f:=λc g _ h=>by rw[h,show AD a (c::g::a)=X from Ao [c,g]]at e;cases e
def ff(a:Nat)(b:a<=1000000):Bk kT 174 [.d (.co [[.int .i64 1]]),nI a] []=.ok (.ret (.d (.co ((TL a (1:Int)).map AX))),[]):=AMz a b
section
variable{p:Aa}{c:Al}{D:List BG}{e:Al}{g:S}{B:u}{V:TV}{a:u}
theorem AHM(a0:Ar p c)(a6:DY p c D e g B V)(bl:Sa a B V):
 ∃cp b1,kT (.fn 132) [.ptr B 0] g a X I=.ok (cp,b1)/\∃v q,cp=.ret v/\La b1 v q (Kl p)/\(∀j∈AE v++q.flatMap Ab,∃b,Kn a b j)/\∀j,AD a j=Z->b1.get j=g.get j:=by
 have cq:=bl B zCR;have c9:=AN cq;have c':=Aw cq;have de:=a6.box;have cn:=a0.small;simp[Aa.small]at cn;obtain⟨_,dq,dj⟩:=cn;refine Nm ?_ a6 bl a0;clear a6 bl a0;intro a6 bl a0;refine Ba func132 ?_;refine ax ?_;refine Ah p.defs (B2:=λj (i:(y×S)×Nat)=>⟨[(3,i.1.1),(13,.d (.co (p.defs.map Br))),(14,nI (U p.defs)),(15,nI j)],i.1.2,i.2,[]⟩)
  (Inv:=λj c5 i=>AR ((∃q,La i.1.2 i.1.1 q ((p.defs.take j).map O4)/\∀f∈AE i.1.1++q.flatMap Ab,Kn a i.2 f)/\∀f,AD a f=Z->i.1.2.get f=g.get f)) (b0:=((.d8,g),9)) ⟨⟨[],⟨.inl ⟨rfl,rfl⟩,rfl,λj d4 d5 s=>by simp at s,Ay⟩,Ay⟩,λ_ _=>rfl⟩ ?_ ?_
 .rintro j d ⟨⟨bv,H⟩,b⟩ ch a' c1 b4 b';have⟨⟨q,t,k⟩,x⟩:=b4.1;dsimp only at t k x;have P:=(Bd a0.1 ch).ok;have c7:=P.ac;have c8:=P.rules;have cu:=ff (U d.ac) z;have dc:=ff (U d.rules) z;refine mY ?_ P t k x;clear P t k x;intro P t k x
  (repeat' (first|simp only[*,go_sem,AM,D2,DO,BA]|(refine sx ?_ ?_<;>intro F)|refine sy z λbx W ad=>?_|simp(disch:=first|assumption|omega) only[Ae]))
  refine GK λb0 b3=>?_;have be:∀f,KS a b f->b0.get f=H.get f:=λf h=>by have ag:=h.is;exact BZ
  have W:b0.get (0::(b+16)::a)=J (.box [.d (.co ((TL (U d.ac) (1:Int)).map AX)),.d (.co ((TL (U d.rules) (1:Int)).map AX)),.d8]):=by rw[b3];simp only[go_sem]
  replace b3:=AB b3;have⟨A,ac⟩:=Cv (d.ac.map λN=>TL N.many.toNat (1:Int));have az:U A=U d.ac:=by rw[ac];simp
  refine Nm ?_ ac az be;clear ac az be;intro ac az be;refine Ah d.ac (B2:=λm (i:S×Nat)=>⟨[(3,bv),(6,.ptr (0::(b+16)::a) 0),(13,.d (.co (p.defs.map Br))),(14,nI (U p.defs)),(15,nI j),(31,.d (.co (d.ac.map BR))),(32,nI (U d.ac)),(33,nI m)],i.1,i.2,[]⟩)
   (Inv:=λm c5 i=>AR (b+17<=i.2/\(∀f,KS a b f->i.1.get f=H.get f)/\∃o,i.1.get (0::(b+16)::a)=J (.box [.d (.co ((TL (U d.ac) (1:Int)).map AX)),.d (.co ((TL (U d.rules) (1:Int)).map AX)),o])/\((o=.d8/\m=0)\/∃n,o=.ii (1::n::a) 0 m/\b+17<=n/\n<i.2/\i.1.get (1::n::a)=J (.f9 1 ((A.take m).map Eu))))) (b0:=(b0,b+22)) ⟨AZ,be.1,_,W,.inl ⟨rfl,rfl⟩⟩ ?_ ?_
  .rintro m N ⟨G,l⟩ F df cx b5 cc;have⟨r,w,o,hav,K⟩:=b5.1;dsimp only at r w hav K;have d6:TC.wrap ((m:Int)+1)=(m:Int)+1:=w_ z z;obtain⟨n,ad⟩:∃n:Nat,N.many=n:=⟨N.many.toNat,by have:=(P.1.chan N (AP F)).2.2.1;omega⟩;have dn:n<=3:=by have:=(P.1.chan N (AP F)).2.2.2;omega
   have dd:=ff n z;have d2:∀M,¬l+M=b+16:=λM=>z;clear W;replace w:=AB w;have b2:A[m]?=J (TL n (1:Int)):=by rw[ac.1,BY,F];simp[ad]
   have T:(A.take (m+1)).map Eu=(A.take m).map Eu++[Eu (TL n (1:Int))]:=by rw[FD,b2];simp
   have c2:((A.take m).map Eu).length=m:=by rw[BV,F5,az.1];omega
   replace T:=AB T;replace b2:=AB b2;have bh:∀f,KS a b f->(∀i M,AJ (i::(l+M)::a) f=Z)/\∀i,AJ (i::(b+16)::a) f=false:=λf h=>⟨(h.mono z).is,λi=>h.is i 16⟩;replace bh:=AB bh;rcases K with⟨rfl,a5⟩|⟨Y,rfl,bo,bs,b7⟩
   .replace r:=AB r;replace a5:=AB a5;clear c2
    (repeat' (first|simp only[*,go_sem,AM,D2,DO,BA]|(refine sx ?_ ?_<;>intro F)|refine sy z λbx W ad=>?_|simp(disch:=first|assumption|omega) only[Ae]))
    refine cc.1 (_,_) (⟨?_,λf h=>?_,.ii (1::(l+12)::a) 0 1,?_,.inr ⟨l+12,?_,?_,?_,?_⟩⟩)
    .have:=r.1;dsimp only;omega
    .have⟨q1,ai⟩:=bh.1 f h;simp only[go_sem,q1,ai,AM];exact w.1 f h
    .simp only[go_sem]
    .rw[a5.1]
    .have:=r.1;omega
    .dsimp only;omega
    .rw[T.1,a5.1];exact zAq
   .have d3:∀M,¬l+M=Y:=λM=>z;generalize (A.take m).map Eu=es at*;have ds:es.take m=es:=Bi z;replace r:=AB r
    (repeat' (first|simp only[*,go_sem,AM,D2,DO,BA]|(refine sx ?_ ?_<;>intro F)|refine sy z λbx W ad=>?_|simp(disch:=first|assumption|omega) only[Ae]))
    refine cc.1 (_,_) (⟨?_,λf h=>?_,.ii (1::(l+12)::a) 0 (m+1),?_,.inr ⟨l+12,rfl,?_,?_,?_⟩⟩)
    .grind
    .have⟨q1,ai⟩:=bh.1 f h;have c4:=AI λL=>h 1 Y z (Eq.symm L);simp only[go_sem,q1,ai,c4,AM];exact w.1 f h
    .simp only[go_sem]
    .have:=r.1;omega
    .dsimp only;omega
    .rw[T.1];exact zAq
  .rintro m ⟨G,l⟩ F cx b5;have⟨r,w,o,hav,K⟩:=b5.1;dsimp only at r w hav K;have k:=k.1;have b6:=F.1;rw[b6,<-az.1,F3]at K;have Q:gU G o (A.map Eu)/\∀f∈AE o,Kn a l f/\∃n,b+17<=n/\f=1::n::a:=by
    rcases K with⟨rfl,av⟩|⟨Y,rfl,bo,bs,b7⟩
    .refine⟨.inr (.inl (.inl ⟨rfl,?_⟩)),λf h=>by cases h⟩;grind
    .refine⟨.inr (.inl (.inr ⟨_,[],by rw[BV],by grind⟩)),λf h=>?_⟩;simp[AE]at h;subst h;exact⟨⟨⟨Y,bs,under_iff.2 (FN 1 _)⟩,_,rfl⟩,Y,bo,rfl⟩
   have O:=t.1.mono λf h=>w f (k f h).old;have bi:∀C,(∀f∈AE o,C.get f=G.get f)->Zc C [.d (.co ((TL (U d.ac) (1:Int)).map AX)),.d (.co ((TL (U d.rules) (1:Int)).map AX)),o] (O4 d):=λC cv=>⟨_,_,_,rfl,.inl rfl,.inl rfl,by show gU C o ((d.ac.map λN=>TL N.many.toNat (1:Int)).map Eu);rw[<-ac.1];exact Q.1.mono cv⟩;have T:(p.defs.take (j+1)).map O4=(p.defs.take j).map O4++[O4 d]:=by rw[FD,ch];simp
   have a2:((p.defs.take j).map O4).length=j:=zDL
   have b8:=O.len;rw[a2]at b8;have dr:q.take j=q:=Bi z;have⟨row,R⟩:=Cv ([y.d (.co ((TL (U d.ac) (1:Int)).map AX)),y.d (.co ((TL (U d.rules) (1:Int)).map AX)),o]);have aa:Ab row=AE o:=by rw[R];simp[Ab,AE]
   rw[<-R]at bi;have a4:(AE o).Nodup:=by rcases K with⟨rfl,av⟩|⟨Y,rfl,bo,bs,b7⟩<;>simp[AE]
   have ar:∀f,Kn a b f->f∉AE o:=λf h s=>by obtain⟨_,n,cu,rfl⟩:=Q.2 f s;exact h.ne (a:=1) (m:=n) z rfl
   have a3:∀(C:S),C.get (1::(l+4)::a)=J (.arr 3 (q++[row]))->(∀f,KS a l f->f∉AE bv->C.get f=G.get f)->La C (.ii (1::(l+4)::a) 0 (j+1)) (q++[row]) ((p.defs.take (j+1)).map O4):=λC cs cd=>by have cm:=O.nd;rw[D0]at cm;have:=O.snoc (id:=1::(l+4)::a) (bi C λf h=>cd f (Q.2 f h).1.old λs=>ar f (k f (Ac.2 (.inl s))) h) (by rw[aa];exact a4) cs (λf h=>cd f ((k f (Ac.2 (.inr h))).mono z).old λs=>cm.2.2 f s f h rfl) (λf h s=>ar f (k f (Ac.2 (.inr h))) (aa▸s)) (λs=>(Q.2 _ (aa▸s)).1.ne (a:=1) (m:=l+4) z rfl) (λs=>(k _ (Ac.2 (.inr s))).ne (a:=1) (m:=l+4) z rfl);grind
   have a1:∀f∈AE (.ii (1::(l+4)::a) 0 (j+1))++(q++[row]).flatMap Ab,Kn a (l+8) f:=λf h=>by
    simp only[AE,Ac,AS,KW,F0,NL,CS,aa]at h;rcases h with rfl|h|h
    .exact⟨⟨l+4,z,under_iff.2 (FN 1 _)⟩,_,rfl⟩
    .exact(k f (Ac.2 (.inr h))).mono z
    .exact(Q.2 f h).1.mono z
   have bk:=λf h=>k f (Ac.2 (.inl h));have c6:o.isCell=true:=by rcases K with⟨rfl,av⟩|⟨Y,rfl,bo,bs,b7⟩<;>rfl
   replace K:=AB K;replace b6:=AB b6;replace w:=AB w;replace Q:=AB Q;replace bi:=AB bi;replace T:=AB T;refine B4 ?_ a2 R aa a4 ar a3 a1 bk k;clear a2 R aa a4 ar a3 a1 bk k;intro a2 R aa a4 ar a3 a1 bk k;rcases O.arr with⟨rfl,av⟩|⟨b9,rfl,c0⟩
   .replace O:=AB O;replace r:=AB r
    (repeat' (first|simp only[*,go_sem,AM,D2,DO,BA]|(refine sx ?_ ?_<;>intro F)|refine sy z λbx W ad=>?_|simp(disch:=first|assumption|omega) only[Ae]))
    have c3:j=0:=by rw[av]at b8;exact b8.symm
    refine b'.1 ((_,_),_) (⟨⟨q++[row],?_,?_⟩,λf h=>?_⟩)
    .have key:=a3.1;rw[c3]at key⊢;refine key _ ?_ ?_
     .rw[R.1,av];simp only[go_sem]
     .intro f h cl;have ag:=h.is;exact BZ
    .have:=a1.1;grind
    .have ag:=AN h;simp only[go_sem,ag,AM];exact(w.1 f (OX h _)).trans (x.1 f h)
   .rw[a2.1];have bn:=bk.1 b9 Ay;have dx:=(bn.mono (show b<=l by omega)).old.is;have d0:=λi M=>AI λL=>bn.ne (a:=i) (m:=l+M) z L;have dm:=c0;have d1:AJ b9 (0::(b+16)::a)=false:=AI λL=>bn.ne0 _ L;replace O:=AB O;replace r:=AB r
    (repeat' (first|simp only[*,go_sem,AM,D2,DO,BA]|(refine sx ?_ ?_<;>intro F)|refine sy z λbx W ad=>?_|simp(disch:=first|assumption|omega) only[Ae]))
    refine b'.1 ((_,_),_) (⟨⟨q++[row],a3.1 _ ?_ ?_,a1.1⟩,λf h=>?_⟩)
    .rw[R.1];exact zAq
    .intro f h cl;have ag:=h.is;have ai:=AI λL=>cl (by rw[AE,AS];exact Eq.symm L);exact BZ
    .have ag:=AN h;have ai:AJ b9 f=false:=AI λL=>by rw[<-L,bn.up]at h;cases h
     simp only[go_sem,ag,ai,AM];exact(w.1 f (OX h _)).trans (x.1 f h)
 .rintro j ⟨⟨bv,H⟩,b⟩ a' c1 b4;have⟨⟨q,t,k⟩,x⟩:=b4.1;have bc:=a'.1;rw[bc,F3]at t;dsimp only at t k x;refine mY ?_ bc t k x;clear bc t k x;intro bc t k x;refine ax ?_;exact⟨bv,q,rfl,t.1,λj a'=>⟨b,k.1 j a'⟩,x.1⟩
end
def rB(d:Bc)(Bn:Av):Bool:=decide (U Bn.ac=U d.ac)&&(decide (U Bn.rules=U d.rules)&&decide (U Bn.args=U d.ac))
def Xy:List HJ->List Al->Bool
 |ch::cs,l::ls=>if decide ((U l:Int)=ch.many)then Xy cs ls else Z|_,_=>X
def wY(d:Bc)(Bn:Av):Bool:=rB d Bn&&Xy d.ac Bn.args
def Ph:List Bc->List Av->Bool
 |d::ds,Bn::us=>if wY d Bn then Ph ds us else Z|_,_=>X
def S0(p:Aa)(T:List Av):Bool:=decide (U T=U p.defs)&&(Ph p.defs T&&Cy nH T T)
theorem bH:∀{e:List HJ} {f:List Al},Xy e f=X->∀(b:Nat) ch l,e[b]?=J ch->f[b]?=J l->(U l:Int)=ch.many
 |[],_,_,b,ch,l,a,_=>by simp at a|_::_,[],_,b,ch,l,_,a=>by simp at a|c::e,x::f,a,b,ch,l,h1,h2=>by
  rw[Xy]at a;split at a
  .rename_i g;rcases b with _|b
   .grind
   .exact bH a b ch l zC9 (by simpa using h2)
  .cases a
theorem Xz:∀{e:List Bc} {f:List Av},Ph e f=X->∀(b:Nat) d Bn,e[b]?=J d->f[b]?=J Bn->wY d Bn=X
 |[],_,_,b,d,Bn,a,_=>by simp at a|_::_,[],_,b,d,Bn,_,a=>by simp at a|c::cs,x::ls,a,b,d,Bn,h1,h2=>by
  rw[Ph]at a;split at a
  .rename_i g;rcases b with _|b
   .grind
   .exact Xz a b d Bn zC9 (by simpa using h2)
  .cases a
theorem kD{c:Aa}{a:List Av}(b:S0 c a=X):WU c a:=by simp[S0]at b;obtain⟨e,f,_⟩:=b;refine⟨e,λd j i h g=>?_⟩;have k:=Xz f d j i h g;grind [wY,rB,bH]
theorem uk(b:List Av):M4 b b:=⟨rfl,λd h v c a=>by rw[c]at a;cases a;exact⟨rfl,rfl,rfl,λe f g c a=>by grind⟩⟩
section
variable{p:Aa}{c:Al}{D:List BG}{e:Al}{g:S}{B:u}{V:TV}{a:u}
theorem AI4(s:Ar p c)(F:DY p c D e g B V)(L:Sa a B V){h:List Av}(o:Nu h):
 ∃az a',kT (.fn 140) [.ptr B 0,De h] g a X (J a)=.ok (az,a')/\az=.ret (.d (.bool (S0 p h))):=by
 have a0:=L B zCR;have bn:=AN a0;have bo:=Aw a0;have bs:=F.box;have ar:=s.small;simp[Aa.small]at ar;obtain⟨_,b2,bv⟩:=ar;have ag:=mM (uk h) o;have⟨R,n⟩:=Cv (S0 p h);rw[<-n];rw[S0]at n;refine mY ?_ F L s o;clear F L s o;intro F L s o;by_cases v:U h=U p.defs
 .rw[F8 v,I4]at n;have T:((U h:Int)=(U p.defs:Int)):=z;replace v:=AB v;have⟨K,Q⟩:=Cv (Cy nH h h);rw[<-Q]at ag n;replace n:=AB n;replace Q:=AB Q;refine Ba func140 ?_;refine ax ?_;refine Ah p.defs (B2:=λj (w:S×Nat)=>⟨[(1,De h),(23,.d (.co (p.defs.map Br))),(24,nI (U p.defs)),(25,nI j)],w.1,w.2,[]⟩)
   (Inv:=λj W _=>AR ((Ph W (h.drop j)&&K)=R)) (b0:=(_,_)) ⟨n.1.symm⟩ ?_ ?_
  .rintro j d ⟨H,b⟩ be ad bh O a1;have b4:TC.wrap ((j:Int)+1)=(j:Int)+1:=w_ z z;have⟨Bn,hT2⟩:=g_ (l:=h) (i:=j) (by rw[v.1];exact ad);have bx:(j:Int)<U h:=by have:=l_ hT2;omega
   have f:=O.1;rw[EJ hT2,Ph,wY,rB]at f;have a6:=(Bd s.1 be).ok;have ai:=o.1.2 Bn (AP hT2);have bl:=a6.ac;have b3:∀av,¬b+3+av=b:=λav=>z;replace ai:=AB ai;replace T:=AB T;by_cases k:U Bn.ac=U d.ac
   .have a4:((U Bn.ac:Int)=(U d.ac:Int)):=z;by_cases q:U Bn.rules=U d.rules
    .have a5:((U Bn.rules:Int)=(U d.rules:Int)):=z;by_cases r:U Bn.args=U d.ac
     .have x:((U Bn.args:Int)=(U d.ac:Int)):=z;rw[F8 k,F8 q,F8 r]at f;simp only[I4]at f;refine mY ?_ k q r f;clear k q r f;intro k q r f
      (repeat' (first|simp only[*,go_sem,AM,D2,DO]|(refine sx ?_ ?_<;>intro t)|refine sy z λY M o=>?_|simp(disch:=first|assumption|omega) only[Ae]))
      refine GK λaa N=>?_;have M:aa.get (0::(b+4)::a)=J (.box [.d (.co (d.ac.map BR)),.d (.co (d.be.map BD)),.d (.co (d.rules.map BN))]):=by rw[N];simp only[go_sem,DO,AM]
      replace N:=AB N;have⟨B2,m⟩:=Cv (Xy d.ac Bn.args);rw[<-m]at f;replace x:=AB x;refine CR Bn.args (U d.ac:Int) (B2:=λbk l (w:Nat)=>⟨[(1,De h),(6,.ptr (0::(b+4)::a) 0),(23,.d (.co (p.defs.map Br))),(24,nI (U p.defs)),(25,nI j),(60,.d (.co (Bn.args.map Eu))),(61,nI bk),(62,nI l)],aa,w,[]⟩)
       (Inv:=λl W _=>AR (Xy (d.ac.drop l) W=B2)) (b0:=_) x.1.symm ⟨m.symm⟩ ?_ ?_
      .rintro l bi a3 b1 t bc P a2;have b5:TC.wrap ((l:Int)+1)=(l:Int)+1:=w_ z z;have⟨ch,hch⟩:=g_ (l:=d.ac) (i:=l) (by have:=r.1;omega);have b0:(l:Int)<U Bn.args:=z;have i:=P.1;rw[EJ hch,Xy]at i;by_cases ac:(U bi:Int)=ch.many
       .rw[F8 ac,D3 rfl]at i;replace i:=AB i;replace m:=AB m;exact ax (a2.1 _ i)
       .rw[GC ac,Co Ad]at i;have C:R=false:=by have:=f.1;rw[<-i]at this;simpa using this.symm
        rw[C];refine Nm ?_ C i m;clear C i m;intro C i m;exact af
      .rintro l a3 t bc P;have i:B2=true:=by have:=P.1;rw[<-this];cases d.ac.drop l<;>rfl
       have A:(Ph (p.defs.drop (j+1)) (h.drop (j+1))&&K)=R:=by have:=f.1;rw[i]at this;simpa using this
       refine Nm ?_ i A m;clear i A m;intro i A m;exact ax (a1.1 (_,_) A)
     .have x:¬((U Bn.args:Int)=(U d.ac:Int)):=z;rw[GC r]at f;simp only[I5,Es,AM,Gs]at f;rw[<-f];refine Nm ?_ k q f;clear k q f;intro k q f
      exact zAa
    .have a5:¬((U Bn.rules:Int)=(U d.rules:Int)):=z;rw[GC q]at f;simp only[I5,Es,AM,Gs]at f;rw[<-f];replace k:=AB k;replace f:=AB f
     exact zAa
   .have a4:¬((U Bn.ac:Int)=(U d.ac:Int)):=z;rw[GC k]at f;simp only[Es,AM,Gs]at f;rw[<-f];replace f:=AB f
    exact zAa
  .rintro j ⟨H,b⟩ ad bh O;have f:=O.1;rw[Ph]at f
   .rw[I4]at f;rw[<-f];replace f:=AB f;exact af
   grind
 .rw[GC v,Es]at n;have T:¬((U h:Int)=(U p.defs:Int)):=z;subst n;clear ag;refine Ba func140 ?_;exact af
end
section
variable{p:Aa}{a:Al}{D:List BG}
def qK(p:Aa)(D:List BG)(c:Int):Prop:=∀a∈den D c,0<=a.2.1/\0<=a.2.2/\∃d b,p.defs[a.2.1.toNat]?=J d/\d.ac[a.2.2.toNat]?=J b
theorem ADs(l:Ar p a)(k:Gd p a D){e:Int}{i:CF}(j:0<=e)(f:p.nodes[e.toNat]?=J i)(g:qK p D e){h:Int}(m:h∈Ht p e):qK p D h:=by
 unfold qK;rw[eK k j f (Kz.2 m),Z1,f];dsimp only;split
 .rename_i n;have⟨x0,x1,_⟩:=FI l f n;have⟨d,hd⟩:=g_ (l:=p.defs) (i:=i.n.toNat) z;intro o b;rcases Ac.1 b with b|b
  .exact g o b
  .rw[HN,Ex]at b;obtain⟨q,c,rfl⟩:=b;have c:=PI.1 c;rw[hd]at c;simp at c;have⟨ch,hch⟩:=g_ (l:=d.ac) (i:=q) c;grind
 .exact g
def aZ(i:Ar p a)(h:Gd p a D):∀{g:Nat} {e f:Int},VT p g e->qK p D e->f∈E7 p g e->qK p D f
 |0,e,f,c,_,_=>c.elim|g+1,e,f,c,hk,b=>by
  rw[E7]at b;rcases Cs.1 b with rfl|b
  .exact hk
  .have⟨q,hq,b⟩:=BI.1 b;have⟨x,hx⟩:=c.2.1;exact aZ i h (c.2.2 q hq) (ADs i h c.1 hx hk hq) b
theorem eJ(i:Ar p a)(e:FY p)(c:Gd p a D):gy p D:=λg m h j=>by
 have f:=jc j;have key:∀b:Nat,b<U p.nodes->qK p D b:=λb n=>aZ i c e.main (by unfold qK;rw[c.main];intro o l;cases l) (e.all b (ID b) z);by_cases k:g.toNat<U p.nodes
 .have:=key g.toNat k (m,h) (by grind [den]);exact this
 .rw[den,OF.2 (by rw[c.len];omega)]at f;cases f
def nD(b:List y):List u:=b.map λa=>match a with|.mp m=>m|_=>[]
theorem dY.text{k:S}{B N:u}{q:y}{b:List y}{o:Al}{M:u->Prop}(g:dY p a D k B N q b o M)(s:∀c:Nat,c<U p.nodes->Fl b c):DY p a D o k B ⟨N,nD b,q⟩:=by
 have t:∀c:Nat,∀f,b[c]?=J f->∃i,f=.mp i:=λc f h=>by have⟨i,j⟩:=s c (by rw[<-g.len];exact l_ h);grind
 have r:b.map (λf=>[f])=(nD b).map λi=>[.mp i]:=by
  apply Lt;intro v;rw[BY,BY,nD,BY];rcases h:b[v]? with _|f
  .rfl
  .grind
 have n:(nD b).length=U b:=by simp[nD]
 refine⟨?_,?_,n.trans g.len,λc i j=>?_,?_⟩
 .rw[n];exact g.box
 .rw[<-r];exact g.arr
 .rw[nD,BY]at j;have⟨f,h,e⟩:=Be.1 j;obtain⟨x,rfl⟩:=t c f h;dsimp only at e;subst e;exact(g.maps c x h).2
 .rcases g.hd with⟨l,m⟩|⟨w,l,m⟩
  .exact .inr ⟨l,by rw[m];rfl⟩
  .exact .inl (.inr ⟨w,[],by grind,by grind⟩)
def vZ(p:Aa)(a:Al)(D:List BG)(f:u)(c:BC×S):Prop:=∃B V b,c.1=.ret (.ptr B 0)/\DY p a D b c.2 B V/\Ml p b/\∀e∈V.ids B,AD f e=X
theorem ma(e:G)(b:u)(a:Nat)(h:0<a)(i:a<=1073741824):GX e b a vG=J ⟨.ii (1::b) 0 a,[(1::b,.arr 1 (TL a [.d .nilm]))]⟩:=by
 obtain⟨c,rfl⟩:∃c,a=c+1:=⟨a-1,z⟩;have g:Fb 1 (TL (c+1) [y.d .nilm])=true:=by rw[<-ME];rw[EM];intro j f;rw[(I0.1 f).2];rfl
 show newArr e b vG (TL (c+1) [.d .nilm])=_;grind [Qw,ke,BO,Ux]
def AOM{a:Al}(g:U a=U p.defs)(e:∀b:Int,0<=b->b<U p.nodes->Hd p a b):Ml p a:=⟨g,λi j f c h=>e i f (by have:=l_ c;omega) j c h⟩
def bq:LZ [] []:=⟨λi=>by simp[Bs,Ir],rfl,AG⟩
def oj{j:Bo}(Y:Ar p j.em)(o:FY p){f l:Nat}{g:u}{B N:u}{k:y}{C n:S}{x:List y}{H:Al}{M:u->Prop}{w:BC}(Q:AD (f::g) B=X)(V:AD (f::g) N=X)(R:∀b∈AE k,AD (f::g) b=X)(T:∀b,M b->AD (f::g) b=X)(q:G0 (l::f::g) B N k M)(D:vW p j.em (DW p j.em) B N k (l::f::g) C x H M (E7 p (U p.nodes+1) p.main) w n):w=.ret (.kw [])/\vZ p j.em (DW p j.em) (f::g) (.ret (.ptr B 0),gc (l::f::g) n):=by
 obtain⟨F,A,K,W,i,aa,P,ac,ad,ag,t⟩:=D;refine⟨F,B,⟨N,nD A,k⟩,K,rfl,?_,AOM i.hlen λb L O=>(t b (o.all b L O)).2,λb a=>?_⟩
 .refine(i.mono (g':=gc (l::f::g) n) λb a=>?_).text λh r=>(t h (o.all h (ID h) z)).1;rcases a with a|a|a|a
  .exact An _ _ _ (q.all (.inl a))
  .exact An _ _ _ (q.all (.inr (.inl a)))
  .exact An _ _ _ (q.all (.inr (.inr (.inl a))))
  .obtain⟨ai,rfl⟩:=i.tag b a;exact E1 _ _ _
 .simp[TV.ids]at a;rcases a with rfl|rfl|a|a
  .exact Q
  .exact V
  .obtain⟨h,r⟩:=Ci a;rw[nD,BY]at r;have⟨c,hc,e⟩:=Be.1 r;have⟨m,v⟩:=(t h (o.all h (ID h) (by have:=l_ hc;rw[i.len]at this;omega))).1;rw[F2,hc]at v;cases v;subst e;rcases P _ (i.maps h _ hc).1 with s|s
   .exact T _ s
   .exact s.out.up
  .exact R b a
theorem xV{g:Bo}(n:∀O∈p.free,O.size<=maxLen)(k:looks p=J g)(a:Nat)(b:u):∃x,Bk kT 131 [pA p] (a::b)=.ok x/\vZ p g.em (DW p g.em) (a::b) x:=by
 have h:=EZ k;have f:=OM k;have i:=Qg f g.em;have w:=ACx p n;rw[k]at w;simp[Og]at w;have v:=h.small;simp[Aa.small]at v;obtain⟨_,T,Q⟩:=v;have R:0<U p.nodes:=by have:=f.main;obtain⟨P,⟨A,t⟩,_⟩:=this;have:=l_ t;omega
 have V:(0:Int)<U p.nodes:=z;refine aB ?_ h f i n k;clear h f i n k;intro h f i n k;by_cases K:U p.defs=0
 .refine W7 func131 ?_
  (repeat' (first|simp only[*,go_sem]|(refine sx ?_ ?_<;>intro F)|refine sy z λA t s=>?_|simp(disch:=first|assumption|omega) only[Ae,Dd,ma]))
  have q:cN (0::12::a::b) (1::6::a::b) .emp:=⟨AG,Ay,Ay⟩;have l:G0 (27::a::b) (0::12::a::b) (1::6::a::b) .emp λe=>e=1::26::a::b:=⟨Fm 27 0 12 (a::b) z,Fm 27 1 6 (a::b) z,λe c=>(by cases c),λe c=>(by grind [Fm]),AG,AG,λe c=>(by cases c)⟩;have r:∀H,H.get (0::12::a::b)=J (.box [.d (.co (p.free.map CB)),.d (.co (p.nodes.map Bg)),.d (.co (p.defs.map Br)),nI p.main,.ii (1::6::a::b) 0 (U p.nodes),.d (.co (g.em.map AX)),.emp])->H.get (1::6::a::b)=J (.arr 1 (TL (U p.nodes) [.d .nilm]))->dY p g.em (DW p g.em) H (0::12::a::b) (1::6::a::b) .emp (TL (U p.nodes) (.d .nilm)) [] λe=>e=1::26::a::b:=λH C o=>by refine⟨by grind,by rw[o,Lc],AG,λM L s=>?_,.inl ⟨rfl,rfl⟩,by simp[K],λe c=>⟨_,c⟩⟩;grind
  refine Ak (eZ h.1 f.1 i.1 q _ f.1.main _ _ _ _ _ _ [] (r _ ?_ ?_) l rfl ?_ (by rw[i.1.main];exact bq)) (λN B m=>?_)
  .simp only[go_sem]
  .simp only[go_sem]
  .simp only[go_sem]
  obtain⟨rfl,j⟩:=oj h.1 f.1 (Ao [0,12]) (Ao [1,6]) (λe c=>by cases c) (λe c=>by subst c;exact Ao [1,26]) l m;clear m;replace j:=AB j;exact aw j.1
 .refine W7 func131 ?_
  (repeat' (first|simp only[*,go_sem]|(refine sx ?_ ?_<;>intro F)|refine sy z λA t s=>?_|simp(disch:=first|assumption|omega) only[Ae,Dd,ma]))
  have q:cN (0::12::a::b) (1::6::a::b) (.ii (1::10::a::b) 0 (U p.defs)):=⟨AG,Ay,Ay⟩;have l:G0 (27::a::b) (0::12::a::b) (1::6::a::b) (.ii (1::10::a::b) 0 (U p.defs)) λe=>e=1::26::a::b:=⟨Fm 27 0 12 (a::b) z,Fm 27 1 6 (a::b) z,λe c=>(by grind [AE,Fm]),λe c=>(by grind [Fm]),AG,AG,λe c=>(by grind [AE])⟩;have r:∀H,H.get (0::12::a::b)=J (.box [.d (.co (p.free.map CB)),.d (.co (p.nodes.map Bg)),.d (.co (p.defs.map Br)),nI p.main,.ii (1::6::a::b) 0 (U p.nodes),.d (.co (g.em.map AX)),.ii (1::10::a::b) 0 (U p.defs)])->H.get (1::6::a::b)=J (.arr 1 (TL (U p.nodes) [.d .nilm]))->H.get (1::10::a::b)=J (.f9 1 ((TL (U p.defs) (0:Int)).map AX))->dY p g.em (DW p g.em) H (0::12::a::b) (1::6::a::b) (.ii (1::10::a::b) 0 (U p.defs)) (TL (U p.nodes) (.d .nilm)) (TL (U p.defs) 0) λe=>e=1::26::a::b:=λH C o D=>by refine⟨by grind,by rw[o,Lc],AG,λM L s=>?_,.inr ⟨_,by rw[HU],D⟩,AG,λe c=>⟨_,c⟩⟩;grind
  refine Ak (eZ h.1 f.1 i.1 q _ f.1.main _ _ _ _ _ _ [] (r _ ?_ ?_ ?_) l rfl ?_ (by rw[i.1.main];exact bq)) (λN B m=>?_)
  .simp only[go_sem]
  .simp only[go_sem]
  .simp only[go_sem]
  .simp only[go_sem]
  obtain⟨rfl,j⟩:=oj h.1 f.1 (Ao [0,12]) (Ao [1,6]) (λe c=>by simp[AE]at c;subst c;exact Ao [1,10]) (λe c=>by subst c;exact Ao [1,26]) l m;clear m;replace j:=AB j;exact aw j.1
end
def XD(e:S)(a:y)(b:List Av)(W:List u):Prop:=(a=De b/\W=[])\/∃c,La e a c b/\W=AE a++c.flatMap Ab
def RZ(g:S)(W:List u)(H:S):Prop:=∀i∈W,H.get i=g.get i
variable{g:S}{v:y}
theorem AKY{a:List (List Au)}(b:UF g 1 v a):Fq g.get v=J (.co a):=by
 rcases b with(⟨rfl,rfl⟩|⟨e,f,rfl,c⟩)|⟨rfl,rfl⟩
 .rfl
 .grind [Fq,Kd]
 .rfl
theorem AIS{b:List (List Au)}(a:gU g v b):Fq g.get v=J (.co b):=by
 rcases a with rfl|a
 .rfl
 .exact AKY a
theorem QE{g:S}:∀{rows:List (List y)} {T:List Av},U rows=U T->(∀(c:Nat) a b,rows[c]?=J a->T[c]?=J b->Zc g a b)->EC g.get rows=J (T.map jr)
 |[],[],_,_=>rfl|[],_::_,h,_=>by simp at h|_::_,[],h,_=>by simp at h|a::rows,b::T,h,he=>by obtain⟨j,o,i,rfl,k,l,m⟩:=he 0 a b rfl rfl;have n:=QE (g:=g) (rows:=rows) (T:=T) zCV λc a b e f=>he (c+1) a b zC3 zCt;grind [EC,ER,AIS,jr]
theorem QO{e:List (List y)}{b:List Av}(a:La g v e b):FA g.get v=J (De b):=by
 rcases a.arr with⟨rfl,c⟩|⟨i,rfl,h⟩
 .have:=a.len;rw[c]at this;rw[CI this.symm];rfl
 .have f:=QE a.len a.each;grind [FA,Ds,Kd]
variable{H:S}{a:y}{W:List u}
theorem XD.mono{c:List Av}(b:XD g a c W)(f:RZ g W H):XD H a c W:=by
 rcases b with b|⟨h,e,rfl⟩
 .exact .inl b
 .exact .inr ⟨h,e.mono f,rfl⟩
def XD.frz{b:List Av}(c:XD g a b W):FA g.get a=J (De b):=by
 rcases c with⟨rfl,_⟩|⟨f,e,_⟩
 .rfl
 .exact QO e
theorem AA1(e:∀a∈AE v,H.get a=g.get a):JF H.get v=JF g.get v:=by cases v with|ii f c b=>grind [JF,AE]|_=>rfl
theorem tI:∀{l:List y},(∀i∈Ab l,H.get i=g.get i)->Ca H.get l=Ca g.get l
 :=by intro x;induction x<;>grind [Ca,AA1,Ab]
theorem XD.mark{j:List Av}(l:XD g a j W)(h:RZ g W H):Abs.mark H.get a=Abs.mark g.get a:=by
 rcases l with⟨rfl,_⟩|⟨v,f,rfl⟩
 .rfl
 .have A:=h;rcases f.arr with⟨rfl,x⟩|⟨s,rfl,m⟩
  .rfl
  .have o:=h s Ay;simp[Abs.mark,L6,Cj,o,m];rw[QE f.len f.each,QE (g:=H) f.len λe b w c r=>(f.each e b w c r).mono λt p=>h t (Ac.2 (.inr (BI.2 ⟨b,AP c,p⟩)))];have:∀i:List (List y),(∀b∈i,∀e∈Ab b,H.get e=g.get e)->i.flatMap (Ca H.get)=i.flatMap (Ca g.get):=λi q=>X2 λb c=>tI (q b c);have k:=this v λb c e n=>h e (Ac.2 (.inr (BI.2 ⟨b,c,n⟩)));dsimp only;rw[k]
theorem AFl{g:G}:∀a∈JF g v,a.1∈AE v:=λa c=>by cases v with|ii f e b=>grind [JF,AE]|_=>cases c
theorem DS{i:u}:∀{l:List y} {v:y},v∈l->i∈AE v->i∈Ab l
 :=by intro x;induction x<;>grind [Ab]
theorem XD.mark_in{f:List Av}(h:XD g a f W):∀e∈Abs.mark g.get a,e.1∈W:=λe b=>by
 rcases h with⟨rfl,_⟩|⟨l,c,rfl⟩
 .cases b
 .rcases c.arr with⟨rfl,j⟩|⟨k,rfl,i⟩
  .cases b
  .simp only[Abs.mark,L6,F0,NL,CS,Cj,i,QE c.len c.each]at b;rcases Cs.1 b with rfl|b
   .simp[AE]
   .have⟨r,hr,b⟩:=BI.1 b;have⟨v,hv,b⟩:=BI.1 b;grind [DS,AFl]
theorem P9{a:u}:∀{b H:S},(∀c∈b,c.1≠a)->(H.puts b).get a=H.get a
 |[],H,_=>rfl|(k,o)::b,H,h=>by show((H.put k o).puts b).get a=_;rw[P9 λc e=>h c (By _ e),BW _ _ (h (k,o) (CO ..)).symm]
def CU(G:S)(v:y)(a:Al):Prop:=((v=.d8\/v=.emp)/\a=[])\/∃b,v=.ii b 0 (U a)/\G.get b=J (.f9 1 (a.map AX))
variable{h:S}{l:Al}
theorem CU.mono{G:S}(a:CU G v l)(e:∀b∈AE v,h.get b=G.get b):CU h v l:=by
 rcases a with a|⟨c,rfl,a⟩
 .exact .inl a
 .exact .inr ⟨c,rfl,by grind [AE]⟩
structure ZZ(G:S)(ρ:u)(b:Nat)(vs:List y)(L:List Al):Prop:=
 len:U vs=U L
 each:∀(c:Nat) v l,vs[c]?=J v->L[c]?=J l->CU G v l
 new:∀i∈Ab vs,∃m,16<=m/\m<b/\i=1::m::ρ
 nd:(Ab vs).Nodup
variable{b b':Nat}{L:List Al}
theorem ZZ.mono{G:S}{i:u}{f:List y}(c:ZZ G i b f L)(o:b<=b')(k:∀a∈Ab f,h.get a=G.get a):ZZ h i b' f L:=⟨c.len,λj v l g n=>(c.each j v l g n).mono λa e=>k a (DS (AP g) e),λa e=>by have⟨m,h1,h2,h3⟩:=c.new a e;grind,c.nd⟩
theorem Ps{i:u}:∀{l:List y} {c:Nat} {v:y},i∈Ab (l.set c v)->i∈AE v\/i∈Ab l
 |[],c,v,h=>by cases h|w::l,0,v,h=>by grind [Ab]|w::l,c+1,v,h=>by
  rw[List.set_cons_succ,Ab,Ac]at h;rcases h with h|h
  .grind [Ab]
  .rcases Ps h with h|h
   .exact .inl h
   grind [Ab]
theorem R3:∀{l:List y} {a:Nat} {v:y},(Ab l).Nodup->(AE v).Nodup->(∀c∈AE v,c∉Ab l)->(Ab (l.set a v)).Nodup
 |[],a,v,h,_,_=>h|w::l,0,v,h,hv,hd=>by grind [Ab]|w::l,a+1,v,h,hv,hd=>by
  rw[Ab,D0]at h;rw[List.set_cons_succ,Ab,D0];refine⟨h.1,R3 h.2.1 hv λc f b=>hd c f (by grind [Ab]),λj g k i e=>?_⟩;rcases Ps i with b|b
  .grind [Ab]
  .exact h.2.2 j g k b e
theorem ZZ.set{G:S}{n:u}{m:List y}(f:ZZ G n b m L)(x:b<=b'){c:Nat}(A:CU h v l)(t:∀a∈AE v,∃e,b<=e/\16<=e/\e<b'/\a=1::e::n)(q:(AE v).Nodup)(s:∀a∈Ab m,h.get a=G.get a):ZZ h n b' (m.set c v) (L.set c l):=by
 refine⟨by simp[f.len],λo w e i k=>?_,λa j=>?_,R3 f.nd q λa g p=>?_⟩
 .rw[F7]at i k;by_cases r:c=o
  .grind
  .rw[Co r]at i k;exact(f.each o w e i k).mono λa j=>s a (DS (AP i) j)
 .rcases Ps j with g|g
  .grind
  .have⟨e,p,h3,h4⟩:=f.new a g;grind
 .obtain⟨e,B,_,_,rfl⟩:=t a g;have⟨m2,_,q2,q3⟩:=f.new _ p;grind
def YH:∀{b:List y} {e f:Nat} {v c:y} {a:u},(Ab b).Nodup->b[e]?=J v->b[f]?=J c->a∈AE v->a∈AE c->e=f
 |[],e,f,v,c,a,_,h,_,_,_=>by simp at h|x::b,0,0,v,c,a,_,_,_,_,_=>rfl|x::b,0,f+1,v,c,a,hn,h1,h2,h3,h4=>by simp at h1 h2;subst h1;rw[Ab,D0]at hn;exact absurd rfl (hn.2.2 a h3 a (DS (AP h2) h4))|x::b,e+1,0,v,c,a,hn,h1,h2,h3,h4=>by simp at h1 h2;subst h2;rw[Ab,D0]at hn;exact absurd rfl (hn.2.2 a h4 a (DS (AP h1) h3))|x::b,e+1,f+1,v,c,a,hn,h1,h2,h3,h4=>by simp at h1 h2;rw[Ab,D0]at hn;rw[YH hn.2.1 h1 h2 h3 h4]
theorem ZZ.put{G:S}{r:u}{b b':Nat}{k:List y}{L:List Al}(c:ZZ G r b k L)(B:b<=b'){g:Nat}{j:u}{l n:Al}(p:k[g]?=J (.ii j 0 (U l)))(w:L[g]?=J l)(x:U n=U l){h:S}(t:h.get j=J (.f9 1 (n.map AX)))(v:∀a∈Ab k,a≠j->h.get a=G.get a):ZZ h r b' k (L.set g n):=by
 refine⟨by simp[c.len],λo A q f e=>?_,λa i=>?_,c.nd⟩
 .rw[F7]at e;by_cases m:g=o
  .subst m;rw[D3 rfl,D3 (l_ w)]at e;cases e;rw[p]at f;cases f;exact .inr ⟨j,by rw[x],t⟩
  .rw[Co m]at e;refine(c.each o A q f e).mono λa i=>v a (DS (AP f) i) λs=>m ?_;subst s;exact YH c.nd p f Ay i
 .have⟨q,h1,h2,h3⟩:=c.new a i;grind
structure Ra(p:Aa)(sz:Al)(D:List BG)(hs:Al)(g:S)(B:u)(V:TV)(ρ:u)(tv:y)(T:List Av)(W:List u)(dn:Nat)(d:Bc):Prop:=
 fo:Ar p sz
 tree:FY p
 den:Gd p sz D
 rep:DY p sz D hs g B V
 ap:Sa ρ B V
 shp:WU p T
 tab:XD g tv T W
 wu:∀i∈W,AD ρ i=Z
 dis:∀i∈V.ids B,i∉W
 ip:p.defs[dn]?=J d
 hds:Ml p hs
section
variable{p:Aa}{j:Al}{D:List BG}{i:Al}{g:S}{B:u}{V:TV}{e:u}{m:y}{T:List Av}{W:List u}{f:Nat}{d:Bc}
def Ra.text(b:Ra p j D i g B V e m T W f d){H:S}(h:∀a,AD e a=Z->a∉W->H.get a=g.get a):DY p j D i H B V:=b.rep.mono λa c=>h a (b.ap a c) (b.dis a c)
def Ra.head(b:Ra p j D i g B V e m T W f d):∃k a h,i[f]?=J k/\0<=k/\p.nodes[k.toNat]?=J a/\a.op=4/\a.n=(f:Int)/\j[k.toNat]?=J h/\0<=h/\h<=5000:=by have⟨c,a,hx,ho,hn⟩:=b.fo.used f (l_ b.ip);have⟨h,l,i,h0,h1,_⟩:=b.fo.node c a hx;have o:=(FI b.fo hx ho).1;have n:a.n=(f:Int):=z;have:=b.hds.at_ (c:Int) a (ID c) hx ho;rw[hn]at this;exact⟨c,a,h,this,ID c,hx,ho,n,i,h0,h1⟩
variable{n:Int}
def Ra.sends(a:Ra p j D i g B V e m T W f d)(o:0<=n)(q:n<U p.nodes)(h:Int)(c:Nat)(H:S)(r:∀b,AD e b=Z->b∉W->H.get b=g.get b):
 ∃k l,kT (.fn 196) [.ptr B 0,De T,nI n,nI h] H (c::e) X (J (c::e))=.ok (k,l)/\k=.ret (nI (sS p T D n h)):=
 ZE a.fo a.shp (eJ a.fo a.tree a.den) a.den.len h _ (a.tree.dep n o q) H (c::e) (a.text r) (a.ap.ext c)
theorem Ra.inner(h:Ra p j D i g B V e m T W f d){t:CF}(v:0<=n)(o:p.nodes[n.toNat]?=J t)(q:t.op=4)(l:Int)(k:Nat)(H:S)(M:∀s,AD e s=Z->s∉W->H.get s=g.get s):
 ∃x F,kT (.fn 193) [.ptr B 0,De T,nI n,nI l] H (k::e) X (J (k::e))=.ok (x,F)/\x=.ret (nI (sS p T D n l)):=by
 have R:=l_ o;have⟨d2,hdd,a,b,c⟩:=(Ky h.fo o).defn q;have w:=(Bd h.fo hdd).ok;have O:=(FI h.fo o q).1;have N:=(h.tree.dep n v z).2.2;have C:sS p T D n l=Ka (λr=>CT p T D (U p.nodes) r l) p T t:=by rw[sS,CT,o];dsimp only;rw[Co z,Co z,Co z,Co z,D3 q]
 rw[C];exact ln (T:=T) (pl:=l) (f:=λr=>CT p T D (U p.nodes) r l) (h.text M) (h.ap.ext k) h.shp v o (Wj h.fo o (.inr (.inr (.inr (.inr q)))) (k:=0) (by simp[q])) O hdd (by have:=w.be;omega) (by have:=w.rules;omega) λr Q=>⟨Js ..,λA P K L=>ZE h.fo h.shp (eJ h.fo h.tree h.den) h.den.len l _ (N r (by grind)) A P K L⟩
theorem Ra.place(k:Ra p j D i g B V e m T W f d){h:Int}(s:i[f]?=J n)(q:0<=n)(v:j[n.toNat]?=J h){c:Int}(t:i64 (h+c))(b:Nat)(H:S)(r:∀a,AD e a=Z->a∉W->H.get a=g.get a):
 ∃l o,kT (.fn 137) [.ptr B 0,nI f,nI c] H (b::e) X (J (b::e))=.ok (l,o)/\l=.ret (nI (h+c)):=
 VK (k.text r) (k.ap.ext b) (ID f) s q v t
def RK(G:S)(e:u)(b:Nat)(v:y)(l:Al):Prop:=(v=.d8/\l=[])\/∃m,v=.ii (1::m::e) 0 (U l)/\16<=m/\m<b/\G.get (1::m::e)=J (.f9 1 (l.map AX))
variable{b:Nat}{v:y}{l:Al}
theorem RK.mono{G h:S}{e:u}{b':Nat}(a:RK G e b v l)(k:b<=b')(m:∀c∈AE v,h.get c=G.get c):RK h e b' v l:=by
 rcases a with a|⟨g,rfl,f,i,j⟩
 .exact .inl a
 .exact .inr ⟨g,rfl,f,z,by grind [AE]⟩
theorem RK.ids{G:S}{e:u}(f:RK G e b v l):∀c∈AE v,∃a,16<=a/\a<b/\c=1::a::e:=λc g=>by
 rcases f with⟨rfl,_⟩|⟨a,rfl,h,i,j⟩
 .cases g
 grind [AE]
structure LV(g:S)(ρ:u)(d:Bc)(G:S)(b:Nat)(cv rv:y)(CL RL:Al)(vs:List y)(L:List Al):Prop:=
 b0:G.get (0::0::ρ)=J (.box [.d8,.d8,.d8])
 b9:G.get (0::9::ρ)=J (.box [.d (.co (d.ac.map BR)),.d (.co (d.be.map BD)),.d (.co (d.rules.map BN))])
 b11:G.get (0::11::ρ)=J (.box [cv,rv,.d8])
 arr:G.get (1::15::ρ)=J (.arr 1 (vs.map λv=>[v]))
 args:ZZ G ρ b vs L
 cvm:RK G ρ b cv CL
 rvm:RK G ρ b rv RL
 dj:(AE cv++(AE rv++Ab vs)).Nodup
 fr:∀i,AD ρ i=Z->G.get i=g.get i
 base:16<=b
def FX(e:u)(b b':Nat)(l:List u):Prop:=∀i∈l,∃m,b<=m/\m<b'/\i=1::m::e
theorem Hq{e:u}{c a:Nat}(h:a<b):KS e b (c::a::e):=λf j i g=>by grind
theorem LV.chan{g:S}{e:u}{d:Bc}{G h:S}{b b':Nat}{F r cv' v':y}{V D C:Al}{s:List y}{L:List Al}{w:Nat}{l:Al}(k:LV g e d G b F r V D s L)(N:b<=b')(pm:∀a,KS e b a->a≠0::11::e->a≠1::15::e->a∉AE F->h.get a=G.get a)(W:h.get (0::11::e)=J (.box [cv',r,.d8])) (arr:h.get (1::15::e)=J (.arr 1 ((s.map λv=>[v]).set w [v']))) (Y:RK h e b' cv' C) (H:FX e b b' (AE cv')) (ai:CU h v' l) (x:FX e b b' (AE v')) (Q:(AE cv'++AE v').Nodup):LV g e d h b' cv' r C D (s.set w v') (L.set w l):=by
 have a2:=k.base;have O:=k.dj;rw[D0]at O;obtain⟨a1,K,M⟩:=O;rw[D0]at K;obtain⟨aa,ac,ad⟩:=K;rw[D0]at Q;obtain⟨az,P,a0⟩:=Q;have R:∀{a:u} {j:Nat},j<b->a=1::j::e->KS e b a:=λag c=>c▸Hq ag;have ar:∀a∈Ab s,h.get a=G.get a:=λa i=>by have⟨j,m1,m2,c⟩:=k.args.new a i;exact pm a (R m2 c) (λm=>by rw[c]at m;simp at m) (λm=>by grind) λf=>M a f a (Ac.2 (.inr i)) rfl
 have av:∀a∈AE r,h.get a=G.get a:=λa i=>by have⟨j,m1,m2,c⟩:=k.rvm.ids a i;exact pm a (R m2 c) (λm=>by rw[c]at m;simp at m) (λm=>by grind) λf=>M a f a (Ac.2 (.inl i)) rfl
 have T:∀n,n<16->n≠11->h.get (0::n::e)=G.get (0::n::e):=λn a3 f=>pm _ (Hq z) (by simp;exact f) AG λq=>by have⟨j,_,_,c⟩:=k.cvm.ids _ q;simp at c
 have t:∀{a:u},(∃j,b<=j/\j<b'/\a=1::j::e)->(a∉AE r/\a∉Ab s):=λ⟨j,q1,q2,c⟩=>by
  refine⟨λf=>?_,λf=>?_⟩
  .have⟨m2,_,q3,m⟩:=k.rvm.ids _ f;grind
  .have⟨m2,_,q3,m⟩:=k.args.new _ f;grind
 refine⟨(T 0 z z).trans k.b0,(T 9 z z).trans k.b9,W,by rw[arr,I2],k.args.set N ai (λa i=>?_) P ar,Y,k.rvm.mono N av,?_,λa i=>(pm a (OX i _) (λc=>?_) (λc=>?_) λf=>?_).trans (k.fr a i),z⟩
 .have⟨j,q1,q2,q3⟩:=x a i;grind
 .rw[D0];refine⟨az,?_,λp o B A c=>?_⟩
  .rw[D0];refine⟨aa,R3 ac P λa i=>(t (x a i)).2,λp o B A c=>?_⟩;rcases Ps A with f|f
   .exact(t (x B f)).1 (c▸o)
   .exact ad p o B f c
  .subst c;rcases Ac.1 A with f|f
   .exact(t (H p o)).1 f
   .rcases Ps f with q|q
    .exact a0 p o p q rfl
    .exact(t (H p o)).2 q
 .rw[c,show AD e (0::11::e)=X from Ao [0,11]]at i;cases i
 .rw[c,show AD e (1::15::e)=X from Ao [1,15]]at i;cases i
 .have⟨j,_,_,c⟩:=k.cvm.ids _ f;rw[c,show AD e (1::j::e)=X from Ao [1,j]]at i;cases i
theorem Tv{b:Type}{A:List (List b)}{a n:Nat}{l:List b}(e:U A=n)(f:a<n)(g:A[a]?=J l):(A.take a++TL (n-a) []).set a l=A.take (a+1)++TL (n-(a+1)) []:=by have c:n-a=(n-(a+1))+1:=z;grind [List.set_append_right,List.take_add_one]
theorem bp(g:G)(a:u)(n:Nat)(f:0<n)(h:n<=1073741824):GX g a n {kind:=TK.slice,size:=1,agg:=Z,str:=Z,zero:=[y.d8],flds:=[],elem:=224,key:=0,mix:=X}=J ⟨.ii (1::a) 0 n,[(1::a,.arr 1 (TL n [.d8]))]⟩:=by
 obtain⟨b,rfl⟩:∃b,n=b+1:=⟨n-1,z⟩;have e:Fb 1 (TL (b+1) [y.d8])=true:=by rw[<-ME];rw[EM];intro i c;rw[(I0.1 c).2];rfl
 show newArr g a _ (TL (b+1) [.d8])=_;grind [Qw,ke,BO,Ux]
def dU(g:S)(e:u)(i j:Al)(h:List Al)(k:BC)(f:S):Prop:=∃b c,k=.ret (.agg [b,c,.d (.co ((h.map (·.map Fh)).map Eu))])/\UF f 1 b (i.map AX)/\UF f 1 c (j.map AX)/\(∀a∈AE b++AE c,AD e a=X/\∃l,a=1::l)/\(AE b++AE c).Nodup/\∀a,AD e a=Z->f.get a=g.get a
end
section
variable{p:Aa}{b:Al}{D:List BG}{c:Al}{g:S}{B:u}{V:TV}{a:u}{e:y}{T:List Av}{W:List u}{f:Nat}{d:Bc}
theorem pO{m:C7}{K:Af}{h:Fr}{n:Nat}{F L:L2}{b:CN}{H:S}{f:Nat}{g:List Df}{Q:DZ->St->Prop}{b8 b6:u}{c r a y1 y2 y3:y}{A6:Au}(A:h.ci=I)(p:b.get 8=.ptr b8 0)(l:b.get 6=.ptr b6 0)(v:H.get b8=J (.box [c,r,a]))(s:H.get b6=J (.box [y1,y2,y3]))(t:b6≠b8)(D:Ds H.get a=J A6)(w:c.isCell=X)(C:r.isCell=X)(x:∀j∈Cj H.get a,j.1≠b6) (B:∀k i,(∀e,(∀j∈Cj H.get a,j.1≠e)->e≠b8->e≠b6->i.get e=H.get e)->i.get b6=J (.box [c,r,.d A6])->k.get 6=.ptr b6 0->Q .ret ⟨k,i,f+2,g⟩):pN m K h n F L ⟨b,H,f,g⟩ Q (J ⟨bO,Mq⟩):=by
 have q:((H.puts (Cj H.get a)).put b8 (.box [c,r,.d A6])).get b6=J (.box [y1,y2,y3]):=by rw[BW _ _ t,P9 x,s]
 have key:Mq h ⟨b,H,f,g⟩=.ok (.ret,⟨(192,.undef)::b,((H.puts (Cj H.get a)).put b8 (.box [c,r,.d A6])).put b6 (.box [c,r,.d A6]),f+2,g⟩):=by simp[Mq,p,l,ri,v,D,sH,A,Jv,w,C];rw[p_,is_self,D3 rfl,q];simp[sQ,Jv]
 show(match Mq h ⟨b,H,f,g⟩with|.ok (o,d9)=>Q o d9|.err _=>False)
 rw[key];refine B _ _ (λe M N O=>?_) ?_ ?_
 .grind [BW,P9]
 .grind [p_,is_self]
 .exact l
def ANk(G:S)(a:u)(g f:Nat)(e:y)(c:List Al):Prop:=(e=.d8/\c=[])\/∃b,e=.ii (1::b::a) 0 (U c)/\g<=b/\b<f/\G.get (1::b::a)=J (.f9 1 (c.map Eu))
def ANl(G:S)(a:u)(g f:Nat)(e:y)(c:Al):Prop:=(e=.d8/\c=[])\/∃b,e=.ii (1::b::a) 0 (U c)/\g<=b/\b<f/\G.get (1::b::a)=J (.f9 1 (c.map AX))
theorem ANx{bx b2:Al}{H:List Al}{c:CN}(dq:c.get 6=.ptr (0::0::a) 0)(dr:c.get 8=.ptr (0::11::a) 0)(ds:c.get 9=.ii (1::15::a) 0 (U d.ac)){G:S}{s:Nat}{ac a1:y}{bv:List y}(o:LV g a d G s ac a1 bx b2 bv H)(a6:U bv=U d.ac)(d3:U d.ac<=30)(cx:∀f∈H,U f<=30):
 Wp cfg kT ⟨175,a,X,I,Z,193⟩ 0 (MH 6 (Tryz.f175.body.get rfl)) ⟨c,G,s,[]⟩ (MJ cfg I [.cell 6 112] a X (dU g a bx b2 H)):=by
 have cl:=o.b0;have cm:=o.b11;have cn:=o.arr;replace o:=AB o;replace a6:=AB a6;simp[Tryz.f175,MH];refine ax ?_;have⟨AK,ad⟩:=Cv (H.map (·.map Fh));have Q:U H=U d.ac:=by rw[<-o.1.args.len];exact a6.1
 have az:U AK=U d.ac:=by rw[ad,BV,Q]
 have cu:∀(b:Nat) f,H[b]?=J f->AK[b]?=J (f.map Fh):=λb f m=>by grind
 refine Nm ?_ ad Q az;clear ad Q az;intro ad Q az;have d2:=o.1.base;refine CR H (U d.ac:Int) (B2:=λe b (p:S×Nat)=>⟨[(6,.ptr (0::0::a) 0),(8,.ptr (0::11::a) 0),(167,.ii (1::15::a) 0 (U d.ac)),(168,nI e),(169,nI b)],p.1,p.2,[]⟩)
  (Inv:=λb df p=>AR (s<=p.2/\(∀l,KS a s l->l≠0::11::a->p.1.get l=G.get l)/\∃K,p.1.get (0::11::a)=J (.box [ac,a1,K])/\ANk p.1 a s p.2 K (AK.take b))) (b0:=(G,s+3)) (by rw[Q.1]) ⟨AZ,λ_ _ _=>rfl,.d8,cm,.inl ⟨rfl,rfl⟩⟩ ?_ ?_
 .rintro b f ⟨aa,V⟩ bn m c2 bh a4;have⟨hb1,t,K,h11,w⟩:=bh.1;dsimp only at hb1 t h11 w;have d':TC.wrap ((b:Int)+1)=(b:Int)+1:=w_ z z;have cv:=cu b f bn;have dx:=(t (1::15::a) (Hq z) AG).trans cn;have c5:b<U bv:=by rw[a6.1];omega
  have⟨F,bc⟩:=g_ c5;have d4:b<U d.ac:=by rw[<-Q.1];exact m
  have ai:=o.1.args.each b F f bc bn;have d5:=cx f (AP bn);replace t:=AB t;replace w:=AB w;have bl:∀g:Abs.G,JY g .slice F=J (U f):=λg=>by rcases ai with⟨rfl|rfl,rfl⟩|⟨W,rfl,O⟩<;>rfl
  have cc:y.isCell F=true:=by rcases ai with⟨rfl|rfl,rfl⟩|⟨W,rfl,O⟩<;>rfl
  unfold JY at bl;replace ai:=AB ai;refine ax ?_;refine Ah f (B2:=λl (p:(y×S)×Nat)=>⟨[(6,.ptr (0::0::a) 0),(8,.ptr (0::11::a) 0),(23,p.1.1),(167,.ii (1::15::a) 0 (U d.ac)),(168,nI (U d.ac)),(169,nI b),(173,F),(174,nI (U f)),(175,nI l)],p.1.2,p.2,[]⟩)
   (Inv:=λl df p=>AR (V+8<=p.2/\(∀h,KS a (V+8) h->p.1.2.get h=aa.get h)/\ANl p.1.2 a (V+8) p.2 p.1.1 ((f.map Fh).take l))) (b0:=((.d8,aa),V+8)) ⟨AZ,λ_ _=>rfl,.inl ⟨rfl,rfl⟩⟩ ?_ ?_
  .rintro l n ⟨⟨c7,b0⟩,k⟩ L b9 c3 bi b1;have⟨i,A,hkv⟩:=bi.1;dsimp only at i A hkv;have ea:TC.wrap ((l:Int)+1)=(l:Int)+1:=w_ z z;have c4:(f.map Fh)[l]?=J (Fh n):=by rw[BY,L];rfl
   have ar:(f.map Fh).take (l+1)=(f.map Fh).take l++[Fh n]:=by rw[FD,c4];rfl
   have M:((f.map Fh).take l).length=l:=by rw[F5,BV];omega
   generalize (f.map Fh).take l=kl at*;obtain⟨W,rfl,O⟩:∃W,F=.ii W 0 (U f)/\G.get W=J (.f9 1 (f.map AX)):=by
    rcases ai.1 with⟨_,rfl⟩|N
    .simp at L
    .exact N
   have⟨e,m16,mb,hid⟩:=o.1.args.new W (DS (AP bc) Ay);subst hid;have gid:=(A (1::e::a) (Hq z)).trans ((t.1 (1::e::a) (Hq mb) AG).trans O);clear bl cc O;replace A:=AB A;replace ar:=AB ar;rcases hkv with⟨rfl,rfl⟩|⟨r,rfl,cd,c8,c0⟩
   .have bo:l=0:=M.symm;refine Nm ?_ M i bo;clear M i bo;intro M i bo
    (repeat' (first|simp only[*,go_sem,AM,D2,DO]|(refine sx ?_ ?_<;>intro ag)|refine sy z λa2 av P=>?_|simp(disch:=first|assumption|omega) only[Ae]))
    refine b1.1 ((_,_),_) ⟨by have:=i.1;dsimp only;omega,λh B=>?_,.inr ⟨k+8,by rw[ar.1];rfl,by have:=i.1;omega,AZ,?_⟩⟩
    .have C:=(B.mono i.1).is;simp only[go_sem,C,AM];exact A.1 h B
    .rw[ar.1];simp only[go_sem]
   .rw[M];have b8:(kl.map AX).length=l:=by rw[BV,M]
    have b':(kl.map AX).take l=kl.map AX:=Bi z;have d9:∀n,¬k+n=r:=λn=>z;replace M:=AB M;generalize x:kl.map AX=es at*;replace x:=AB x
    (repeat' (first|simp only[*,go_sem,AM,D2,DO]|(refine sx ?_ ?_<;>intro ag)|refine sy z λa2 av P=>?_|simp(disch:=first|assumption|omega) only[Ae]))
    refine b1.1 ((_,_),_) ⟨AZ,λh B=>?_,.inr ⟨k+8,by grind,z,AZ,?_⟩⟩
    .have C:=(B.mono i).is;have a0:=AI λc=>B 1 r cd (Eq.symm c);simp only[go_sem,C,a0,AM];exact A.1 h B
    .rw[ar.1,Ap,x.1];simp only[go_sem]
  .rintro l ⟨⟨c7,b0⟩,k⟩ b9 c3 bi;have⟨i,A,hkv⟩:=bi.1;dsimp only at i A hkv;rw[b9.1,Bi zCN]at hkv;have D:AK.take (b+1)=AK.take b++[f.map Fh]:=by rw[FD,cv];rfl
   have v:(AK.take b).length=b:=by rw[F5,az.1];omega
   have b3:=(A (0::11::a) (Hq z)).trans h11;have⟨ks,a5⟩:=Cv (f.map Fh);rw[<-a5]at hkv D;have pm:=λh j q=>(A h (j.mono z)).trans (t.1 h j q);have d8:∀n,¬k+n=11:=λn=>z;refine Nm ?_ a5 D pm;clear a5 D pm;intro a5 D pm;generalize AK.take b=al at*;have b6:(K=.d8/\al=[])\/∃e,K=.ii (1::e::a) 0 (U al)/\s<=e/\e<V/\b0.get (1::e::a)=J (.f9 1 (al.map Eu)):=by
    rcases w.1 with N|⟨e,j,q,b5,d0⟩
    .exact .inl N
    .grind [Hq]
   replace A:=AB A;clear bl cc;rcases hkv with⟨rfl,rfl⟩|⟨r,rfl,cd,c8,c0⟩
   .rcases b6 with⟨rfl,rfl⟩|⟨R,rfl,c9,c',c1⟩
    .skip
     replace v:=AB v;replace i:=AB i
     (repeat' (first|simp only[*,go_sem,AM,D2,DO]|(refine sx ?_ ?_<;>intro ag)|refine sy z λa2 av P=>?_|simp(disch:=first|assumption|omega) only[Ae]))
     have bk:=i.1;refine a4.1 (_,_) ⟨AZ,λh j q=>?_,.ii (1::(k+5)::a) 0 1,?_,.inr ⟨k+5,by rw[D.1];rfl,z,AZ,?_⟩⟩
     .have T:=(j.mono (show s<=k by omega)).is;have C:=AI λc=>q (Eq.symm c);simp only[go_sem,T,C,AM];exact pm.1 h j q
     .simp only[go_sem]
     .rw[D.1];simp only[go_sem]
    .skip
     rw[v]at b3;have b8:(al.map Eu).length=b:=by rw[BV,v]
     have b':(al.map Eu).take b=al.map Eu:=Bi z;have dd:∀n,¬k+n=R:=λn=>z;generalize x:al.map Eu=es at*;refine Nm ?_ x v i;clear x v i;intro x v i
     (repeat' (first|simp only[*,go_sem,AM,D2,DO]|(refine sx ?_ ?_<;>intro ag)|refine sy z λa2 av P=>?_|simp(disch:=first|assumption|omega) only[Ae]))
     have bk:=i.1;refine a4.1 (_,_) ⟨AZ,λh j q=>?_,.ii (1::(k+5)::a) 0 (b+1),?_,.inr ⟨k+5,by grind,z,AZ,?_⟩⟩
     .have T:=(j.mono (show s<=k by omega)).is;have C:=AI λc=>q (Eq.symm c);have bs:=AI λc=>j 1 R z (Eq.symm c);simp only[go_sem,T,C,bs,AM];exact pm.1 h j q
     .simp only[go_sem]
     .rw[D.1,Ap,x.1];simp only[go_sem]
   .rcases b6 with⟨rfl,rfl⟩|⟨R,rfl,c9,c',c1⟩
    .skip
     have dc:∀n,¬k+n=r:=λn=>z;replace v:=AB v;replace i:=AB i
     (repeat' (first|simp only[*,go_sem,AM,D2,DO]|(refine sx ?_ ?_<;>intro ag)|refine sy z λa2 av P=>?_|simp(disch:=first|assumption|omega) only[Ae]))
     have bk:=i.1;refine a4.1 (_,_) ⟨AZ,λh j q=>?_,.ii (1::(k+5)::a) 0 1,?_,.inr ⟨k+5,by rw[D.1];rfl,z,AZ,?_⟩⟩
     .have T:=(j.mono (show s<=k by omega)).is;have C:=AI λc=>q (Eq.symm c);have a0:=AI λc=>j 1 r z (Eq.symm c);simp only[go_sem,T,C,a0,AM];exact pm.1 h j q
     .simp only[go_sem]
     .rw[D.1];simp only[go_sem]
    .skip
     rw[v]at b3;have b8:(al.map Eu).length=b:=by rw[BV,v]
     have b':(al.map Eu).take b=al.map Eu:=Bi z;have dd:∀n,¬k+n=R:=λn=>z;have d6:¬r=R:=z;have d7:¬R=r:=z;generalize x:al.map Eu=es at*;replace x:=AB x;have dc:∀n,¬k+n=r:=λn=>z;replace v:=AB v;replace i:=AB i
     (repeat' (first|simp only[*,go_sem,AM,D2,DO]|(refine sx ?_ ?_<;>intro ag)|refine sy z λa2 av P=>?_|simp(disch:=first|assumption|omega) only[Ae]))
     have bk:=i.1;refine a4.1 (_,_) ⟨AZ,λh j q=>?_,.ii (1::(k+5)::a) 0 (b+1),?_,.inr ⟨k+5,by grind,z,AZ,?_⟩⟩
     .have T:=(j.mono (show s<=k by omega)).is;have C:=AI λc=>q (Eq.symm c);have a0:=AI λc=>j 1 r z (Eq.symm c);have bs:=AI λc=>j 1 R z (Eq.symm c);simp only[go_sem,T,C,a0,bs,AM];exact pm.1 h j q
     .simp only[go_sem]
     .rw[D.1,Ap,x.1];simp only[go_sem]
 .rintro b ⟨aa,V⟩ m c2 bh;have⟨hb1,t,K,h11,w⟩:=bh.1;dsimp only at hb1 t h11 w;rw[m.1,show (U H)=U AK by rw[Q.1,az.1],F3]at w;have cs:=(t (0::0::a) (Hq z) AG).trans cl;refine Nm ?_ t w m;clear t w m;intro t w m;refine ax ?_;have c6:Ds aa.get K=J (.co (AK.map Eu)):=by
   rcases w.1 with⟨rfl,b4⟩|⟨e,rfl,be,r,O⟩
   .rw[b4];rfl
   .grind [Ds,Fq,Kd]
  have a':∀h∈Cj aa.get K,∃e,s<=e/\h.1=1::e::a:=λh B=>by
   rcases w.1 with⟨rfl,b4⟩|⟨e,rfl,be,r,O⟩
   .cases B
   grind [Cj]
  have cp:ac.isCell=true:=by rcases o.1.cvm with⟨rfl,_⟩|⟨e,rfl,_⟩<;>rfl
  have de:a1.isCell=true:=by rcases o.1.rvm with⟨rfl,_⟩|⟨e,rfl,_⟩<;>rfl
  refine pO (b8:=0::11::a) (b6:=0::0::a) rfl zCe zCe h11 cs AG c6 cp de (λh B=>?_) λdm a3 L d1 dn=>?_
  .grind
  have Y:=λb j q b5=>(L b (λh B c=>by have⟨e,P,e2⟩:=a' h B;exact j 1 e P (c▸e2)) q b5).trans (t.1 b j q)
  refine Nm ?_ L Y a';clear L Y a';intro L Y a';refine ax ?_;have cq:∀b∈AE ac,a3.get b=G.get b:=λb m=>by have⟨e,be,r,c⟩:=o.1.cvm.ids b m;exact Y.1 b (c▸Hq r) zDT zDT
  have dj:∀b∈AE a1,a3.get b=G.get b:=λb m=>by have⟨e,be,r,c⟩:=o.1.rvm.ids b m;exact Y.1 b (c▸Hq r) zDT zDT
  have ch:∀{F:y} {f:Al},RK G a s F f->(∀b∈AE F,a3.get b=G.get b)->UF a3 1 F (f.map AX):=λbc L=>by
   rcases bc with⟨rfl,rfl⟩|⟨e,rfl,be,r,O⟩
   .exact .inl (.inl ⟨rfl,rfl⟩)
   .exact .inl (.inr ⟨_,[],by rw[BV],by grind [AE]⟩)
  have b7:=o.1.dj;rw[<-F1,D0]at b7;refine⟨ac,a1,by rw[ad.1],ch o.1.cvm cq,ch o.1.rvm dj,λb m=>?_,b7.1,λb m=>(Y.1 b (OX m _) (λc=>?_) λc=>?_).trans (o.1.fr b m)⟩
  .have:∃e,16<=e/\e<s/\b=1::e::a:=by
    rcases Ac.1 m with N|N
    .exact o.1.cvm.ids b N
    .exact o.1.rvm.ids b N
   obtain⟨e,_,_,rfl⟩:=this;exact⟨Ao [1,e],_,rfl⟩
  .rw[c,show AD a (0::11::a)=X from Ao [0,11]]at m;cases m
  .rw[c,show AD a (0::0::a)=X from Ao [0,0]]at m;cases m
end
def ll:L2->L2
 |.seq (.seq _ (.block _ (.loop (.seq _ (.seq _ (.seq (.block _ c) _)))))) _=>c|c=>c
def lG:L2->L2
 |.seq x _=>x|c=>c
section
variable{p:Aa}{e:Al}{D:List BG}{f:Al}{g:S}{B:u}{V:TV}{c:u}{b:y}{T:List Av}{W:List u}{a:Nat}{d:Bc}
def eE{g:S}{c:y}{b:Al}(a:gU g c (b.map AX)){e:Nat}{h:Int}(j:b[e]?=J h):c=.d (.co (b.map AX))\/∃f i,c=.ii f 0 (U b)/\g.get f=J (.f9 1 i)/\i[e]?=J (AX h):=by
 rcases a with a|a
 .exact .inl a
 .exact .inr (Tr a j)
def ADO(o:Ra p e D f g B V c b T W a d){h:CN}(a1:h.get 1=b)(a4:h.get 2=nI a){AY:u}(a2:h.get 13=.ptr AY 0){a0:Int}(a3:h.get 14=nI a0){G:S}{l:C6}(a6:G.get AY=J (.box [nI l.at_,.d (.co (l.d7.map AX)),nI l.node]))(O:RZ g W G)(x:∀n∈l.d7,0<=n/\n<U d.ac)(bk:U l.d7<=1000){v:Nat}{Q:DZ->St->Prop}(M:AR (∀C b',v<=b'->C.get 14=(nI (Fz T a l.d7 a0))->(∀K∈ [0,1,2,6,7,8,9,12,13,74,75,76],C.get K=h.get K)->Q .normal ⟨C,G,b',[]⟩)):
 Wp cfg kT ⟨175,c,X,I,Z,193⟩ 3 (lG (MH 2 (ll (MH 5 (Tryz.f175.body.get rfl))))) ⟨h,G,v,[]⟩ Q:=by
 have⟨Bn,hTu⟩:=g_ (l:=T) (i:=a) (by rw[o.shp.len];exact l_ o.ip);have⟨H,_,_,_⟩:=o.shp.each _ _ _ o.ip hTu;have ag:=l_ hTu;have a5:(a:Int)<U T:=z;have⟨B2,w⟩:=Cv (Fz T a l.d7 a0);rw[<-w]at M;replace o:=AB o;replace H:=AB H;simp[Tryz.f175,MH,ll,lG];refine ax ?_;replace w:=AB w;refine Ah l.d7 (B2:=λq (m:Int×Nat)=>⟨[(0,h.get 0),(1,b),(2,nI a),(6,h.get 6),(7,h.get 7),(8,h.get 8),(9,h.get 9),(12,h.get 12),(13,.ptr AY 0),(14,nI m.1),(74,h.get 74),(75,h.get 75),(76,h.get 76),(82,.d (.co (l.d7.map AX))),(83,nI (U l.d7)),(84,nI q)],G,m.2,[]⟩)
  (Inv:=λq ai m=>AR (Fz T a ai m.1=B2/\v<=m.2)) (b0:=(a0,v+4)) ⟨w.1.symm,AZ⟩ ?_ ?_
 .rintro q n ⟨m,P⟩ Y aa ac F A;have bv:TC.wrap ((q:Int)+1)=(q:Int)+1:=w_ z z;have⟨c0,c1⟩:=x n (AP Y);have⟨k,hk⟩:=g_ (l:=Bn.ac) (i:=n.toNat) (by rw[H.1];omega);have bn:=l_ hk;have a':n<U Bn.ac:=z;have L:Bx T a n=k:=by rw[Bx,F2,hTu,GO,hk];rfl
  have⟨i,j⟩:=F.1;dsimp only at i j;rw[Fz,L,RN]at i;refine Nm ?_ j i x;clear j i x;intro j i x;clear L;rcases o.1.tab.mono O with⟨rfl,rfl⟩|⟨ar,s,rfl⟩
  .exact zBT
  .have⟨r,hr⟩:=g_ (l:=ar) (i:=a) (by rw[s.len];exact ag);obtain⟨az,bl,av,rfl,t,_,_⟩:=s.each a r Bn hr hTu;have bo:=l_ hr;rcases s.arr with⟨_,R⟩|⟨bh,rfl,be⟩
   .rw[R]at hr;simp at hr
   .replace s:=AB s;rcases eE t hk with rfl|⟨bi,bx,rfl,bc,ad⟩
    .replace t:=AB t;exact zBT
    .have bs:=l_ ad;replace t:=AB t;exact zBT
 .rintro q ⟨m,P⟩ aa ac F;have⟨i,j⟩:=F.1;dsimp only at i j;rw[Fz]at i;subst i;replace j:=AB j;refine ax ?_;refine M.1 _ _ (by have:=j.1;omega) ?_ λK N=>?_
  .simp only[go_sem]
  .simp at N;rcases N with rfl|rfl|rfl|rfl|rfl|rfl|rfl|rfl|rfl|rfl|rfl|rfl;all_goals simp only[*,go_sem]
end
variable{l:Al}
theorem LV.putL{r:S}{e:u}{d:Bc}{G:S}{p b':Nat}{q v:y}{n o:Al}{g:List y}{L:List Al}(a:LV r e d G p q v n o g L)(i:p<=b'){c:Nat}{id:u}{l':Al}(t:g[c]?=J (.ii id 0 (U l)))(A:L[c]?=J l)(B:U l'=U l):LV r e d (G.put id (.f9 1 (l'.map AX))) b' q v n o g (L.set c l'):=by
 have s:=a.dj;rw[D0]at s;obtain⟨C,w,D⟩:=s;rw[D0]at w;have x:id∈Ab g:=DS (AP t) Ay;obtain⟨j,F,H,rfl⟩:=a.args.new id x;have m:∀k,(G.put (1::j::e) (.f9 1 (l'.map AX))).get (0::k::e)=G.get (0::k::e):=λk=>BW _ _ AG;refine⟨(m 0).trans a.b0,(m 9).trans a.b9,(m 11).trans a.b11,(BW _ _ BL).trans a.arr,a.args.put i t A B zDN λf _ b=>BW _ _ b,a.cvm.mono i λf b=>BW _ _ λh=>?_,a.rvm.mono i λf b=>BW _ _ λh=>?_,a.dj,λf b=>(BW _ _ λh=>?_).trans (a.fr f b),by have:=a.base;omega⟩
 .grind
 .grind
 .rw[h,show AD e (1::j::e)=X from Ao [1,j]]at b;cases b
variable{f:Int->Int}{k:Nat}{a:Int}
def yS{q:Int}(b:l[k]?=J a):((IL f l q).take k++l.drop k).set k (Fe a (f (q+k)))=(IL f l q).take (k+1)++l.drop (k+1):=by
 have e:=l_ b;have c:((IL f l q).take k).length=k:=by rw[F5,Ld];omega
 rw[EJ b,MP _ _ z,c,IT,List.set_cons_zero,FD,PR,b];simp
theorem ADL{q:Int}(b:l[k]?=J a):((IL f l q).take k++l.drop k)[k]?=J a:=by grind [Ld]
section
variable{p:Aa}{j:Al}{D:List BG}{m:Al}{g:S}{B:u}{V:TV}{b:u}{e:y}{T:List Av}{W:List u}{i:Nat}{d:Bc}
theorem yW(t:Ra p j D m g B V b e T W i d){cp x:Int}(d1:m[i]?=J cp)(ea:0<=cp)(d9:j[cp.toNat]?=J x)(fs:0<=x)(fv:x<=5000){n:CN}(es:n.get 0=.ptr B 0)(et:n.get 1=e)(e0:n.get 2=nI i)(e1:n.get 7=.ptr (0::9::b) 0)(e2:n.get 9=.ii (1::15::b) 0 (U d.ac)){AY:u}(ex:n.get 13=.ptr AY 0){G:S} {av:Nat} {q:C6} (c3:G.get AY=J (.box [nI q.at_,.d (.co (q.d7.map AX)),nI q.node])) (dq:∃M,AY=0::M) (d':∀c∈q.d7,0<=c/\c<U d.ac) (fi:U q.d7<=1000) (eg:0<=q.node) (ej:q.node<U p.nodes){az bc:y} {ai ar:Al} {ag:List y} {L:List Al} (a2:LV g b d G av az bc ai ar ag L) (b6:SX d L) {Q:DZ->St->Prop}(ad:AR (∀c2 h b',av<=b'->LV g b d h b' az bc ai ar ag (J4 (λP=>sS p T D q.node P) q.d7 (x+d.own) L)->(∀M∈ [0,1,2,6,7,8,9,74,75,76],c2.get M=n.get M)->Q .normal ⟨c2,h,b',[]⟩)):
 Wp cfg kT ⟨175,b,X,I,Z,193⟩ 3 (MH 5 (ll (MH 5 (Tryz.f175.body.get rfl)))) ⟨n,G,av,[]⟩ Q:=by
 have fz:=t.ap B zCR;have a0:=(Bd t.fo t.ip).ok;have em:=a0.ac;have en:=a0.be;have e3:∀H,RZ g W H->FA (S.get H) e=J (De T):=λH aa=>(t.tab.mono aa).frz;have mk:∀H,RZ g W H->Abs.mark (S.get H) e=Abs.mark g.get e:=λH aa=>t.tab.mark aa;obtain⟨cx,bv⟩:∃cx,cx=Abs.mark g.get e:=⟨_,rfl⟩;rw[<-bv]at mk;have dl:∀v (H:S),v∉W->(H.puts cx).get v=H.get v:=λv H a4=>P9 λef d8 n=>a4 (n▸t.tab.mark_in ef (bv▸d8));have c7:=AB λk (H:S) aa=>t.place d1 ea d9 (c:=(U d.ac:Int)) ⟨z,z⟩ k H aa;have d6:=AB λP k (H:S) aa=>t.sends eg ej P k H aa;have c':TC.wrap (x+(U d.ac:Int)+(U d.be:Int))=x+(U d.ac:Int)+(U d.be:Int):=w_ z z;have df:=a2.b9;replace bv:=AB bv;replace dl:=AB dl;have own:x+(d.own:Int)=x+(U d.ac:Int)+(U d.be:Int):=by unfold Bc.own;omega
 rw[own]at ad;have ec:0<=x+(U d.ac:Int)+(U d.be:Int):=z;have fr:x+(U d.ac:Int)+(U d.be:Int)<=5060:=z;obtain⟨f,bk⟩:∃f,f=λP=>sS p T D q.node P:=⟨_,rfl⟩;rw[<-bk]at ad;replace own:=AB own;replace b6:=AB b6;replace a2:=AB a2;replace t:=AB t;replace bk:=AB bk;replace a0:=AB a0;simp[Tryz.f175,MH,ll];refine ax ?_;refine DB (c7.1 _ _ λO Y b5=>?_) (λeb dn cq=>?_)
 .exact a2.1.fr O Y
 subst cq;refine ax ?_;generalize x+(U d.ac:Int)+(U d.be:Int)=P at*;obtain⟨b1,bi⟩:∃b1,b1=J4 f q.d7 P L:=⟨_,rfl⟩;rw[<-bi]at ad;replace bi:=AB bi;replace ad:=AB ad;clear c' df c7;refine Ah q.d7 (B2:=λv (a:(Int×S)×Nat)=>⟨[(0,.ptr B 0),(1,e),(2,nI i),(6,n.get 6),(7,.ptr (0::9::b) 0),(8,n.get 8),(9,.ii (1::15::b) 0 (U d.ac)),(13,.ptr AY 0),(17,nI a.1.1),(74,n.get 74),(75,n.get 75),(76,n.get 76),(128,.d (.co (q.d7.map AX))),(129,nI (U q.d7)),(130,nI v)],a.1.2,a.2,[]⟩)
  (Inv:=λv c9 a=>AR (av<=a.2/\0<=a.1.1/\a.1.1<=5060+3*(v:Int)/\a.1.2.get AY=G.get AY/\∃s,SX d s/\LV g b d a.1.2 a.2 az bc ai ar ag s/\J4 f c9 a.1.1 s=b1)) (b0:=((P,G),av+15)) ⟨AZ,ec,AZ,rfl,L,b6.1,?_,bi.1.symm⟩ ?_ ?_
 .have:=a2.1;exact zAR
 .rintro v c ⟨⟨o,b0⟩,b2⟩ ds a4 d2 b7 dc;obtain⟨cc,cu,cv,a1,s,ac,w,K⟩:=b7.1;dsimp only at cc cu cv a1 w K;have c':TC.wrap ((v:Int)+1)=(v:Int)+1:=w_ z z;obtain⟨de,el⟩:=d' c (AP ds);obtain⟨l,bl⟩:=g_ (l:=s) (i:=c.toNat) (by rw[ac.1];omega);have a3:Nk s c=l:=by rw[Nk,bl];rfl
  rw[J4,a3]at K;obtain⟨bx,a'⟩:=g_ (l:=ag) (i:=c.toNat) (by rw[w.args.len];exact l_ bl);have fo:=l_ a';have dj:c.toNat<U d.ac:=z;have a6:=w.args.each _ bx l a' bl;obtain⟨c1,c4⟩:=g_ (l:=d.ac) (i:=c.toNat) dj;have e':U l<=3:=by have Y:=ac.2 c.toNat c1 c4;rw[IF de,a3]at Y;have:=(a0.1.chan c1 (AP c4)).2.2.2;omega
  have c0:=w.arr;have c6:∀g:Abs.G,JY g .slice bx=J (U l):=λg=>by rcases a6 with⟨rfl|rfl,rfl⟩|⟨F,rfl,dx⟩<;>rfl
  have d7:y.isCell bx=true:=by rcases a6 with⟨rfl|rfl,rfl⟩|⟨F,rfl,dx⟩<;>rfl
  unfold JY at c6;replace a6:=AB a6;replace w:=AB w;replace ac:=AB ac;replace a3:=AB a3;replace K:=AB K;refine ax ?_;clear c6 d7 c0;have cm:s.set c.toNat ((IL f l o).take 0++l.drop 0)=s:=by
   rw[Lw,DL,List.drop_zero];refine Lt λO=>?_;rw[F7];split
   .grind
   .rfl
  refine Ah l (B2:=λk (a:(Int×S)×Nat)=>⟨[(0,.ptr B 0),(1,e),(2,nI i),(6,n.get 6),(7,.ptr (0::9::b) 0),(8,n.get 8),(9,.ii (1::15::b) 0 (U d.ac)),(13,.ptr AY 0),(17,nI a.1.1),(19,nI c),(74,n.get 74),(75,n.get 75),(76,n.get 76),(128,.d (.co (q.d7.map AX))),(129,nI (U q.d7)),(130,nI v),(138,nI (U l)),(139,nI k)],a.1.2,a.2,[]⟩)
   (Inv:=λk c9 a=>AR (a.1.1=o+(k:Int)/\b2<=a.2/\a.1.2.get AY=G.get AY/\LV g b d a.1.2 a.2 az bc ai ar ag (s.set c.toNat ((IL f l o).take k++l.drop k)))) (b0:=((o,b0),b2+10)) ⟨AG,AZ,a1,?_⟩ ?_ ?_
  .rw[cm];have:=w.1;exact zAR
  .rintro k a ⟨⟨R,be⟩,b3⟩ b9 a5 d4 b8 dd;obtain⟨C,N,A,r⟩:=b8.1;dsimp only at C N A r;have f0:TC.wrap ((k:Int)+1)=(k:Int)+1:=w_ z z;have f1:TC.wrap (R+1)=R+1:=w_ z z;obtain⟨F,rfl,d0⟩:∃F,bx=.ii F 0 (U l)/\b0.get F=J (.f9 1 (l.map AX)):=by
    rcases a6.1 with⟨_,rfl⟩|t
    .simp at b9
    .exact t
   have bn:(s.set c.toNat ((IL f l o).take k++l.drop k))[c.toNat]?=J ((IL f l o).take k++l.drop k):=by rw[F7,D3 rfl,D3 (l_ bl)]
   have cd:((IL f l o).take k++l.drop k).length=U l:=by rw[D1,F5,Ld,I8];omega
   have e6:=ADL (f:=f) (q:=o) b9;have bs:=yS (f:=f) (q:=o) b9;have e7:be.get F=J (.f9 1 (((IL f l o).take k++l.drop k).map AX)):=by
    rcases r.args.each _ _ _ a' bn with⟨Y,_⟩|⟨fd,Y,b5⟩
    .grind
    .grind
   have cl:LV g b d (be.put F (.f9 1 (((IL f l o).take (k+1)++l.drop (k+1)).map AX))) (b3+29) az bc ai ar ag (s.set c.toNat ((IL f l o).take (k+1)++l.drop (k+1))):=by have:=r.putL (b':=b3+29) (c:=c.toNat) (id:=F) (l:=(IL f l o).take k++l.drop k) (l':=(IL f l o).take (k+1)++l.drop (k+1)) z (by rw[cd];exact a') bn zCN;rw[List.set_set]at this;exact this
   have c8:∀M,F≠0::M:=λM n=>by obtain⟨fp,_,_,e5⟩:=r.args.new F (DS (AP a') Ay);grind
   have c0:=r.arr;have ek:RZ g W be:=λO d3=>r.fr O (t.1.wu O d3);have e4:=A.trans c3;generalize c5:(IL f l o).take k++l.drop k=cs at*;have fl:k<U cs:=z;rw[<-C]at bs;have bo:=d6.1 R;have b4:sS p T D q.node R=f R:=by rw[bk.1]
   rw[b4]at bo;have ch:=r.fr;have e8:=lL a (f R);have fc:(cs.map AX).set k [.int .i64 (Fe a (f R))]=((IL f l o).take (k+1)++l.drop (k+1)).map AX:=by rw[<-bs,I2];rfl
   replace bo:=AB bo;replace ch:=AB ch;replace r:=AB r;replace c5:=AB c5;replace cd:=AB cd;replace bs:=AB bs;replace cl:=AB cl;replace bn:=AB bn;replace b4:=AB b4;replace N:=AB N;replace A:=AB A;replace c8:=AB c8;replace C:=AB C;clear a1 cm c3 d0;refine ax ?_;refine DB (bo.1 _ _ λO Y b5=>?_) (λeb dn cq=>?_)
   .rw[dl.1 O _ b5];exact ch.1 O Y
   subst cq;refine ax ?_;obtain⟨M,cn⟩:=dq;refine dd.1 ((_,_),_) ⟨?_,by have:=N.1;dsimp only;omega,?_,cl.1⟩
   .have:=C.1;dsimp only;omega
   .dsimp only;rw[BW _ _ zCN];exact A.1
  .rintro k ⟨⟨R,be⟩,b3⟩ a5 d4 b8;obtain⟨C,N,A,r⟩:=b8.1;dsimp only at C N A r;rw[a5.1,Bi (by grind [Ld]),T0,CS]at r;rw[a5.1]at C;have e9:=AB a5.1;have bh:=ac.1.mono (YR s c f o);rw[a3.1]at bh;have dr:=AB N;have d5:=AB C;replace r:=AB r;replace bh:=AB bh;replace A:=AB A;clear a5 C N cm;refine ax ?_;have dm:=d5.1;have er:=dr.1;refine dc.1 ((_,_),_) ⟨AZ,AZ,AZ,A.1,_,bh.1,?_,?_⟩
   .have:=r.1;exact zAR
   .rw[dm];exact K.1
 .rintro v ⟨⟨o,b0⟩,b2⟩ a4 d2 b7;obtain⟨cc,cu,cv,a1,s,ac,w,K⟩:=b7.1;dsimp only at cc cu cv a1 w K;rw[J4]at K;subst K;replace w:=AB w;replace a4:=AB a4;refine ax ?_;refine ad.1.1 _ _ _ z ?_ λM cn=>?_
  .have:=w.1;exact⟨this.b0,this.b9,this.b11,this.arr,this.args.mono (Nat.le_succ _) λ_ _=>rfl,this.cvm.mono (Nat.le_succ _) λ_ _=>rfl,this.rvm.mono (Nat.le_succ _) λ_ _=>rfl,this.dj,this.fr,by have:=this.base;omega⟩
  .simp at cn;rcases cn with rfl|rfl|rfl|rfl|rfl|rfl|rfl|rfl|rfl|rfl;all_goals simp only[*,go_sem]
end
def n4:L2->L2->L2->L2
 |.seq (.seq a (.block k (.loop (.seq r (.seq i (.seq (.block n (.seq x1 (.seq x2 (.seq _ (.seq x3 (.seq x4 _)))))) A6)))))) B0,P,AW=>.seq (.seq a (.block k (.loop (.seq r (.seq i (.seq (.block n (.seq x1 (.seq x2 (.seq P (.seq x3 (.seq x4 AW)))))) A6)))))) B0|c,_,_=>c
section
variable{p:Aa}{e:Al}{D:List BG}{j:Al}{g:S}{B:u}{V:TV}{b:u}{i:y}{T:List Av}{W:List u}{c:Nat}{d:Bc}
theorem LV.rul{G h:S}{m b':Nat}{n p l:y}{t F v:Al}{q:List y}{L:List Al}(f:LV g b d G m n p t F q L)(A:m<=b')(pm:∀c,KS b m c->c≠0::11::b->c∉AE p->h.get c=G.get c)(H:h.get (0::11::b)=J (.box [n,l,.d8]))(R:RK h b b' l v)(Q:FX b m b' (AE l))(P:(AE l).Nodup):LV g b d h b' n l t v q L:=by
 have ac:=f.base;have B:=f.dj;rw[D0]at B;obtain⟨K,w,V⟩:=B;rw[D0]at w;obtain⟨W,M,Y⟩:=w;have out:∀k a,k<16->(a::k::b) ∉AE p:=λk a C i=>by have⟨j,m1,m2,e⟩:=f.rvm.ids _ i;simp at e;omega
 have s:∀a k,k<16->(a=1\/k≠11)->h.get (a::k::b)=G.get (a::k::b):=λa k C x=>pm _ (Hq z) BL (out k a C);have N:∀c∈AE n,h.get c=G.get c:=λc i=>by have⟨j,m1,m2,e⟩:=f.cvm.ids c i;grind [Hq]
 have O:∀c∈Ab q,h.get c=G.get c:=λc i=>by have⟨j,m1,m2,e⟩:=f.args.new c i;grind [Hq]
 have aa:∀c,(∃j,j<m/\c=1::j::b)->c∉AE l:=λc ⟨j,hm,e⟩ i=>by have⟨m2,q1,_,e2⟩:=Q c i;grind
 refine⟨(s 0 0 z z).trans f.b0,(s 0 9 z z).trans f.b9,H,(s 1 15 z z).trans f.arr,f.args.mono A O,f.cvm.mono A N,R,?_,λc i=>(pm c (OX i _) (λe=>?_) λe=>?_).trans (f.fr c i),z⟩
 .rw[D0];refine⟨K,?_,λr D T o e=>?_⟩
  .rw[D0];refine⟨P,M,λr D T o e=>?_⟩;subst e;have⟨j,m1,m2,e⟩:=f.args.new r o;grind
  .subst e;rcases Ac.1 o with x|x
   .have⟨j,m1,m2,e⟩:=f.cvm.ids r D;grind
   grind
 .rw[e,show AD b (0::11::b)=X from Ao [0,11]]at i;cases i
 .have⟨j,_,_,e2⟩:=f.rvm.ids c e;rw[e2,show AD b (1::j::b)=X from Ao [1,j]]at i;cases i
theorem LV.up{G h:S}{j b':Nat}{q r:y}{o p:Al}{s:List y}{L:List Al}(c:LV g b d G j q r o p s L)(n:j<=b')(pm:∀f,KS b j f->h.get f=G.get f):LV g b d h b' q r o p s L:=by
 have l:∀a k,k<j->h.get (a::k::b)=G.get (a::k::b):=λa k t=>pm _ (Hq t);have v:=c.base;refine⟨(l _ _ z).trans c.b0,(l _ _ z).trans c.b9,(l _ _ z).trans c.b11,(l _ _ z).trans c.arr,c.args.mono n λf i=>?_,c.cvm.mono n λf i=>?_,c.rvm.mono n λf i=>?_,c.dj,λf i=>(pm f (OX i _)).trans (c.fr f i),z⟩
 .have⟨m,_,m2,e⟩:=c.args.new f i;grind
 .have⟨m,_,m2,e⟩:=c.cvm.ids f i;grind
 .have⟨m,_,m2,e⟩:=c.rvm.ids f i;grind
theorem ANw(q:Ra p e D j g B V b i T W c d){cv L:Int}(b4:j[c]?=J cv)(b7:0<=cv)(bx:e[cv.toNat]?=J L)(b8:0<=L)(b9:L<=5000){H:CN}(f0:H.get 0=.ptr B 0)(f1:H.get 1=i)(f3:H.get 2=nI c)(f4:H.get 6=.ptr (0::0::b) 0)(f5:H.get 7=.ptr (0::9::b) 0)(f6:H.get 8=.ptr (0::11::b) 0)(f7:H.get 9=.ii (1::15::b) 0 (U d.ac)){G:S} {dd:Nat} {bl:y} {b':Al} {c':List y} (b1:LV g b d G dd bl .d8 b' [] c' (Gj d)):
 Wp cfg kT ⟨175,b,X,I,Z,193⟩ 0 (MH 5 (Tryz.f175.body.get rfl)) ⟨H,G,dd,[]⟩ (MJ cfg I [.cell 6 112] b X (dU g b b' (MA T c d) (M7 p e D T cv c d))):=by
 have bn:=(Bd q.fo q.ip).ok;have fv:=bn.rules;have fs:=bn.ac;have⟨RU,c3⟩:=Cv (MA T c d);have⟨AU,c0⟩:=Cv (M7 p e D T cv c d);rw[<-c3,<-c0];have eb:∀(o:Nat) n,d.rules[o]?=J n->RU[o]?=J (Fh (Fz T c n.d7 2)):=λo n b6=>by grind [MA]
 have cu:U RU=U d.rules:=by rw[c3,MA,BV]
 obtain⟨f,M⟩:∃f:Int->Int->Int,f=λd5 s=>sS p T D d5 s:=⟨_,rfl⟩;have c1:M6 f T c (L+d.own) 0 d.rules (Gj d)=AU:=by rw[c0,M7,M,RI,bx];rfl
 have c8:∀n∈d.rules,(∀bk∈n.d7,0<=bk/\bk<U d.ac)/\(U n.d7)<=1000/\0<=n.node/\n.node<U p.nodes:=λn b6=>by have dn:=bn.pp n b6;simp[Bt]at dn;have⟨_,_,_,_,_,_,_,_,_,_,hrn,_⟩:=(Bd q.fo q.ip).node;have⟨r0,bi⟩:=hrn n b6;have:=l_ bi;rw[q.fo.len]at this;refine⟨λbk F=>Jl dn.2.2.2 bk F,?_,r0,z⟩;have:=dn.2.1;omega
 have c2:=Rh (Xj q.fo q.ip);have⟨Bn,hTu⟩:=g_ (l:=T) (i:=c) (by rw[q.shp.len];exact l_ q.ip);have⟨_,c9,_,_⟩:=q.shp.each _ _ _ q.ip hTu;have d4:=l_ hTu;have f8:(c:Int)<U T:=z;have fp:=b1.b9;have fr:bl.isCell=true:=by rcases b1.cvm with⟨rfl,_⟩|⟨d5,rfl,_⟩<;>rfl
 replace c3:=AB c3;replace c0:=AB c0;refine B4 ?_ c1 M c8 bn c2 q b1 c9 cu;clear c1 M c8 bn c2 q b1 c9 cu;intro c1 M c8 bn c2 q b1 c9 cu;rw[show MH 5 (Tryz.f175.body.get rfl)=n4 (MH 5 (Tryz.f175.body.get rfl)) (lG (MH 2 (ll (MH 5 (Tryz.f175.body.get rfl))))) (MH 5 (ll (MH 5 (Tryz.f175.body.get rfl))))from rfl];generalize b2:lG (MH 2 (ll (MH 5 (Tryz.f175.body.get rfl))))=P;generalize N:MH 5 (ll (MH 5 (Tryz.f175.body.get rfl)))=AW;refine QW 1 λT3 c5=>?_;refine Nm ?_ c5 b2 N;clear c5 b2 N;intro c5 b2 N;simp[Tryz.f175,MH,n4,Rm];refine ax ?_;refine Ah d.rules (B2:=λo (a:S×Nat)=>⟨[(0,.ptr B 0),(1,i),(2,nI c),(6,.ptr (0::0::b) 0),(7,.ptr (0::9::b) 0),(8,.ptr (0::11::b) 0),(9,.ii (1::15::b) 0 (U d.ac)),(74,.d (.co (d.rules.map BN))),(75,nI (U d.rules)),(76,nI o)],a.1,a.2,[]⟩)
  (Inv:=λo fl a=>AR (∃d0 t,LV g b d a.1 a.2 bl d0 b' (RU.take o) c' t/\SX d t/\M6 f T c (L+d.own) o fl t=AU)) (b0:=(G,dd+4)) ⟨.d8,Gj d,b1.1.up AZ λ_ _=>rfl,c2.1,c1.1⟩ ?_ ?_
 .rintro o n ⟨d1,x⟩ b6 c6 ej df ac;have⟨d0,t,Y,v,A⟩:=df.1;dsimp only at Y;have gk:TC.wrap ((o:Int)+1)=(o:Int)+1:=w_ z z;have⟨be,jl,y0,y1⟩:=c8.1 n (AP b6);have⟨kk,hkk⟩:=g_ (l:=Bn.rules) (i:=o) (by rw[c9.1];exact c6);have gd:=l_ hkk;have f9:(o:Int)<U Bn.rules:=z;have cx:BU T c o=kk:=by rw[BU,F2,hTu,GO,F2,hkk];rfl
  rw[M6,cx]at A;have f':=Y.base;have c4:=eb o n b6;refine aB ?_ Y v A cx be;clear Y v A cx be;intro Y v A cx be
  (repeat' (first|simp only[*,go_sem,AM,D2,DO,BA]|(refine sx ?_ ?_<;>intro F)|refine sy z λR Q O=>?_|simp(disch:=first|assumption|omega) only[Ae]))
  refine W1 λcc d2=>?_;have de:cc.get (0::(x+4)::b)=J (.box [nI n.at_,.d (.co (n.d7.map AX)),nI n.node]):=by rw[d2];simp only[go_sem]
  have c7:∀K,KS b x K->cc.get K=d1.get K:=λK bh=>by have s:=bh.is;exact BZ
  have cn:=Y.1.up (show x<=x+8 by omega) c7;have d8:RZ g W cc:=λK bh=>cn.fr K (q.1.wu K bh);clear d2;rw[RB _ _ _ (by rw[<-b2.1];rfl),<-b2.1];refine ADO q.1 (a0:=2) ?_ ?_ (AY:=0::(x+4)::b) ?_ ?_ de d8 be.1 jl ⟨λfz ad ef f2 aa=>?_⟩
  .simp only[go_sem]
  .simp only[go_sem]
  .simp only[go_sem]
  .simp only[go_sem]
  have er:=aa 0 AG;have et:=aa 1 AG;have e1:=aa 2 AG;have e2:=aa 6 AG;have e3:=aa 7 AG;have e7:=aa 8 AG;have e8:=aa 9 AG;have ex:=aa 12 AG;have e0:=aa 13 AG;have e4:=aa 74 AG;have e5:=aa 75 AG;have e6:=aa 76 AG;clear aa;rw[b2.1];simp only[go_sem]at er et e1 e2 e3 e7 e8 ex e0 e4 e5 e6;have bv:=cn.up (show x+8<=ad from ef) λ_ _=>rfl;have d9:=bv.b11;have el:=bv.rvm;have gh:∀k,¬ad+k=11:=λk=>z;generalize Fz T c n.d7 2=ls at*;have cs:RU.take (o+1)=RU.take o++[Fh ls]:=by rw[FD,c4];rfl
  have b5:(RU.take o).length=o:=by rw[F5,cu.1];omega
  refine aB ?_ cs cn bv c7 c4;clear cs cn bv c7 c4;intro cs cn bv c7 c4;have b3:KS b ad (0::(x+4)::b)/\(0::(x+4)::b)≠0::11::b:=⟨Hq z,BL⟩;replace b3:=AB b3;rcases el with⟨rfl,bs⟩|⟨fd,rfl,gf,gg,d3⟩
  .replace bs:=AB bs;replace b5:=AB b5
   (repeat' (first|simp only[*,go_sem,AM,D2,DO,BA]|(refine sx ?_ ?_<;>intro F)|refine sy z λR Q O=>?_|simp(disch:=first|assumption|omega) only[Ae]))
   generalize ai:S.put _ (0::11::b) (.box [bl,.ii (1::(ad+5)::b) 0 _,.d8])=H4;have C:LV g b d H4 (ad+8) bl (.ii (1::(ad+5)::b) 0 1) b' (RU.take (o+1)) c' t:=by
    rw[cs.1,bs.1];refine bv.1.rul z (λK dr ds d6=>?_) ?_ (.inr ⟨ad+5,rfl,z,z,?_⟩) (λK bh=>?_) Ay
    .have bi:=dr.is;have b0:=AI λH=>ds (Eq.symm H);rw[<-ai];simp only[go_sem,bi,b0,AM]
    .rw[<-ai];simp only[go_sem]
    .rw[<-ai];simp only[go_sem]
    .grind [AE]
   have cp:H4.get (0::(x+4)::b)=cc.get (0::(x+4)::b):=by exact zBs
   clear ai;have dc:RZ g W H4:=λK bh=>C.fr K (q.1.wu K bh);have bo:=cp.trans de;clear cp;replace C:=AB C;rcases q.1.tab.mono dc with⟨rfl,rfl⟩|⟨dx,ar,rfl⟩
   .skip
    exact zAA
   .exact zAy
  .rw[b5]at d9;have ga:((RU.take o).map AX).length=o:=by rw[BV,b5]
   have gb:((RU.take o).map AX).take o=(RU.take o).map AX:=Bi z;have gi:∀k,¬ad+k=fd:=λk=>z;replace b5:=AB b5;generalize dj:(RU.take o).map AX=es at*;replace dj:=AB dj
   (repeat' (first|simp only[*,go_sem,AM,D2,DO,BA]|(refine sx ?_ ?_<;>intro F)|refine sy z λR Q O=>?_|simp(disch:=first|assumption|omega) only[Ae]))
   generalize ai:S.put _ (0::11::b) (.box [bl,.ii (1::(ad+5)::b) 0 _,.d8])=H4;have C:LV g b d H4 (ad+8) bl (.ii (1::(ad+5)::b) 0 (o+1)) b' (RU.take (o+1)) c' t:=by
    rw[cs.1];refine bv.1.rul z (λK dr ds d6=>?_) ?_ (.inr ⟨ad+5,by grind,z,z,?_⟩) (λK bh=>?_) Ay
    .have bi:=dr.is;have b0:=AI λH=>ds (Eq.symm H);have fi:=AI λH=>d6 (by rw[AE,AS];exact Eq.symm H);rw[<-ai];simp only[go_sem,bi,b0,fi,AM]
    .rw[<-ai];simp only[go_sem]
    .rw[<-ai,Ap,dj.1];simp only[go_sem]
    .grind [AE]
   have cp:H4.get (0::(x+4)::b)=cc.get (0::(x+4)::b):=by exact zBs
   clear ai;have dc:RZ g W H4:=λK bh=>C.fr K (q.1.wu K bh);have bo:=cp.trans de;clear cp;replace C:=AB C;rcases q.1.tab.mono dc with⟨rfl,rfl⟩|⟨dx,ar,rfl⟩
   .skip
    exact zAA
   .exact zAy
 .rintro o ⟨d1,x⟩ c6 ej df;have⟨d0,t,Y,v,A⟩:=df.1;dsimp only at Y;rw[M6]at A;subst A;have dm:=c6.1;rw[Bi (by rw[cu.1,dm];exact D4 _)]at Y;replace Y:=AB Y;replace dm:=AB dm;clear c6;refine ax ?_;have ec:=c5.1;rw[ec,show MH 1 (n4 (MH 5 (Tryz.f175.body.get rfl)) P AW)=MH 6 (Tryz.f175.body.get rfl)from rfl];refine ANx ?_ ?_ ?_ (Y.1.up z λ_ _=>rfl) (by rw[Y.1.args.len];exact v.1) z λl ek=>?_
  iterate 3
   .exact zAq
  obtain⟨bk,F⟩:=Ci ek;have⟨ch,hch⟩:=g_ (l:=d.ac) (i:=bk) (by rw[<-v.1];exact l_ F);have ea:=v.2 bk ch hch;rw[Nk,F2,F,F9]at ea;have:=(bn.1.chan ch (AP hch)).2.2.2;omega
end
def vR{a:C7}{K:Af}{h:Fr}{c:Nat}{i j:L2}{g:CN}{H:S}{e:Nat}{f:List Df}{Q:DZ->St->Prop}{P}(k:∀b,b=H->pN a K h c i j ⟨g,b,e,f⟩ Q P):pN a K h c i j ⟨g,H,e,f⟩ Q P:=k H rfl
section
variable{p:Aa}{i:Al}{D:List BG}{j:Al}{g:S}{B:u}{V:TV}{b:u}{f:y}{T:List Av}{W:List u}{e:Nat}{d:Bc}
theorem AIL(s:Ra p i D j g B V b f T W e d):
 ∃a2 cq,kT (.fn 175) [.ptr B 0,f,nI e] g b X I=.ok (a2,cq)/\dU g b (Nz p i D T ((j[e]?).getD 0) d) (MA T e d) (M7 p i D T ((j[e]?).getD 0) e d) a2 cq:=by
 have cm:=s.ap B zCR;have eg:=AN cm;have ej:=Aw cm;have cs:=s.rep.box;have fo:=l_ s.ip;have ex:(e:Int)<U p.defs:=z;obtain⟨bk,F,ch,a0,b9,x,b2,fd,b7,dx,d0⟩:=s.head;obtain⟨cu,fi,b6,c9,c'⟩:=Tr s.rep.heads a0;rw[b6]at cs;have cl:=s.ap cu (by grind [TV.ids,AE]);have ek:=AN cl;have el:=Aw cl;have lhs:=l_ a0;have e0:(e:Int)<U j:=z;have fp:=l_ c';replace b6:=AB b6;have P:=(Bd s.fo s.ip).ok;have e4:=s.ip;have ea:=P.ac;have eb:=P.rules;have ec:=P.be;have en:∀H,RZ g W H->FA (S.get H) f=J (De T):=λH M=>(s.tab.mono M).frz;have mk:∀H,RZ g W H->Abs.mark (S.get H) f=Abs.mark g.get f:=λH M=>s.tab.mark M;obtain⟨K,Y⟩:∃K,K=Nz p i D T bk d:=⟨_,rfl⟩;obtain⟨bn,az⟩:∃bn,bn=MA T e d:=⟨_,rfl⟩;obtain⟨bl,av⟩:∃bl,bl=M7 p i D T bk e d:=⟨_,rfl⟩;rw[a0,F9,<-Y,<-az,<-av];replace Y:=AB Y;replace az:=AB az;replace av:=AB av;obtain⟨cp,bi⟩:∃cp,cp=Abs.mark g.get f:=⟨_,rfl⟩;rw[<-bi]at mk;have dl:∀h (H:S),h∉W->(H.puts cp).get h=H.get h:=λh H m=>P9 λF x n=>m (n▸s.tab.mark_in F (bi▸x));have d6:∀H a k a2,RZ g W (S.put H (a::k::b) a2)=RZ g W H:=λH a k a2=>by
  apply propext;constructor
  .intro t h m;rw[<-t h m,BW _ _ λn=>?_];exact zCL
  .intro t h m;rw[BW _ _ λn=>?_]
   .exact t h m
   .exact zCL
 have d5:RZ g W g:=λ_ _=>rfl;replace bi:=AB bi;replace dl:=AB dl;replace P:=AB P;replace s:=AB s;by_cases c8:U d.ac=0
 .have be:=CI c8;have a1:d.rules=[]:=by
   refine Of.2 λR ai=>?_;have b4:=P.1.pp R ai;simp[Bt]at b4;have v:=b4.1.1;have t:=b4.2.2.2;rcases A:R.d7 with _|⟨c,l⟩
   .grind
   .have:=Jl t c (by rw[A];simp);omega
  have c4:K=[]:=by rw[Y.1,Nz,be];rfl
  have c5:bn=[]:=by rw[az.1,MA,a1];rfl
  have c3:bl=[]:=by rw[av.1,M7,a1,M6,Gj,be];rfl
  rw[c4,c5,c3];replace be:=AB be;replace a1:=AB a1;refine Nq rfl func175 rfl rfl rfl ?_;show Wp _ _ _ _ (Tryz.f175.body.get rfl) _ _;simp[Tryz.f175]
  (repeat' (first|simp only[*,go_sem,AM]|(refine sx ?_ ?_<;>intro L)|refine sy z λF x C=>?_|simp(disch:=first|assumption|omega) only[Ae,bp]))
  have e9:U d.rules=0:=by rw[a1.1];rfl
  rw[DT]
  (repeat' (first|simp only[*,go_sem,AM,D2,DO,BA]|(refine sx ?_ ?_<;>intro L)|refine sy z λF x C=>?_|simp(disch:=first|assumption|omega) only[Ae]))
  rw[DT]
  (repeat' (first|simp only[*,go_sem,AM,D2,DO,BA]|(refine sx ?_ ?_<;>intro L)|refine sy z λF x C=>?_|simp(disch:=first|assumption|omega) only[Ae]))
  rw[DT]
  (repeat' (first|simp only[*,go_sem,AM,D2,DO,BA]|(refine sx ?_ ?_<;>intro L)|refine sy z λF x C=>?_|simp(disch:=first|assumption|omega) only[Ae]))
  refine vR λd3 bv=>?_;refine pO (b8:=0::11::b) (b6:=0::0::b) (c:=.d8) (r:=.d8) (a:=.d8) (y1:=.d8) (y2:=.d8) (y3:=.d8) (A6:=.co []) rfl zCe zCe zCr zCr AG rfl rfl rfl (λN b3=>by cases b3) λef d2 bh e1 em=>?_;replace bh:=AB bh;replace bv:=AB bv;refine ax ?_;refine⟨.d8,.d8,rfl,.inl (.inl ⟨rfl,rfl⟩),.inl (.inl ⟨rfl,rfl⟩),λh m=>(by cases m),List.nodup_nil,λh m=>(bh.1 h (λN b3=>by cases b3) (λn=>?_) λn=>?_).trans ?_⟩
  .rw[n,show AD b (0::11::b)=X from Ao [0,11]]at m;cases m
  .rw[n,show AD b (0::0::b)=X from Ao [0,0]]at m;cases m
  .have N:=AN m;rw[bv.1];exact BZ
 have e3:(0:Int)<U d.ac:=z;have e2:0<U d.ac:=z;refine Nq rfl func175 rfl rfl rfl ?_;show Wp _ _ _ _ (Tryz.f175.body.get rfl) _ _;refine QW 5 λd4 bx=>?_;simp[Tryz.f175,Rm];replace bx:=AB bx
 (repeat' (first|simp only[*,go_sem,AM]|(refine sx ?_ ?_<;>intro L)|refine sy z λF x C=>?_|simp(disch:=first|assumption|omega) only[Ae,bp]))
 have aa:U K=U d.ac:=by rw[Y.1];simp[Nz]
 have bs:∀(h:Nat),h<U d.ac->K[h]?=J (Fh (sS p T D bk (ch+(h:Int)))):=λh m=>by rw[Y.1,Nz,BY,List.getElem?_range m,RI,b7];rfl
 replace aa:=AB aa;replace bs:=AB bs;replace b2:=AB b2;refine GK λc1 a6=>?_;refine Ah d.ac (B2:=λh (a:S×Nat)=>⟨[(0,.ptr B 0),(1,f),(2,nI e),(6,.ptr (0::0::b) 0),(7,.ptr (0::9::b) 0),(8,.ptr (0::11::b) 0),(9,.ii (1::15::b) 0 (U d.ac)),(39,.d (.co (d.ac.map BR))),(40,nI (U d.ac)),(41,nI h)],a.1,a.2,[]⟩)
  (Inv:=λh f6 a=>AR (∃bo O,LV g b d a.1 a.2 bo .d8 (K.take h) [] O ((Gj d).take h++TL (U d.ac-h) []))) (b0:=(c1,21)) ⟨.d8,TL (U d.ac) .d8,?_⟩ ?_ ?_
 .rw[Lw,Lw,DL,Nat.sub_zero];have A6:∀l:List y,(∀a3∈l,a3=.d8)->Ab l=[]:=by intro l;induction l with|nil=>intro _;rfl|cons a3 l dn=>intro s;rw[Ab,s a3 (CO ..),dn λd1 dm=>s d1 (By _ dm)];rfl
  have cn:Ab (TL (U d.ac) .d8)=[]:=A6 _ λa3 b5=>(I0.1 b5).2;refine⟨?_,?_,?_,?_,⟨AG,λc a3 l b5 dd=>?_,λh m=>(by rw[cn]at m;cases m),(by rw[cn];simp)⟩,.inl ⟨rfl,rfl⟩,.inl ⟨rfl,rfl⟩,by rw[cn];simp[AE],λh m=>?_,z⟩
  .exact BZ
  .exact BZ
  .exact BZ
  .rw[a6,Lc];simp only[go_sem]
  .have v:=(I0.1 (AP b5)).2;have t:=(I0.1 (AP dd)).2;exact .inl ⟨.inl v,t⟩
  .have N:=AN m;exact BZ
 .replace a6:=AB a6;rintro h R ⟨G,r⟩ ai m cv a' a4;obtain⟨bo,O,q⟩:=a'.1;dsimp only at q;have f7:TC.wrap ((h:Int)+1)=(h:Int)+1:=w_ z z;obtain⟨w,C⟩:∃w:Nat,R.many=w:=⟨R.many.toNat,by have:=(P.1.chan R (AP ai)).2.2.1;omega⟩;have e8:w<=3:=by have:=(P.1.chan R (AP ai)).2.2.2;omega
  have d8:=q.b0;have c2:=q.b9;have d9:=q.b11;have d':=q.arr;have ac:=q.base;have d7:RZ g W G:=λo A=>q.fr o (s.1.wu o A);have er:=(q.fr B cm).trans cs;have et:=(q.fr cu cl).trans c9;have bc:=λ(H:S) (M:∀o,AD b o=Z->o∉W->H.get o=G.get o) o (v:AD b o=Z) (t:o∉W)=>(M o v t).trans (q.fr o v);have dj:=AB λk (H:S) M=>s.1.place a0 b9 b7 (c:=(h:Int)) ⟨z,z⟩ k H (bc H M);have dc:=AB λk (H:S) M=>s.1.inner b9 x b2.1 (ch+(h:Int)) k H (bc H M);have f2:∀k,k<16->¬r=k:=λk bh=>z;have fv:∀k,¬r+k=0:=λk=>z;have f1:∀k,¬r+k=9:=λk=>z;have fz:∀k,¬r+k=11:=λk=>z;have f0:∀k,¬r+k=15:=λk=>z;have c0:U O=U d.ac:=by rw[q.args.len];simp[Gj];omega
  have dq:h<U O:=z;obtain⟨v0,fc⟩:=g_ dq;have fl:=cv;replace bc:=AB bc;replace q:=AB q;replace ac:=AB ac;replace c0:=AB c0;clear aa
  (repeat' (first|simp only[*,go_sem,AM,D2,DO,BA]|(refine sx ?_ ?_<;>intro L)|refine sy z λF x C=>?_|simp(disch:=first|assumption|omega) only[Ae]))
  refine DB (dj.1 _ _ λo v t=>?_) (λdr c6 b'=>?_)
  .have N:=AN v;exact BZ
  subst b'
  (repeat' (first|simp only[*,go_sem,AM,D2,DO,BA]|(refine sx ?_ ?_<;>intro L)|refine sy z λF x C=>?_|simp(disch:=first|assumption|omega) only[Ae]))
  refine DB (dc.1 _ _ λo v t=>?_) (λdr c6 b'=>?_)
  .have N:=AN v;rw[dl.1 o _ t];exact BZ
  subst b';have cx:=bs.1 h m;generalize sS p T D bk (ch+(h:Int))=kc at*;have ag:(K.take (h+1))=K.take h++[Fh kc]:=by rw[FD,cx];rfl
  have ad:(K.take h).length=h:=by rw[F5];have:=l_ cx;omega
  replace ag:=AB ag;rcases q.1.cvm with⟨rfl,a5⟩|⟨b8,rfl,fr,fs,e7⟩
  .have a5:=AB a5;replace ad:=AB ad;by_cases b1:w=0
   .subst b1
    (repeat' (first|simp only[*,go_sem,AM,D2,DO,BA]|(refine sx ?_ ?_<;>intro L)|refine sy z λF x C=>?_|simp(disch:=first|assumption|omega) only[Ae,Dd]))
    refine a4.1 (_,_) ?_;refine⟨.ii (1::(r+25)::b) 0 1,O.set h (.emp),?_⟩;rw[ag.1,a5.1,<-Tv zDO m (l:=[]) (by rw[Gj,BY,ai];simp[C])];have b0:=ac.1;refine q.1.chan (cv':=.ii (1::(r+25)::b) 0 1) (v':=.emp) AZ (λo v t Q ar=>?_) ?_ ?_ (.inr ⟨r+25,rfl,z,AZ,?_⟩) (λo A=>?_) (.inl ⟨.inr rfl,rfl⟩) (λo A=>by cases A) Ay
    .exact zB3
    .exact BZ
    .exact BZ
    .exact BZ
    grind [AE]
   .have de:0<w:=z;have df:(0:Int)<w:=z
    (repeat' (first|simp only[*,go_sem,AM,D2,DO,BA]|(refine sx ?_ ?_<;>intro L)|refine sy z λF x C=>?_|simp(disch:=first|assumption|omega) only[Ae,Dd]))
    refine a4.1 (_,_) ?_;refine⟨.ii (1::(r+25)::b) 0 1,O.set h (.ii (1::(r+32)::b) 0 w),?_⟩;rw[ag.1,a5.1,<-Tv zDO m (l:=TL w (0:Int)) (by grind [Gj])];have b0:=ac.1;refine q.1.chan (cv':=.ii (1::(r+25)::b) 0 1) (v':=.ii (1::(r+32)::b) 0 w) AZ (λo v t Q ar=>?_) ?_ ?_ (.inr ⟨r+25,rfl,z,AZ,?_⟩) (λo A=>?_) (.inr ⟨_,by rw[HU],?_⟩) (λo A=>?_) Ay
    .exact zB3
    .exact BZ
    .exact BZ
    .simp only[*,go_sem,DO,AM]
    .grind [AE]
    .exact BZ
    grind [AE]
  .have f3:∀k,¬r+k=b8:=λk=>z;have f5:¬b8=15:=z;have f4:¬(15:Nat)=b8:=z;rw[ad]at q⊢;have e6:((K.take h).map AX).length=h:=by rw[BV,ad]
   replace ad:=AB ad;generalize e5:(K.take h).map AX=es at*;have e':es.take h=es:=Bi z;by_cases b1:w=0
   .subst b1
    (repeat' (first|simp only[*,go_sem,AM,D2,DO,BA]|(refine sx ?_ ?_<;>intro L)|refine sy z λF x C=>?_|simp(disch:=first|assumption|omega) only[Ae,Dd]))
    refine a4.1 (_,_) ?_;refine⟨.ii (1::(r+25)::b) 0 (h+1),O.set h (.emp),?_⟩;rw[ag.1,<-Tv zDO m (l:=[]) (by rw[Gj,BY,ai];simp[C])];have b0:=ac.1;refine q.1.chan (cv':=.ii (1::(r+25)::b) 0 (h+1)) (v':=.emp) AZ (λo v t Q ar=>?_) ?_ ?_ (.inr ⟨r+25,?_,z,AZ,?_⟩) (λo A=>?_) (.inl ⟨.inr rfl,rfl⟩) (λo A=>by cases A) Ay
    .exact zBK
    .exact BZ
    .exact BZ
    .grind
    .rw[Ap];exact BZ
    grind [AE]
   .have de:0<w:=z;have df:(0:Int)<w:=z
    (repeat' (first|simp only[*,go_sem,AM,D2,DO,BA]|(refine sx ?_ ?_<;>intro L)|refine sy z λF x C=>?_|simp(disch:=first|assumption|omega) only[Ae,Dd]))
    refine a4.1 (_,_) ?_;refine⟨.ii (1::(r+25)::b) 0 (h+1),O.set h (.ii (1::(r+32)::b) 0 w),?_⟩;rw[ag.1,<-Tv zDO m (l:=TL w (0:Int)) (by grind [Gj])];have b0:=ac.1;refine q.1.chan (cv':=.ii (1::(r+25)::b) 0 (h+1)) (v':=.ii (1::(r+32)::b) 0 w) AZ (λo v t Q ar=>?_) ?_ ?_ (.inr ⟨r+25,?_,z,AZ,?_⟩) (λo A=>?_) (.inr ⟨_,by rw[HU],?_⟩) (λo A=>?_) Ay
    .exact zBK
    .exact BZ
    .exact BZ
    .grind
    .rw[Ap];simp only[*,go_sem,DO,AM]
    .grind [AE]
    .exact BZ
    grind [AE]
 .clear a6;rintro h ⟨G,r⟩ m cv a';obtain⟨bo,O,q⟩:=a'.1;dsimp only at q;rw[m.1,<-aa.1,F3,aa.1,IT,List.replicate_zero,CS,Bi zDO]at q;have c2:=q.b9;have c7:=AB q;clear q a' aa;refine ax ?_;rw[bx.1,az.1,av.1];refine ANw s.1 a0 b9 b7 dx d0 ?_ ?_ ?_ ?_ ?_ ?_ ?_ (c7.1.up z λ_ _=>rfl)
  iterate 7
   .exact zAq
end
def XH(a:Aa)(e:Al)(D:List BG)(c:Al)(b:List Av):(Gb a e D c b).length=U a.defs:=aE ..
section
variable{p:Aa}{sz:Al}{D:List BG}{hs:Al}{g:S}{B:u}{V:TV}{ρ:u}{tv:y}{T:List Av}{W:List u}
structure ob(p:Aa)(sz:Al)(D:List BG)(hs:Al)(g:S)(B:u)(V:TV)(ρ:u)(tv:y)(T:List Av)(W:List u):Prop:=
 fo:Ar p sz
 tree:FY p
 den:Gd p sz D
 rep:DY p sz D hs g B V
 ap:Sa ρ B V
 shp:WU p T
 tab:XD g tv T W
 wu:∀i∈W,AD ρ i=Z
 dis:∀i∈V.ids B,i∉W
 hds:Ml p hs
theorem Mv{ρ:u}{i:u}(k:Nat)(h:AD ρ i=Z):AD (k::ρ) i=false:=by grind [Bq]
theorem ob.ask(a:ob p sz D hs g B V ρ tv T W){e:Nat}{d:Bc}(h:p.defs[e]?=J d)(k:Nat){H:S}(f:∀b,AD ρ b=Z->H.get b=g.get b):Ra p sz D hs H B V (k::ρ) tv T W e d:=⟨a.fo,a.tree,a.den,a.rep.mono λb c=>f b (a.ap b c),a.ap.ext k,a.shp,a.tab.mono λb c=>f b (a.wu b c),λb c=>Mv k (a.wu b c),a.dis,h,a.hds⟩
theorem vh(j:ob p sz D hs g B V ρ tv T W):
 ∃b7 a6,kT (.fn 133) [.ptr B 0,tv] g ρ X I=.ok (b7,a6)/\∃bn l,b7=.ret bn/\La a6 bn l (Gb p sz D hs T)/\(∀e∈AE bn++l.flatMap Ab,∃f,Kn ρ f e)/\(∀A∈l,∀m,A[0]? ≠J (y.d m))/\∀e,AD ρ e=Z->a6.get e=g.get e:=by
 have cc:=j.ap B zCR;have cs:=AN cc;have cu:=Aw cc;have cx:=j.rep.box;have b4:=j.fo.small;simp[Aa.small]at b4;obtain⟨_,c2,c0⟩:=b4;replace j:=AB j;refine Ba func133 ?_;refine ax ?_;refine Ah p.defs (B2:=λe (a:(y×S)×Nat)=>⟨[(0,.ptr B 0),(1,tv),(5,a.1.1),(12,nI (U p.defs)),(13,nI e)],a.1.2,a.2,[]⟩)
  (Inv:=λe c8 a=>AR ((∃l,La a.1.2 a.1.1 l ((Gb p sz D hs T).take e)/\(∀b∈AE a.1.1++l.flatMap Ab,Kn ρ a.2 b)/\∀A∈l,∀m,A[0]? ≠J (y.d m))/\∀b,AD ρ b=Z->a.1.2.get b=g.get b)) (b0:=((.d8,g),9)) ⟨⟨[],⟨.inl ⟨rfl,rfl⟩,rfl,λe A C j=>by simp at j,Ay⟩,Ay,AG⟩,λ_ _=>rfl⟩ ?_ ?_
 .rintro e d ⟨⟨bl,H⟩,f⟩ b1 ai ch a' bo;obtain⟨⟨l,o,i,r⟩,q⟩:=a'.1;dsimp only at o i q;replace r:=AB r;have c9:TC.wrap ((e:Int)+1)=(e:Int)+1:=w_ z z;have cd:=AB λk=>j.1.ask b1 k q;replace o:=AB o;replace i:=AB i;replace q:=AB q
  (repeat' (first|simp only[*,go_sem,AM,D2,DO,BA]|(refine sx ?_ ?_<;>intro b0)|refine sy z λm b6 b3=>?_|simp(disch:=first|assumption|omega) only[Ae]))
  refine Ak (AIL (cd.1 (f+7))) (λc7 n cm=>?_);obtain⟨t,x,rfl,aa,av,Y,bc,ad⟩:=cm;obtain⟨C,N⟩:∃C,C=M8 p sz D T ((hs[e]?).getD 0) (e:Int) d:=⟨_,rfl⟩;have b5:(Gb p sz D hs T).take (e+1)=(Gb p sz D hs T).take e++[C]:=by rw[FD,Ib,b1,N];rfl
  have az:((Gb p sz D hs T).take e).length=e:=by rw[F5,XH];omega
  have v:=o.1.mono λb c=>ad b ((i.1 b c).sib z);have bi:=v.len;rw[az]at bi;have c3:l.take e=l:=Bi z;obtain⟨F,L⟩:∃F,F=y.d (.co (C.args.map Eu)):=⟨_,rfl⟩;have a1:∀h,(∀b∈AE t++AE x,h.get b=n.get b)->Zc h [t,x,F] C:=λh bx=>⟨_,_,_,rfl,(show gU n t (C.ac.map AX)from N▸ .inr aa).mono λb c=>bx b (Ac.2 (.inl c)),(show gU n x (C.rules.map AX)from N▸ .inr av).mono λb c=>bx b (Ac.2 (.inr c)),.inl L⟩;have a4:y.d (.co (((M7 p sz D T ((hs[e]?).getD 0) (e:Int) d).map (·.map Fh)).map Eu))=F:=by rw[L,N];rfl
  rw[a4];have a5:AE F=[]:=by rw[L];rfl
  have cp:y.isCell F=true:=by rw[L];rfl
  have cq:y.isCell t=true:=by rcases aa with(⟨rfl,_⟩|⟨O,m,rfl,_⟩)|⟨rfl,_⟩<;>rfl
  have c4:y.isCell x=true:=by rcases av with(⟨rfl,_⟩|⟨O,m,rfl,_⟩)|⟨rfl,_⟩<;>rfl
  have w:∀b,(AD ((f+7)::ρ) b=Z\/∃cn,b=1::cn)->S.get (gc ((f+7)::ρ) n) b=n.get b:=λb c=>by grind [An,E1]
  have Q:∀b∈AE t++AE x,Kn ρ (f+8) b:=λb c=>⟨⟨f+7,z,(Y b c).1⟩,(Y b c).2⟩;obtain⟨row,K⟩:∃row,row=[t,x,F]:=⟨_,rfl⟩;have P:Ab row=AE t++AE x:=by rw[K];simp[Ab,a5]
  rw[<-K]at a1;have a0:∀A∈l++[row],∀m,A[0]? ≠J (y.d m):=λA M m=>by
   rcases Ac.1 M with M|M
   .exact r.1 A M m
   .rw[AS]at M;rw[M,K];rcases aa with(⟨rfl,_⟩|⟨O,c',rfl,_⟩)|⟨rfl,_⟩<;>simp
  replace a0:=AB a0;have i:=i.1;have ac:∀b,Kn ρ f b->b∉AE t++AE x:=λb c j=>by have cv:=c.sib (m:=f+7) z;grind
  have a2:∀(h:S),h.get (1::(f+9)::ρ)=J (.arr 3 (l++[row]))->(∀b,KS ρ (f+8) b->b∉AE bl->h.get b=S.get (gc ((f+7)::ρ) n) b)->La h (.ii (1::(f+9)::ρ) 0 (e+1)) (l++[row]) ((Gb p sz D hs T).take (e+1)):=λh n bs=>by have r:=v.nd;rw[D0]at r;have:=v.snoc (id:=1::(f+9)::ρ) (a1 h λb c=>(bs b (Q b c).old λj=>ac b (i b (Ac.2 (.inl j))) c).trans (w b (.inr (Y b c).2))) (by rw[P];exact bc) n (λb c=>(bs b ((i b (Ac.2 (.inr c))).mono z).old λj=>r.2.2 b j b c rfl).trans (w b (.inr (i b (Ac.2 (.inr c))).2))) (λb c j=>ac b (i b (Ac.2 (.inr c))) (P▸j)) (λj=>(Q _ (P▸j)).ne (a:=1) (m:=f+9) z rfl) (λj=>(i _ (Ac.2 (.inr j))).ne (a:=1) (m:=f+9) z rfl);grind
  have ar:∀b∈AE (.ii (1::(f+9)::ρ) 0 (e+1))++(l++[row]).flatMap Ab,Kn ρ (f+13) b:=λb c=>by
   simp only[AE,Ac,AS,KW,F0,NL,CS,P]at c;rcases c with rfl|c|c
   .exact⟨⟨f+9,z,under_iff.2 (FN 1 _)⟩,_,rfl⟩
   .exact(i b (Ac.2 (.inr c))).mono z
   .exact(Q b (Ac.2 c)).mono z
  have ag:=λb c=>(w b (.inl (Mv _ c))).trans ((ad b (Mv _ c)).trans (q.1 b c));have bk:=λb c=>i b (Ac.2 (.inl c));replace aa:=AB aa;replace av:=AB av;replace a1:=AB a1;replace L:=AB L;replace a4:=AB a4;replace a5:=AB a5;replace N:=AB N;replace b5:=AB b5;replace az:=AB az;replace Y:=AB Y;replace bc:=AB bc;replace ad:=AB ad;replace K:=AB K;replace P:=AB P;replace ac:=AB ac;replace a2:=AB a2;replace ar:=AB ar;replace ag:=AB ag;replace bk:=AB bk;replace i:=AB i;replace Q:=AB Q;rcases v.arr with⟨rfl,bv⟩|⟨O,rfl,be⟩
  .replace v:=AB v;replace w:=AB w
   (repeat' (first|simp only[*,go_sem,AM,D2,DO,BA]|(refine sx ?_ ?_<;>intro b0)|refine sy z λm b6 b3=>?_|simp(disch:=first|assumption|omega) only[Ae]))
   have cl:e=0:=by rw[bv]at bi;exact bi.symm
   generalize gc ((f+7)::ρ) n=G1 at*;refine bo.1 ((_,_),_) ?_;refine⟨⟨l++[row],?_,?_,a0.1⟩,λb c=>?_⟩
   .have key:=a2.1;rw[cl]at key⊢;refine key _ ?_ ?_
    .rw[K.1,bv];simp only[go_sem]
    .intro b c b2;have s:=c.is;have b8:=s 1 0;have b9:=s 1 1;exact BZ
   .have:=ar.1;grind
   .have s:=AN c;simp only[go_sem,s,AM];exact ag.1 b c
  .rw[az.1];have a3:=bk.1 O Ay;have c5:=a3.old.is;have c6:=λa k=>AI λR=>a3.ne (a:=a) (m:=f+k) z R;have c1:=(w O (.inr a3.2)).trans be;replace be:=AB be;replace v:=AB v;replace w:=AB w
   (repeat' (first|simp only[*,go_sem,AM,D2,DO,BA]|(refine sx ?_ ?_<;>intro b0)|refine sy z λm b6 b3=>?_|simp(disch:=first|assumption|omega) only[Ae]))
   generalize gc ((f+7)::ρ) n=G1 at*;refine bo.1 ((_,_),_) ?_;refine⟨⟨l++[row],a2.1 _ ?_ ?_,ar.1,a0.1⟩,λb c=>?_⟩
   .rw[K.1];exact zAq
   .intro b c b2;have s:=c.is;have b8:=s 1 0;have b9:=s 1 1;simp[Rt]at b8 b9;have b':=AI λR=>b2 (by rw[AE,AS];exact Eq.symm R);exact BZ
   .have s:=AN c;have b':AJ O b=false:=AI λR=>by rw[<-R,a3.up]at c;cases c
    simp only[go_sem,s,b',AM];exact ag.1 b c
 .rintro e ⟨⟨bl,H⟩,f⟩ ai ch a';obtain⟨⟨l,o,i,r⟩,q⟩:=a'.1;have bh:=ai.1;rw[bh,<-XH p sz D hs T,F3]at o;dsimp only at o i q;replace r:=AB r;replace bh:=AB bh;replace o:=AB o;replace i:=AB i;replace q:=AB q;refine ax ?_;exact⟨bl,l,rfl,o.1,λe ai=>⟨f,i.1 e ai⟩,r.1,q.1⟩
end
def MZ:Option Bo->y
 |none=>.kw [.d (.bool (Z)),nI 2]|some _=>.kw [.d (.bool (X)),nI 0]
def ACX(c:y)(H:S)(e:u):∃b a,kT (.fn 172) [c] H e X I=.ok (b,a)/\b=.ret (.d (.bool (X)))/\a=H:=by refine Ba func172 ?_;exact au
def tA(a:Aa)(c:∀m∈a.free,m.size<=maxLen):Bk kT 171 [pA a,.fn 172 [] []] []=.ok (.ret (MZ (looks a)),[]):=by
 refine BH func171 ?_;have c:=AB c;have⟨r,e,hpost⟩:=xA a c.1 6 [];rcases hlk:looks a with _|n
 .obtain rfl:=hpost.of hlk
  (repeat' (first|simp only[*,go_sem,MZ]|(refine sx ?_ ?_<;>intro g)|refine sy z λj i h=>?_|simp(disch:=first|assumption|omega) only[Ae]))
 .obtain⟨k,rfl,f,b⟩:=hpost.ret n hlk;replace b:=AB b;replace f:=AB f
  (repeat' (first|simp only[*,go_sem,MZ]|(refine sx ?_ ?_<;>intro g)|refine sy z λj i h=>?_|simp(disch:=first|assumption|omega) only[Ae]))
  refine Ak (ACX _ _ _) (λp o l=>?_);obtain⟨rfl,rfl⟩:=l;have q:S.get (k++[([0,0],Obj.box (pC a)),([0,2],Obj.box [nI 0])]) [0,2]=J (.box [nI 0]):=by rw[JB (b.1 [0,2] AQW)];rfl
  clear hpost
  (repeat' (first|simp only[*,go_sem,MZ]|(refine sx ?_ ?_<;>intro g)|refine sy z λj i h=>?_|simp(disch:=first|assumption|omega) only[Ae]))
def cg(a:Aa)(f:∀j∈a.free,j.size<=maxLen):Bk kT 130 [pA a] []=.ok (.ret (nI (O7 a)),[]):=by
 have e:=tA a f;clear f;refine BH func130 ?_;rcases b:looks a with _|l
 .have c:O7 a=2:=by rw[O7,b]
  exact zAz
 .have c:O7 a=0:=by rw[O7,b]
  exact zAz
